/- What functions do. Conditions are in the theorems. -/
import Derived.Test.YtipllfcmdnellaaDoorE7
import Derived.Test.YtipllfcmdnellaaDoorProg
import Derived.KernelRfl
import Derived.Test.YtipllfcmdnellaaDoorF0
/- What functions do. -/
namespace Go.Proofs
noncomputable section
open Go.Ax Go.Ax.Alg Go.RowKit Go.Ab
open Go
abbrev lF1x0 : List UInt8 := [(114 : UInt8), (101 : UInt8), (115 : UInt8), (116 : UInt8), (111 : UInt8), (114 : UInt8), (101 : UInt8)]
abbrev lF1x1 : List UInt8 := [(115 : UInt8), (116 : UInt8), (114 : UInt8), (105 : UInt8), (107 : UInt8), (101 : UInt8)]
abbrev lF1x2 : List UInt8 := [(114 : UInt8), (101 : UInt8), (116 : UInt8), (97 : UInt8), (107 : UInt8), (101 : UInt8)]
abbrev lF1x3 : List UInt8 := [(97 : UInt8), (108 : UInt8), (119 : UInt8), (97 : UInt8), (121 : UInt8), (115 : UInt8)]
abbrev lF1x4 : List UInt8 := [(108 : UInt8), (101 : UInt8), (97 : UInt8), (115 : UInt8), (116 : UInt8)]
abbrev lF1x5 : List UInt8 := [(109 : UInt8), (111 : UInt8), (115 : UInt8), (116 : UInt8)]
abbrev lF1x6 : List UInt8 := [(110 : UInt8), (111 : UInt8), (116 : UInt8)]
abbrev lF1x7 : List UInt8 := [(97 : UInt8), (110 : UInt8), (100 : UInt8)]
abbrev lF1x8 : List UInt8 := [(105 : UInt8), (102 : UInt8)]
abbrev lF1x9 : List UInt8 := [(102 : UInt8)]
def w36r0 (a0 : Int) : Res := (.e (.i .i64) a0, [])
noncomputable def w36L (_ : Nat) : List (Nat × Ent') := []
noncomputable def w36c (N : Nat) : Cx := ⟨Tryd.prog, 99999, w36L N⟩
noncomputable def w36b : Code := Tryd.f36.body.getD .skip
theorem w36cx (N : Nat) : CxOk (w36c N) := ctx_ok (by kernel_rfl) .nil
def w36G [Alg] (_ : Nat)  (t0 : Int) : O :=
 some (w36r0 (max t0 (IntKind.i64.wrap (-t0))))
def w36 [Alg] (N : Nat) (t0 : Int) : O := w36G N  t0
noncomputable def w36h [Alg] (_ : Nat) : Hint := .d
theorem w36hk (N : Nat) : HintOk (w36c N) Tryd.f36.ntmps (w36h N) w36b := hk_of _ _ trivial
theorem w36q [Alg] (N : Nat) (t0 : Int) : w36G N  t0 = exec (w36c N) Tryd.f36.ntmps (w36h N) w36b ⟨argT 0 [.e (.i .i64) t0], [], 100⟩ (finX (w36c N) Tryd.f36 false) := by kernel_rfl
theorem w36does {N : Nat} (hc : CxOk (w36c N)) {t0 : Int} {r : Res} (h : w36 N t0 = some r) : Does Tryd.prog 36 (([.e (.i .i64) t0] : List X).map X.D) (HA []) r.1.D (HA r.2) :=
 fun_ok hc (f := 36) (fn := Tryd.f36) (code := w36b) (by kernel_rfl) (by kernel_rfl) (w36hk N) (Nat.le_of_ble_eq_true (by kernel_rfl)) (ow := false) ((w36q N t0).symm.trans (by exact h))
def w36un (r : Res) : Option (Int) := match r with
 | (x0, []) => (match ue (.i .i64) x0 with | some a0 => some a0 | _ => none)
 | _ => none
theorem w36uo {r : Res} {d : Int} (h : w36un r = some d) : r = w36r0 (d) := by
 unfold w36un at h
 split at h
 ·split at h
  ·rename_i h0; cases h; rw [ue_some h0]; rfl
  ·cases h
 ·cases h
def w36z (N : Nat) (t0 : Int) : Option (Int) := (w36 N t0).bind w36un
theorem w36fin {N : Nat} (hc : CxOk (w36c N)) {t0 : Int} {d : Int} (hd : w36z N t0 = some d) : Does Tryd.prog 36 (([.e (.i .i64) t0] : List X).map X.D) (HA []) (w36r0 (d)).1.D (HA (w36r0 (d)).2) := by
 obtain ⟨r, hr, hu⟩ := Option.bind_eq_some_iff.1 hd
 have := w36does hc hr
 rw [w36uo hu] at this
 exact this
def w36p (N : Nat) (t0 : Int) : Bool := (w36z N t0).isSome
def w36y0 (N : Nat) (t0 : Int) : Int := ((w36z N t0).getD 0)
def w36e (N : Nat) : Ent' := E1 (.i .i64)  (fun x0 => (w36p N x0, w36r0 (w36y0 N x0)))
theorem w36re {N : Nat} {t0 : Int} {d : Int} (hd : w36z N t0 = some d) : w36r0 (w36y0 N t0) = w36r0 (d) := by unfold w36y0; rw [hd]; rfl
theorem w36ok (N : Nat) : EOk Tryd.prog 36 (w36e N) := EOk.e1 (fun x0 h => by
 have h : (w36z N x0).isSome = true := h
 obtain ⟨d, hd⟩ := Option.isSome_iff_exists.1 h
 have f := w36fin (w36cx N) hd
 rw [← w36re hd] at f
 exact f)
def w47r0 (a0 : Bool) : Res := (.e .bo a0, [])
noncomputable def w47L (N : Nat) : List (Nat × Ent') := [(36, w36e N)]
noncomputable def w47c (N : Nat) : Cx := ⟨Tryd.prog, 99999, w47L N⟩
noncomputable def w47b : Code := Tryd.f47.body.getD .skip
theorem w47cx (N : Nat) : CxOk (w47c N) := ctx_ok (by kernel_rfl) (.cons (by kernel_rfl) (w36ok N) .nil)
def w47F0 [Alg] (N : Nat)  (self : Int → Int → O) (k0 : Bool → O) (k1 : Bool → (List Int) → Int → Int → O) (x0_0 : Bool) (x0_2 : (List Int)) (x0_3 : Int) (x0_5 : (List Int)) (x0_6 : Int) (x0_7 : Int) (x0_1 : Int) (x0_4 : Int) : O :=
 br (decide (x0_4 < x0_3))
  (gx x0_2 x0_4 fun y3 =>
  ck (!!(decide (y3 < (-16 : Int)) || decide ((16 : Int) < y3)) || w36p N y3) <|
  br (decide (y3 < (-16 : Int)) || decide ((16 : Int) < y3) || decide (w36y0 N y3 ≤ x0_1))
   (k0 false)
   (ck (w36p N y3) <|
   self (w36y0 N y3) (IntKind.i64.wrap (x0_4 + (1 : Int)))))
  (k1 x0_0 x0_5 x0_6 x0_7)
noncomputable def w47b0 : Code := atC [1, 1, 0, 1, 0, 0] w47b
def w47m0 : Nm := ⟨[1, 2, 3, 7, 8, 9], [], []⟩
def w47I0 (x : Bool × Int × (List Int) × Int × Int × (List Int) × Int × Int) : Sg := ⟨[(1, .ref 0 0), (2, .e .bo x.1), (3, .e (.i .i64) x.2.1), (7, .e (.sl (.i .i64)) x.2.2.1), (8, .e (.i .i64) x.2.2.2.1), (9, .e (.i .i64) x.2.2.2.2.1)], [(0, .box 51 [.e (.sl (.i .i64)) x.2.2.2.2.2.1, .e (.i .i64) x.2.2.2.2.2.2.1, .e (.i .i64) x.2.2.2.2.2.2.2])], 100⟩
def w47u0 (σ : Sg) : Bool × Int × (List Int) × Int × Int × (List Int) × Int × Int := (lvT .bo 2 0 σ, lvT (.i .i64) 3 0 σ, lvT (.sl (.i .i64)) 7 0 σ, lvT (.i .i64) 8 0 σ, lvT (.i .i64) 9 0 σ, lvH (.sl (.i .i64)) 0 0 σ, lvH (.i .i64) 0 1 σ, lvH (.i .i64) 0 2 σ)
theorem w47ui0 : ∀ x, w47u0 (w47I0 x) = x := fun _ => by kernel_rfl
def w47X0_0 (y : Bool) : Exit × Sg := (.ret, ⟨[(2, .e .bo y)], [], 100⟩)
def w47v0_0 (σ : Sg) : Bool := lvT .bo 2 0 σ
def w47X0_1 (y : Bool × (List Int) × Int × Int) : Exit × Sg := ((.exit 0), ⟨[(1, .ref 0 0), (2, .e .bo y.1)], [(0, .box 51 [.e (.sl (.i .i64)) y.2.1, .e (.i .i64) y.2.2.1, .e (.i .i64) y.2.2.2])], 100⟩)
def w47v0_1 (σ : Sg) : Bool × (List Int) × Int × Int := (lvT .bo 2 0 σ, lvH (.sl (.i .i64)) 0 0 σ, lvH (.i .i64) 0 1 σ, lvH (.i .i64) 0 2 σ)
def w47w0 : List (Exit × Nm) := [(.ret, ⟨[2], [], []⟩), ((.exit 0), ⟨[1, 2], [], []⟩)]
theorem w47o0 : Outs w47v0_0 w47v0_1 (fun _ => ()) w47X0_0 w47X0_1 (noX 2) .ret (.exit 0) (.goto 2) := ⟨fun _ => by kernel_rfl, fun _ => by kernel_rfl, fun _ => by kernel_rfl, fun _ => by kernel_rfl, fun _ => by kernel_rfl, fun _ => by kernel_rfl, exNe_ok (by kernel_rfl), exNe_ok (by kernel_rfl), exNe_ok (by kernel_rfl)⟩
def w47l0 [Alg] (N : Nat) : Nat → (Bool × Int × (List Int) × Int × Int × (List Int) × Int × Int) → ((Bool) → O) → ((Bool × (List Int) × Int × Int) → O) → ((Unit) → O) → O
 | 0, _, _, _, _ => none
 | n + 1, x, k0, k1, k2 => w47F0 N  (fun v0 v1 => w47l0 N n (x.1, v0, x.2.2.1, x.2.2.2.1, v1, x.2.2.2.2.2.1, x.2.2.2.2.2.2.1, x.2.2.2.2.2.2.2) k0 k1 k2) (fun y0 => k0 y0) (fun y0 y1 y2 y3 => k1 (y0, y1, y2, y3)) x.1 x.2.2.1 x.2.2.2.1 x.2.2.2.2.2.1 x.2.2.2.2.2.2.1 x.2.2.2.2.2.2.2 x.2.1 x.2.2.2.2.1
def w47n0 [Alg] (N : Nat) (a0 : Bool) (a1 : Int) (a2 : (List Int)) (a3 : Int) (a4 : Int) (a5 : (List Int)) (a6 : Int) (a7 : Int) (k0 : Bool → O) (k1 : Bool → (List Int) → Int → Int → O) : O := w47l0 N N (a0, a1, a2, a3, a4, a5, a6, a7) (fun y => k0 y) (fun y => k1 y.1 y.2.1 y.2.2.1 y.2.2.2) (fun _ => none)
noncomputable def w47s0 [Alg] (N : Nat) (a0 : Bool) (a1 : Int) (a2 : (List Int)) (a3 : Int) (a4 : Int) (a5 : (List Int)) (a6 : Int) (a7 : Int) (k0 : Bool → O) (k1 : Bool → (List Int) → Int → Int → O) : O := subL w47I0 w47u0 (w47l0 N N) (w47I0 (a0, a1, a2, a3, a4, a5, a6, a7)) (fun y => k0 y) (fun y => k1 y.1 y.2.1 y.2.2.1 y.2.2.2) (fun _ => none)
theorem w47e0 [Alg] (N : Nat) : w47s0 N = w47n0 N := funext fun _ => funext fun _ => funext fun _ => funext fun _ => funext fun _ => funext fun _ => funext fun _ => funext fun _ => funext fun _ => funext fun _ => subL_I w47ui0 _ _ _ _
noncomputable def w47h0 [Alg] (_ : Nat) : Hint := .d
theorem w47hk0 (N : Nat) : HintOk (w47c N) Tryd.f47.ntmps (w47h0 N) w47b0 := hk_of _ _ trivial
theorem w47q0 [Alg] (N : Nat) (self : Sg → O) (K : Exit → Sg → O) (x : Bool × Int × (List Int) × Int × Int × (List Int) × Int × Int) : w47F0 N  (fun v0 v1 => self (w47I0 (x.1, v0, x.2.2.1, x.2.2.2.1, v1, x.2.2.2.2.2.1, x.2.2.2.2.2.2.1, x.2.2.2.2.2.2.2))) (fun y0 => K (w47X0_0 y0).1 (w47X0_0 y0).2) (fun y0 y1 y2 y3 => K (w47X0_1 (y0, y1, y2, y3)).1 (w47X0_1 (y0, y1, y2, y3)).2) x.1 x.2.2.1 x.2.2.2.1 x.2.2.2.2.2.1 x.2.2.2.2.2.2.1 x.2.2.2.2.2.2.2 x.2.1 x.2.2.2.2.1 = exec (w47c N) Tryd.f47.ntmps (w47h0 N) w47b0 (w47I0 x) (roundX w47m0 w47w0 self K) := by kernel_rfl
theorem w47S0 (N : Nat) (hc : CxOk (w47c N)) : SubOk (w47c N) Tryd.f47.ntmps (.loop w47b0) w47X0_0 w47X0_1 (noX 2) (subL w47I0 w47u0 (w47l0 N N)) :=
 sub_loop hc (w47hk0 N) w47o0 (n := N) (fun x K => loop_ind (w47l0 N) (fun _ _ _ _ => rfl) (fun n K ih x => by
  have h : w47F0 N  (fun v0 v1 => w47l0 N n (x.1, v0, x.2.2.1, x.2.2.2.1, v1, x.2.2.2.2.2.1, x.2.2.2.2.2.2.1, x.2.2.2.2.2.2.2) (fun y => K (w47X0_0 y).1 (w47X0_0 y).2) (fun y => K (w47X0_1 y).1 (w47X0_1 y).2) (fun y => K ((noX 2) y).1 ((noX 2) y).2)) (fun y0 => K (w47X0_0 y0).1 (w47X0_0 y0).2) (fun y0 y1 y2 y3 => K (w47X0_1 (y0, y1, y2, y3)).1 (w47X0_1 (y0, y1, y2, y3)).2) x.1 x.2.2.1 x.2.2.2.1 x.2.2.2.2.2.1 x.2.2.2.2.2.2.1 x.2.2.2.2.2.2.2 x.2.1 x.2.2.2.2.1 = w47F0 N  (fun v0 v1 => loopX (w47c N) Tryd.f47.ntmps (w47h0 N) w47b0 w47m0 w47w0 n (w47I0 (x.1, v0, x.2.2.1, x.2.2.2.1, v1, x.2.2.2.2.2.1, x.2.2.2.2.2.2.1, x.2.2.2.2.2.2.2)) K) (fun y0 => K (w47X0_0 y0).1 (w47X0_0 y0).2) (fun y0 y1 y2 y3 => K (w47X0_1 (y0, y1, y2, y3)).1 (w47X0_1 (y0, y1, y2, y3)).2) x.1 x.2.2.1 x.2.2.2.1 x.2.2.2.2.2.1 x.2.2.2.2.2.2.1 x.2.2.2.2.2.2.2 x.2.1 x.2.2.2.2.1 := by rw [ show (fun v0 v1 => w47l0 N n (x.1, v0, x.2.2.1, x.2.2.2.1, v1, x.2.2.2.2.2.1, x.2.2.2.2.2.2.1, x.2.2.2.2.2.2.2) (fun y => K (w47X0_0 y).1 (w47X0_0 y).2) (fun y => K (w47X0_1 y).1 (w47X0_1 y).2) (fun y => K ((noX 2) y).1 ((noX 2) y).2)) = (fun v0 v1 => loopX (w47c N) Tryd.f47.ntmps (w47h0 N) w47b0 w47m0 w47w0 n (w47I0 (x.1, v0, x.2.2.1, x.2.2.2.1, v1, x.2.2.2.2.2.1, x.2.2.2.2.2.2.1, x.2.2.2.2.2.2.2)) K) from funext fun _ => funext fun _ => ih _]
  exact h.trans (w47q0 N (fun σ => loopX (w47c N) Tryd.f47.ntmps (w47h0 N) w47b0 w47m0 w47w0 n σ K) K x)) N x K)
def w47G [Alg] (_ : Nat) (in0 : Bool → Int → (List Int) → Int → Int → (List Int) → Int → Int → (Bool → O) → (Bool → (List Int) → Int → Int → O) → O) (r0_0 : (List Int)) (r0_1 : Int) (r0_2 : Int) : O :=
 in0 false ((0 : Int)) r0_0 ((↑r0_0.length : Int)) ((0 : Int)) r0_0 r0_1 r0_2
  (fun z4 =>
   some (w47r0 z4))
  (fun _ z6 z7 z8 =>
   some (w47r0 (decide ((↑z6.length : Int) ≤ (8 : Int)) && decide ((0 : Int) ≤ z7) && decide (z7 < (3 : Int)) && decide ((-10000 : Int) ≤ z8) && decide (z8 ≤ (9999 : Int)))))
def w47 [Alg] (N : Nat) (r0_0 : (List Int)) (r0_1 : Int) (r0_2 : Int) : O := w47G N (w47n0 N) r0_0 r0_1 r0_2
noncomputable def w47h [Alg] (N : Nat) : Hint := (.seq .d (.seq .d (.seq (.seq .d (.block (.sub w47m0 _ _ _ w47X0_0 w47X0_1 (noX 2) (subL w47I0 w47u0 (w47l0 N N))))) .d)))
theorem w47hk (N : Nat) (hc : CxOk (w47c N)) : HintOk (w47c N) Tryd.f47.ntmps (w47h N) w47b := hk_of _ _ (And.intro trivial (And.intro trivial (And.intro (And.intro trivial (w47S0 N hc)) trivial)))
theorem w47q [Alg] (N : Nat) (r0_0 : (List Int)) (r0_1 : Int) (r0_2 : Int) : w47G N (w47s0 N) r0_0 r0_1 r0_2 = exec (w47c N) Tryd.f47.ntmps (w47h N) w47b ⟨argT 0 [.agg [.e (.sl (.i .i64)) r0_0, .e (.i .i64) r0_1, .e (.i .i64) r0_2]], [], 100⟩ (finX (w47c N) Tryd.f47 false) := by kernel_rfl
theorem w47does {N : Nat} (hc : CxOk (w47c N)) {r0_0 : (List Int)} {r0_1 : Int} {r0_2 : Int} {r : Res} (h : w47 N r0_0 r0_1 r0_2 = some r) : Does Tryd.prog 47 (([.agg [.e (.sl (.i .i64)) r0_0, .e (.i .i64) r0_1, .e (.i .i64) r0_2]] : List X).map X.D) (HA []) r.1.D (HA r.2) :=
 fun_ok hc (f := 47) (fn := Tryd.f47) (code := w47b) (by kernel_rfl) (by kernel_rfl) (w47hk N hc) (Nat.le_of_ble_eq_true (by kernel_rfl)) (ow := false) ((w47q N r0_0 r0_1 r0_2).symm.trans (by rw [w47e0 N]; exact h))
def w47un (r : Res) : Option (Bool) := match r with
 | (x0, []) => (match ue .bo x0 with | some a0 => some a0 | _ => none)
 | _ => none
theorem w47uo {r : Res} {d : Bool} (h : w47un r = some d) : r = w47r0 (d) := by
 unfold w47un at h
 split at h
 ·split at h
  ·rename_i h0; cases h; rw [ue_some h0]; rfl
  ·cases h
 ·cases h
def w47z (N : Nat) (r0_0 : (List Int)) (r0_1 : Int) (r0_2 : Int) : Option (Bool) := (w47 N r0_0 r0_1 r0_2).bind w47un
theorem w47fin {N : Nat} (hc : CxOk (w47c N)) {r0_0 : (List Int)} {r0_1 : Int} {r0_2 : Int} {d : Bool} (hd : w47z N r0_0 r0_1 r0_2 = some d) : Does Tryd.prog 47 (([.agg [.e (.sl (.i .i64)) r0_0, .e (.i .i64) r0_1, .e (.i .i64) r0_2]] : List X).map X.D) (HA []) (w47r0 (d)).1.D (HA (w47r0 (d)).2) := by
 obtain ⟨r, hr, hu⟩ := Option.bind_eq_some_iff.1 hd
 have := w47does hc hr
 rw [w47uo hu] at this
 exact this
def w47p (N : Nat) (r0_0 : (List Int)) (r0_1 : Int) (r0_2 : Int) : Bool := (w47z N r0_0 r0_1 r0_2).isSome
def w47y0 (N : Nat) (r0_0 : (List Int)) (r0_1 : Int) (r0_2 : Int) : Bool := ((w47z N r0_0 r0_1 r0_2).getD false)
def w47e (N : Nat) : Ent' := E1 (.pr (.sl (.i .i64)) (.pr (.i .i64) (.i .i64)))  (fun x0 => (w47p N x0.1 x0.2.1 x0.2.2, w47r0 (w47y0 N x0.1 x0.2.1 x0.2.2)))
theorem w47re {N : Nat} {r0_0 : (List Int)} {r0_1 : Int} {r0_2 : Int} {d : Bool} (hd : w47z N r0_0 r0_1 r0_2 = some d) : w47r0 (w47y0 N r0_0 r0_1 r0_2) = w47r0 (d) := by unfold w47y0; rw [hd]; rfl
theorem w47ok (N : Nat) : EOk Tryd.prog 47 (w47e N) := EOk.e1 (fun x0 h => by
 have h : (w47z N x0.1 x0.2.1 x0.2.2).isSome = true := h
 obtain ⟨d, hd⟩ := Option.isSome_iff_exists.1 h
 have f := w47fin (w47cx N) hd
 rw [← w47re hd] at f
 exact f)
def w46r0 (a0 : Bool) : Res := (.e .bo a0, [])
noncomputable def w46L (N : Nat) : List (Nat × Ent') := [(47, w47e N)]
noncomputable def w46c (N : Nat) : Cx := ⟨Tryd.prog, 99999, w46L N⟩
noncomputable def w46b : Code := Tryd.f46.body.getD .skip
theorem w46cx (N : Nat) : CxOk (w46c N) := ctx_ok (by kernel_rfl) (.cons (by kernel_rfl) (w47ok N) .nil)
def w46G [Alg] (N : Nat)  (r0_0 : (List Int)) (r0_1 : Int) (r0_2 : Int) : O :=
 ck (w47p N r0_0 r0_1 r0_2) <|
 some (w46r0 (!w47y0 N r0_0 r0_1 r0_2))
def w46 [Alg] (N : Nat) (r0_0 : (List Int)) (r0_1 : Int) (r0_2 : Int) : O := w46G N  r0_0 r0_1 r0_2
noncomputable def w46h [Alg] (_ : Nat) : Hint := .d
theorem w46hk (N : Nat) : HintOk (w46c N) Tryd.f46.ntmps (w46h N) w46b := hk_of _ _ trivial
theorem w46q [Alg] (N : Nat) (r0_0 : (List Int)) (r0_1 : Int) (r0_2 : Int) : w46G N  r0_0 r0_1 r0_2 = exec (w46c N) Tryd.f46.ntmps (w46h N) w46b ⟨argT 0 [.agg [.e (.sl (.i .i64)) r0_0, .e (.i .i64) r0_1, .e (.i .i64) r0_2]], [], 100⟩ (finX (w46c N) Tryd.f46 false) := by kernel_rfl
theorem w46does {N : Nat} (hc : CxOk (w46c N)) {r0_0 : (List Int)} {r0_1 : Int} {r0_2 : Int} {r : Res} (h : w46 N r0_0 r0_1 r0_2 = some r) : Does Tryd.prog 46 (([.agg [.e (.sl (.i .i64)) r0_0, .e (.i .i64) r0_1, .e (.i .i64) r0_2]] : List X).map X.D) (HA []) r.1.D (HA r.2) :=
 fun_ok hc (f := 46) (fn := Tryd.f46) (code := w46b) (by kernel_rfl) (by kernel_rfl) (w46hk N) (Nat.le_of_ble_eq_true (by kernel_rfl)) (ow := false) ((w46q N r0_0 r0_1 r0_2).symm.trans (by exact h))
def w46un (r : Res) : Option (Bool) := match r with
 | (x0, []) => (match ue .bo x0 with | some a0 => some a0 | _ => none)
 | _ => none
theorem w46uo {r : Res} {d : Bool} (h : w46un r = some d) : r = w46r0 (d) := by
 unfold w46un at h
 split at h
 ·split at h
  ·rename_i h0; cases h; rw [ue_some h0]; rfl
  ·cases h
 ·cases h
def w46z (N : Nat) (r0_0 : (List Int)) (r0_1 : Int) (r0_2 : Int) : Option (Bool) := (w46 N r0_0 r0_1 r0_2).bind w46un
theorem w46fin {N : Nat} (hc : CxOk (w46c N)) {r0_0 : (List Int)} {r0_1 : Int} {r0_2 : Int} {d : Bool} (hd : w46z N r0_0 r0_1 r0_2 = some d) : Does Tryd.prog 46 (([.agg [.e (.sl (.i .i64)) r0_0, .e (.i .i64) r0_1, .e (.i .i64) r0_2]] : List X).map X.D) (HA []) (w46r0 (d)).1.D (HA (w46r0 (d)).2) := by
 obtain ⟨r, hr, hu⟩ := Option.bind_eq_some_iff.1 hd
 have := w46does hc hr
 rw [w46uo hu] at this
 exact this
def w46p (N : Nat) (r0_0 : (List Int)) (r0_1 : Int) (r0_2 : Int) : Bool := (w46z N r0_0 r0_1 r0_2).isSome
def w46y0 (N : Nat) (r0_0 : (List Int)) (r0_1 : Int) (r0_2 : Int) : Bool := ((w46z N r0_0 r0_1 r0_2).getD false)
def w46e (N : Nat) : Ent' := E1 (.pr (.sl (.i .i64)) (.pr (.i .i64) (.i .i64)))  (fun x0 => (w46p N x0.1 x0.2.1 x0.2.2, w46r0 (w46y0 N x0.1 x0.2.1 x0.2.2)))
theorem w46re {N : Nat} {r0_0 : (List Int)} {r0_1 : Int} {r0_2 : Int} {d : Bool} (hd : w46z N r0_0 r0_1 r0_2 = some d) : w46r0 (w46y0 N r0_0 r0_1 r0_2) = w46r0 (d) := by unfold w46y0; rw [hd]; rfl
theorem w46ok (N : Nat) : EOk Tryd.prog 46 (w46e N) := EOk.e1 (fun x0 h => by
 have h : (w46z N x0.1 x0.2.1 x0.2.2).isSome = true := h
 obtain ⟨d, hd⟩ := Option.isSome_iff_exists.1 h
 have f := w46fin (w46cx N) hd
 rw [← w46re hd] at f
 exact f)
def w50r0 (a0 : Bool) (a1 : (List Bool)) : Res := (.e .bo a0, [(50, .box 28 [.e (.sl .bo) a1])])
noncomputable def w50L (N : Nat) : List (Nat × Ent') := [(36, w36e N)]
noncomputable def w50c (N : Nat) : Cx := ⟨Tryd.prog, 99999, w50L N⟩
noncomputable def w50b : Code := Tryd.f50.body.getD .skip
theorem w50cx (N : Nat) : CxOk (w50c N) := ctx_ok (by kernel_rfl) (.cons (by kernel_rfl) (w36ok N) .nil)
def w50G [Alg] (N : Nat)  (t0 : Int) (h50_0 : (List Bool)) : O :=
 ck (w36p N t0) <|
 gx h50_0 (IntKind.i64.wrap (w36y0 N t0 - (1 : Int))) fun y0 =>
 some (w50r0 (!y0 == decide ((0 : Int) < t0)) h50_0)
def w50 [Alg] (N : Nat) (t0 : Int) (h50_0 : (List Bool)) : O := w50G N  t0 h50_0
noncomputable def w50h [Alg] (_ : Nat) : Hint := .d
theorem w50hk (N : Nat) : HintOk (w50c N) Tryd.f50.ntmps (w50h N) w50b := hk_of _ _ trivial
theorem w50q [Alg] (N : Nat) (t0 : Int) (h50_0 : (List Bool)) : w50G N  t0 h50_0 = exec (w50c N) Tryd.f50.ntmps (w50h N) w50b ⟨argT 0 [.e (.i .i64) t0, .ref 50 0], [(50, .box 28 [.e (.sl .bo) h50_0])], 100⟩ (finX (w50c N) Tryd.f50 true) := by kernel_rfl
theorem w50does {N : Nat} (hc : CxOk (w50c N)) {t0 : Int} {h50_0 : (List Bool)} {r : Res} (h : w50 N t0 h50_0 = some r) : Does Tryd.prog 50 (([.e (.i .i64) t0, .ref 50 0] : List X).map X.D) (HA [(50, .box 28 [.e (.sl .bo) h50_0])]) r.1.D (HA r.2) :=
 fun_ok hc (f := 50) (fn := Tryd.f50) (code := w50b) (by kernel_rfl) (by kernel_rfl) (w50hk N) (Nat.le_of_ble_eq_true (by kernel_rfl)) (ow := true) ((w50q N t0 h50_0).symm.trans (by exact h))
def w50un (r : Res) : Option (Bool × (List Bool)) := match r with
 | (x0, [(50, .box 28 [x1])]) => (match ue .bo x0, ue (.sl .bo) x1 with | some a0, some a1 => some (a0, a1) | _, _ => none)
 | _ => none
theorem w50uo {r : Res} {d : Bool × (List Bool)} (h : w50un r = some d) : r = w50r0 (d.1) (d.2) := by
 unfold w50un at h
 split at h
 ·split at h
  ·rename_i h0 h1; cases h; rw [ue_some h0, ue_some h1]; rfl
  ·cases h
 ·cases h
def w50z (N : Nat) (t0 : Int) (h50_0 : (List Bool)) : Option (Bool × (List Bool)) := (w50 N t0 h50_0).bind w50un
theorem w50fin {N : Nat} (hc : CxOk (w50c N)) {t0 : Int} {h50_0 : (List Bool)} {d : Bool × (List Bool)} (hd : w50z N t0 h50_0 = some d) : Does Tryd.prog 50 (([.e (.i .i64) t0, .ref 50 0] : List X).map X.D) (HA [(50, .box 28 [.e (.sl .bo) h50_0])]) (w50r0 (d.1) (d.2)).1.D (HA (w50r0 (d.1) (d.2)).2) := by
 obtain ⟨r, hr, hu⟩ := Option.bind_eq_some_iff.1 hd
 have := w50does hc hr
 rw [w50uo hu] at this
 exact this
def w50p (N : Nat) (t0 : Int) (h50_0 : (List Bool)) : Bool := (w50z N t0 h50_0).isSome
def w50y0 (N : Nat) (t0 : Int) (h50_0 : (List Bool)) : Bool := ((w50z N t0 h50_0).getD (false, [])).1
def w50y1 (N : Nat) (t0 : Int) (h50_0 : (List Bool)) : (List Bool) := ((w50z N t0 h50_0).getD (false, [])).2
def w50in (xs : List X) (H : XH) : Option (Int × (List Bool)) := match xs, H with
 | [x0, .ref 50 0], [(50, .box 28 [x1])] => (match ue (.i .i64) x0, ue (.sl .bo) x1 with | some a0, some a1 => some (a0, a1) | _, _ => none)
 | _, _ => none
theorem w50io {xs : List X} {H : XH} {d : Int × (List Bool)} (h : w50in xs H = some d) : xs = [.e (.i .i64) (d.1), .ref 50 0] ∧ H = [(50, .box 28 [.e (.sl .bo) (d.2)])] := by
 unfold w50in at h
 split at h
 ·split at h
  ·rename_i h0 h1; cases h; rw [ue_some h0, ue_some h1]; exact ⟨rfl, rfl⟩
  ·cases h
 ·cases h
def w50e (N : Nat) : Ent' := fun xs H => match w50in xs H with | some d => some (w50p N (d.1) (d.2), w50r0 (w50y0 N (d.1) (d.2)) (w50y1 N (d.1) (d.2))) | none => none
theorem w50re {N : Nat} {t0 : Int} {h50_0 : (List Bool)} {d : Bool × (List Bool)} (hd : w50z N t0 h50_0 = some d) : w50r0 (w50y0 N t0 h50_0) (w50y1 N t0 h50_0) = w50r0 (d.1) (d.2) := by unfold w50y0 w50y1; rw [hd]; rfl
theorem w50ok (N : Nat) : EOk Tryd.prog 50 (w50e N) := fun xs H pre r he hp => by
 unfold w50e at he
 split at he
 ·rename_i d hd
  have he := Option.some.inj he
  have h1 := congrArg Prod.fst he
  have h2 := congrArg Prod.snd he
  simp only at h1 h2
  obtain ⟨e1, e2⟩ := w50io hd
  rw [e1, e2, ← h2]
  have h : (w50z N (d.1) (d.2)).isSome = true := h1.trans hp
  obtain ⟨d', hd'⟩ := Option.isSome_iff_exists.1 h
  have f := w50fin (w50cx N) hd'
  rw [← w50re hd'] at f
  exact f
 ·cases he
def w60r0 (a0 : (List Int)) : Res := (.own 100, [(100, .row 3 (.i .i64) a0 false)])
noncomputable def w60L (_ : Nat) : List (Nat × Ent') := []
noncomputable def w60c (N : Nat) : Cx := ⟨Tryd.prog, 99999, w60L N⟩
noncomputable def w60b : Code := Tryd.f60.body.getD .skip
theorem w60cx (N : Nat) : CxOk (w60c N) := ctx_ok (by kernel_rfl) .nil
def w60F0 [Alg] (_ : Nat)   (k0 : Int → O) (x0_0 : Int) : O :=
 br (decide (x0_0 < (0 : Int)))
  (none)
  (k0 x0_0)
noncomputable def w60b0 : Code := atC [1, 0] w60b
def w60m0 : Nm := ⟨[0, 1, 4], [], []⟩
def w60I0 (x : Int) : Sg := ⟨[(0, .nilS), (1, .e (.i .i64) x), (4, .nilS)], [], 100⟩
def w60u0 (σ : Sg) : Int := lvT (.i .i64) 1 0 σ
theorem w60ui0 : ∀ x, w60u0 (w60I0 x) = x := fun _ => by kernel_rfl
def w60X0_0 (y : Int) : Exit × Sg := (.normal, ⟨[(0, .nilS), (1, .e (.i .i64) y), (4, .nilS)], [], 100⟩)
def w60v0_0 (σ : Sg) : Int := lvT (.i .i64) 1 0 σ
def w60w0 : List (Exit × Nm) := [(.normal, ⟨[0, 1, 4], [], []⟩)]
theorem w60o0 : Outs w60v0_0 (fun _ => ()) (fun _ => ()) w60X0_0 (noX 1) (noX 2) .normal (.goto 1) (.goto 2) := ⟨fun _ => by kernel_rfl, fun _ => by kernel_rfl, fun _ => by kernel_rfl, fun _ => by kernel_rfl, fun _ => by kernel_rfl, fun _ => by kernel_rfl, exNe_ok (by kernel_rfl), exNe_ok (by kernel_rfl), exNe_ok (by kernel_rfl)⟩
def w60l0 [Alg] (N : Nat) (_ : Nat) (x : Int) (k0 : (Int) → O) (_ : (Unit) → O) (_ : (Unit) → O) : O := w60F0 N   (fun y0 => k0 y0) x
def w60n0 [Alg] (N : Nat) (a0 : Int) (k0 : Int → O) : O := w60l0 N N a0 (fun y => k0 y) (fun _ => none) (fun _ => none)
noncomputable def w60s0 [Alg] (N : Nat) (a0 : Int) (k0 : Int → O) : O := subL w60I0 w60u0 (w60l0 N N) (w60I0 a0) (fun y => k0 y) (fun _ => none) (fun _ => none)
theorem w60e0 [Alg] (N : Nat) : w60s0 N = w60n0 N := funext fun _ => funext fun _ => subL_I w60ui0 _ _ _ _
noncomputable def w60h0 [Alg] (_ : Nat) : Hint := .d
theorem w60hk0 (N : Nat) : HintOk (w60c N) Tryd.f60.ntmps (w60h0 N) w60b0 := hk_of _ _ trivial
theorem w60q0 [Alg] (N : Nat) (K : Exit → Sg → O) (x : Int) : w60F0 N   (fun y0 => K (w60X0_0 y0).1 (w60X0_0 y0).2) x = exec (w60c N) Tryd.f60.ntmps (w60h0 N) w60b0 (w60I0 x) (partX w60w0 K) := by kernel_rfl
theorem w60S0 (N : Nat) (hc : CxOk (w60c N)) : SubOk (w60c N) Tryd.f60.ntmps w60b0 w60X0_0 (noX 1) (noX 2) (subL w60I0 w60u0 (w60l0 N N)) :=
 sub_part hc (w60hk0 N) w60o0 (fun x K => by
  have h : w60F0 N   (fun y0 => K (w60X0_0 y0).1 (w60X0_0 y0).2) x = w60F0 N   (fun y0 => K (w60X0_0 y0).1 (w60X0_0 y0).2) x := by rfl
  exact h.trans (w60q0 N K x))
def w60G [Alg] (_ : Nat) (in0 : Int → (Int → O) → O) (n1 : Int) : O :=
 in0 n1
  (fun z1 =>
   br (decide ((0 : Int) < IntKind.i64.wrap (z1 - (0 : Int))))
    (ck true <|
    ck (decide ((0 : Int) ≤ IntKind.i64.wrap (z1 - (0 : Int)))) <|
    ck (lim (IntKind.i64.wrap (z1 - (0 : Int))).toNat (8 : Nat)) <|
    ck (decide ((0 : Int) ≤ (0 : Int) ∧ (0 : Int) ≤ (↑(List.replicate (IntKind.i64.wrap (z1 - (0 : Int))).toNat (0 : Int)).length : Int))) <|
    some (w60r0 (List.take (0 : Nat) (List.replicate (IntKind.i64.wrap (z1 - (0 : Int))).toNat (0 : Int)))))
    (some (w60r0 [])))
def w60 [Alg] (N : Nat) (n1 : Int) : O := w60G N (w60n0 N) n1
noncomputable def w60h [Alg] (N : Nat) : Hint := (.seq .d (.seq (.sub w60m0 _ _ _ w60X0_0 (noX 1) (noX 2) (subL w60I0 w60u0 (w60l0 N N))) (.seq (.seq .d (.seq .d (.cond (.reg [5, 8] [] []) .d))) (.seq (.reg [] [.nilR 0 (.row 3 (.i .i64) [] false)] []) .d))))
theorem w60hk (N : Nat) (hc : CxOk (w60c N)) : HintOk (w60c N) Tryd.f60.ntmps (w60h N) w60b := hk_of _ _ (And.intro trivial (And.intro (w60S0 N hc) (And.intro (And.intro trivial (And.intro trivial (And.intro trivial trivial))) (And.intro trivial trivial))))
theorem w60q [Alg] (N : Nat) (n1 : Int) : w60G N (w60s0 N) n1 = exec (w60c N) Tryd.f60.ntmps (w60h N) w60b ⟨argT 0 [.nilS, .e (.i .i64) n1], [], 100⟩ (finX (w60c N) Tryd.f60 true) := by kernel_rfl
theorem w60does {N : Nat} (hc : CxOk (w60c N)) {n1 : Int} {r : Res} (h : w60 N n1 = some r) : Does Tryd.prog 60 (([.nilS, .e (.i .i64) n1] : List X).map X.D) (HA []) r.1.D (HA r.2) :=
 fun_ok hc (f := 60) (fn := Tryd.f60) (code := w60b) (by kernel_rfl) (by kernel_rfl) (w60hk N hc) (Nat.le_of_ble_eq_true (by kernel_rfl)) (ow := true) ((w60q N n1).symm.trans (by rw [w60e0 N]; exact h))
def w60un (r : Res) : Option ((List Int)) := match r with
 | (.own 100, [(100, x0)]) => (match ur 3 (.i .i64) false x0 with | some a0 => some a0 | _ => none)
 | _ => none
theorem w60uo {r : Res} {d : (List Int)} (h : w60un r = some d) : r = w60r0 (d) := by
 unfold w60un at h
 split at h
 ·split at h
  ·rename_i h0; cases h; rw [ur_some h0]; rfl
  ·cases h
 ·cases h
def w60z (N : Nat) (n1 : Int) : Option ((List Int)) := (w60 N n1).bind w60un
theorem w60fin {N : Nat} (hc : CxOk (w60c N)) {n1 : Int} {d : (List Int)} (hd : w60z N n1 = some d) : Does Tryd.prog 60 (([.nilS, .e (.i .i64) n1] : List X).map X.D) (HA []) (w60r0 (d)).1.D (HA (w60r0 (d)).2) := by
 obtain ⟨r, hr, hu⟩ := Option.bind_eq_some_iff.1 hd
 have := w60does hc hr
 rw [w60uo hu] at this
 exact this
def w60p (N : Nat) (n1 : Int) : Bool := (w60z N n1).isSome
def w60y0 (N : Nat) (n1 : Int) : (List Int) := ((w60z N n1).getD [])
def w60in (xs : List X) (H : XH) : Option (Int) := match xs, H with
 | [.nilS, x0], [] => (match ue (.i .i64) x0 with | some a0 => some a0 | _ => none)
 | _, _ => none
theorem w60io {xs : List X} {H : XH} {d : Int} (h : w60in xs H = some d) : xs = [.nilS, .e (.i .i64) (d)] ∧ H = [] := by
 unfold w60in at h
 split at h
 ·split at h
  ·rename_i h0; cases h; rw [ue_some h0]; exact ⟨rfl, rfl⟩
  ·cases h
 ·cases h
def w60e (N : Nat) : Ent' := fun xs H => match w60in xs H with | some d => some (w60p N (d), w60r0 (w60y0 N (d))) | none => none
theorem w60re {N : Nat} {n1 : Int} {d : (List Int)} (hd : w60z N n1 = some d) : w60r0 (w60y0 N n1) = w60r0 (d) := by unfold w60y0; rw [hd]; rfl
theorem w60ok (N : Nat) : EOk Tryd.prog 60 (w60e N) := fun xs H pre r he hp => by
 unfold w60e at he
 split at he
 ·rename_i d hd
  have he := Option.some.inj he
  have h1 := congrArg Prod.fst he
  have h2 := congrArg Prod.snd he
  simp only at h1 h2
  obtain ⟨e1, e2⟩ := w60io hd
  rw [e1, e2, ← h2]
  have h : (w60z N (d)).isSome = true := h1.trans hp
  obtain ⟨d', hd'⟩ := Option.isSome_iff_exists.1 h
  have f := w60fin (w60cx N) hd'
  rw [← w60re hd'] at f
  exact f
 ·cases he
def w48r0 (a0 : (List Int)) : Res := (.e (.sl (.i .i64)) a0, [])
noncomputable def w48L (N : Nat) : List (Nat × Ent') := [(60, w60e N)]
noncomputable def w48c (N : Nat) : Cx := ⟨Tryd.prog, 99999, w48L N⟩
noncomputable def w48b : Code := Tryd.f48.body.getD .skip
theorem w48cx (N : Nat) : CxOk (w48c N) := ctx_ok (by kernel_rfl) (.cons (by kernel_rfl) (w60ok N) .nil)
def w48F0 [Alg] (_ : Nat)  (self : Int → Int → O) (k0 : (List (List Int)) → Int → O) (x0_0 : (List (List Int))) (x0_2 : (List (List Int))) (x0_3 : Int) (x0_1 : Int) (x0_4 : Int) : O :=
 br (decide (x0_4 < x0_3))
  (gx x0_2 x0_4 fun y3 =>
  br (decide (IntKind.i64.wrap (x0_1 + (↑y3.length : Int)) < (0 : Int)))
   (none)
   (self (IntKind.i64.wrap (x0_1 + (↑y3.length : Int))) (IntKind.i64.wrap (x0_4 + (1 : Int)))))
  (k0 x0_0 x0_1)
noncomputable def w48b0 : Code := atC [1, 1, 0, 1, 0, 0] w48b
def w48m0 : Nm := ⟨[0, 2, 3, 9, 10, 11], [], []⟩
def w48I0 (x : (List (List Int)) × Int × (List (List Int)) × Int × Int) : Sg := ⟨[(0, .e (.sl (.sl (.i .i64))) x.1), (2, .nilS), (3, .e (.i .i64) x.2.1), (9, .e (.sl (.sl (.i .i64))) x.2.2.1), (10, .e (.i .i64) x.2.2.2.1), (11, .e (.i .i64) x.2.2.2.2)], [], 100⟩
def w48u0 (σ : Sg) : (List (List Int)) × Int × (List (List Int)) × Int × Int := (lvT (.sl (.sl (.i .i64))) 0 0 σ, lvT (.i .i64) 3 0 σ, lvT (.sl (.sl (.i .i64))) 9 0 σ, lvT (.i .i64) 10 0 σ, lvT (.i .i64) 11 0 σ)
theorem w48ui0 : ∀ x, w48u0 (w48I0 x) = x := fun _ => by kernel_rfl
def w48X0_0 (y : (List (List Int)) × Int) : Exit × Sg := ((.exit 0), ⟨[(0, .e (.sl (.sl (.i .i64))) y.1), (2, .nilS), (3, .e (.i .i64) y.2)], [], 100⟩)
def w48v0_0 (σ : Sg) : (List (List Int)) × Int := (lvT (.sl (.sl (.i .i64))) 0 0 σ, lvT (.i .i64) 3 0 σ)
def w48w0 : List (Exit × Nm) := [((.exit 0), ⟨[0, 2, 3], [], []⟩)]
theorem w48o0 : Outs w48v0_0 (fun _ => ()) (fun _ => ()) w48X0_0 (noX 1) (noX 2) (.exit 0) (.goto 1) (.goto 2) := ⟨fun _ => by kernel_rfl, fun _ => by kernel_rfl, fun _ => by kernel_rfl, fun _ => by kernel_rfl, fun _ => by kernel_rfl, fun _ => by kernel_rfl, exNe_ok (by kernel_rfl), exNe_ok (by kernel_rfl), exNe_ok (by kernel_rfl)⟩
def w48l0 [Alg] (N : Nat) : Nat → ((List (List Int)) × Int × (List (List Int)) × Int × Int) → (((List (List Int)) × Int) → O) → ((Unit) → O) → ((Unit) → O) → O
 | 0, _, _, _, _ => none
 | n + 1, x, k0, k1, k2 => w48F0 N  (fun v0 v1 => w48l0 N n (x.1, v0, x.2.2.1, x.2.2.2.1, v1) k0 k1 k2) (fun y0 y1 => k0 (y0, y1)) x.1 x.2.2.1 x.2.2.2.1 x.2.1 x.2.2.2.2
def w48n0 [Alg] (N : Nat) (a0 : (List (List Int))) (a1 : Int) (a2 : (List (List Int))) (a3 : Int) (a4 : Int) (k0 : (List (List Int)) → Int → O) : O := w48l0 N N (a0, a1, a2, a3, a4) (fun y => k0 y.1 y.2) (fun _ => none) (fun _ => none)
noncomputable def w48s0 [Alg] (N : Nat) (a0 : (List (List Int))) (a1 : Int) (a2 : (List (List Int))) (a3 : Int) (a4 : Int) (k0 : (List (List Int)) → Int → O) : O := subL w48I0 w48u0 (w48l0 N N) (w48I0 (a0, a1, a2, a3, a4)) (fun y => k0 y.1 y.2) (fun _ => none) (fun _ => none)
theorem w48e0 [Alg] (N : Nat) : w48s0 N = w48n0 N := funext fun _ => funext fun _ => funext fun _ => funext fun _ => funext fun _ => funext fun _ => subL_I w48ui0 _ _ _ _
noncomputable def w48h0 [Alg] (_ : Nat) : Hint := .d
theorem w48hk0 (N : Nat) : HintOk (w48c N) Tryd.f48.ntmps (w48h0 N) w48b0 := hk_of _ _ trivial
theorem w48q0 [Alg] (N : Nat) (self : Sg → O) (K : Exit → Sg → O) (x : (List (List Int)) × Int × (List (List Int)) × Int × Int) : w48F0 N  (fun v0 v1 => self (w48I0 (x.1, v0, x.2.2.1, x.2.2.2.1, v1))) (fun y0 y1 => K (w48X0_0 (y0, y1)).1 (w48X0_0 (y0, y1)).2) x.1 x.2.2.1 x.2.2.2.1 x.2.1 x.2.2.2.2 = exec (w48c N) Tryd.f48.ntmps (w48h0 N) w48b0 (w48I0 x) (roundX w48m0 w48w0 self K) := by kernel_rfl
theorem w48S0 (N : Nat) (hc : CxOk (w48c N)) : SubOk (w48c N) Tryd.f48.ntmps (.loop w48b0) w48X0_0 (noX 1) (noX 2) (subL w48I0 w48u0 (w48l0 N N)) :=
 sub_loop hc (w48hk0 N) w48o0 (n := N) (fun x K => loop_ind (w48l0 N) (fun _ _ _ _ => rfl) (fun n K ih x => by
  have h : w48F0 N  (fun v0 v1 => w48l0 N n (x.1, v0, x.2.2.1, x.2.2.2.1, v1) (fun y => K (w48X0_0 y).1 (w48X0_0 y).2) (fun y => K ((noX 1) y).1 ((noX 1) y).2) (fun y => K ((noX 2) y).1 ((noX 2) y).2)) (fun y0 y1 => K (w48X0_0 (y0, y1)).1 (w48X0_0 (y0, y1)).2) x.1 x.2.2.1 x.2.2.2.1 x.2.1 x.2.2.2.2 = w48F0 N  (fun v0 v1 => loopX (w48c N) Tryd.f48.ntmps (w48h0 N) w48b0 w48m0 w48w0 n (w48I0 (x.1, v0, x.2.2.1, x.2.2.2.1, v1)) K) (fun y0 y1 => K (w48X0_0 (y0, y1)).1 (w48X0_0 (y0, y1)).2) x.1 x.2.2.1 x.2.2.2.1 x.2.1 x.2.2.2.2 := by rw [ show (fun v0 v1 => w48l0 N n (x.1, v0, x.2.2.1, x.2.2.2.1, v1) (fun y => K (w48X0_0 y).1 (w48X0_0 y).2) (fun y => K ((noX 1) y).1 ((noX 1) y).2) (fun y => K ((noX 2) y).1 ((noX 2) y).2)) = (fun v0 v1 => loopX (w48c N) Tryd.f48.ntmps (w48h0 N) w48b0 w48m0 w48w0 n (w48I0 (x.1, v0, x.2.2.1, x.2.2.2.1, v1)) K) from funext fun _ => funext fun _ => ih _]
  exact h.trans (w48q0 N (fun σ => loopX (w48c N) Tryd.f48.ntmps (w48h0 N) w48b0 w48m0 w48w0 n σ K) K x)) N x K)
def w48F1 [Alg] (_ : Nat)  (self : Int → (List Int) → O) (k0 : (List Int) → O) (x6_0 : (List (List Int))) (x6_1 : Int) (x6_2 : Int) (x6_3 : (List Int)) : O :=
 br (decide (x6_2 < x6_1))
  (gx x6_0 x6_2 fun y9 =>
  ck (lim (x6_3 ++ y9).length (8 : Nat)) <|
  self (IntKind.i64.wrap (x6_2 + (1 : Int))) (x6_3 ++ y9))
  (k0 x6_3)
noncomputable def w48b1 : Code := atC [1, 1, 1, 1, 0, 1, 0, 0] w48b
def w48m1 : Nm := ⟨[2, 6, 25, 26, 27], [], []⟩
def w48I1 (x : (List (List Int)) × Int × Int × (List Int)) : Sg := ⟨[(2, .nilS), (6, .own 0), (25, .e (.sl (.sl (.i .i64))) x.1), (26, .e (.i .i64) x.2.1), (27, .e (.i .i64) x.2.2.1)], [(0, .row 3 (.i .i64) x.2.2.2 false)], 100⟩
def w48u1 (σ : Sg) : (List (List Int)) × Int × Int × (List Int) := (lvT (.sl (.sl (.i .i64))) 25 0 σ, lvT (.i .i64) 26 0 σ, lvT (.i .i64) 27 0 σ, lvR (.i .i64) 0 σ)
theorem w48ui1 : ∀ x, w48u1 (w48I1 x) = x := fun _ => by kernel_rfl
def w48X1_0 (y : (List Int)) : Exit × Sg := ((.exit 2), ⟨[(2, .nilS), (6, .own 0)], [(0, .row 3 (.i .i64) y false)], 100⟩)
def w48v1_0 (σ : Sg) : (List Int) := lvR (.i .i64) 0 σ
def w48w1 : List (Exit × Nm) := [((.exit 2), ⟨[2, 6], [], []⟩)]
theorem w48o1 : Outs w48v1_0 (fun _ => ()) (fun _ => ()) w48X1_0 (noX 1) (noX 2) (.exit 2) (.goto 1) (.goto 2) := ⟨fun _ => by kernel_rfl, fun _ => by kernel_rfl, fun _ => by kernel_rfl, fun _ => by kernel_rfl, fun _ => by kernel_rfl, fun _ => by kernel_rfl, exNe_ok (by kernel_rfl), exNe_ok (by kernel_rfl), exNe_ok (by kernel_rfl)⟩
def w48l1 [Alg] (N : Nat) : Nat → ((List (List Int)) × Int × Int × (List Int)) → (((List Int)) → O) → ((Unit) → O) → ((Unit) → O) → O
 | 0, _, _, _, _ => none
 | n + 1, x, k0, k1, k2 => w48F1 N  (fun v0 v1 => w48l1 N n (x.1, x.2.1, v0, v1) k0 k1 k2) (fun y0 => k0 y0) x.1 x.2.1 x.2.2.1 x.2.2.2
def w48n1 [Alg] (N : Nat) (a0 : (List (List Int))) (a1 : Int) (a2 : Int) (a3 : (List Int)) (k0 : (List Int) → O) : O := w48l1 N N (a0, a1, a2, a3) (fun y => k0 y) (fun _ => none) (fun _ => none)
noncomputable def w48s1 [Alg] (N : Nat) (a0 : (List (List Int))) (a1 : Int) (a2 : Int) (a3 : (List Int)) (k0 : (List Int) → O) : O := subL w48I1 w48u1 (w48l1 N N) (w48I1 (a0, a1, a2, a3)) (fun y => k0 y) (fun _ => none) (fun _ => none)
theorem w48e1 [Alg] (N : Nat) : w48s1 N = w48n1 N := funext fun _ => funext fun _ => funext fun _ => funext fun _ => funext fun _ => subL_I w48ui1 _ _ _ _
noncomputable def w48h1 [Alg] (_ : Nat) : Hint := (.seq .d (.seq .d (.seq (.block (.seq .d (.reg [2] [] []))) .d)))
theorem w48hk1 (N : Nat) : HintOk (w48c N) Tryd.f48.ntmps (w48h1 N) w48b1 := hk_of _ _ (And.intro trivial (And.intro trivial (And.intro (And.intro trivial trivial) trivial)))
theorem w48q1 [Alg] (N : Nat) (self : Sg → O) (K : Exit → Sg → O) (x : (List (List Int)) × Int × Int × (List Int)) : w48F1 N  (fun v0 v1 => self (w48I1 (x.1, x.2.1, v0, v1))) (fun y0 => K (w48X1_0 y0).1 (w48X1_0 y0).2) x.1 x.2.1 x.2.2.1 x.2.2.2 = exec (w48c N) Tryd.f48.ntmps (w48h1 N) w48b1 (w48I1 x) (roundX w48m1 w48w1 self K) := by kernel_rfl
theorem w48S1 (N : Nat) (hc : CxOk (w48c N)) : SubOk (w48c N) Tryd.f48.ntmps (.loop w48b1) w48X1_0 (noX 1) (noX 2) (subL w48I1 w48u1 (w48l1 N N)) :=
 sub_loop hc (w48hk1 N) w48o1 (n := N) (fun x K => loop_ind (w48l1 N) (fun _ _ _ _ => rfl) (fun n K ih x => by
  have h : w48F1 N  (fun v0 v1 => w48l1 N n (x.1, x.2.1, v0, v1) (fun y => K (w48X1_0 y).1 (w48X1_0 y).2) (fun y => K ((noX 1) y).1 ((noX 1) y).2) (fun y => K ((noX 2) y).1 ((noX 2) y).2)) (fun y0 => K (w48X1_0 y0).1 (w48X1_0 y0).2) x.1 x.2.1 x.2.2.1 x.2.2.2 = w48F1 N  (fun v0 v1 => loopX (w48c N) Tryd.f48.ntmps (w48h1 N) w48b1 w48m1 w48w1 n (w48I1 (x.1, x.2.1, v0, v1)) K) (fun y0 => K (w48X1_0 y0).1 (w48X1_0 y0).2) x.1 x.2.1 x.2.2.1 x.2.2.2 := by rw [ show (fun v0 v1 => w48l1 N n (x.1, x.2.1, v0, v1) (fun y => K (w48X1_0 y).1 (w48X1_0 y).2) (fun y => K ((noX 1) y).1 ((noX 1) y).2) (fun y => K ((noX 2) y).1 ((noX 2) y).2)) = (fun v0 v1 => loopX (w48c N) Tryd.f48.ntmps (w48h1 N) w48b1 w48m1 w48w1 n (w48I1 (x.1, x.2.1, v0, v1)) K) from funext fun _ => funext fun _ => ih _]
  exact h.trans (w48q1 N (fun σ => loopX (w48c N) Tryd.f48.ntmps (w48h1 N) w48b1 w48m1 w48w1 n σ K) K x)) N x K)
def w48G [Alg] (N : Nat) (in0 : (List (List Int)) → Int → (List (List Int)) → Int → Int → ((List (List Int)) → Int → O) → O) (in1 : (List (List Int)) → Int → Int → (List Int) → ((List Int) → O) → O) (slices0 : (List (List Int))) : O :=
 in0 slices0 ((0 : Int)) slices0 ((↑slices0.length : Int)) ((0 : Int))
  (fun z4 z5 =>
   ck (w60p N z5) <|
   in1 z4 ((↑z4.length : Int)) ((0 : Int)) (w60y0 N z5)
    (fun z10 =>
     some (w48r0 z10)))
def w48 [Alg] (N : Nat) (slices0 : (List (List Int))) : O := w48G N (w48n0 N) (w48n1 N) slices0
noncomputable def w48h [Alg] (N : Nat) : Hint := (.seq .d (.seq .d (.seq (.seq .d (.block (.sub w48m0 _ _ _ w48X0_0 (noX 1) (noX 2) (subL w48I0 w48u0 (w48l0 N N))))) (.seq .d (.seq (.seq .d (.block (.sub w48m1 _ _ _ w48X1_0 (noX 1) (noX 2) (subL w48I1 w48u1 (w48l1 N N))))) .d)))))
theorem w48hk (N : Nat) (hc : CxOk (w48c N)) : HintOk (w48c N) Tryd.f48.ntmps (w48h N) w48b := hk_of _ _ (And.intro trivial (And.intro trivial (And.intro (And.intro trivial (w48S0 N hc)) (And.intro trivial (And.intro (And.intro trivial (w48S1 N hc)) trivial)))))
theorem w48q [Alg] (N : Nat) (slices0 : (List (List Int))) : w48G N (w48s0 N) (w48s1 N) slices0 = exec (w48c N) Tryd.f48.ntmps (w48h N) w48b ⟨argT 0 [.e (.sl (.sl (.i .i64))) slices0], [], 100⟩ (finX (w48c N) Tryd.f48 false) := by kernel_rfl
theorem w48does {N : Nat} (hc : CxOk (w48c N)) {slices0 : (List (List Int))} {r : Res} (h : w48 N slices0 = some r) : Does Tryd.prog 48 (([.e (.sl (.sl (.i .i64))) slices0] : List X).map X.D) (HA []) r.1.D (HA r.2) :=
 fun_ok hc (f := 48) (fn := Tryd.f48) (code := w48b) (by kernel_rfl) (by kernel_rfl) (w48hk N hc) (Nat.le_of_ble_eq_true (by kernel_rfl)) (ow := false) ((w48q N slices0).symm.trans (by rw [w48e0 N, w48e1 N]; exact h))
def w48un (r : Res) : Option ((List Int)) := match r with
 | (x0, []) => (match ue (.sl (.i .i64)) x0 with | some a0 => some a0 | _ => none)
 | _ => none
theorem w48uo {r : Res} {d : (List Int)} (h : w48un r = some d) : r = w48r0 (d) := by
 unfold w48un at h
 split at h
 ·split at h
  ·rename_i h0; cases h; rw [ue_some h0]; rfl
  ·cases h
 ·cases h
def w48z (N : Nat) (slices0 : (List (List Int))) : Option ((List Int)) := (w48 N slices0).bind w48un
theorem w48fin {N : Nat} (hc : CxOk (w48c N)) {slices0 : (List (List Int))} {d : (List Int)} (hd : w48z N slices0 = some d) : Does Tryd.prog 48 (([.e (.sl (.sl (.i .i64))) slices0] : List X).map X.D) (HA []) (w48r0 (d)).1.D (HA (w48r0 (d)).2) := by
 obtain ⟨r, hr, hu⟩ := Option.bind_eq_some_iff.1 hd
 have := w48does hc hr
 rw [w48uo hu] at this
 exact this
def w48p (N : Nat) (slices0 : (List (List Int))) : Bool := (w48z N slices0).isSome
def w48y0 (N : Nat) (slices0 : (List (List Int))) : (List Int) := ((w48z N slices0).getD [])
def w48e (N : Nat) : Ent' := E1 (.sl (.sl (.i .i64)))  (fun x0 => (w48p N x0, w48r0 (w48y0 N x0)))
theorem w48re {N : Nat} {slices0 : (List (List Int))} {d : (List Int)} (hd : w48z N slices0 = some d) : w48r0 (w48y0 N slices0) = w48r0 (d) := by unfold w48y0; rw [hd]; rfl
theorem w48ok (N : Nat) : EOk Tryd.prog 48 (w48e N) := EOk.e1 (fun x0 h => by
 have h : (w48z N x0).isSome = true := h
 obtain ⟨d, hd⟩ := Option.isSome_iff_exists.1 h
 have f := w48fin (w48cx N) hd
 rw [← w48re hd] at f
 exact f)
def w61r0 (a0 : Int) (a1 : (List Bool)) : Res := (.e (.i .i64) a0, [(50, .box 28 [.e (.sl .bo) a1])])
noncomputable def w61L (N : Nat) : List (Nat × Ent') := [(50, w50e N)]
noncomputable def w61c (N : Nat) : Cx := ⟨Tryd.prog, 99999, w61L N⟩
noncomputable def w61b : Code := Tryd.f61.body.getD .skip
theorem w61cx (N : Nat) : CxOk (w61c N) := ctx_ok (by kernel_rfl) (.cons (by kernel_rfl) (w50ok N) .nil)
def w61F0 [Alg] (N : Nat)  (self : Int → (List Bool) → O) (k0 : Int → (List Bool) → O) (k1 : Int → (List Bool) → O) (x0_0 : (List Int)) (x0_1 : Int) (x0_2 : Int) (x0_3 : Int) (x0_4 : (List Bool)) : O :=
 br (decide (x0_3 < x0_2))
  (gx x0_0 x0_3 fun y3 =>
  ck (w50p N y3 x0_4) <|
  br (w50y0 N y3 x0_4)
   (k0 x0_3 (w50y1 N y3 x0_4))
   (self (IntKind.i64.wrap (x0_3 + (1 : Int))) (w50y1 N y3 x0_4)))
  (k1 x0_1 x0_4)
noncomputable def w61b0 : Code := atC [1, 0, 1, 0, 0] w61b
def w61m0 : Nm := ⟨[0, 1, 4, 7, 8], [], []⟩
def w61I0 (x : (List Int) × Int × Int × Int × (List Bool)) : Sg := ⟨[(0, .e (.sl (.i .i64)) x.1), (1, .fn 50 [.ref 50 0]), (4, .e (.i .i64) x.2.1), (7, .e (.i .i64) x.2.2.1), (8, .e (.i .i64) x.2.2.2.1)], [(50, .box 28 [.e (.sl .bo) x.2.2.2.2])], 100⟩
def w61u0 (σ : Sg) : (List Int) × Int × Int × Int × (List Bool) := (lvT (.sl (.i .i64)) 0 0 σ, lvT (.i .i64) 4 0 σ, lvT (.i .i64) 7 0 σ, lvT (.i .i64) 8 0 σ, lvH (.sl .bo) 50 0 σ)
theorem w61ui0 : ∀ x, w61u0 (w61I0 x) = x := fun _ => by kernel_rfl
def w61X0_0 (y : Int × (List Bool)) : Exit × Sg := (.ret, ⟨[(4, .e (.i .i64) y.1)], [(50, .box 28 [.e (.sl .bo) y.2])], 100⟩)
def w61v0_0 (σ : Sg) : Int × (List Bool) := (lvT (.i .i64) 4 0 σ, lvH (.sl .bo) 50 0 σ)
def w61X0_1 (y : Int × (List Bool)) : Exit × Sg := ((.exit 0), ⟨[(4, .e (.i .i64) y.1)], [(50, .box 28 [.e (.sl .bo) y.2])], 100⟩)
def w61v0_1 (σ : Sg) : Int × (List Bool) := (lvT (.i .i64) 4 0 σ, lvH (.sl .bo) 50 0 σ)
def w61w0 : List (Exit × Nm) := [(.ret, ⟨[4], [], []⟩), ((.exit 0), ⟨[4], [], []⟩)]
theorem w61o0 : Outs w61v0_0 w61v0_1 (fun _ => ()) w61X0_0 w61X0_1 (noX 2) .ret (.exit 0) (.goto 2) := ⟨fun _ => by kernel_rfl, fun _ => by kernel_rfl, fun _ => by kernel_rfl, fun _ => by kernel_rfl, fun _ => by kernel_rfl, fun _ => by kernel_rfl, exNe_ok (by kernel_rfl), exNe_ok (by kernel_rfl), exNe_ok (by kernel_rfl)⟩
def w61l0 [Alg] (N : Nat) : Nat → ((List Int) × Int × Int × Int × (List Bool)) → ((Int × (List Bool)) → O) → ((Int × (List Bool)) → O) → ((Unit) → O) → O
 | 0, _, _, _, _ => none
 | n + 1, x, k0, k1, k2 => w61F0 N  (fun v0 v1 => w61l0 N n (x.1, x.2.1, x.2.2.1, v0, v1) k0 k1 k2) (fun y0 y1 => k0 (y0, y1)) (fun y0 y1 => k1 (y0, y1)) x.1 x.2.1 x.2.2.1 x.2.2.2.1 x.2.2.2.2
def w61n0 [Alg] (N : Nat) (a0 : (List Int)) (a1 : Int) (a2 : Int) (a3 : Int) (a4 : (List Bool)) (k0 : Int → (List Bool) → O) (k1 : Int → (List Bool) → O) : O := w61l0 N N (a0, a1, a2, a3, a4) (fun y => k0 y.1 y.2) (fun y => k1 y.1 y.2) (fun _ => none)
noncomputable def w61s0 [Alg] (N : Nat) (a0 : (List Int)) (a1 : Int) (a2 : Int) (a3 : Int) (a4 : (List Bool)) (k0 : Int → (List Bool) → O) (k1 : Int → (List Bool) → O) : O := subL w61I0 w61u0 (w61l0 N N) (w61I0 (a0, a1, a2, a3, a4)) (fun y => k0 y.1 y.2) (fun y => k1 y.1 y.2) (fun _ => none)
theorem w61e0 [Alg] (N : Nat) : w61s0 N = w61n0 N := funext fun _ => funext fun _ => funext fun _ => funext fun _ => funext fun _ => funext fun _ => funext fun _ => subL_I w61ui0 _ _ _ _
noncomputable def w61h0 [Alg] (_ : Nat) : Hint := .d
theorem w61hk0 (N : Nat) : HintOk (w61c N) Tryd.f61.ntmps (w61h0 N) w61b0 := hk_of _ _ trivial
theorem w61q0 [Alg] (N : Nat) (self : Sg → O) (K : Exit → Sg → O) (x : (List Int) × Int × Int × Int × (List Bool)) : w61F0 N  (fun v0 v1 => self (w61I0 (x.1, x.2.1, x.2.2.1, v0, v1))) (fun y0 y1 => K (w61X0_0 (y0, y1)).1 (w61X0_0 (y0, y1)).2) (fun y0 y1 => K (w61X0_1 (y0, y1)).1 (w61X0_1 (y0, y1)).2) x.1 x.2.1 x.2.2.1 x.2.2.2.1 x.2.2.2.2 = exec (w61c N) Tryd.f61.ntmps (w61h0 N) w61b0 (w61I0 x) (roundX w61m0 w61w0 self K) := by kernel_rfl
theorem w61S0 (N : Nat) (hc : CxOk (w61c N)) : SubOk (w61c N) Tryd.f61.ntmps (.loop w61b0) w61X0_0 w61X0_1 (noX 2) (subL w61I0 w61u0 (w61l0 N N)) :=
 sub_loop hc (w61hk0 N) w61o0 (n := N) (fun x K => loop_ind (w61l0 N) (fun _ _ _ _ => rfl) (fun n K ih x => by
  have h : w61F0 N  (fun v0 v1 => w61l0 N n (x.1, x.2.1, x.2.2.1, v0, v1) (fun y => K (w61X0_0 y).1 (w61X0_0 y).2) (fun y => K (w61X0_1 y).1 (w61X0_1 y).2) (fun y => K ((noX 2) y).1 ((noX 2) y).2)) (fun y0 y1 => K (w61X0_0 (y0, y1)).1 (w61X0_0 (y0, y1)).2) (fun y0 y1 => K (w61X0_1 (y0, y1)).1 (w61X0_1 (y0, y1)).2) x.1 x.2.1 x.2.2.1 x.2.2.2.1 x.2.2.2.2 = w61F0 N  (fun v0 v1 => loopX (w61c N) Tryd.f61.ntmps (w61h0 N) w61b0 w61m0 w61w0 n (w61I0 (x.1, x.2.1, x.2.2.1, v0, v1)) K) (fun y0 y1 => K (w61X0_0 (y0, y1)).1 (w61X0_0 (y0, y1)).2) (fun y0 y1 => K (w61X0_1 (y0, y1)).1 (w61X0_1 (y0, y1)).2) x.1 x.2.1 x.2.2.1 x.2.2.2.1 x.2.2.2.2 := by rw [ show (fun v0 v1 => w61l0 N n (x.1, x.2.1, x.2.2.1, v0, v1) (fun y => K (w61X0_0 y).1 (w61X0_0 y).2) (fun y => K (w61X0_1 y).1 (w61X0_1 y).2) (fun y => K ((noX 2) y).1 ((noX 2) y).2)) = (fun v0 v1 => loopX (w61c N) Tryd.f61.ntmps (w61h0 N) w61b0 w61m0 w61w0 n (w61I0 (x.1, x.2.1, x.2.2.1, v0, v1)) K) from funext fun _ => funext fun _ => ih _]
  exact h.trans (w61q0 N (fun σ => loopX (w61c N) Tryd.f61.ntmps (w61h0 N) w61b0 w61m0 w61w0 n σ K) K x)) N x K)
def w61G [Alg] (_ : Nat) (in0 : (List Int) → Int → Int → Int → (List Bool) → (Int → (List Bool) → O) → (Int → (List Bool) → O) → O) (s0 : (List Int)) (h50_0 : (List Bool)) : O :=
 in0 s0 ((0 : Int)) ((↑s0.length : Int)) ((0 : Int)) h50_0
  (fun z4 z5 =>
   some (w61r0 z4 z5))
  (fun _ z7 =>
   some (w61r0 ((-1 : Int)) z7))
def w61 [Alg] (N : Nat) (s0 : (List Int)) (h50_0 : (List Bool)) : O := w61G N (w61n0 N) s0 h50_0
noncomputable def w61h [Alg] (N : Nat) : Hint := (.seq .d (.seq (.seq .d (.block (.sub w61m0 _ _ _ w61X0_0 w61X0_1 (noX 2) (subL w61I0 w61u0 (w61l0 N N))))) .d))
theorem w61hk (N : Nat) (hc : CxOk (w61c N)) : HintOk (w61c N) Tryd.f61.ntmps (w61h N) w61b := hk_of _ _ (And.intro trivial (And.intro (And.intro trivial (w61S0 N hc)) trivial))
theorem w61q [Alg] (N : Nat) (s0 : (List Int)) (h50_0 : (List Bool)) : w61G N (w61s0 N) s0 h50_0 = exec (w61c N) Tryd.f61.ntmps (w61h N) w61b ⟨argT 0 [.e (.sl (.i .i64)) s0, .fn 50 [.ref 50 0]], [(50, .box 28 [.e (.sl .bo) h50_0])], 100⟩ (finX (w61c N) Tryd.f61 true) := by kernel_rfl
theorem w61does {N : Nat} (hc : CxOk (w61c N)) {s0 : (List Int)} {h50_0 : (List Bool)} {r : Res} (h : w61 N s0 h50_0 = some r) : Does Tryd.prog 61 (([.e (.sl (.i .i64)) s0, .fn 50 [.ref 50 0]] : List X).map X.D) (HA [(50, .box 28 [.e (.sl .bo) h50_0])]) r.1.D (HA r.2) :=
 fun_ok hc (f := 61) (fn := Tryd.f61) (code := w61b) (by kernel_rfl) (by kernel_rfl) (w61hk N hc) (Nat.le_of_ble_eq_true (by kernel_rfl)) (ow := true) ((w61q N s0 h50_0).symm.trans (by rw [w61e0 N]; exact h))
def w61un (r : Res) : Option (Int × (List Bool)) := match r with
 | (x0, [(50, .box 28 [x1])]) => (match ue (.i .i64) x0, ue (.sl .bo) x1 with | some a0, some a1 => some (a0, a1) | _, _ => none)
 | _ => none
theorem w61uo {r : Res} {d : Int × (List Bool)} (h : w61un r = some d) : r = w61r0 (d.1) (d.2) := by
 unfold w61un at h
 split at h
 ·split at h
  ·rename_i h0 h1; cases h; rw [ue_some h0, ue_some h1]; rfl
  ·cases h
 ·cases h
def w61z (N : Nat) (s0 : (List Int)) (h50_0 : (List Bool)) : Option (Int × (List Bool)) := (w61 N s0 h50_0).bind w61un
theorem w61fin {N : Nat} (hc : CxOk (w61c N)) {s0 : (List Int)} {h50_0 : (List Bool)} {d : Int × (List Bool)} (hd : w61z N s0 h50_0 = some d) : Does Tryd.prog 61 (([.e (.sl (.i .i64)) s0, .fn 50 [.ref 50 0]] : List X).map X.D) (HA [(50, .box 28 [.e (.sl .bo) h50_0])]) (w61r0 (d.1) (d.2)).1.D (HA (w61r0 (d.1) (d.2)).2) := by
 obtain ⟨r, hr, hu⟩ := Option.bind_eq_some_iff.1 hd
 have := w61does hc hr
 rw [w61uo hu] at this
 exact this
def w61p (N : Nat) (s0 : (List Int)) (h50_0 : (List Bool)) : Bool := (w61z N s0 h50_0).isSome
def w61y0 (N : Nat) (s0 : (List Int)) (h50_0 : (List Bool)) : Int := ((w61z N s0 h50_0).getD (0, [])).1
def w61y1 (N : Nat) (s0 : (List Int)) (h50_0 : (List Bool)) : (List Bool) := ((w61z N s0 h50_0).getD (0, [])).2
def w61in (xs : List X) (H : XH) : Option ((List Int) × (List Bool)) := match xs, H with
 | [x0, .fn 50 [.ref 50 0]], [(50, .box 28 [x1])] => (match ue (.sl (.i .i64)) x0, ue (.sl .bo) x1 with | some a0, some a1 => some (a0, a1) | _, _ => none)
 | _, _ => none
theorem w61io {xs : List X} {H : XH} {d : (List Int) × (List Bool)} (h : w61in xs H = some d) : xs = [.e (.sl (.i .i64)) (d.1), .fn 50 [.ref 50 0]] ∧ H = [(50, .box 28 [.e (.sl .bo) (d.2)])] := by
 unfold w61in at h
 split at h
 ·split at h
  ·rename_i h0 h1; cases h; rw [ue_some h0, ue_some h1]; exact ⟨rfl, rfl⟩
  ·cases h
 ·cases h
def w61e (N : Nat) : Ent' := fun xs H => match w61in xs H with | some d => some (w61p N (d.1) (d.2), w61r0 (w61y0 N (d.1) (d.2)) (w61y1 N (d.1) (d.2))) | none => none
theorem w61re {N : Nat} {s0 : (List Int)} {h50_0 : (List Bool)} {d : Int × (List Bool)} (hd : w61z N s0 h50_0 = some d) : w61r0 (w61y0 N s0 h50_0) (w61y1 N s0 h50_0) = w61r0 (d.1) (d.2) := by unfold w61y0 w61y1; rw [hd]; rfl
theorem w61ok (N : Nat) : EOk Tryd.prog 61 (w61e N) := fun xs H pre r he hp => by
 unfold w61e at he
 split at he
 ·rename_i d hd
  have he := Option.some.inj he
  have h1 := congrArg Prod.fst he
  have h2 := congrArg Prod.snd he
  simp only at h1 h2
  obtain ⟨e1, e2⟩ := w61io hd
  rw [e1, e2, ← h2]
  have h : (w61z N (d.1) (d.2)).isSome = true := h1.trans hp
  obtain ⟨d', hd'⟩ := Option.isSome_iff_exists.1 h
  have f := w61fin (w61cx N) hd'
  rw [← w61re hd'] at f
  exact f
 ·cases he
def w49r0 (a0 : Bool) (a1 : (List Bool)) : Res := (.e .bo a0, [(50, .box 28 [.e (.sl .bo) a1])])
noncomputable def w49L (N : Nat) : List (Nat × Ent') := [(50, w50e N), (61, w61e N)]
noncomputable def w49c (N : Nat) : Cx := ⟨Tryd.prog, 99999, w49L N⟩
noncomputable def w49b : Code := Tryd.f49.body.getD .skip
theorem w49cx (N : Nat) : CxOk (w49c N) := ctx_ok (by kernel_rfl) (.cons (by kernel_rfl) (w50ok N) (.cons (by kernel_rfl) (w61ok N) .nil))
def w49G [Alg] (N : Nat)  (s0 : (List Int)) (h50_0 : (List Bool)) : O :=
 ck (w61p N s0 h50_0) <|
 some (w49r0 (decide ((0 : Int) ≤ w61y0 N s0 h50_0)) (w61y1 N s0 h50_0))
def w49 [Alg] (N : Nat) (s0 : (List Int)) (h50_0 : (List Bool)) : O := w49G N  s0 h50_0
noncomputable def w49h [Alg] (_ : Nat) : Hint := .d
theorem w49hk (N : Nat) : HintOk (w49c N) Tryd.f49.ntmps (w49h N) w49b := hk_of _ _ trivial
theorem w49q [Alg] (N : Nat) (s0 : (List Int)) (h50_0 : (List Bool)) : w49G N  s0 h50_0 = exec (w49c N) Tryd.f49.ntmps (w49h N) w49b ⟨argT 0 [.e (.sl (.i .i64)) s0, .fn 50 [.ref 50 0]], [(50, .box 28 [.e (.sl .bo) h50_0])], 100⟩ (finX (w49c N) Tryd.f49 true) := by kernel_rfl
theorem w49does {N : Nat} (hc : CxOk (w49c N)) {s0 : (List Int)} {h50_0 : (List Bool)} {r : Res} (h : w49 N s0 h50_0 = some r) : Does Tryd.prog 49 (([.e (.sl (.i .i64)) s0, .fn 50 [.ref 50 0]] : List X).map X.D) (HA [(50, .box 28 [.e (.sl .bo) h50_0])]) r.1.D (HA r.2) :=
 fun_ok hc (f := 49) (fn := Tryd.f49) (code := w49b) (by kernel_rfl) (by kernel_rfl) (w49hk N) (Nat.le_of_ble_eq_true (by kernel_rfl)) (ow := true) ((w49q N s0 h50_0).symm.trans (by exact h))
def w49un (r : Res) : Option (Bool × (List Bool)) := match r with
 | (x0, [(50, .box 28 [x1])]) => (match ue .bo x0, ue (.sl .bo) x1 with | some a0, some a1 => some (a0, a1) | _, _ => none)
 | _ => none
theorem w49uo {r : Res} {d : Bool × (List Bool)} (h : w49un r = some d) : r = w49r0 (d.1) (d.2) := by
 unfold w49un at h
 split at h
 ·split at h
  ·rename_i h0 h1; cases h; rw [ue_some h0, ue_some h1]; rfl
  ·cases h
 ·cases h
def w49z (N : Nat) (s0 : (List Int)) (h50_0 : (List Bool)) : Option (Bool × (List Bool)) := (w49 N s0 h50_0).bind w49un
theorem w49fin {N : Nat} (hc : CxOk (w49c N)) {s0 : (List Int)} {h50_0 : (List Bool)} {d : Bool × (List Bool)} (hd : w49z N s0 h50_0 = some d) : Does Tryd.prog 49 (([.e (.sl (.i .i64)) s0, .fn 50 [.ref 50 0]] : List X).map X.D) (HA [(50, .box 28 [.e (.sl .bo) h50_0])]) (w49r0 (d.1) (d.2)).1.D (HA (w49r0 (d.1) (d.2)).2) := by
 obtain ⟨r, hr, hu⟩ := Option.bind_eq_some_iff.1 hd
 have := w49does hc hr
 rw [w49uo hu] at this
 exact this
def w49p (N : Nat) (s0 : (List Int)) (h50_0 : (List Bool)) : Bool := (w49z N s0 h50_0).isSome
def w49y0 (N : Nat) (s0 : (List Int)) (h50_0 : (List Bool)) : Bool := ((w49z N s0 h50_0).getD (false, [])).1
def w49y1 (N : Nat) (s0 : (List Int)) (h50_0 : (List Bool)) : (List Bool) := ((w49z N s0 h50_0).getD (false, [])).2
def w49in (xs : List X) (H : XH) : Option ((List Int) × (List Bool)) := match xs, H with
 | [x0, .fn 50 [.ref 50 0]], [(50, .box 28 [x1])] => (match ue (.sl (.i .i64)) x0, ue (.sl .bo) x1 with | some a0, some a1 => some (a0, a1) | _, _ => none)
 | _, _ => none
theorem w49io {xs : List X} {H : XH} {d : (List Int) × (List Bool)} (h : w49in xs H = some d) : xs = [.e (.sl (.i .i64)) (d.1), .fn 50 [.ref 50 0]] ∧ H = [(50, .box 28 [.e (.sl .bo) (d.2)])] := by
 unfold w49in at h
 split at h
 ·split at h
  ·rename_i h0 h1; cases h; rw [ue_some h0, ue_some h1]; exact ⟨rfl, rfl⟩
  ·cases h
 ·cases h
def w49e (N : Nat) : Ent' := fun xs H => match w49in xs H with | some d => some (w49p N (d.1) (d.2), w49r0 (w49y0 N (d.1) (d.2)) (w49y1 N (d.1) (d.2))) | none => none
theorem w49re {N : Nat} {s0 : (List Int)} {h50_0 : (List Bool)} {d : Bool × (List Bool)} (hd : w49z N s0 h50_0 = some d) : w49r0 (w49y0 N s0 h50_0) (w49y1 N s0 h50_0) = w49r0 (d.1) (d.2) := by unfold w49y0 w49y1; rw [hd]; rfl
theorem w49ok (N : Nat) : EOk Tryd.prog 49 (w49e N) := fun xs H pre r he hp => by
 unfold w49e at he
 split at he
 ·rename_i d hd
  have he := Option.some.inj he
  have h1 := congrArg Prod.fst he
  have h2 := congrArg Prod.snd he
  simp only at h1 h2
  obtain ⟨e1, e2⟩ := w49io hd
  rw [e1, e2, ← h2]
  have h : (w49z N (d.1) (d.2)).isSome = true := h1.trans hp
  obtain ⟨d', hd'⟩ := Option.isSome_iff_exists.1 h
  have f := w49fin (w49cx N) hd'
  rw [← w49re hd'] at f
  exact f
 ·cases he
def w32r0 (a0 : Bool) : Res := (.e .bo a0, [])
noncomputable def w32L (N : Nat) : List (Nat × Ent') := [(50, w50e N), (49, w49e N)]
noncomputable def w32c (N : Nat) : Cx := ⟨Tryd.prog, 99999, w32L N⟩
noncomputable def w32b : Code := Tryd.f32.body.getD .skip
theorem w32cx (N : Nat) : CxOk (w32c N) := ctx_ok (by kernel_rfl) (.cons (by kernel_rfl) (w50ok N) (.cons (by kernel_rfl) (w49ok N) .nil))
def w32G [Alg] (N : Nat)  (r0_0 : (List Int)) (_r0_1 : Int) (_r0_2 : Int) (have1 : (List Bool)) : O :=
 ck (w49p N r0_0 have1) <|
 some (w32r0 (!w49y0 N r0_0 have1))
def w32 [Alg] (N : Nat) (r0_0 : (List Int)) (r0_1 : Int) (r0_2 : Int) (have1 : (List Bool)) : O := w32G N  r0_0 r0_1 r0_2 have1
noncomputable def w32h [Alg] (_ : Nat) : Hint := .d
theorem w32hk (N : Nat) : HintOk (w32c N) Tryd.f32.ntmps (w32h N) w32b := hk_of _ _ trivial
theorem w32q [Alg] (N : Nat) (r0_0 : (List Int)) (r0_1 : Int) (r0_2 : Int) (have1 : (List Bool)) : w32G N  r0_0 r0_1 r0_2 have1 = exec (w32c N) Tryd.f32.ntmps (w32h N) w32b ⟨argT 0 [.agg [.e (.sl (.i .i64)) r0_0, .e (.i .i64) r0_1, .e (.i .i64) r0_2], .e (.sl .bo) have1], [], 100⟩ (finX (w32c N) Tryd.f32 false) := by kernel_rfl
theorem w32does {N : Nat} (hc : CxOk (w32c N)) {r0_0 : (List Int)} {r0_1 : Int} {r0_2 : Int} {have1 : (List Bool)} {r : Res} (h : w32 N r0_0 r0_1 r0_2 have1 = some r) : Does Tryd.prog 32 (([.agg [.e (.sl (.i .i64)) r0_0, .e (.i .i64) r0_1, .e (.i .i64) r0_2], .e (.sl .bo) have1] : List X).map X.D) (HA []) r.1.D (HA r.2) :=
 fun_ok hc (f := 32) (fn := Tryd.f32) (code := w32b) (by kernel_rfl) (by kernel_rfl) (w32hk N) (Nat.le_of_ble_eq_true (by kernel_rfl)) (ow := false) ((w32q N r0_0 r0_1 r0_2 have1).symm.trans (by exact h))
def w32un (r : Res) : Option (Bool) := match r with
 | (x0, []) => (match ue .bo x0 with | some a0 => some a0 | _ => none)
 | _ => none
theorem w32uo {r : Res} {d : Bool} (h : w32un r = some d) : r = w32r0 (d) := by
 unfold w32un at h
 split at h
 ·split at h
  ·rename_i h0; cases h; rw [ue_some h0]; rfl
  ·cases h
 ·cases h
def w32z (N : Nat) (r0_0 : (List Int)) (r0_1 : Int) (r0_2 : Int) (have1 : (List Bool)) : Option (Bool) := (w32 N r0_0 r0_1 r0_2 have1).bind w32un
theorem w32fin {N : Nat} (hc : CxOk (w32c N)) {r0_0 : (List Int)} {r0_1 : Int} {r0_2 : Int} {have1 : (List Bool)} {d : Bool} (hd : w32z N r0_0 r0_1 r0_2 have1 = some d) : Does Tryd.prog 32 (([.agg [.e (.sl (.i .i64)) r0_0, .e (.i .i64) r0_1, .e (.i .i64) r0_2], .e (.sl .bo) have1] : List X).map X.D) (HA []) (w32r0 (d)).1.D (HA (w32r0 (d)).2) := by
 obtain ⟨r, hr, hu⟩ := Option.bind_eq_some_iff.1 hd
 have := w32does hc hr
 rw [w32uo hu] at this
 exact this
def w32p (N : Nat) (r0_0 : (List Int)) (r0_1 : Int) (r0_2 : Int) (have1 : (List Bool)) : Bool := (w32z N r0_0 r0_1 r0_2 have1).isSome
def w32y0 (N : Nat) (r0_0 : (List Int)) (r0_1 : Int) (r0_2 : Int) (have1 : (List Bool)) : Bool := ((w32z N r0_0 r0_1 r0_2 have1).getD false)
def w32e (N : Nat) : Ent' := E2 (.pr (.sl (.i .i64)) (.pr (.i .i64) (.i .i64))) (.sl .bo)  (fun x0 x1 => (w32p N x0.1 x0.2.1 x0.2.2 x1, w32r0 (w32y0 N x0.1 x0.2.1 x0.2.2 x1)))
theorem w32re {N : Nat} {r0_0 : (List Int)} {r0_1 : Int} {r0_2 : Int} {have1 : (List Bool)} {d : Bool} (hd : w32z N r0_0 r0_1 r0_2 have1 = some d) : w32r0 (w32y0 N r0_0 r0_1 r0_2 have1) = w32r0 (d) := by unfold w32y0; rw [hd]; rfl
theorem w32ok (N : Nat) : EOk Tryd.prog 32 (w32e N) := EOk.e2 (fun x0 x1 h => by
 have h : (w32z N x0.1 x0.2.1 x0.2.2 x1).isSome = true := h
 obtain ⟨d, hd⟩ := Option.isSome_iff_exists.1 h
 have f := w32fin (w32cx N) hd
 rw [← w32re hd] at f
 exact f)
def w30r0 (a0 : (List Bool)) (a1 : Bool) : Res := (.tup [.e (.sl .bo) a0, .e .bo a1], [])
noncomputable def w30L (N : Nat) : List (Nat × Ent') := [(48, w48e N), (32, w32e N)]
noncomputable def w30c (N : Nat) : Cx := ⟨Tryd.prog, 99999, w30L N⟩
noncomputable def w30b : Code := Tryd.f30.body.getD .skip
theorem w30cx (N : Nat) : CxOk (w30c N) := ctx_ok (by kernel_rfl) (.cons (by kernel_rfl) (w48ok N) (.cons (by kernel_rfl) (w32ok N) .nil))
def w30F0 [Alg] (_ : Nat)  (self : Int → (List Bool) → O) (k0 : Bool → (List Int) → Int → Int → (List Int) → Int → Int → (List Bool) → O) (x0_0 : Bool) (x0_1 : (List Int)) (x0_2 : Int) (x0_4 : (List Int)) (x0_5 : Int) (x0_6 : Int) (x0_7 : (List Int)) (x0_8 : Int) (x0_9 : Int) (x0_3 : Int) (x0_10 : (List Bool)) : O :=
 br (decide (x0_3 < x0_2))
  (gx x0_1 x0_3 fun y5 =>
  br (decide ((0 : Int) < y5))
   (ck (decide ((0 : Int) ≤ IntKind.i64.wrap (y5 - (1 : Int)) ∧ IntKind.i64.wrap (y5 - (1 : Int)) < (↑x0_10.length : Int))) <|
   gn x0_10 ((IntKind.i64.wrap (y5 - (1 : Int))).toNat) fun _ =>
   self (IntKind.i64.wrap (x0_3 + (1 : Int))) (x0_10.set (IntKind.i64.wrap (y5 - (1 : Int))).toNat true))
   (self (IntKind.i64.wrap (x0_3 + (1 : Int))) x0_10))
  (k0 x0_0 x0_4 x0_5 x0_6 x0_7 x0_8 x0_9 x0_10)
noncomputable def w30b0 : Code := atC [1, 1, 0, 1, 0, 0] w30b
def w30m0 : Nm := ⟨[2, 3, 4, 5, 6, 15, 16, 17], [], []⟩
def w30I0 (x : Bool × (List Int) × Int × Int × (List Int) × Int × Int × (List Int) × Int × Int × (List Bool)) : Sg := ⟨[(2, .ref 0 0), (3, .ref 1 0), (4, .nilS), (5, .e .bo x.1), (6, .own 2), (15, .e (.sl (.i .i64)) x.2.1), (16, .e (.i .i64) x.2.2.1), (17, .e (.i .i64) x.2.2.2.1)], [(0, .box 51 [.e (.sl (.i .i64)) x.2.2.2.2.1, .e (.i .i64) x.2.2.2.2.2.1, .e (.i .i64) x.2.2.2.2.2.2.1]), (1, .box 51 [.e (.sl (.i .i64)) x.2.2.2.2.2.2.2.1, .e (.i .i64) x.2.2.2.2.2.2.2.2.1, .e (.i .i64) x.2.2.2.2.2.2.2.2.2.1]), (2, .row 4 .bo x.2.2.2.2.2.2.2.2.2.2 false)], 100⟩
def w30u0 (σ : Sg) : Bool × (List Int) × Int × Int × (List Int) × Int × Int × (List Int) × Int × Int × (List Bool) := (lvT .bo 5 0 σ, lvT (.sl (.i .i64)) 15 0 σ, lvT (.i .i64) 16 0 σ, lvT (.i .i64) 17 0 σ, lvH (.sl (.i .i64)) 0 0 σ, lvH (.i .i64) 0 1 σ, lvH (.i .i64) 0 2 σ, lvH (.sl (.i .i64)) 1 0 σ, lvH (.i .i64) 1 1 σ, lvH (.i .i64) 1 2 σ, lvR .bo 2 σ)
theorem w30ui0 : ∀ x, w30u0 (w30I0 x) = x := fun _ => by kernel_rfl
def w30X0_0 (y : Bool × (List Int) × Int × Int × (List Int) × Int × Int × (List Bool)) : Exit × Sg := ((.exit 0), ⟨[(2, .ref 0 0), (3, .ref 1 0), (4, .nilS), (5, .e .bo y.1), (6, .own 2)], [(0, .box 51 [.e (.sl (.i .i64)) y.2.1, .e (.i .i64) y.2.2.1, .e (.i .i64) y.2.2.2.1]), (1, .box 51 [.e (.sl (.i .i64)) y.2.2.2.2.1, .e (.i .i64) y.2.2.2.2.2.1, .e (.i .i64) y.2.2.2.2.2.2.1]), (2, .row 4 .bo y.2.2.2.2.2.2.2 false)], 100⟩)
def w30v0_0 (σ : Sg) : Bool × (List Int) × Int × Int × (List Int) × Int × Int × (List Bool) := (lvT .bo 5 0 σ, lvH (.sl (.i .i64)) 0 0 σ, lvH (.i .i64) 0 1 σ, lvH (.i .i64) 0 2 σ, lvH (.sl (.i .i64)) 1 0 σ, lvH (.i .i64) 1 1 σ, lvH (.i .i64) 1 2 σ, lvR .bo 2 σ)
def w30w0 : List (Exit × Nm) := [((.exit 0), ⟨[2, 3, 4, 5, 6], [], []⟩)]
theorem w30o0 : Outs w30v0_0 (fun _ => ()) (fun _ => ()) w30X0_0 (noX 1) (noX 2) (.exit 0) (.goto 1) (.goto 2) := ⟨fun _ => by kernel_rfl, fun _ => by kernel_rfl, fun _ => by kernel_rfl, fun _ => by kernel_rfl, fun _ => by kernel_rfl, fun _ => by kernel_rfl, exNe_ok (by kernel_rfl), exNe_ok (by kernel_rfl), exNe_ok (by kernel_rfl)⟩
def w30l0 [Alg] (N : Nat) : Nat → (Bool × (List Int) × Int × Int × (List Int) × Int × Int × (List Int) × Int × Int × (List Bool)) → ((Bool × (List Int) × Int × Int × (List Int) × Int × Int × (List Bool)) → O) → ((Unit) → O) → ((Unit) → O) → O
 | 0, _, _, _, _ => none
 | n + 1, x, k0, k1, k2 => w30F0 N  (fun v0 v1 => w30l0 N n (x.1, x.2.1, x.2.2.1, v0, x.2.2.2.2.1, x.2.2.2.2.2.1, x.2.2.2.2.2.2.1, x.2.2.2.2.2.2.2.1, x.2.2.2.2.2.2.2.2.1, x.2.2.2.2.2.2.2.2.2.1, v1) k0 k1 k2) (fun y0 y1 y2 y3 y4 y5 y6 y7 => k0 (y0, y1, y2, y3, y4, y5, y6, y7)) x.1 x.2.1 x.2.2.1 x.2.2.2.2.1 x.2.2.2.2.2.1 x.2.2.2.2.2.2.1 x.2.2.2.2.2.2.2.1 x.2.2.2.2.2.2.2.2.1 x.2.2.2.2.2.2.2.2.2.1 x.2.2.2.1 x.2.2.2.2.2.2.2.2.2.2
def w30n0 [Alg] (N : Nat) (a0 : Bool) (a1 : (List Int)) (a2 : Int) (a3 : Int) (a4 : (List Int)) (a5 : Int) (a6 : Int) (a7 : (List Int)) (a8 : Int) (a9 : Int) (a10 : (List Bool)) (k0 : Bool → (List Int) → Int → Int → (List Int) → Int → Int → (List Bool) → O) : O := w30l0 N N (a0, a1, a2, a3, a4, a5, a6, a7, a8, a9, a10) (fun y => k0 y.1 y.2.1 y.2.2.1 y.2.2.2.1 y.2.2.2.2.1 y.2.2.2.2.2.1 y.2.2.2.2.2.2.1 y.2.2.2.2.2.2.2) (fun _ => none) (fun _ => none)
noncomputable def w30s0 [Alg] (N : Nat) (a0 : Bool) (a1 : (List Int)) (a2 : Int) (a3 : Int) (a4 : (List Int)) (a5 : Int) (a6 : Int) (a7 : (List Int)) (a8 : Int) (a9 : Int) (a10 : (List Bool)) (k0 : Bool → (List Int) → Int → Int → (List Int) → Int → Int → (List Bool) → O) : O := subL w30I0 w30u0 (w30l0 N N) (w30I0 (a0, a1, a2, a3, a4, a5, a6, a7, a8, a9, a10)) (fun y => k0 y.1 y.2.1 y.2.2.1 y.2.2.2.1 y.2.2.2.2.1 y.2.2.2.2.2.1 y.2.2.2.2.2.2.1 y.2.2.2.2.2.2.2) (fun _ => none) (fun _ => none)
theorem w30e0 [Alg] (N : Nat) : w30s0 N = w30n0 N := funext fun _ => funext fun _ => funext fun _ => funext fun _ => funext fun _ => funext fun _ => funext fun _ => funext fun _ => funext fun _ => funext fun _ => funext fun _ => funext fun _ => subL_I w30ui0 _ _ _ _
noncomputable def w30h0 [Alg] (_ : Nat) : Hint := .d
theorem w30hk0 (N : Nat) : HintOk (w30c N) Tryd.f30.ntmps (w30h0 N) w30b0 := hk_of _ _ trivial
theorem w30q0 [Alg] (N : Nat) (self : Sg → O) (K : Exit → Sg → O) (x : Bool × (List Int) × Int × Int × (List Int) × Int × Int × (List Int) × Int × Int × (List Bool)) : w30F0 N  (fun v0 v1 => self (w30I0 (x.1, x.2.1, x.2.2.1, v0, x.2.2.2.2.1, x.2.2.2.2.2.1, x.2.2.2.2.2.2.1, x.2.2.2.2.2.2.2.1, x.2.2.2.2.2.2.2.2.1, x.2.2.2.2.2.2.2.2.2.1, v1))) (fun y0 y1 y2 y3 y4 y5 y6 y7 => K (w30X0_0 (y0, y1, y2, y3, y4, y5, y6, y7)).1 (w30X0_0 (y0, y1, y2, y3, y4, y5, y6, y7)).2) x.1 x.2.1 x.2.2.1 x.2.2.2.2.1 x.2.2.2.2.2.1 x.2.2.2.2.2.2.1 x.2.2.2.2.2.2.2.1 x.2.2.2.2.2.2.2.2.1 x.2.2.2.2.2.2.2.2.2.1 x.2.2.2.1 x.2.2.2.2.2.2.2.2.2.2 = exec (w30c N) Tryd.f30.ntmps (w30h0 N) w30b0 (w30I0 x) (roundX w30m0 w30w0 self K) := by kernel_rfl
theorem w30S0 (N : Nat) (hc : CxOk (w30c N)) : SubOk (w30c N) Tryd.f30.ntmps (.loop w30b0) w30X0_0 (noX 1) (noX 2) (subL w30I0 w30u0 (w30l0 N N)) :=
 sub_loop hc (w30hk0 N) w30o0 (n := N) (fun x K => loop_ind (w30l0 N) (fun _ _ _ _ => rfl) (fun n K ih x => by
  have h : w30F0 N  (fun v0 v1 => w30l0 N n (x.1, x.2.1, x.2.2.1, v0, x.2.2.2.2.1, x.2.2.2.2.2.1, x.2.2.2.2.2.2.1, x.2.2.2.2.2.2.2.1, x.2.2.2.2.2.2.2.2.1, x.2.2.2.2.2.2.2.2.2.1, v1) (fun y => K (w30X0_0 y).1 (w30X0_0 y).2) (fun y => K ((noX 1) y).1 ((noX 1) y).2) (fun y => K ((noX 2) y).1 ((noX 2) y).2)) (fun y0 y1 y2 y3 y4 y5 y6 y7 => K (w30X0_0 (y0, y1, y2, y3, y4, y5, y6, y7)).1 (w30X0_0 (y0, y1, y2, y3, y4, y5, y6, y7)).2) x.1 x.2.1 x.2.2.1 x.2.2.2.2.1 x.2.2.2.2.2.1 x.2.2.2.2.2.2.1 x.2.2.2.2.2.2.2.1 x.2.2.2.2.2.2.2.2.1 x.2.2.2.2.2.2.2.2.2.1 x.2.2.2.1 x.2.2.2.2.2.2.2.2.2.2 = w30F0 N  (fun v0 v1 => loopX (w30c N) Tryd.f30.ntmps (w30h0 N) w30b0 w30m0 w30w0 n (w30I0 (x.1, x.2.1, x.2.2.1, v0, x.2.2.2.2.1, x.2.2.2.2.2.1, x.2.2.2.2.2.2.1, x.2.2.2.2.2.2.2.1, x.2.2.2.2.2.2.2.2.1, x.2.2.2.2.2.2.2.2.2.1, v1)) K) (fun y0 y1 y2 y3 y4 y5 y6 y7 => K (w30X0_0 (y0, y1, y2, y3, y4, y5, y6, y7)).1 (w30X0_0 (y0, y1, y2, y3, y4, y5, y6, y7)).2) x.1 x.2.1 x.2.2.1 x.2.2.2.2.1 x.2.2.2.2.2.1 x.2.2.2.2.2.2.1 x.2.2.2.2.2.2.2.1 x.2.2.2.2.2.2.2.2.1 x.2.2.2.2.2.2.2.2.2.1 x.2.2.2.1 x.2.2.2.2.2.2.2.2.2.2 := by rw [ show (fun v0 v1 => w30l0 N n (x.1, x.2.1, x.2.2.1, v0, x.2.2.2.2.1, x.2.2.2.2.2.1, x.2.2.2.2.2.2.1, x.2.2.2.2.2.2.2.1, x.2.2.2.2.2.2.2.2.1, x.2.2.2.2.2.2.2.2.2.1, v1) (fun y => K (w30X0_0 y).1 (w30X0_0 y).2) (fun y => K ((noX 1) y).1 ((noX 1) y).2) (fun y => K ((noX 2) y).1 ((noX 2) y).2)) = (fun v0 v1 => loopX (w30c N) Tryd.f30.ntmps (w30h0 N) w30b0 w30m0 w30w0 n (w30I0 (x.1, x.2.1, x.2.2.1, v0, x.2.2.2.2.1, x.2.2.2.2.2.1, x.2.2.2.2.2.2.1, x.2.2.2.2.2.2.2.1, x.2.2.2.2.2.2.2.2.1, x.2.2.2.2.2.2.2.2.2.1, v1)) K) from funext fun _ => funext fun _ => ih _]
  exact h.trans (w30q0 N (fun σ => loopX (w30c N) Tryd.f30.ntmps (w30h0 N) w30b0 w30m0 w30w0 n σ K) K x)) N x K)
def w30G [Alg] (N : Nat) (in0 : Bool → (List Int) → Int → Int → (List Int) → Int → Int → (List Int) → Int → Int → (List Bool) → (Bool → (List Int) → Int → Int → (List Int) → Int → Int → (List Bool) → O) → O) (a0_0 : (List Int)) (a0_1 : Int) (a0_2 : Int) (b1_0 : (List Int)) (b1_1 : Int) (b1_2 : Int) : O :=
 ck true <|
 ck true <|
 ck (w48p N [a0_0, b1_0]) <|
 in0 false (w48y0 N [a0_0, b1_0]) ((↑(w48y0 N [a0_0, b1_0]).length : Int)) ((0 : Int)) a0_0 a0_1 a0_2 b1_0 b1_1 b1_2 [false, false, false, false, false, false, false, false, false, false, false, false, false, false, false, false]
  (fun _ z8 z9 z10 z11 z12 z13 z14 =>
   ck (w32p N z8 z9 z10 z14) <|
   ck (!w32y0 N z8 z9 z10 z14 || w32p N z11 z12 z13 z14) <|
   some (w30r0 z14 (w32y0 N z8 z9 z10 z14 && w32y0 N z11 z12 z13 z14)))
def w30 [Alg] (N : Nat) (a0_0 : (List Int)) (a0_1 : Int) (a0_2 : Int) (b1_0 : (List Int)) (b1_1 : Int) (b1_2 : Int) : O := w30G N (w30n0 N) a0_0 a0_1 a0_2 b1_0 b1_1 b1_2
noncomputable def w30h [Alg] (N : Nat) : Hint := (.seq .d (.seq .d (.seq (.seq .d (.block (.sub w30m0 _ _ _ w30X0_0 (noX 1) (noX 2) (subL w30I0 w30u0 (w30l0 N N))))) (.seq (.reg [] [.slr 6] []) .d))))
theorem w30hk (N : Nat) (hc : CxOk (w30c N)) : HintOk (w30c N) Tryd.f30.ntmps (w30h N) w30b := hk_of _ _ (And.intro trivial (And.intro trivial (And.intro (And.intro trivial (w30S0 N hc)) (And.intro trivial trivial))))
theorem w30q [Alg] (N : Nat) (a0_0 : (List Int)) (a0_1 : Int) (a0_2 : Int) (b1_0 : (List Int)) (b1_1 : Int) (b1_2 : Int) : w30G N (w30s0 N) a0_0 a0_1 a0_2 b1_0 b1_1 b1_2 = exec (w30c N) Tryd.f30.ntmps (w30h N) w30b ⟨argT 0 [.agg [.e (.sl (.i .i64)) a0_0, .e (.i .i64) a0_1, .e (.i .i64) a0_2], .agg [.e (.sl (.i .i64)) b1_0, .e (.i .i64) b1_1, .e (.i .i64) b1_2]], [], 100⟩ (finX (w30c N) Tryd.f30 false) := by kernel_rfl
theorem w30does {N : Nat} (hc : CxOk (w30c N)) {a0_0 : (List Int)} {a0_1 : Int} {a0_2 : Int} {b1_0 : (List Int)} {b1_1 : Int} {b1_2 : Int} {r : Res} (h : w30 N a0_0 a0_1 a0_2 b1_0 b1_1 b1_2 = some r) : Does Tryd.prog 30 (([.agg [.e (.sl (.i .i64)) a0_0, .e (.i .i64) a0_1, .e (.i .i64) a0_2], .agg [.e (.sl (.i .i64)) b1_0, .e (.i .i64) b1_1, .e (.i .i64) b1_2]] : List X).map X.D) (HA []) r.1.D (HA r.2) :=
 fun_ok hc (f := 30) (fn := Tryd.f30) (code := w30b) (by kernel_rfl) (by kernel_rfl) (w30hk N hc) (Nat.le_of_ble_eq_true (by kernel_rfl)) (ow := false) ((w30q N a0_0 a0_1 a0_2 b1_0 b1_1 b1_2).symm.trans (by rw [w30e0 N]; exact h))
def w30un (r : Res) : Option ((List Bool) × Bool) := match r with
 | (.tup [x0, x1], []) => (match ue (.sl .bo) x0, ue .bo x1 with | some a0, some a1 => some (a0, a1) | _, _ => none)
 | _ => none
theorem w30uo {r : Res} {d : (List Bool) × Bool} (h : w30un r = some d) : r = w30r0 (d.1) (d.2) := by
 unfold w30un at h
 split at h
 ·split at h
  ·rename_i h0 h1; cases h; rw [ue_some h0, ue_some h1]; rfl
  ·cases h
 ·cases h
def w30z (N : Nat) (a0_0 : (List Int)) (a0_1 : Int) (a0_2 : Int) (b1_0 : (List Int)) (b1_1 : Int) (b1_2 : Int) : Option ((List Bool) × Bool) := (w30 N a0_0 a0_1 a0_2 b1_0 b1_1 b1_2).bind w30un
theorem w30fin {N : Nat} (hc : CxOk (w30c N)) {a0_0 : (List Int)} {a0_1 : Int} {a0_2 : Int} {b1_0 : (List Int)} {b1_1 : Int} {b1_2 : Int} {d : (List Bool) × Bool} (hd : w30z N a0_0 a0_1 a0_2 b1_0 b1_1 b1_2 = some d) : Does Tryd.prog 30 (([.agg [.e (.sl (.i .i64)) a0_0, .e (.i .i64) a0_1, .e (.i .i64) a0_2], .agg [.e (.sl (.i .i64)) b1_0, .e (.i .i64) b1_1, .e (.i .i64) b1_2]] : List X).map X.D) (HA []) (w30r0 (d.1) (d.2)).1.D (HA (w30r0 (d.1) (d.2)).2) := by
 obtain ⟨r, hr, hu⟩ := Option.bind_eq_some_iff.1 hd
 have := w30does hc hr
 rw [w30uo hu] at this
 exact this
def w30p (N : Nat) (a0_0 : (List Int)) (a0_1 : Int) (a0_2 : Int) (b1_0 : (List Int)) (b1_1 : Int) (b1_2 : Int) : Bool := (w30z N a0_0 a0_1 a0_2 b1_0 b1_1 b1_2).isSome
def w30y0 (N : Nat) (a0_0 : (List Int)) (a0_1 : Int) (a0_2 : Int) (b1_0 : (List Int)) (b1_1 : Int) (b1_2 : Int) : (List Bool) := ((w30z N a0_0 a0_1 a0_2 b1_0 b1_1 b1_2).getD ([], false)).1
def w30y1 (N : Nat) (a0_0 : (List Int)) (a0_1 : Int) (a0_2 : Int) (b1_0 : (List Int)) (b1_1 : Int) (b1_2 : Int) : Bool := ((w30z N a0_0 a0_1 a0_2 b1_0 b1_1 b1_2).getD ([], false)).2
def w30e (N : Nat) : Ent' := E2 (.pr (.sl (.i .i64)) (.pr (.i .i64) (.i .i64))) (.pr (.sl (.i .i64)) (.pr (.i .i64) (.i .i64)))  (fun x0 x1 => (w30p N x0.1 x0.2.1 x0.2.2 x1.1 x1.2.1 x1.2.2, w30r0 (w30y0 N x0.1 x0.2.1 x0.2.2 x1.1 x1.2.1 x1.2.2) (w30y1 N x0.1 x0.2.1 x0.2.2 x1.1 x1.2.1 x1.2.2)))
theorem w30re {N : Nat} {a0_0 : (List Int)} {a0_1 : Int} {a0_2 : Int} {b1_0 : (List Int)} {b1_1 : Int} {b1_2 : Int} {d : (List Bool) × Bool} (hd : w30z N a0_0 a0_1 a0_2 b1_0 b1_1 b1_2 = some d) : w30r0 (w30y0 N a0_0 a0_1 a0_2 b1_0 b1_1 b1_2) (w30y1 N a0_0 a0_1 a0_2 b1_0 b1_1 b1_2) = w30r0 (d.1) (d.2) := by unfold w30y0 w30y1; rw [hd]; rfl
theorem w30ok (N : Nat) : EOk Tryd.prog 30 (w30e N) := EOk.e2 (fun x0 x1 h => by
 have h : (w30z N x0.1 x0.2.1 x0.2.2 x1.1 x1.2.1 x1.2.2).isSome = true := h
 obtain ⟨d, hd⟩ := Option.isSome_iff_exists.1 h
 have f := w30fin (w30cx N) hd
 rw [← w30re hd] at f
 exact f)
def w41r0 (a0 : (List ((List UInt8) × Int))) (a1 : Int) : Res := (.tup [.e (.sl (.pr .tx (.i .i64))) a0, .e (.i .i64) a1], [])
noncomputable def w41L (_ : Nat) : List (Nat × Ent') := []
noncomputable def w41c (N : Nat) : Cx := ⟨Tryd.prog, 99999, w41L N⟩
noncomputable def w41b : Code := Tryd.f41.body.getD .skip
theorem w41cx (N : Nat) : CxOk (w41c N) := ctx_ok (by kernel_rfl) .nil
def w41F0 [Alg] (_ : Nat)  (self : Int → O) (k0 : (List UInt8) → Int → Int → Int → (List UInt8) → Int → Bool → Int → Int → Int → (List UInt8) → Int → Bool → Bool → Bool → Bool → Bool → (List ((List UInt8) × Int)) → O) (x81_0 : (List UInt8)) (x81_1 : Int) (x81_3 : Int) (x81_4 : (List UInt8)) (x81_5 : Int) (x81_6 : Bool) (x81_7 : Int) (x81_8 : Int) (x81_9 : (List ((List UInt8) × Int))) (x81_2 : Int) : O :=
 gc (decide (x81_2 < (↑x81_0.length : Int))) ((0 : UInt8)) x81_0 x81_2 fun y86 =>
 gc (decide (x81_2 < (↑x81_0.length : Int)) && decide ((32 : UInt8) < y86)) ((0 : UInt8)) x81_0 x81_2 fun y87 =>
 br (decide (x81_2 < (↑x81_0.length : Int)) && decide ((32 : UInt8) < y86) && decide (y87 < (127 : UInt8)))
  (self (IntKind.i64.wrap (x81_2 + (1 : Int))))
  (k0 x81_0 x81_1 x81_2 x81_3 x81_4 x81_5 x81_6 x81_7 x81_8 x81_2 x81_0 ((↑x81_0.length : Int)) (decide (x81_2 < (↑x81_0.length : Int))) (decide (x81_2 < (↑x81_0.length : Int))) (decide (x81_2 < (↑x81_0.length : Int)) && decide ((32 : UInt8) < y86)) (decide (x81_2 < (↑x81_0.length : Int)) && decide ((32 : UInt8) < y86)) (decide (x81_2 < (↑x81_0.length : Int)) && decide ((32 : UInt8) < y86) && decide (y87 < (127 : UInt8))) x81_9)
noncomputable def w41b0 : Code := atC [1, 1, 0, 1, 0, 0, 1, 0, 1, 0, 0, 0] w41b
def w41m0 : Nm := ⟨[0, 2, 3, 4, 5, 7, 8, 9, 10, 11, 6], [], []⟩
def w41I0 (x : (List UInt8) × Int × Int × Int × (List UInt8) × Int × Bool × Int × Int × (List ((List UInt8) × Int))) : Sg := ⟨[(0, .e .tx x.1), (2, .nilS), (3, .e (.i .i64) x.2.1), (4, .own 0), (5, .e (.i .i64) x.2.2.1), (7, .e (.i .i64) x.2.2.2.1), (8, .e .tx x.2.2.2.2.1), (9, .e (.i .i64) x.2.2.2.2.2.1), (10, .e .bo x.2.2.2.2.2.2.1), (11, .e (.i .i64) x.2.2.2.2.2.2.2.1), (6, .e (.i .i64) x.2.2.2.2.2.2.2.2.1)], [(0, .row 92 (.pr .tx (.i .i64)) x.2.2.2.2.2.2.2.2.2 true)], 100⟩
def w41u0 (σ : Sg) : (List UInt8) × Int × Int × Int × (List UInt8) × Int × Bool × Int × Int × (List ((List UInt8) × Int)) := (lvT .tx 0 0 σ, lvT (.i .i64) 3 0 σ, lvT (.i .i64) 5 0 σ, lvT (.i .i64) 7 0 σ, lvT .tx 8 0 σ, lvT (.i .i64) 9 0 σ, lvT .bo 10 0 σ, lvT (.i .i64) 11 0 σ, lvT (.i .i64) 6 0 σ, lvR (.pr .tx (.i .i64)) 0 σ)
theorem w41ui0 : ∀ x, w41u0 (w41I0 x) = x := fun _ => by kernel_rfl
def w41X0_0 (y : (List UInt8) × Int × Int × Int × (List UInt8) × Int × Bool × Int × Int × Int × (List UInt8) × Int × Bool × Bool × Bool × Bool × Bool × (List ((List UInt8) × Int))) : Exit × Sg := ((.exit 2), ⟨[(0, .e .tx y.1), (2, .nilS), (3, .e (.i .i64) y.2.1), (4, .own 0), (5, .e (.i .i64) y.2.2.1), (7, .e (.i .i64) y.2.2.2.1), (8, .e .tx y.2.2.2.2.1), (9, .e (.i .i64) y.2.2.2.2.2.1), (10, .e .bo y.2.2.2.2.2.2.1), (11, .e (.i .i64) y.2.2.2.2.2.2.2.1), (6, .e (.i .i64) y.2.2.2.2.2.2.2.2.1), (12, .e (.i .i64) y.2.2.2.2.2.2.2.2.2.1), (13, .e .tx y.2.2.2.2.2.2.2.2.2.2.1), (14, .e (.i .i64) y.2.2.2.2.2.2.2.2.2.2.2.1), (15, .e .bo y.2.2.2.2.2.2.2.2.2.2.2.2.1), (16, .e .bo y.2.2.2.2.2.2.2.2.2.2.2.2.2.1), (21, .e .bo y.2.2.2.2.2.2.2.2.2.2.2.2.2.2.1), (22, .e .bo y.2.2.2.2.2.2.2.2.2.2.2.2.2.2.2.1), (27, .e .bo y.2.2.2.2.2.2.2.2.2.2.2.2.2.2.2.2.1)], [(0, .row 92 (.pr .tx (.i .i64)) y.2.2.2.2.2.2.2.2.2.2.2.2.2.2.2.2.2 true)], 100⟩)
def w41v0_0 (σ : Sg) : (List UInt8) × Int × Int × Int × (List UInt8) × Int × Bool × Int × Int × Int × (List UInt8) × Int × Bool × Bool × Bool × Bool × Bool × (List ((List UInt8) × Int)) := (lvT .tx 0 0 σ, lvT (.i .i64) 3 0 σ, lvT (.i .i64) 5 0 σ, lvT (.i .i64) 7 0 σ, lvT .tx 8 0 σ, lvT (.i .i64) 9 0 σ, lvT .bo 10 0 σ, lvT (.i .i64) 11 0 σ, lvT (.i .i64) 6 0 σ, lvT (.i .i64) 12 0 σ, lvT .tx 13 0 σ, lvT (.i .i64) 14 0 σ, lvT .bo 15 0 σ, lvT .bo 16 0 σ, lvT .bo 21 0 σ, lvT .bo 22 0 σ, lvT .bo 27 0 σ, lvR (.pr .tx (.i .i64)) 0 σ)
def w41w0 : List (Exit × Nm) := [((.exit 2), ⟨[0, 2, 3, 4, 5, 7, 8, 9, 10, 11, 6, 12, 13, 14, 15, 16, 21, 22, 27], [], []⟩)]
theorem w41o0 : Outs w41v0_0 (fun _ => ()) (fun _ => ()) w41X0_0 (noX 1) (noX 2) (.exit 2) (.goto 1) (.goto 2) := ⟨fun _ => by kernel_rfl, fun _ => by kernel_rfl, fun _ => by kernel_rfl, fun _ => by kernel_rfl, fun _ => by kernel_rfl, fun _ => by kernel_rfl, exNe_ok (by kernel_rfl), exNe_ok (by kernel_rfl), exNe_ok (by kernel_rfl)⟩
def w41l0 [Alg] (N : Nat) : Nat → ((List UInt8) × Int × Int × Int × (List UInt8) × Int × Bool × Int × Int × (List ((List UInt8) × Int))) → (((List UInt8) × Int × Int × Int × (List UInt8) × Int × Bool × Int × Int × Int × (List UInt8) × Int × Bool × Bool × Bool × Bool × Bool × (List ((List UInt8) × Int))) → O) → ((Unit) → O) → ((Unit) → O) → O
 | 0, _, _, _, _ => none
 | n + 1, x, k0, k1, k2 => w41F0 N  (fun v0 => w41l0 N n (x.1, x.2.1, v0, x.2.2.2.1, x.2.2.2.2.1, x.2.2.2.2.2.1, x.2.2.2.2.2.2.1, x.2.2.2.2.2.2.2.1, x.2.2.2.2.2.2.2.2.1, x.2.2.2.2.2.2.2.2.2) k0 k1 k2) (fun y0 y1 y2 y3 y4 y5 y6 y7 y8 y9 y10 y11 y12 y13 y14 y15 y16 y17 => k0 (y0, y1, y2, y3, y4, y5, y6, y7, y8, y9, y10, y11, y12, y13, y14, y15, y16, y17)) x.1 x.2.1 x.2.2.2.1 x.2.2.2.2.1 x.2.2.2.2.2.1 x.2.2.2.2.2.2.1 x.2.2.2.2.2.2.2.1 x.2.2.2.2.2.2.2.2.1 x.2.2.2.2.2.2.2.2.2 x.2.2.1
def w41n0 [Alg] (N : Nat) (a0 : (List UInt8)) (a1 : Int) (a2 : Int) (a3 : Int) (a4 : (List UInt8)) (a5 : Int) (a6 : Bool) (a7 : Int) (a8 : Int) (a9 : (List ((List UInt8) × Int))) (k0 : (List UInt8) → Int → Int → Int → (List UInt8) → Int → Bool → Int → Int → Int → (List UInt8) → Int → Bool → Bool → Bool → Bool → Bool → (List ((List UInt8) × Int)) → O) : O := w41l0 N N (a0, a1, a2, a3, a4, a5, a6, a7, a8, a9) (fun y => k0 y.1 y.2.1 y.2.2.1 y.2.2.2.1 y.2.2.2.2.1 y.2.2.2.2.2.1 y.2.2.2.2.2.2.1 y.2.2.2.2.2.2.2.1 y.2.2.2.2.2.2.2.2.1 y.2.2.2.2.2.2.2.2.2.1 y.2.2.2.2.2.2.2.2.2.2.1 y.2.2.2.2.2.2.2.2.2.2.2.1 y.2.2.2.2.2.2.2.2.2.2.2.2.1 y.2.2.2.2.2.2.2.2.2.2.2.2.2.1 y.2.2.2.2.2.2.2.2.2.2.2.2.2.2.1 y.2.2.2.2.2.2.2.2.2.2.2.2.2.2.2.1 y.2.2.2.2.2.2.2.2.2.2.2.2.2.2.2.2.1 y.2.2.2.2.2.2.2.2.2.2.2.2.2.2.2.2.2) (fun _ => none) (fun _ => none)
noncomputable def w41s0 [Alg] (N : Nat) (a0 : (List UInt8)) (a1 : Int) (a2 : Int) (a3 : Int) (a4 : (List UInt8)) (a5 : Int) (a6 : Bool) (a7 : Int) (a8 : Int) (a9 : (List ((List UInt8) × Int))) (k0 : (List UInt8) → Int → Int → Int → (List UInt8) → Int → Bool → Int → Int → Int → (List UInt8) → Int → Bool → Bool → Bool → Bool → Bool → (List ((List UInt8) × Int)) → O) : O := subL w41I0 w41u0 (w41l0 N N) (w41I0 (a0, a1, a2, a3, a4, a5, a6, a7, a8, a9)) (fun y => k0 y.1 y.2.1 y.2.2.1 y.2.2.2.1 y.2.2.2.2.1 y.2.2.2.2.2.1 y.2.2.2.2.2.2.1 y.2.2.2.2.2.2.2.1 y.2.2.2.2.2.2.2.2.1 y.2.2.2.2.2.2.2.2.2.1 y.2.2.2.2.2.2.2.2.2.2.1 y.2.2.2.2.2.2.2.2.2.2.2.1 y.2.2.2.2.2.2.2.2.2.2.2.2.1 y.2.2.2.2.2.2.2.2.2.2.2.2.2.1 y.2.2.2.2.2.2.2.2.2.2.2.2.2.2.1 y.2.2.2.2.2.2.2.2.2.2.2.2.2.2.2.1 y.2.2.2.2.2.2.2.2.2.2.2.2.2.2.2.2.1 y.2.2.2.2.2.2.2.2.2.2.2.2.2.2.2.2.2) (fun _ => none) (fun _ => none)
theorem w41e0 [Alg] (N : Nat) : w41s0 N = w41n0 N := funext fun _ => funext fun _ => funext fun _ => funext fun _ => funext fun _ => funext fun _ => funext fun _ => funext fun _ => funext fun _ => funext fun _ => funext fun _ => subL_I w41ui0 _ _ _ _
noncomputable def w41h0 [Alg] (_ : Nat) : Hint := .d
theorem w41hk0 (N : Nat) : HintOk (w41c N) Tryd.f41.ntmps (w41h0 N) w41b0 := hk_of _ _ trivial
theorem w41q0 [Alg] (N : Nat) (self : Sg → O) (K : Exit → Sg → O) (x : (List UInt8) × Int × Int × Int × (List UInt8) × Int × Bool × Int × Int × (List ((List UInt8) × Int))) : w41F0 N  (fun v0 => self (w41I0 (x.1, x.2.1, v0, x.2.2.2.1, x.2.2.2.2.1, x.2.2.2.2.2.1, x.2.2.2.2.2.2.1, x.2.2.2.2.2.2.2.1, x.2.2.2.2.2.2.2.2.1, x.2.2.2.2.2.2.2.2.2))) (fun y0 y1 y2 y3 y4 y5 y6 y7 y8 y9 y10 y11 y12 y13 y14 y15 y16 y17 => K (w41X0_0 (y0, y1, y2, y3, y4, y5, y6, y7, y8, y9, y10, y11, y12, y13, y14, y15, y16, y17)).1 (w41X0_0 (y0, y1, y2, y3, y4, y5, y6, y7, y8, y9, y10, y11, y12, y13, y14, y15, y16, y17)).2) x.1 x.2.1 x.2.2.2.1 x.2.2.2.2.1 x.2.2.2.2.2.1 x.2.2.2.2.2.2.1 x.2.2.2.2.2.2.2.1 x.2.2.2.2.2.2.2.2.1 x.2.2.2.2.2.2.2.2.2 x.2.2.1 = exec (w41c N) Tryd.f41.ntmps (w41h0 N) w41b0 (w41I0 x) (roundX w41m0 w41w0 self K) := by kernel_rfl
theorem w41S0 (N : Nat) (hc : CxOk (w41c N)) : SubOk (w41c N) Tryd.f41.ntmps (.loop w41b0) w41X0_0 (noX 1) (noX 2) (subL w41I0 w41u0 (w41l0 N N)) :=
 sub_loop hc (w41hk0 N) w41o0 (n := N) (fun x K => loop_ind (w41l0 N) (fun _ _ _ _ => rfl) (fun n K ih x => by
  have h : w41F0 N  (fun v0 => w41l0 N n (x.1, x.2.1, v0, x.2.2.2.1, x.2.2.2.2.1, x.2.2.2.2.2.1, x.2.2.2.2.2.2.1, x.2.2.2.2.2.2.2.1, x.2.2.2.2.2.2.2.2.1, x.2.2.2.2.2.2.2.2.2) (fun y => K (w41X0_0 y).1 (w41X0_0 y).2) (fun y => K ((noX 1) y).1 ((noX 1) y).2) (fun y => K ((noX 2) y).1 ((noX 2) y).2)) (fun y0 y1 y2 y3 y4 y5 y6 y7 y8 y9 y10 y11 y12 y13 y14 y15 y16 y17 => K (w41X0_0 (y0, y1, y2, y3, y4, y5, y6, y7, y8, y9, y10, y11, y12, y13, y14, y15, y16, y17)).1 (w41X0_0 (y0, y1, y2, y3, y4, y5, y6, y7, y8, y9, y10, y11, y12, y13, y14, y15, y16, y17)).2) x.1 x.2.1 x.2.2.2.1 x.2.2.2.2.1 x.2.2.2.2.2.1 x.2.2.2.2.2.2.1 x.2.2.2.2.2.2.2.1 x.2.2.2.2.2.2.2.2.1 x.2.2.2.2.2.2.2.2.2 x.2.2.1 = w41F0 N  (fun v0 => loopX (w41c N) Tryd.f41.ntmps (w41h0 N) w41b0 w41m0 w41w0 n (w41I0 (x.1, x.2.1, v0, x.2.2.2.1, x.2.2.2.2.1, x.2.2.2.2.2.1, x.2.2.2.2.2.2.1, x.2.2.2.2.2.2.2.1, x.2.2.2.2.2.2.2.2.1, x.2.2.2.2.2.2.2.2.2)) K) (fun y0 y1 y2 y3 y4 y5 y6 y7 y8 y9 y10 y11 y12 y13 y14 y15 y16 y17 => K (w41X0_0 (y0, y1, y2, y3, y4, y5, y6, y7, y8, y9, y10, y11, y12, y13, y14, y15, y16, y17)).1 (w41X0_0 (y0, y1, y2, y3, y4, y5, y6, y7, y8, y9, y10, y11, y12, y13, y14, y15, y16, y17)).2) x.1 x.2.1 x.2.2.2.1 x.2.2.2.2.1 x.2.2.2.2.2.1 x.2.2.2.2.2.2.1 x.2.2.2.2.2.2.2.1 x.2.2.2.2.2.2.2.2.1 x.2.2.2.2.2.2.2.2.2 x.2.2.1 := by rw [ show (fun v0 => w41l0 N n (x.1, x.2.1, v0, x.2.2.2.1, x.2.2.2.2.1, x.2.2.2.2.2.1, x.2.2.2.2.2.2.1, x.2.2.2.2.2.2.2.1, x.2.2.2.2.2.2.2.2.1, x.2.2.2.2.2.2.2.2.2) (fun y => K (w41X0_0 y).1 (w41X0_0 y).2) (fun y => K ((noX 1) y).1 ((noX 1) y).2) (fun y => K ((noX 2) y).1 ((noX 2) y).2)) = (fun v0 => loopX (w41c N) Tryd.f41.ntmps (w41h0 N) w41b0 w41m0 w41w0 n (w41I0 (x.1, x.2.1, v0, x.2.2.2.1, x.2.2.2.2.1, x.2.2.2.2.2.1, x.2.2.2.2.2.2.1, x.2.2.2.2.2.2.2.1, x.2.2.2.2.2.2.2.2.1, x.2.2.2.2.2.2.2.2.2)) K) from funext fun _ => ih _]
  exact h.trans (w41q0 N (fun σ => loopX (w41c N) Tryd.f41.ntmps (w41h0 N) w41b0 w41m0 w41w0 n σ K) K x)) N x K)
def w41F1 [Alg] (_ : Nat) (in0 : (List UInt8) → Int → Int → Int → (List UInt8) → Int → Bool → Int → Int → (List ((List UInt8) × Int)) → ((List UInt8) → Int → Int → Int → (List UInt8) → Int → Bool → Int → Int → Int → (List UInt8) → Int → Bool → Bool → Bool → Bool → Bool → (List ((List UInt8) × Int)) → O) → O) (self : (List UInt8) → Int → Int → (List ((List UInt8) × Int)) → O) (k0 : Int → (List ((List UInt8) × Int)) → O) (k1 : (List UInt8) → Int → (List ((List UInt8) × Int)) → O) (x0_0 : (List UInt8)) (x0_1 : Int) (x0_2 : Int) (x0_3 : (List ((List UInt8) × Int))) : O :=
 br (decide (x0_2 < (↑x0_0.length : Int)))
  (in0 x0_0 x0_1 x0_2 x0_2 x0_0 ((↑x0_0.length : Int)) (decide (x0_2 < (↑x0_0.length : Int))) x0_2 x0_2 x0_3
   (fun z88 z89 z90 _ _ _ _ _ z96 _ _ _ _ _ _ _ _ z105 =>
    br (decide (z96 < z90))
     (ck (slcOk z88.length (some z96) (some z90)) <|
     ck (lim (z105 ++ [(slc z88 (some z96) (some z90), z96)]).length (24 : Nat)) <|
     self z88 z89 z90 (z105 ++ [(slc z88 (some z96) (some z90), z96)]))
     (gx z88 z90 fun y106 =>
     gc (!decide (y106 = (32 : UInt8))) ((0 : UInt8)) z88 z90 fun y107 =>
     br (decide (y106 = (32 : UInt8)) || decide (y107 = (10 : UInt8)))
      (self z88 z89 (IntKind.i64.wrap (z90 + (1 : Int))) z105)
      (k0 z90 z105))))
  (k1 x0_0 x0_1 x0_3)
noncomputable def w41b1 : Code := atC [1, 1, 0, 1, 0, 0] w41b
def w41m1 : Nm := ⟨[0, 2, 3, 4, 5], [], [.nilR 4 (.row 92 (.pr .tx (.i .i64)) [] true)]⟩
def w41I1 (x : (List UInt8) × Int × Int × (List ((List UInt8) × Int))) : Sg := ⟨[(0, .e .tx x.1), (2, .nilS), (3, .e (.i .i64) x.2.1), (4, .own 0), (5, .e (.i .i64) x.2.2.1)], [(0, .row 92 (.pr .tx (.i .i64)) x.2.2.2 true)], 100⟩
def w41u1 (σ : Sg) : (List UInt8) × Int × Int × (List ((List UInt8) × Int)) := (lvT .tx 0 0 σ, lvT (.i .i64) 3 0 σ, lvT (.i .i64) 5 0 σ, lvR (.pr .tx (.i .i64)) 0 σ)
theorem w41ui1 : ∀ x, w41u1 (w41I1 x) = x := fun _ => by kernel_rfl
def w41X1_0 (y : Int × (List ((List UInt8) × Int))) : Exit × Sg := (.ret, ⟨[(2, .own 0), (3, .e (.i .i64) y.1)], [(0, .row 92 (.pr .tx (.i .i64)) y.2 true)], 100⟩)
def w41v1_0 (σ : Sg) : Int × (List ((List UInt8) × Int)) := (lvT (.i .i64) 3 0 σ, lvR (.pr .tx (.i .i64)) 0 σ)
def w41X1_1 (y : (List UInt8) × Int × (List ((List UInt8) × Int))) : Exit × Sg := ((.exit 0), ⟨[(0, .e .tx y.1), (2, .nilS), (3, .e (.i .i64) y.2.1), (4, .own 0)], [(0, .row 92 (.pr .tx (.i .i64)) y.2.2 true)], 100⟩)
def w41v1_1 (σ : Sg) : (List UInt8) × Int × (List ((List UInt8) × Int)) := (lvT .tx 0 0 σ, lvT (.i .i64) 3 0 σ, lvR (.pr .tx (.i .i64)) 0 σ)
def w41w1 : List (Exit × Nm) := [(.ret, ⟨[2, 3], [], []⟩), ((.exit 0), ⟨[0, 2, 3, 4], [], []⟩)]
theorem w41o1 : Outs w41v1_0 w41v1_1 (fun _ => ()) w41X1_0 w41X1_1 (noX 2) .ret (.exit 0) (.goto 2) := ⟨fun _ => by kernel_rfl, fun _ => by kernel_rfl, fun _ => by kernel_rfl, fun _ => by kernel_rfl, fun _ => by kernel_rfl, fun _ => by kernel_rfl, exNe_ok (by kernel_rfl), exNe_ok (by kernel_rfl), exNe_ok (by kernel_rfl)⟩
def w41l1 [Alg] (N : Nat) : Nat → ((List UInt8) × Int × Int × (List ((List UInt8) × Int))) → ((Int × (List ((List UInt8) × Int))) → O) → (((List UInt8) × Int × (List ((List UInt8) × Int))) → O) → ((Unit) → O) → O
 | 0, _, _, _, _ => none
 | n + 1, x, k0, k1, k2 => w41F1 N (w41n0 N) (fun v0 v1 v2 v3 => w41l1 N n (v0, v1, v2, v3) k0 k1 k2) (fun y0 y1 => k0 (y0, y1)) (fun y0 y1 y2 => k1 (y0, y1, y2)) x.1 x.2.1 x.2.2.1 x.2.2.2
def w41n1 [Alg] (N : Nat) (a0 : (List UInt8)) (a1 : Int) (a2 : Int) (a3 : (List ((List UInt8) × Int))) (k0 : Int → (List ((List UInt8) × Int)) → O) (k1 : (List UInt8) → Int → (List ((List UInt8) × Int)) → O) : O := w41l1 N N (a0, a1, a2, a3) (fun y => k0 y.1 y.2) (fun y => k1 y.1 y.2.1 y.2.2) (fun _ => none)
noncomputable def w41s1 [Alg] (N : Nat) (a0 : (List UInt8)) (a1 : Int) (a2 : Int) (a3 : (List ((List UInt8) × Int))) (k0 : Int → (List ((List UInt8) × Int)) → O) (k1 : (List UInt8) → Int → (List ((List UInt8) × Int)) → O) : O := subL w41I1 w41u1 (w41l1 N N) (w41I1 (a0, a1, a2, a3)) (fun y => k0 y.1 y.2) (fun y => k1 y.1 y.2.1 y.2.2) (fun _ => none)
theorem w41e1 [Alg] (N : Nat) : w41s1 N = w41n1 N := funext fun _ => funext fun _ => funext fun _ => funext fun _ => funext fun _ => funext fun _ => subL_I w41ui1 _ _ _ _
noncomputable def w41h1 [Alg] (N : Nat) : Hint := (.seq .d (.block (.seq .d (.seq (.block (.sub w41m0 _ _ _ w41X0_0 (noX 1) (noX 2) (subL w41I0 w41u0 (w41l0 N N)))) .d))))
theorem w41hk1 (N : Nat) (hc : CxOk (w41c N)) : HintOk (w41c N) Tryd.f41.ntmps (w41h1 N) w41b1 := hk_of _ _ (And.intro trivial (And.intro trivial (And.intro (w41S0 N hc) trivial)))
theorem w41q1 [Alg] (N : Nat) (self : Sg → O) (K : Exit → Sg → O) (x : (List UInt8) × Int × Int × (List ((List UInt8) × Int))) : w41F1 N (w41s0 N) (fun v0 v1 v2 v3 => self (w41I1 (v0, v1, v2, v3))) (fun y0 y1 => K (w41X1_0 (y0, y1)).1 (w41X1_0 (y0, y1)).2) (fun y0 y1 y2 => K (w41X1_1 (y0, y1, y2)).1 (w41X1_1 (y0, y1, y2)).2) x.1 x.2.1 x.2.2.1 x.2.2.2 = exec (w41c N) Tryd.f41.ntmps (w41h1 N) w41b1 (w41I1 x) (roundX w41m1 w41w1 self K) := by kernel_rfl
theorem w41S1 (N : Nat) (hc : CxOk (w41c N)) : SubOk (w41c N) Tryd.f41.ntmps (.loop w41b1) w41X1_0 w41X1_1 (noX 2) (subL w41I1 w41u1 (w41l1 N N)) :=
 sub_loop hc (w41hk1 N hc) w41o1 (n := N) (fun x K => loop_ind (w41l1 N) (fun _ _ _ _ => rfl) (fun n K ih x => by
  have h : w41F1 N (w41n0 N) (fun v0 v1 v2 v3 => w41l1 N n (v0, v1, v2, v3) (fun y => K (w41X1_0 y).1 (w41X1_0 y).2) (fun y => K (w41X1_1 y).1 (w41X1_1 y).2) (fun y => K ((noX 2) y).1 ((noX 2) y).2)) (fun y0 y1 => K (w41X1_0 (y0, y1)).1 (w41X1_0 (y0, y1)).2) (fun y0 y1 y2 => K (w41X1_1 (y0, y1, y2)).1 (w41X1_1 (y0, y1, y2)).2) x.1 x.2.1 x.2.2.1 x.2.2.2 = w41F1 N (w41s0 N) (fun v0 v1 v2 v3 => loopX (w41c N) Tryd.f41.ntmps (w41h1 N) w41b1 w41m1 w41w1 n (w41I1 (v0, v1, v2, v3)) K) (fun y0 y1 => K (w41X1_0 (y0, y1)).1 (w41X1_0 (y0, y1)).2) (fun y0 y1 y2 => K (w41X1_1 (y0, y1, y2)).1 (w41X1_1 (y0, y1, y2)).2) x.1 x.2.1 x.2.2.1 x.2.2.2 := by rw [w41e0 N, show (fun v0 v1 v2 v3 => w41l1 N n (v0, v1, v2, v3) (fun y => K (w41X1_0 y).1 (w41X1_0 y).2) (fun y => K (w41X1_1 y).1 (w41X1_1 y).2) (fun y => K ((noX 2) y).1 ((noX 2) y).2)) = (fun v0 v1 v2 v3 => loopX (w41c N) Tryd.f41.ntmps (w41h1 N) w41b1 w41m1 w41w1 n (w41I1 (v0, v1, v2, v3)) K) from funext fun _ => funext fun _ => funext fun _ => funext fun _ => ih _]
  exact h.trans (w41q1 N (fun σ => loopX (w41c N) Tryd.f41.ntmps (w41h1 N) w41b1 w41m1 w41w1 n σ K) K x)) N x K)
def w41G [Alg] (_ : Nat) (_in0 : (List UInt8) → Int → Int → Int → (List UInt8) → Int → Bool → Int → Int → (List ((List UInt8) × Int)) → ((List UInt8) → Int → Int → Int → (List UInt8) → Int → Bool → Int → Int → Int → (List UInt8) → Int → Bool → Bool → Bool → Bool → Bool → (List ((List UInt8) × Int)) → O) → O) (in1 : (List UInt8) → Int → Int → (List ((List UInt8) × Int)) → (Int → (List ((List UInt8) × Int)) → O) → ((List UInt8) → Int → (List ((List UInt8) × Int)) → O) → O) (s0 : (List UInt8)) : O :=
 in1 s0 ((0 : Int)) ((0 : Int)) []
  (fun z108 z109 =>
   some (w41r0 z109 z108))
  (fun z110 _ z112 =>
   some (w41r0 z112 ((↑z110.length : Int))))
def w41 [Alg] (N : Nat) (s0 : (List UInt8)) : O := w41G N (w41n0 N) (w41n1 N) s0
noncomputable def w41h [Alg] (N : Nat) : Hint := (.seq .d (.seq .d (.seq (.seq .d (.block (.sub w41m1 _ _ _ w41X1_0 w41X1_1 (noX 2) (subL w41I1 w41u1 (w41l1 N N))))) .d)))
theorem w41hk (N : Nat) (hc : CxOk (w41c N)) : HintOk (w41c N) Tryd.f41.ntmps (w41h N) w41b := hk_of _ _ (And.intro trivial (And.intro trivial (And.intro (And.intro trivial (w41S1 N hc)) trivial)))
theorem w41q [Alg] (N : Nat) (s0 : (List UInt8)) : w41G N (w41s0 N) (w41s1 N) s0 = exec (w41c N) Tryd.f41.ntmps (w41h N) w41b ⟨argT 0 [.e .tx s0], [], 100⟩ (finX (w41c N) Tryd.f41 false) := by kernel_rfl
theorem w41does {N : Nat} (hc : CxOk (w41c N)) {s0 : (List UInt8)} {r : Res} (h : w41 N s0 = some r) : Does Tryd.prog 41 (([.e .tx s0] : List X).map X.D) (HA []) r.1.D (HA r.2) :=
 fun_ok hc (f := 41) (fn := Tryd.f41) (code := w41b) (by kernel_rfl) (by kernel_rfl) (w41hk N hc) (Nat.le_of_ble_eq_true (by kernel_rfl)) (ow := false) ((w41q N s0).symm.trans (by rw [w41e0 N, w41e1 N]; exact h))
def w41un (r : Res) : Option ((List ((List UInt8) × Int)) × Int) := match r with
 | (.tup [x0, x1], []) => (match ue (.sl (.pr .tx (.i .i64))) x0, ue (.i .i64) x1 with | some a0, some a1 => some (a0, a1) | _, _ => none)
 | _ => none
theorem w41uo {r : Res} {d : (List ((List UInt8) × Int)) × Int} (h : w41un r = some d) : r = w41r0 (d.1) (d.2) := by
 unfold w41un at h
 split at h
 ·split at h
  ·rename_i h0 h1; cases h; rw [ue_some h0, ue_some h1]; rfl
  ·cases h
 ·cases h
def w41z (N : Nat) (s0 : (List UInt8)) : Option ((List ((List UInt8) × Int)) × Int) := (w41 N s0).bind w41un
theorem w41fin {N : Nat} (hc : CxOk (w41c N)) {s0 : (List UInt8)} {d : (List ((List UInt8) × Int)) × Int} (hd : w41z N s0 = some d) : Does Tryd.prog 41 (([.e .tx s0] : List X).map X.D) (HA []) (w41r0 (d.1) (d.2)).1.D (HA (w41r0 (d.1) (d.2)).2) := by
 obtain ⟨r, hr, hu⟩ := Option.bind_eq_some_iff.1 hd
 have := w41does hc hr
 rw [w41uo hu] at this
 exact this
def w41p (N : Nat) (s0 : (List UInt8)) : Bool := (w41z N s0).isSome
def w41y0 (N : Nat) (s0 : (List UInt8)) : (List ((List UInt8) × Int)) := ((w41z N s0).getD ([], 0)).1
def w41y1 (N : Nat) (s0 : (List UInt8)) : Int := ((w41z N s0).getD ([], 0)).2
def w41e (N : Nat) : Ent' := E1 .tx  (fun x0 => (w41p N x0, w41r0 (w41y0 N x0) (w41y1 N x0)))
theorem w41re {N : Nat} {s0 : (List UInt8)} {d : (List ((List UInt8) × Int)) × Int} (hd : w41z N s0 = some d) : w41r0 (w41y0 N s0) (w41y1 N s0) = w41r0 (d.1) (d.2) := by unfold w41y0 w41y1; rw [hd]; rfl
theorem w41ok (N : Nat) : EOk Tryd.prog 41 (w41e N) := EOk.e1 (fun x0 h => by
 have h : (w41z N x0).isSome = true := h
 obtain ⟨d, hd⟩ := Option.isSome_iff_exists.1 h
 have f := w41fin (w41cx N) hd
 rw [← w41re hd] at f
 exact f)
def w58r0 (a0 : (List UInt8)) (a1 : (List ((List UInt8) × Int))) (a2 : Int) (a3 : Bool) : Res := (.e .tx a0, [(50, .box 89 [.e (.sl (.pr .tx (.i .i64))) a1, .e (.i .i64) a2, .e .bo a3])])
noncomputable def w58L (_ : Nat) : List (Nat × Ent') := []
noncomputable def w58c (N : Nat) : Cx := ⟨Tryd.prog, 99999, w58L N⟩
noncomputable def w58b : Code := Tryd.f58.body.getD .skip
theorem w58cx (N : Nat) : CxOk (w58c N) := ctx_ok (by kernel_rfl) .nil
def w58G [Alg] (_ : Nat)  (h50_0 : (List ((List UInt8) × Int))) (h50_1 : Int) (h50_2 : Bool) : O :=
 br (decide (h50_1 < (↑h50_0.length : Int)))
  (gx h50_0 h50_1 fun y0 =>
  some (w58r0 y0.1 h50_0 h50_1 h50_2))
  (some (w58r0 [] h50_0 h50_1 h50_2))
def w58 [Alg] (N : Nat) (h50_0 : (List ((List UInt8) × Int))) (h50_1 : Int) (h50_2 : Bool) : O := w58G N  h50_0 h50_1 h50_2
noncomputable def w58h [Alg] (_ : Nat) : Hint := .d
theorem w58hk (N : Nat) : HintOk (w58c N) Tryd.f58.ntmps (w58h N) w58b := hk_of _ _ trivial
theorem w58q [Alg] (N : Nat) (h50_0 : (List ((List UInt8) × Int))) (h50_1 : Int) (h50_2 : Bool) : w58G N  h50_0 h50_1 h50_2 = exec (w58c N) Tryd.f58.ntmps (w58h N) w58b ⟨argT 0 [.ref 50 0], [(50, .box 89 [.e (.sl (.pr .tx (.i .i64))) h50_0, .e (.i .i64) h50_1, .e .bo h50_2])], 100⟩ (finX (w58c N) Tryd.f58 true) := by kernel_rfl
theorem w58does {N : Nat} (hc : CxOk (w58c N)) {h50_0 : (List ((List UInt8) × Int))} {h50_1 : Int} {h50_2 : Bool} {r : Res} (h : w58 N h50_0 h50_1 h50_2 = some r) : Does Tryd.prog 58 (([.ref 50 0] : List X).map X.D) (HA [(50, .box 89 [.e (.sl (.pr .tx (.i .i64))) h50_0, .e (.i .i64) h50_1, .e .bo h50_2])]) r.1.D (HA r.2) :=
 fun_ok hc (f := 58) (fn := Tryd.f58) (code := w58b) (by kernel_rfl) (by kernel_rfl) (w58hk N) (Nat.le_of_ble_eq_true (by kernel_rfl)) (ow := true) ((w58q N h50_0 h50_1 h50_2).symm.trans (by exact h))
def w58un (r : Res) : Option ((List UInt8) × (List ((List UInt8) × Int)) × Int × Bool) := match r with
 | (x0, [(50, .box 89 [x1, x2, x3])]) => (match ue .tx x0, ue (.sl (.pr .tx (.i .i64))) x1, ue (.i .i64) x2, ue .bo x3 with | some a0, some a1, some a2, some a3 => some (a0, a1, a2, a3) | _, _, _, _ => none)
 | _ => none
theorem w58uo {r : Res} {d : (List UInt8) × (List ((List UInt8) × Int)) × Int × Bool} (h : w58un r = some d) : r = w58r0 (d.1) (d.2.1) (d.2.2.1) (d.2.2.2) := by
 unfold w58un at h
 split at h
 ·split at h
  ·rename_i h0 h1 h2 h3; cases h; rw [ue_some h0, ue_some h1, ue_some h2, ue_some h3]; rfl
  ·cases h
 ·cases h
def w58z (N : Nat) (h50_0 : (List ((List UInt8) × Int))) (h50_1 : Int) (h50_2 : Bool) : Option ((List UInt8) × (List ((List UInt8) × Int)) × Int × Bool) := (w58 N h50_0 h50_1 h50_2).bind w58un
theorem w58fin {N : Nat} (hc : CxOk (w58c N)) {h50_0 : (List ((List UInt8) × Int))} {h50_1 : Int} {h50_2 : Bool} {d : (List UInt8) × (List ((List UInt8) × Int)) × Int × Bool} (hd : w58z N h50_0 h50_1 h50_2 = some d) : Does Tryd.prog 58 (([.ref 50 0] : List X).map X.D) (HA [(50, .box 89 [.e (.sl (.pr .tx (.i .i64))) h50_0, .e (.i .i64) h50_1, .e .bo h50_2])]) (w58r0 (d.1) (d.2.1) (d.2.2.1) (d.2.2.2)).1.D (HA (w58r0 (d.1) (d.2.1) (d.2.2.1) (d.2.2.2)).2) := by
 obtain ⟨r, hr, hu⟩ := Option.bind_eq_some_iff.1 hd
 have := w58does hc hr
 rw [w58uo hu] at this
 exact this
def w58p (N : Nat) (h50_0 : (List ((List UInt8) × Int))) (h50_1 : Int) (h50_2 : Bool) : Bool := (w58z N h50_0 h50_1 h50_2).isSome
def w58y0 (N : Nat) (h50_0 : (List ((List UInt8) × Int))) (h50_1 : Int) (h50_2 : Bool) : (List UInt8) := ((w58z N h50_0 h50_1 h50_2).getD ([], [], 0, false)).1
def w58y1 (N : Nat) (h50_0 : (List ((List UInt8) × Int))) (h50_1 : Int) (h50_2 : Bool) : (List ((List UInt8) × Int)) := ((w58z N h50_0 h50_1 h50_2).getD ([], [], 0, false)).2.1
def w58y2 (N : Nat) (h50_0 : (List ((List UInt8) × Int))) (h50_1 : Int) (h50_2 : Bool) : Int := ((w58z N h50_0 h50_1 h50_2).getD ([], [], 0, false)).2.2.1
def w58y3 (N : Nat) (h50_0 : (List ((List UInt8) × Int))) (h50_1 : Int) (h50_2 : Bool) : Bool := ((w58z N h50_0 h50_1 h50_2).getD ([], [], 0, false)).2.2.2
def w58in (xs : List X) (H : XH) : Option ((List ((List UInt8) × Int)) × Int × Bool) := match xs, H with
 | [.ref 50 0], [(50, .box 89 [x0, x1, x2])] => (match ue (.sl (.pr .tx (.i .i64))) x0, ue (.i .i64) x1, ue .bo x2 with | some a0, some a1, some a2 => some (a0, a1, a2) | _, _, _ => none)
 | _, _ => none
theorem w58io {xs : List X} {H : XH} {d : (List ((List UInt8) × Int)) × Int × Bool} (h : w58in xs H = some d) : xs = [.ref 50 0] ∧ H = [(50, .box 89 [.e (.sl (.pr .tx (.i .i64))) (d.1), .e (.i .i64) (d.2.1), .e .bo (d.2.2)])] := by
 unfold w58in at h
 split at h
 ·split at h
  ·rename_i h0 h1 h2; cases h; rw [ue_some h0, ue_some h1, ue_some h2]; exact ⟨rfl, rfl⟩
  ·cases h
 ·cases h
def w58e (N : Nat) : Ent' := fun xs H => match w58in xs H with | some d => some (w58p N (d.1) (d.2.1) (d.2.2), w58r0 (w58y0 N (d.1) (d.2.1) (d.2.2)) (w58y1 N (d.1) (d.2.1) (d.2.2)) (w58y2 N (d.1) (d.2.1) (d.2.2)) (w58y3 N (d.1) (d.2.1) (d.2.2))) | none => none
theorem w58re {N : Nat} {h50_0 : (List ((List UInt8) × Int))} {h50_1 : Int} {h50_2 : Bool} {d : (List UInt8) × (List ((List UInt8) × Int)) × Int × Bool} (hd : w58z N h50_0 h50_1 h50_2 = some d) : w58r0 (w58y0 N h50_0 h50_1 h50_2) (w58y1 N h50_0 h50_1 h50_2) (w58y2 N h50_0 h50_1 h50_2) (w58y3 N h50_0 h50_1 h50_2) = w58r0 (d.1) (d.2.1) (d.2.2.1) (d.2.2.2) := by unfold w58y0 w58y1 w58y2 w58y3; rw [hd]; rfl
theorem w58ok (N : Nat) : EOk Tryd.prog 58 (w58e N) := fun xs H pre r he hp => by
 unfold w58e at he
 split at he
 ·rename_i d hd
  have he := Option.some.inj he
  have h1 := congrArg Prod.fst he
  have h2 := congrArg Prod.snd he
  simp only at h1 h2
  obtain ⟨e1, e2⟩ := w58io hd
  rw [e1, e2, ← h2]
  have h : (w58z N (d.1) (d.2.1) (d.2.2)).isSome = true := h1.trans hp
  obtain ⟨d', hd'⟩ := Option.isSome_iff_exists.1 h
  have f := w58fin (w58cx N) hd'
  rw [← w58re hd'] at f
  exact f
 ·cases he
def w65r0 (a0 : Int) : Res := (.e (.i .i64) a0, [])
noncomputable def w65L (_ : Nat) : List (Nat × Ent') := []
noncomputable def w65c (N : Nat) : Cx := ⟨Tryd.prog, 99999, w65L N⟩
noncomputable def w65b : Code := Tryd.f65.body.getD .skip
theorem w65cx (N : Nat) : CxOk (w65c N) := ctx_ok (by kernel_rfl) .nil
def w65F0 [Alg] (_ : Nat)  (self : Int → O) (k0 : Int → O) (k1 : Int → O) (x0_0 : (List (List UInt8))) (x0_1 : (List UInt8)) (x0_2 : Int) (x0_3 : Int) (x0_4 : Int) : O :=
 br (decide (x0_4 < x0_3))
  (gx x0_0 x0_4 fun y3 =>
  br (decide (x0_1 = y3))
   (k0 x0_4)
   (self (IntKind.i64.wrap (x0_4 + (1 : Int)))))
  (k1 x0_2)
noncomputable def w65b0 : Code := atC [1, 0, 1, 0, 0] w65b
def w65m0 : Nm := ⟨[0, 1, 4, 7, 8], [], []⟩
def w65I0 (x : (List (List UInt8)) × (List UInt8) × Int × Int × Int) : Sg := ⟨[(0, .e (.sl .tx) x.1), (1, .e .tx x.2.1), (4, .e (.i .i64) x.2.2.1), (7, .e (.i .i64) x.2.2.2.1), (8, .e (.i .i64) x.2.2.2.2)], [], 100⟩
def w65u0 (σ : Sg) : (List (List UInt8)) × (List UInt8) × Int × Int × Int := (lvT (.sl .tx) 0 0 σ, lvT .tx 1 0 σ, lvT (.i .i64) 4 0 σ, lvT (.i .i64) 7 0 σ, lvT (.i .i64) 8 0 σ)
theorem w65ui0 : ∀ x, w65u0 (w65I0 x) = x := fun _ => by kernel_rfl
def w65X0_0 (y : Int) : Exit × Sg := (.ret, ⟨[(4, .e (.i .i64) y)], [], 100⟩)
def w65v0_0 (σ : Sg) : Int := lvT (.i .i64) 4 0 σ
def w65X0_1 (y : Int) : Exit × Sg := ((.exit 0), ⟨[(4, .e (.i .i64) y)], [], 100⟩)
def w65v0_1 (σ : Sg) : Int := lvT (.i .i64) 4 0 σ
def w65w0 : List (Exit × Nm) := [(.ret, ⟨[4], [], []⟩), ((.exit 0), ⟨[4], [], []⟩)]
theorem w65o0 : Outs w65v0_0 w65v0_1 (fun _ => ()) w65X0_0 w65X0_1 (noX 2) .ret (.exit 0) (.goto 2) := ⟨fun _ => by kernel_rfl, fun _ => by kernel_rfl, fun _ => by kernel_rfl, fun _ => by kernel_rfl, fun _ => by kernel_rfl, fun _ => by kernel_rfl, exNe_ok (by kernel_rfl), exNe_ok (by kernel_rfl), exNe_ok (by kernel_rfl)⟩
def w65l0 [Alg] (N : Nat) : Nat → ((List (List UInt8)) × (List UInt8) × Int × Int × Int) → ((Int) → O) → ((Int) → O) → ((Unit) → O) → O
 | 0, _, _, _, _ => none
 | n + 1, x, k0, k1, k2 => w65F0 N  (fun v0 => w65l0 N n (x.1, x.2.1, x.2.2.1, x.2.2.2.1, v0) k0 k1 k2) (fun y0 => k0 y0) (fun y0 => k1 y0) x.1 x.2.1 x.2.2.1 x.2.2.2.1 x.2.2.2.2
def w65n0 [Alg] (N : Nat) (a0 : (List (List UInt8))) (a1 : (List UInt8)) (a2 : Int) (a3 : Int) (a4 : Int) (k0 : Int → O) (k1 : Int → O) : O := w65l0 N N (a0, a1, a2, a3, a4) (fun y => k0 y) (fun y => k1 y) (fun _ => none)
noncomputable def w65s0 [Alg] (N : Nat) (a0 : (List (List UInt8))) (a1 : (List UInt8)) (a2 : Int) (a3 : Int) (a4 : Int) (k0 : Int → O) (k1 : Int → O) : O := subL w65I0 w65u0 (w65l0 N N) (w65I0 (a0, a1, a2, a3, a4)) (fun y => k0 y) (fun y => k1 y) (fun _ => none)
theorem w65e0 [Alg] (N : Nat) : w65s0 N = w65n0 N := funext fun _ => funext fun _ => funext fun _ => funext fun _ => funext fun _ => funext fun _ => funext fun _ => subL_I w65ui0 _ _ _ _
noncomputable def w65h0 [Alg] (_ : Nat) : Hint := .d
theorem w65hk0 (N : Nat) : HintOk (w65c N) Tryd.f65.ntmps (w65h0 N) w65b0 := hk_of _ _ trivial
theorem w65q0 [Alg] (N : Nat) (self : Sg → O) (K : Exit → Sg → O) (x : (List (List UInt8)) × (List UInt8) × Int × Int × Int) : w65F0 N  (fun v0 => self (w65I0 (x.1, x.2.1, x.2.2.1, x.2.2.2.1, v0))) (fun y0 => K (w65X0_0 y0).1 (w65X0_0 y0).2) (fun y0 => K (w65X0_1 y0).1 (w65X0_1 y0).2) x.1 x.2.1 x.2.2.1 x.2.2.2.1 x.2.2.2.2 = exec (w65c N) Tryd.f65.ntmps (w65h0 N) w65b0 (w65I0 x) (roundX w65m0 w65w0 self K) := by kernel_rfl
theorem w65S0 (N : Nat) (hc : CxOk (w65c N)) : SubOk (w65c N) Tryd.f65.ntmps (.loop w65b0) w65X0_0 w65X0_1 (noX 2) (subL w65I0 w65u0 (w65l0 N N)) :=
 sub_loop hc (w65hk0 N) w65o0 (n := N) (fun x K => loop_ind (w65l0 N) (fun _ _ _ _ => rfl) (fun n K ih x => by
  have h : w65F0 N  (fun v0 => w65l0 N n (x.1, x.2.1, x.2.2.1, x.2.2.2.1, v0) (fun y => K (w65X0_0 y).1 (w65X0_0 y).2) (fun y => K (w65X0_1 y).1 (w65X0_1 y).2) (fun y => K ((noX 2) y).1 ((noX 2) y).2)) (fun y0 => K (w65X0_0 y0).1 (w65X0_0 y0).2) (fun y0 => K (w65X0_1 y0).1 (w65X0_1 y0).2) x.1 x.2.1 x.2.2.1 x.2.2.2.1 x.2.2.2.2 = w65F0 N  (fun v0 => loopX (w65c N) Tryd.f65.ntmps (w65h0 N) w65b0 w65m0 w65w0 n (w65I0 (x.1, x.2.1, x.2.2.1, x.2.2.2.1, v0)) K) (fun y0 => K (w65X0_0 y0).1 (w65X0_0 y0).2) (fun y0 => K (w65X0_1 y0).1 (w65X0_1 y0).2) x.1 x.2.1 x.2.2.1 x.2.2.2.1 x.2.2.2.2 := by rw [ show (fun v0 => w65l0 N n (x.1, x.2.1, x.2.2.1, x.2.2.2.1, v0) (fun y => K (w65X0_0 y).1 (w65X0_0 y).2) (fun y => K (w65X0_1 y).1 (w65X0_1 y).2) (fun y => K ((noX 2) y).1 ((noX 2) y).2)) = (fun v0 => loopX (w65c N) Tryd.f65.ntmps (w65h0 N) w65b0 w65m0 w65w0 n (w65I0 (x.1, x.2.1, x.2.2.1, x.2.2.2.1, v0)) K) from funext fun _ => ih _]
  exact h.trans (w65q0 N (fun σ => loopX (w65c N) Tryd.f65.ntmps (w65h0 N) w65b0 w65m0 w65w0 n σ K) K x)) N x K)
def w65G [Alg] (_ : Nat) (in0 : (List (List UInt8)) → (List UInt8) → Int → Int → Int → (Int → O) → (Int → O) → O) (s0 : (List (List UInt8))) (v1 : (List UInt8)) : O :=
 in0 s0 v1 ((0 : Int)) ((↑s0.length : Int)) ((0 : Int))
  (fun z4 =>
   some (w65r0 z4))
  (fun _ =>
   some (w65r0 ((-1 : Int))))
def w65 [Alg] (N : Nat) (s0 : (List (List UInt8))) (v1 : (List UInt8)) : O := w65G N (w65n0 N) s0 v1
noncomputable def w65h [Alg] (N : Nat) : Hint := (.seq .d (.seq (.seq .d (.block (.sub w65m0 _ _ _ w65X0_0 w65X0_1 (noX 2) (subL w65I0 w65u0 (w65l0 N N))))) .d))
theorem w65hk (N : Nat) (hc : CxOk (w65c N)) : HintOk (w65c N) Tryd.f65.ntmps (w65h N) w65b := hk_of _ _ (And.intro trivial (And.intro (And.intro trivial (w65S0 N hc)) trivial))
theorem w65q [Alg] (N : Nat) (s0 : (List (List UInt8))) (v1 : (List UInt8)) : w65G N (w65s0 N) s0 v1 = exec (w65c N) Tryd.f65.ntmps (w65h N) w65b ⟨argT 0 [.e (.sl .tx) s0, .e .tx v1], [], 100⟩ (finX (w65c N) Tryd.f65 false) := by kernel_rfl
theorem w65does {N : Nat} (hc : CxOk (w65c N)) {s0 : (List (List UInt8))} {v1 : (List UInt8)} {r : Res} (h : w65 N s0 v1 = some r) : Does Tryd.prog 65 (([.e (.sl .tx) s0, .e .tx v1] : List X).map X.D) (HA []) r.1.D (HA r.2) :=
 fun_ok hc (f := 65) (fn := Tryd.f65) (code := w65b) (by kernel_rfl) (by kernel_rfl) (w65hk N hc) (Nat.le_of_ble_eq_true (by kernel_rfl)) (ow := false) ((w65q N s0 v1).symm.trans (by rw [w65e0 N]; exact h))
def w65un (r : Res) : Option (Int) := match r with
 | (x0, []) => (match ue (.i .i64) x0 with | some a0 => some a0 | _ => none)
 | _ => none
theorem w65uo {r : Res} {d : Int} (h : w65un r = some d) : r = w65r0 (d) := by
 unfold w65un at h
 split at h
 ·split at h
  ·rename_i h0; cases h; rw [ue_some h0]; rfl
  ·cases h
 ·cases h
def w65z (N : Nat) (s0 : (List (List UInt8))) (v1 : (List UInt8)) : Option (Int) := (w65 N s0 v1).bind w65un
theorem w65fin {N : Nat} (hc : CxOk (w65c N)) {s0 : (List (List UInt8))} {v1 : (List UInt8)} {d : Int} (hd : w65z N s0 v1 = some d) : Does Tryd.prog 65 (([.e (.sl .tx) s0, .e .tx v1] : List X).map X.D) (HA []) (w65r0 (d)).1.D (HA (w65r0 (d)).2) := by
 obtain ⟨r, hr, hu⟩ := Option.bind_eq_some_iff.1 hd
 have := w65does hc hr
 rw [w65uo hu] at this
 exact this
def w65p (N : Nat) (s0 : (List (List UInt8))) (v1 : (List UInt8)) : Bool := (w65z N s0 v1).isSome
def w65y0 (N : Nat) (s0 : (List (List UInt8))) (v1 : (List UInt8)) : Int := ((w65z N s0 v1).getD 0)
def w65e (N : Nat) : Ent' := E2 (.sl .tx) .tx  (fun x0 x1 => (w65p N x0 x1, w65r0 (w65y0 N x0 x1)))
theorem w65re {N : Nat} {s0 : (List (List UInt8))} {v1 : (List UInt8)} {d : Int} (hd : w65z N s0 v1 = some d) : w65r0 (w65y0 N s0 v1) = w65r0 (d) := by unfold w65y0; rw [hd]; rfl
theorem w65ok (N : Nat) : EOk Tryd.prog 65 (w65e N) := EOk.e2 (fun x0 x1 h => by
 have h : (w65z N x0 x1).isSome = true := h
 obtain ⟨d, hd⟩ := Option.isSome_iff_exists.1 h
 have f := w65fin (w65cx N) hd
 rw [← w65re hd] at f
 exact f)
def w56r0 (a0 : Int) (a1 : (List ((List UInt8) × Int))) (a2 : Int) (a3 : Bool) : Res := (.e (.i .i64) a0, [(50, .box 89 [.e (.sl (.pr .tx (.i .i64))) a1, .e (.i .i64) a2, .e .bo a3])])
noncomputable def w56L (N : Nat) : List (Nat × Ent') := [(58, w58e N), (65, w65e N)]
noncomputable def w56c (N : Nat) : Cx := ⟨Tryd.prog, 99999, w56L N⟩
noncomputable def w56b : Code := Tryd.f56.body.getD .skip
theorem w56cx (N : Nat) : CxOk (w56c N) := ctx_ok (by kernel_rfl) (.cons (by kernel_rfl) (w58ok N) (.cons (by kernel_rfl) (w65ok N) .nil))
def w56G [Alg] (N : Nat)  (words1 : (List (List UInt8))) (h50_0 : (List ((List UInt8) × Int))) (h50_1 : Int) (h50_2 : Bool) : O :=
 ck (w58p N h50_0 h50_1 h50_2) <|
 ck (w65p N words1 (w58y0 N h50_0 h50_1 h50_2)) <|
 br (decide ((0 : Int) ≤ w65y0 N words1 (w58y0 N h50_0 h50_1 h50_2)))
  (some (w56r0 (w65y0 N words1 (w58y0 N h50_0 h50_1 h50_2)) (w58y1 N h50_0 h50_1 h50_2) (IntKind.i64.wrap (w58y2 N h50_0 h50_1 h50_2 + (1 : Int))) (w58y3 N h50_0 h50_1 h50_2)))
  (some (w56r0 (w65y0 N words1 (w58y0 N h50_0 h50_1 h50_2)) (w58y1 N h50_0 h50_1 h50_2) (w58y2 N h50_0 h50_1 h50_2) (w58y3 N h50_0 h50_1 h50_2)))
def w56 [Alg] (N : Nat) (words1 : (List (List UInt8))) (h50_0 : (List ((List UInt8) × Int))) (h50_1 : Int) (h50_2 : Bool) : O := w56G N  words1 h50_0 h50_1 h50_2
noncomputable def w56h [Alg] (_ : Nat) : Hint := .d
theorem w56hk (N : Nat) : HintOk (w56c N) Tryd.f56.ntmps (w56h N) w56b := hk_of _ _ trivial
theorem w56q [Alg] (N : Nat) (words1 : (List (List UInt8))) (h50_0 : (List ((List UInt8) × Int))) (h50_1 : Int) (h50_2 : Bool) : w56G N  words1 h50_0 h50_1 h50_2 = exec (w56c N) Tryd.f56.ntmps (w56h N) w56b ⟨argT 0 [.ref 50 0, .e (.sl .tx) words1], [(50, .box 89 [.e (.sl (.pr .tx (.i .i64))) h50_0, .e (.i .i64) h50_1, .e .bo h50_2])], 100⟩ (finX (w56c N) Tryd.f56 true) := by kernel_rfl
theorem w56does {N : Nat} (hc : CxOk (w56c N)) {words1 : (List (List UInt8))} {h50_0 : (List ((List UInt8) × Int))} {h50_1 : Int} {h50_2 : Bool} {r : Res} (h : w56 N words1 h50_0 h50_1 h50_2 = some r) : Does Tryd.prog 56 (([.ref 50 0, .e (.sl .tx) words1] : List X).map X.D) (HA [(50, .box 89 [.e (.sl (.pr .tx (.i .i64))) h50_0, .e (.i .i64) h50_1, .e .bo h50_2])]) r.1.D (HA r.2) :=
 fun_ok hc (f := 56) (fn := Tryd.f56) (code := w56b) (by kernel_rfl) (by kernel_rfl) (w56hk N) (Nat.le_of_ble_eq_true (by kernel_rfl)) (ow := true) ((w56q N words1 h50_0 h50_1 h50_2).symm.trans (by exact h))
def w56un (r : Res) : Option (Int × (List ((List UInt8) × Int)) × Int × Bool) := match r with
 | (x0, [(50, .box 89 [x1, x2, x3])]) => (match ue (.i .i64) x0, ue (.sl (.pr .tx (.i .i64))) x1, ue (.i .i64) x2, ue .bo x3 with | some a0, some a1, some a2, some a3 => some (a0, a1, a2, a3) | _, _, _, _ => none)
 | _ => none
theorem w56uo {r : Res} {d : Int × (List ((List UInt8) × Int)) × Int × Bool} (h : w56un r = some d) : r = w56r0 (d.1) (d.2.1) (d.2.2.1) (d.2.2.2) := by
 unfold w56un at h
 split at h
 ·split at h
  ·rename_i h0 h1 h2 h3; cases h; rw [ue_some h0, ue_some h1, ue_some h2, ue_some h3]; rfl
  ·cases h
 ·cases h
def w56z (N : Nat) (words1 : (List (List UInt8))) (h50_0 : (List ((List UInt8) × Int))) (h50_1 : Int) (h50_2 : Bool) : Option (Int × (List ((List UInt8) × Int)) × Int × Bool) := (w56 N words1 h50_0 h50_1 h50_2).bind w56un
theorem w56fin {N : Nat} (hc : CxOk (w56c N)) {words1 : (List (List UInt8))} {h50_0 : (List ((List UInt8) × Int))} {h50_1 : Int} {h50_2 : Bool} {d : Int × (List ((List UInt8) × Int)) × Int × Bool} (hd : w56z N words1 h50_0 h50_1 h50_2 = some d) : Does Tryd.prog 56 (([.ref 50 0, .e (.sl .tx) words1] : List X).map X.D) (HA [(50, .box 89 [.e (.sl (.pr .tx (.i .i64))) h50_0, .e (.i .i64) h50_1, .e .bo h50_2])]) (w56r0 (d.1) (d.2.1) (d.2.2.1) (d.2.2.2)).1.D (HA (w56r0 (d.1) (d.2.1) (d.2.2.1) (d.2.2.2)).2) := by
 obtain ⟨r, hr, hu⟩ := Option.bind_eq_some_iff.1 hd
 have := w56does hc hr
 rw [w56uo hu] at this
 exact this
def w56p (N : Nat) (words1 : (List (List UInt8))) (h50_0 : (List ((List UInt8) × Int))) (h50_1 : Int) (h50_2 : Bool) : Bool := (w56z N words1 h50_0 h50_1 h50_2).isSome
def w56y0 (N : Nat) (words1 : (List (List UInt8))) (h50_0 : (List ((List UInt8) × Int))) (h50_1 : Int) (h50_2 : Bool) : Int := ((w56z N words1 h50_0 h50_1 h50_2).getD (0, [], 0, false)).1
def w56y1 (N : Nat) (words1 : (List (List UInt8))) (h50_0 : (List ((List UInt8) × Int))) (h50_1 : Int) (h50_2 : Bool) : (List ((List UInt8) × Int)) := ((w56z N words1 h50_0 h50_1 h50_2).getD (0, [], 0, false)).2.1
def w56y2 (N : Nat) (words1 : (List (List UInt8))) (h50_0 : (List ((List UInt8) × Int))) (h50_1 : Int) (h50_2 : Bool) : Int := ((w56z N words1 h50_0 h50_1 h50_2).getD (0, [], 0, false)).2.2.1
def w56y3 (N : Nat) (words1 : (List (List UInt8))) (h50_0 : (List ((List UInt8) × Int))) (h50_1 : Int) (h50_2 : Bool) : Bool := ((w56z N words1 h50_0 h50_1 h50_2).getD (0, [], 0, false)).2.2.2
def w56in (xs : List X) (H : XH) : Option ((List (List UInt8)) × (List ((List UInt8) × Int)) × Int × Bool) := match xs, H with
 | [.ref 50 0, x0], [(50, .box 89 [x1, x2, x3])] => (match ue (.sl .tx) x0, ue (.sl (.pr .tx (.i .i64))) x1, ue (.i .i64) x2, ue .bo x3 with | some a0, some a1, some a2, some a3 => some (a0, a1, a2, a3) | _, _, _, _ => none)
 | _, _ => none
theorem w56io {xs : List X} {H : XH} {d : (List (List UInt8)) × (List ((List UInt8) × Int)) × Int × Bool} (h : w56in xs H = some d) : xs = [.ref 50 0, .e (.sl .tx) (d.1)] ∧ H = [(50, .box 89 [.e (.sl (.pr .tx (.i .i64))) (d.2.1), .e (.i .i64) (d.2.2.1), .e .bo (d.2.2.2)])] := by
 unfold w56in at h
 split at h
 ·split at h
  ·rename_i h0 h1 h2 h3; cases h; rw [ue_some h0, ue_some h1, ue_some h2, ue_some h3]; exact ⟨rfl, rfl⟩
  ·cases h
 ·cases h
def w56e (N : Nat) : Ent' := fun xs H => match w56in xs H with | some d => some (w56p N (d.1) (d.2.1) (d.2.2.1) (d.2.2.2), w56r0 (w56y0 N (d.1) (d.2.1) (d.2.2.1) (d.2.2.2)) (w56y1 N (d.1) (d.2.1) (d.2.2.1) (d.2.2.2)) (w56y2 N (d.1) (d.2.1) (d.2.2.1) (d.2.2.2)) (w56y3 N (d.1) (d.2.1) (d.2.2.1) (d.2.2.2))) | none => none
theorem w56re {N : Nat} {words1 : (List (List UInt8))} {h50_0 : (List ((List UInt8) × Int))} {h50_1 : Int} {h50_2 : Bool} {d : Int × (List ((List UInt8) × Int)) × Int × Bool} (hd : w56z N words1 h50_0 h50_1 h50_2 = some d) : w56r0 (w56y0 N words1 h50_0 h50_1 h50_2) (w56y1 N words1 h50_0 h50_1 h50_2) (w56y2 N words1 h50_0 h50_1 h50_2) (w56y3 N words1 h50_0 h50_1 h50_2) = w56r0 (d.1) (d.2.1) (d.2.2.1) (d.2.2.2) := by unfold w56y0 w56y1 w56y2 w56y3; rw [hd]; rfl
theorem w56ok (N : Nat) : EOk Tryd.prog 56 (w56e N) := fun xs H pre r he hp => by
 unfold w56e at he
 split at he
 ·rename_i d hd
  have he := Option.some.inj he
  have h1 := congrArg Prod.fst he
  have h2 := congrArg Prod.snd he
  simp only at h1 h2
  obtain ⟨e1, e2⟩ := w56io hd
  rw [e1, e2, ← h2]
  have h : (w56z N (d.1) (d.2.1) (d.2.2.1) (d.2.2.2)).isSome = true := h1.trans hp
  obtain ⟨d', hd'⟩ := Option.isSome_iff_exists.1 h
  have f := w56fin (w56cx N) hd'
  rw [← w56re hd'] at f
  exact f
 ·cases he
def w80r0 (a0 : Bool) : Res := (.e .bo a0, [])
noncomputable def w80L (_ : Nat) : List (Nat × Ent') := []
noncomputable def w80c (N : Nat) : Cx := ⟨Tryd.prog, 99999, w80L N⟩
noncomputable def w80b : Code := Tryd.f80.body.getD .skip
theorem w80cx (N : Nat) : CxOk (w80c N) := ctx_ok (by kernel_rfl) .nil
def w80G [Alg] (_ : Nat)  (s0 : (List UInt8)) (prefix1 : (List UInt8)) : O :=
 ck (!decide ((↑prefix1.length : Int) ≤ (↑s0.length : Int)) || slcOk s0.length none (some (↑prefix1.length : Int))) <|
 some (w80r0 (decide ((↑prefix1.length : Int) ≤ (↑s0.length : Int)) && decide (slc s0 none (some (↑prefix1.length : Int)) = prefix1)))
def w80 [Alg] (N : Nat) (s0 : (List UInt8)) (prefix1 : (List UInt8)) : O := w80G N  s0 prefix1
noncomputable def w80h [Alg] (_ : Nat) : Hint := .d
theorem w80hk (N : Nat) : HintOk (w80c N) Tryd.f80.ntmps (w80h N) w80b := hk_of _ _ trivial
theorem w80q [Alg] (N : Nat) (s0 : (List UInt8)) (prefix1 : (List UInt8)) : w80G N  s0 prefix1 = exec (w80c N) Tryd.f80.ntmps (w80h N) w80b ⟨argT 0 [.e .tx s0, .e .tx prefix1], [], 100⟩ (finX (w80c N) Tryd.f80 false) := by kernel_rfl
theorem w80does {N : Nat} (hc : CxOk (w80c N)) {s0 : (List UInt8)} {prefix1 : (List UInt8)} {r : Res} (h : w80 N s0 prefix1 = some r) : Does Tryd.prog 80 (([.e .tx s0, .e .tx prefix1] : List X).map X.D) (HA []) r.1.D (HA r.2) :=
 fun_ok hc (f := 80) (fn := Tryd.f80) (code := w80b) (by kernel_rfl) (by kernel_rfl) (w80hk N) (Nat.le_of_ble_eq_true (by kernel_rfl)) (ow := false) ((w80q N s0 prefix1).symm.trans (by exact h))
def w80un (r : Res) : Option (Bool) := match r with
 | (x0, []) => (match ue .bo x0 with | some a0 => some a0 | _ => none)
 | _ => none
theorem w80uo {r : Res} {d : Bool} (h : w80un r = some d) : r = w80r0 (d) := by
 unfold w80un at h
 split at h
 ·split at h
  ·rename_i h0; cases h; rw [ue_some h0]; rfl
  ·cases h
 ·cases h
def w80z (N : Nat) (s0 : (List UInt8)) (prefix1 : (List UInt8)) : Option (Bool) := (w80 N s0 prefix1).bind w80un
theorem w80fin {N : Nat} (hc : CxOk (w80c N)) {s0 : (List UInt8)} {prefix1 : (List UInt8)} {d : Bool} (hd : w80z N s0 prefix1 = some d) : Does Tryd.prog 80 (([.e .tx s0, .e .tx prefix1] : List X).map X.D) (HA []) (w80r0 (d)).1.D (HA (w80r0 (d)).2) := by
 obtain ⟨r, hr, hu⟩ := Option.bind_eq_some_iff.1 hd
 have := w80does hc hr
 rw [w80uo hu] at this
 exact this
def w80p (N : Nat) (s0 : (List UInt8)) (prefix1 : (List UInt8)) : Bool := (w80z N s0 prefix1).isSome
def w80y0 (N : Nat) (s0 : (List UInt8)) (prefix1 : (List UInt8)) : Bool := ((w80z N s0 prefix1).getD false)
def w80e (N : Nat) : Ent' := E2 .tx .tx  (fun x0 x1 => (w80p N x0 x1, w80r0 (w80y0 N x0 x1)))
theorem w80re {N : Nat} {s0 : (List UInt8)} {prefix1 : (List UInt8)} {d : Bool} (hd : w80z N s0 prefix1 = some d) : w80r0 (w80y0 N s0 prefix1) = w80r0 (d) := by unfold w80y0; rw [hd]; rfl
theorem w80ok (N : Nat) : EOk Tryd.prog 80 (w80e N) := EOk.e2 (fun x0 x1 h => by
 have h : (w80z N x0 x1).isSome = true := h
 obtain ⟨d, hd⟩ := Option.isSome_iff_exists.1 h
 have f := w80fin (w80cx N) hd
 rw [← w80re hd] at f
 exact f)
def w73r0 (a0 : (List UInt8)) (a1 : Bool) : Res := (.tup [.e .tx a0, .e .bo a1], [])
noncomputable def w73L (N : Nat) : List (Nat × Ent') := [(80, w80e N)]
noncomputable def w73c (N : Nat) : Cx := ⟨Tryd.prog, 99999, w73L N⟩
noncomputable def w73b : Code := Tryd.f73.body.getD .skip
theorem w73cx (N : Nat) : CxOk (w73c N) := ctx_ok (by kernel_rfl) (.cons (by kernel_rfl) (w80ok N) .nil)
def w73G [Alg] (N : Nat)  (s0 : (List UInt8)) (prefix1 : (List UInt8)) : O :=
 ck (w80p N s0 prefix1) <|
 br (!w80y0 N s0 prefix1)
  (some (w73r0 s0 false))
  (ck (slcOk s0.length (some (↑prefix1.length : Int)) none) <|
  some (w73r0 (slc s0 (some (↑prefix1.length : Int)) none) true))
def w73 [Alg] (N : Nat) (s0 : (List UInt8)) (prefix1 : (List UInt8)) : O := w73G N  s0 prefix1
noncomputable def w73h [Alg] (_ : Nat) : Hint := .d
theorem w73hk (N : Nat) : HintOk (w73c N) Tryd.f73.ntmps (w73h N) w73b := hk_of _ _ trivial
theorem w73q [Alg] (N : Nat) (s0 : (List UInt8)) (prefix1 : (List UInt8)) : w73G N  s0 prefix1 = exec (w73c N) Tryd.f73.ntmps (w73h N) w73b ⟨argT 0 [.e .tx s0, .e .tx prefix1], [], 100⟩ (finX (w73c N) Tryd.f73 false) := by kernel_rfl
theorem w73does {N : Nat} (hc : CxOk (w73c N)) {s0 : (List UInt8)} {prefix1 : (List UInt8)} {r : Res} (h : w73 N s0 prefix1 = some r) : Does Tryd.prog 73 (([.e .tx s0, .e .tx prefix1] : List X).map X.D) (HA []) r.1.D (HA r.2) :=
 fun_ok hc (f := 73) (fn := Tryd.f73) (code := w73b) (by kernel_rfl) (by kernel_rfl) (w73hk N) (Nat.le_of_ble_eq_true (by kernel_rfl)) (ow := false) ((w73q N s0 prefix1).symm.trans (by exact h))
def w73un (r : Res) : Option ((List UInt8) × Bool) := match r with
 | (.tup [x0, x1], []) => (match ue .tx x0, ue .bo x1 with | some a0, some a1 => some (a0, a1) | _, _ => none)
 | _ => none
theorem w73uo {r : Res} {d : (List UInt8) × Bool} (h : w73un r = some d) : r = w73r0 (d.1) (d.2) := by
 unfold w73un at h
 split at h
 ·split at h
  ·rename_i h0 h1; cases h; rw [ue_some h0, ue_some h1]; rfl
  ·cases h
 ·cases h
def w73z (N : Nat) (s0 : (List UInt8)) (prefix1 : (List UInt8)) : Option ((List UInt8) × Bool) := (w73 N s0 prefix1).bind w73un
theorem w73fin {N : Nat} (hc : CxOk (w73c N)) {s0 : (List UInt8)} {prefix1 : (List UInt8)} {d : (List UInt8) × Bool} (hd : w73z N s0 prefix1 = some d) : Does Tryd.prog 73 (([.e .tx s0, .e .tx prefix1] : List X).map X.D) (HA []) (w73r0 (d.1) (d.2)).1.D (HA (w73r0 (d.1) (d.2)).2) := by
 obtain ⟨r, hr, hu⟩ := Option.bind_eq_some_iff.1 hd
 have := w73does hc hr
 rw [w73uo hu] at this
 exact this
def w73p (N : Nat) (s0 : (List UInt8)) (prefix1 : (List UInt8)) : Bool := (w73z N s0 prefix1).isSome
def w73y0 (N : Nat) (s0 : (List UInt8)) (prefix1 : (List UInt8)) : (List UInt8) := ((w73z N s0 prefix1).getD ([], false)).1
def w73y1 (N : Nat) (s0 : (List UInt8)) (prefix1 : (List UInt8)) : Bool := ((w73z N s0 prefix1).getD ([], false)).2
def w73e (N : Nat) : Ent' := E2 .tx .tx  (fun x0 x1 => (w73p N x0 x1, w73r0 (w73y0 N x0 x1) (w73y1 N x0 x1)))
theorem w73re {N : Nat} {s0 : (List UInt8)} {prefix1 : (List UInt8)} {d : (List UInt8) × Bool} (hd : w73z N s0 prefix1 = some d) : w73r0 (w73y0 N s0 prefix1) (w73y1 N s0 prefix1) = w73r0 (d.1) (d.2) := by unfold w73y0 w73y1; rw [hd]; rfl
theorem w73ok (N : Nat) : EOk Tryd.prog 73 (w73e N) := EOk.e2 (fun x0 x1 h => by
 have h : (w73z N x0 x1).isSome = true := h
 obtain ⟨d, hd⟩ := Option.isSome_iff_exists.1 h
 have f := w73fin (w73cx N) hd
 rw [← w73re hd] at f
 exact f)
def w66r0 (a0 : (List UInt8)) (a1 : Bool) : Res := (.tup [.e .tx a0, .e .bo a1], [])
noncomputable def w66L (N : Nat) : List (Nat × Ent') := [(73, w73e N)]
noncomputable def w66c (N : Nat) : Cx := ⟨Tryd.prog, 99999, w66L N⟩
noncomputable def w66b : Code := Tryd.f66.body.getD .skip
theorem w66cx (N : Nat) : CxOk (w66c N) := ctx_ok (by kernel_rfl) (.cons (by kernel_rfl) (w73ok N) .nil)
def w66G [Alg] (N : Nat)  (s0 : (List UInt8)) (prefix1 : (List UInt8)) : O :=
 ck (w73p N s0 prefix1) <|
 some (w66r0 (w73y0 N s0 prefix1) (w73y1 N s0 prefix1))
def w66 [Alg] (N : Nat) (s0 : (List UInt8)) (prefix1 : (List UInt8)) : O := w66G N  s0 prefix1
noncomputable def w66h [Alg] (_ : Nat) : Hint := .d
theorem w66hk (N : Nat) : HintOk (w66c N) Tryd.f66.ntmps (w66h N) w66b := hk_of _ _ trivial
theorem w66q [Alg] (N : Nat) (s0 : (List UInt8)) (prefix1 : (List UInt8)) : w66G N  s0 prefix1 = exec (w66c N) Tryd.f66.ntmps (w66h N) w66b ⟨argT 0 [.e .tx s0, .e .tx prefix1], [], 100⟩ (finX (w66c N) Tryd.f66 false) := by kernel_rfl
theorem w66does {N : Nat} (hc : CxOk (w66c N)) {s0 : (List UInt8)} {prefix1 : (List UInt8)} {r : Res} (h : w66 N s0 prefix1 = some r) : Does Tryd.prog 66 (([.e .tx s0, .e .tx prefix1] : List X).map X.D) (HA []) r.1.D (HA r.2) :=
 fun_ok hc (f := 66) (fn := Tryd.f66) (code := w66b) (by kernel_rfl) (by kernel_rfl) (w66hk N) (Nat.le_of_ble_eq_true (by kernel_rfl)) (ow := false) ((w66q N s0 prefix1).symm.trans (by exact h))
def w66un (r : Res) : Option ((List UInt8) × Bool) := match r with
 | (.tup [x0, x1], []) => (match ue .tx x0, ue .bo x1 with | some a0, some a1 => some (a0, a1) | _, _ => none)
 | _ => none
theorem w66uo {r : Res} {d : (List UInt8) × Bool} (h : w66un r = some d) : r = w66r0 (d.1) (d.2) := by
 unfold w66un at h
 split at h
 ·split at h
  ·rename_i h0 h1; cases h; rw [ue_some h0, ue_some h1]; rfl
  ·cases h
 ·cases h
def w66z (N : Nat) (s0 : (List UInt8)) (prefix1 : (List UInt8)) : Option ((List UInt8) × Bool) := (w66 N s0 prefix1).bind w66un
theorem w66fin {N : Nat} (hc : CxOk (w66c N)) {s0 : (List UInt8)} {prefix1 : (List UInt8)} {d : (List UInt8) × Bool} (hd : w66z N s0 prefix1 = some d) : Does Tryd.prog 66 (([.e .tx s0, .e .tx prefix1] : List X).map X.D) (HA []) (w66r0 (d.1) (d.2)).1.D (HA (w66r0 (d.1) (d.2)).2) := by
 obtain ⟨r, hr, hu⟩ := Option.bind_eq_some_iff.1 hd
 have := w66does hc hr
 rw [w66uo hu] at this
 exact this
def w66p (N : Nat) (s0 : (List UInt8)) (prefix1 : (List UInt8)) : Bool := (w66z N s0 prefix1).isSome
def w66y0 (N : Nat) (s0 : (List UInt8)) (prefix1 : (List UInt8)) : (List UInt8) := ((w66z N s0 prefix1).getD ([], false)).1
def w66y1 (N : Nat) (s0 : (List UInt8)) (prefix1 : (List UInt8)) : Bool := ((w66z N s0 prefix1).getD ([], false)).2
def w66e (N : Nat) : Ent' := E2 .tx .tx  (fun x0 x1 => (w66p N x0 x1, w66r0 (w66y0 N x0 x1) (w66y1 N x0 x1)))
theorem w66re {N : Nat} {s0 : (List UInt8)} {prefix1 : (List UInt8)} {d : (List UInt8) × Bool} (hd : w66z N s0 prefix1 = some d) : w66r0 (w66y0 N s0 prefix1) (w66y1 N s0 prefix1) = w66r0 (d.1) (d.2) := by unfold w66y0 w66y1; rw [hd]; rfl
theorem w66ok (N : Nat) : EOk Tryd.prog 66 (w66e N) := EOk.e2 (fun x0 x1 h => by
 have h : (w66z N x0 x1).isSome = true := h
 obtain ⟨d, hd⟩ := Option.isSome_iff_exists.1 h
 have f := w66fin (w66cx N) hd
 rw [← w66re hd] at f
 exact f)
def w67r0 (a0 : Int) (a1 : Bool) : Res := (.tup [.e (.i .i64) a0, .e .bo a1], [])
noncomputable def w67L (N : Nat) : List (Nat × Ent') := [(74, w74e N), (35, w35e N)]
noncomputable def w67c (N : Nat) : Cx := ⟨Tryd.prog, 99999, w67L N⟩
noncomputable def w67b : Code := Tryd.f67.body.getD .skip
theorem w67cx (N : Nat) : CxOk (w67c N) := ctx_ok (by kernel_rfl) (.cons (by kernel_rfl) (w74ok N) (.cons (by kernel_rfl) (w35ok N) .nil))
def w67G [Alg] (N : Nat)  (s0 : (List UInt8)) (most1 : Int) : O :=
 ck (w74p N s0) <|
 ck (!(true && decide ((0 : Int) ≤ w74y0 N s0) && decide (w74y0 N s0 ≤ most1)) || w35p N (w74y0 N s0)) <|
 some (w67r0 (w74y0 N s0) (true && decide ((0 : Int) ≤ w74y0 N s0) && decide (w74y0 N s0 ≤ most1) && decide (w35y0 N (w74y0 N s0) = s0)))
def w67 [Alg] (N : Nat) (s0 : (List UInt8)) (most1 : Int) : O := w67G N  s0 most1
noncomputable def w67h [Alg] (_ : Nat) : Hint := .d
theorem w67hk (N : Nat) : HintOk (w67c N) Tryd.f67.ntmps (w67h N) w67b := hk_of _ _ trivial
theorem w67q [Alg] (N : Nat) (s0 : (List UInt8)) (most1 : Int) : w67G N  s0 most1 = exec (w67c N) Tryd.f67.ntmps (w67h N) w67b ⟨argT 0 [.e .tx s0, .e (.i .i64) most1], [], 100⟩ (finX (w67c N) Tryd.f67 false) := by kernel_rfl
theorem w67does {N : Nat} (hc : CxOk (w67c N)) {s0 : (List UInt8)} {most1 : Int} {r : Res} (h : w67 N s0 most1 = some r) : Does Tryd.prog 67 (([.e .tx s0, .e (.i .i64) most1] : List X).map X.D) (HA []) r.1.D (HA r.2) :=
 fun_ok hc (f := 67) (fn := Tryd.f67) (code := w67b) (by kernel_rfl) (by kernel_rfl) (w67hk N) (Nat.le_of_ble_eq_true (by kernel_rfl)) (ow := false) ((w67q N s0 most1).symm.trans (by exact h))
def w67un (r : Res) : Option (Int × Bool) := match r with
 | (.tup [x0, x1], []) => (match ue (.i .i64) x0, ue .bo x1 with | some a0, some a1 => some (a0, a1) | _, _ => none)
 | _ => none
theorem w67uo {r : Res} {d : Int × Bool} (h : w67un r = some d) : r = w67r0 (d.1) (d.2) := by
 unfold w67un at h
 split at h
 ·split at h
  ·rename_i h0 h1; cases h; rw [ue_some h0, ue_some h1]; rfl
  ·cases h
 ·cases h
def w67z (N : Nat) (s0 : (List UInt8)) (most1 : Int) : Option (Int × Bool) := (w67 N s0 most1).bind w67un
theorem w67fin {N : Nat} (hc : CxOk (w67c N)) {s0 : (List UInt8)} {most1 : Int} {d : Int × Bool} (hd : w67z N s0 most1 = some d) : Does Tryd.prog 67 (([.e .tx s0, .e (.i .i64) most1] : List X).map X.D) (HA []) (w67r0 (d.1) (d.2)).1.D (HA (w67r0 (d.1) (d.2)).2) := by
 obtain ⟨r, hr, hu⟩ := Option.bind_eq_some_iff.1 hd
 have := w67does hc hr
 rw [w67uo hu] at this
 exact this
def w67p (N : Nat) (s0 : (List UInt8)) (most1 : Int) : Bool := (w67z N s0 most1).isSome
def w67y0 (N : Nat) (s0 : (List UInt8)) (most1 : Int) : Int := ((w67z N s0 most1).getD (0, false)).1
def w67y1 (N : Nat) (s0 : (List UInt8)) (most1 : Int) : Bool := ((w67z N s0 most1).getD (0, false)).2
def w67e (N : Nat) : Ent' := E2 .tx (.i .i64)  (fun x0 x1 => (w67p N x0 x1, w67r0 (w67y0 N x0 x1) (w67y1 N x0 x1)))
theorem w67re {N : Nat} {s0 : (List UInt8)} {most1 : Int} {d : Int × Bool} (hd : w67z N s0 most1 = some d) : w67r0 (w67y0 N s0 most1) (w67y1 N s0 most1) = w67r0 (d.1) (d.2) := by unfold w67y0 w67y1; rw [hd]; rfl
theorem w67ok (N : Nat) : EOk Tryd.prog 67 (w67e N) := EOk.e2 (fun x0 x1 h => by
 have h : (w67z N x0 x1).isSome = true := h
 obtain ⟨d, hd⟩ := Option.isSome_iff_exists.1 h
 have f := w67fin (w67cx N) hd
 rw [← w67re hd] at f
 exact f)
def w57r0 (a0 : Int) (a1 : (List ((List UInt8) × Int))) (a2 : Int) (a3 : Bool) : Res := (.e (.i .i64) a0, [(50, .box 89 [.e (.sl (.pr .tx (.i .i64))) a1, .e (.i .i64) a2, .e .bo a3])])
noncomputable def w57L (N : Nat) : List (Nat × Ent') := [(58, w58e N), (66, w66e N), (67, w67e N)]
noncomputable def w57c (N : Nat) : Cx := ⟨Tryd.prog, 99999, w57L N⟩
noncomputable def w57b : Code := Tryd.f57.body.getD .skip
theorem w57cx (N : Nat) : CxOk (w57c N) := ctx_ok (by kernel_rfl) (.cons (by kernel_rfl) (w58ok N) (.cons (by kernel_rfl) (w66ok N) (.cons (by kernel_rfl) (w67ok N) .nil)))
def w57G [Alg] (N : Nat)  (head1 : (List UInt8)) (least2 : Int) (most3 : Int) (h50_0 : (List ((List UInt8) × Int))) (h50_1 : Int) (h50_2 : Bool) : O :=
 ck (w58p N h50_0 h50_1 h50_2) <|
 ck (w66p N (w58y0 N h50_0 h50_1 h50_2) head1) <|
 ck (w67p N (w66y0 N (w58y0 N h50_0 h50_1 h50_2) head1) most3) <|
 br (!w66y1 N (w58y0 N h50_0 h50_1 h50_2) head1 || !w67y1 N (w66y0 N (w58y0 N h50_0 h50_1 h50_2) head1) most3 || decide (w67y0 N (w66y0 N (w58y0 N h50_0 h50_1 h50_2) head1) most3 < least2))
  (some (w57r0 ((0 : Int)) (w58y1 N h50_0 h50_1 h50_2) (w58y2 N h50_0 h50_1 h50_2) true))
  (some (w57r0 (w67y0 N (w66y0 N (w58y0 N h50_0 h50_1 h50_2) head1) most3) (w58y1 N h50_0 h50_1 h50_2) (IntKind.i64.wrap (w58y2 N h50_0 h50_1 h50_2 + (1 : Int))) (w58y3 N h50_0 h50_1 h50_2)))
def w57 [Alg] (N : Nat) (head1 : (List UInt8)) (least2 : Int) (most3 : Int) (h50_0 : (List ((List UInt8) × Int))) (h50_1 : Int) (h50_2 : Bool) : O := w57G N  head1 least2 most3 h50_0 h50_1 h50_2
noncomputable def w57h [Alg] (_ : Nat) : Hint := .d
theorem w57hk (N : Nat) : HintOk (w57c N) Tryd.f57.ntmps (w57h N) w57b := hk_of _ _ trivial
theorem w57q [Alg] (N : Nat) (head1 : (List UInt8)) (least2 : Int) (most3 : Int) (h50_0 : (List ((List UInt8) × Int))) (h50_1 : Int) (h50_2 : Bool) : w57G N  head1 least2 most3 h50_0 h50_1 h50_2 = exec (w57c N) Tryd.f57.ntmps (w57h N) w57b ⟨argT 0 [.ref 50 0, .e .tx head1, .e (.i .i64) least2, .e (.i .i64) most3], [(50, .box 89 [.e (.sl (.pr .tx (.i .i64))) h50_0, .e (.i .i64) h50_1, .e .bo h50_2])], 100⟩ (finX (w57c N) Tryd.f57 true) := by kernel_rfl
theorem w57does {N : Nat} (hc : CxOk (w57c N)) {head1 : (List UInt8)} {least2 : Int} {most3 : Int} {h50_0 : (List ((List UInt8) × Int))} {h50_1 : Int} {h50_2 : Bool} {r : Res} (h : w57 N head1 least2 most3 h50_0 h50_1 h50_2 = some r) : Does Tryd.prog 57 (([.ref 50 0, .e .tx head1, .e (.i .i64) least2, .e (.i .i64) most3] : List X).map X.D) (HA [(50, .box 89 [.e (.sl (.pr .tx (.i .i64))) h50_0, .e (.i .i64) h50_1, .e .bo h50_2])]) r.1.D (HA r.2) :=
 fun_ok hc (f := 57) (fn := Tryd.f57) (code := w57b) (by kernel_rfl) (by kernel_rfl) (w57hk N) (Nat.le_of_ble_eq_true (by kernel_rfl)) (ow := true) ((w57q N head1 least2 most3 h50_0 h50_1 h50_2).symm.trans (by exact h))
def w57un (r : Res) : Option (Int × (List ((List UInt8) × Int)) × Int × Bool) := match r with
 | (x0, [(50, .box 89 [x1, x2, x3])]) => (match ue (.i .i64) x0, ue (.sl (.pr .tx (.i .i64))) x1, ue (.i .i64) x2, ue .bo x3 with | some a0, some a1, some a2, some a3 => some (a0, a1, a2, a3) | _, _, _, _ => none)
 | _ => none
theorem w57uo {r : Res} {d : Int × (List ((List UInt8) × Int)) × Int × Bool} (h : w57un r = some d) : r = w57r0 (d.1) (d.2.1) (d.2.2.1) (d.2.2.2) := by
 unfold w57un at h
 split at h
 ·split at h
  ·rename_i h0 h1 h2 h3; cases h; rw [ue_some h0, ue_some h1, ue_some h2, ue_some h3]; rfl
  ·cases h
 ·cases h
def w57z (N : Nat) (head1 : (List UInt8)) (least2 : Int) (most3 : Int) (h50_0 : (List ((List UInt8) × Int))) (h50_1 : Int) (h50_2 : Bool) : Option (Int × (List ((List UInt8) × Int)) × Int × Bool) := (w57 N head1 least2 most3 h50_0 h50_1 h50_2).bind w57un
theorem w57fin {N : Nat} (hc : CxOk (w57c N)) {head1 : (List UInt8)} {least2 : Int} {most3 : Int} {h50_0 : (List ((List UInt8) × Int))} {h50_1 : Int} {h50_2 : Bool} {d : Int × (List ((List UInt8) × Int)) × Int × Bool} (hd : w57z N head1 least2 most3 h50_0 h50_1 h50_2 = some d) : Does Tryd.prog 57 (([.ref 50 0, .e .tx head1, .e (.i .i64) least2, .e (.i .i64) most3] : List X).map X.D) (HA [(50, .box 89 [.e (.sl (.pr .tx (.i .i64))) h50_0, .e (.i .i64) h50_1, .e .bo h50_2])]) (w57r0 (d.1) (d.2.1) (d.2.2.1) (d.2.2.2)).1.D (HA (w57r0 (d.1) (d.2.1) (d.2.2.1) (d.2.2.2)).2) := by
 obtain ⟨r, hr, hu⟩ := Option.bind_eq_some_iff.1 hd
 have := w57does hc hr
 rw [w57uo hu] at this
 exact this
def w57p (N : Nat) (head1 : (List UInt8)) (least2 : Int) (most3 : Int) (h50_0 : (List ((List UInt8) × Int))) (h50_1 : Int) (h50_2 : Bool) : Bool := (w57z N head1 least2 most3 h50_0 h50_1 h50_2).isSome
def w57y0 (N : Nat) (head1 : (List UInt8)) (least2 : Int) (most3 : Int) (h50_0 : (List ((List UInt8) × Int))) (h50_1 : Int) (h50_2 : Bool) : Int := ((w57z N head1 least2 most3 h50_0 h50_1 h50_2).getD (0, [], 0, false)).1
def w57y1 (N : Nat) (head1 : (List UInt8)) (least2 : Int) (most3 : Int) (h50_0 : (List ((List UInt8) × Int))) (h50_1 : Int) (h50_2 : Bool) : (List ((List UInt8) × Int)) := ((w57z N head1 least2 most3 h50_0 h50_1 h50_2).getD (0, [], 0, false)).2.1
def w57y2 (N : Nat) (head1 : (List UInt8)) (least2 : Int) (most3 : Int) (h50_0 : (List ((List UInt8) × Int))) (h50_1 : Int) (h50_2 : Bool) : Int := ((w57z N head1 least2 most3 h50_0 h50_1 h50_2).getD (0, [], 0, false)).2.2.1
def w57y3 (N : Nat) (head1 : (List UInt8)) (least2 : Int) (most3 : Int) (h50_0 : (List ((List UInt8) × Int))) (h50_1 : Int) (h50_2 : Bool) : Bool := ((w57z N head1 least2 most3 h50_0 h50_1 h50_2).getD (0, [], 0, false)).2.2.2
def w57in (xs : List X) (H : XH) : Option ((List UInt8) × Int × Int × (List ((List UInt8) × Int)) × Int × Bool) := match xs, H with
 | [.ref 50 0, x0, x1, x2], [(50, .box 89 [x3, x4, x5])] => (match ue .tx x0, ue (.i .i64) x1, ue (.i .i64) x2, ue (.sl (.pr .tx (.i .i64))) x3, ue (.i .i64) x4, ue .bo x5 with | some a0, some a1, some a2, some a3, some a4, some a5 => some (a0, a1, a2, a3, a4, a5) | _, _, _, _, _, _ => none)
 | _, _ => none
theorem w57io {xs : List X} {H : XH} {d : (List UInt8) × Int × Int × (List ((List UInt8) × Int)) × Int × Bool} (h : w57in xs H = some d) : xs = [.ref 50 0, .e .tx (d.1), .e (.i .i64) (d.2.1), .e (.i .i64) (d.2.2.1)] ∧ H = [(50, .box 89 [.e (.sl (.pr .tx (.i .i64))) (d.2.2.2.1), .e (.i .i64) (d.2.2.2.2.1), .e .bo (d.2.2.2.2.2)])] := by
 unfold w57in at h
 split at h
 ·split at h
  ·rename_i h0 h1 h2 h3 h4 h5; cases h; rw [ue_some h0, ue_some h1, ue_some h2, ue_some h3, ue_some h4, ue_some h5]; exact ⟨rfl, rfl⟩
  ·cases h
 ·cases h
def w57e (N : Nat) : Ent' := fun xs H => match w57in xs H with | some d => some (w57p N (d.1) (d.2.1) (d.2.2.1) (d.2.2.2.1) (d.2.2.2.2.1) (d.2.2.2.2.2), w57r0 (w57y0 N (d.1) (d.2.1) (d.2.2.1) (d.2.2.2.1) (d.2.2.2.2.1) (d.2.2.2.2.2)) (w57y1 N (d.1) (d.2.1) (d.2.2.1) (d.2.2.2.1) (d.2.2.2.2.1) (d.2.2.2.2.2)) (w57y2 N (d.1) (d.2.1) (d.2.2.1) (d.2.2.2.1) (d.2.2.2.2.1) (d.2.2.2.2.2)) (w57y3 N (d.1) (d.2.1) (d.2.2.1) (d.2.2.2.1) (d.2.2.2.2.1) (d.2.2.2.2.2))) | none => none
theorem w57re {N : Nat} {head1 : (List UInt8)} {least2 : Int} {most3 : Int} {h50_0 : (List ((List UInt8) × Int))} {h50_1 : Int} {h50_2 : Bool} {d : Int × (List ((List UInt8) × Int)) × Int × Bool} (hd : w57z N head1 least2 most3 h50_0 h50_1 h50_2 = some d) : w57r0 (w57y0 N head1 least2 most3 h50_0 h50_1 h50_2) (w57y1 N head1 least2 most3 h50_0 h50_1 h50_2) (w57y2 N head1 least2 most3 h50_0 h50_1 h50_2) (w57y3 N head1 least2 most3 h50_0 h50_1 h50_2) = w57r0 (d.1) (d.2.1) (d.2.2.1) (d.2.2.2) := by unfold w57y0 w57y1 w57y2 w57y3; rw [hd]; rfl
theorem w57ok (N : Nat) : EOk Tryd.prog 57 (w57e N) := fun xs H pre r he hp => by
 unfold w57e at he
 split at he
 ·rename_i d hd
  have he := Option.some.inj he
  have h1 := congrArg Prod.fst he
  have h2 := congrArg Prod.snd he
  simp only at h1 h2
  obtain ⟨e1, e2⟩ := w57io hd
  rw [e1, e2, ← h2]
  have h : (w57z N (d.1) (d.2.1) (d.2.2.1) (d.2.2.2.1) (d.2.2.2.2.1) (d.2.2.2.2.2)).isSome = true := h1.trans hp
  obtain ⟨d', hd'⟩ := Option.isSome_iff_exists.1 h
  have f := w57fin (w57cx N) hd'
  rw [← w57re hd'] at f
  exact f
 ·cases he
def w55r0 (a0 : Int) (a1 : Int) (a2 : (List ((List UInt8) × Int))) (a3 : Int) (a4 : Bool) (a5 : (List Int)) : Res := (.tup [], [(50, .box 87 [.ref 52 0]), (51, .box 51 [.own 100, .e (.i .i64) a0, .e (.i .i64) a1]), (52, .box 89 [.e (.sl (.pr .tx (.i .i64))) a2, .e (.i .i64) a3, .e .bo a4]), (100, .row 3 (.i .i64) a5 true)])
noncomputable def w55L (N : Nat) : List (Nat × Ent') := [(56, w56e N), (36, w36e N), (57, w57e N)]
noncomputable def w55c (N : Nat) : Cx := ⟨Tryd.prog, 99999, w55L N⟩
noncomputable def w55b : Code := Tryd.f55.body.getD .skip
theorem w55cx (N : Nat) : CxOk (w55c N) := ctx_ok (by kernel_rfl) (.cons (by kernel_rfl) (w56ok N) (.cons (by kernel_rfl) (w36ok N) (.cons (by kernel_rfl) (w57ok N) .nil)))
def w55F0 [Alg] (N : Nat)   (k0 : Int → Int → Int → (List ((List UInt8) × Int)) → Int → Bool → (List Int) → O) (x0_0 : Int) (x0_1 : Int) (x0_2 : Int) (x0_3 : (List ((List UInt8) × Int))) (x0_4 : Int) (x0_5 : Bool) (x0_6 : (List Int)) : O :=
 ck (w56p N [lF1x6] x0_3 x0_4 x0_5) <|
 br (decide (w56y0 N [lF1x6] x0_3 x0_4 x0_5 = (0 : Int)))
  (k0 ((-1 : Int)) x0_1 x0_2 (w56y1 N [lF1x6] x0_3 x0_4 x0_5) (w56y2 N [lF1x6] x0_3 x0_4 x0_5) (w56y3 N [lF1x6] x0_3 x0_4 x0_5) x0_6)
  (k0 x0_0 x0_1 x0_2 (w56y1 N [lF1x6] x0_3 x0_4 x0_5) (w56y2 N [lF1x6] x0_3 x0_4 x0_5) (w56y3 N [lF1x6] x0_3 x0_4 x0_5) x0_6)
noncomputable def w55b0 : Code := atC [1, 0] w55b
def w55m0 : Nm := ⟨[0, 1, 2], [], []⟩
def w55I0 (x : Int × Int × Int × (List ((List UInt8) × Int)) × Int × Bool × (List Int)) : Sg := ⟨[(0, .ref 50 0), (1, .ref 51 0), (2, .e (.i .i64) x.1)], [(50, .box 87 [.ref 52 0]), (51, .box 51 [.own 53, .e (.i .i64) x.2.1, .e (.i .i64) x.2.2.1]), (52, .box 89 [.e (.sl (.pr .tx (.i .i64))) x.2.2.2.1, .e (.i .i64) x.2.2.2.2.1, .e .bo x.2.2.2.2.2.1]), (53, .row 3 (.i .i64) x.2.2.2.2.2.2 true)], 100⟩
def w55u0 (σ : Sg) : Int × Int × Int × (List ((List UInt8) × Int)) × Int × Bool × (List Int) := (lvT (.i .i64) 2 0 σ, lvH (.i .i64) 51 1 σ, lvH (.i .i64) 51 2 σ, lvH (.sl (.pr .tx (.i .i64))) 52 0 σ, lvH (.i .i64) 52 1 σ, lvH .bo 52 2 σ, lvR (.i .i64) 53 σ)
theorem w55ui0 : ∀ x, w55u0 (w55I0 x) = x := fun _ => by kernel_rfl
def w55X0_0 (y : Int × Int × Int × (List ((List UInt8) × Int)) × Int × Bool × (List Int)) : Exit × Sg := (.normal, ⟨[(0, .ref 50 0), (1, .ref 51 0), (2, .e (.i .i64) y.1)], [(50, .box 87 [.ref 52 0]), (51, .box 51 [.own 53, .e (.i .i64) y.2.1, .e (.i .i64) y.2.2.1]), (52, .box 89 [.e (.sl (.pr .tx (.i .i64))) y.2.2.2.1, .e (.i .i64) y.2.2.2.2.1, .e .bo y.2.2.2.2.2.1]), (53, .row 3 (.i .i64) y.2.2.2.2.2.2 true)], 100⟩)
def w55v0_0 (σ : Sg) : Int × Int × Int × (List ((List UInt8) × Int)) × Int × Bool × (List Int) := (lvT (.i .i64) 2 0 σ, lvH (.i .i64) 51 1 σ, lvH (.i .i64) 51 2 σ, lvH (.sl (.pr .tx (.i .i64))) 52 0 σ, lvH (.i .i64) 52 1 σ, lvH .bo 52 2 σ, lvR (.i .i64) 53 σ)
def w55w0 : List (Exit × Nm) := [(.normal, ⟨[0, 1, 2], [], []⟩)]
theorem w55o0 : Outs w55v0_0 (fun _ => ()) (fun _ => ()) w55X0_0 (noX 1) (noX 2) .normal (.goto 1) (.goto 2) := ⟨fun _ => by kernel_rfl, fun _ => by kernel_rfl, fun _ => by kernel_rfl, fun _ => by kernel_rfl, fun _ => by kernel_rfl, fun _ => by kernel_rfl, exNe_ok (by kernel_rfl), exNe_ok (by kernel_rfl), exNe_ok (by kernel_rfl)⟩
def w55l0 [Alg] (N : Nat) (_ : Nat) (x : Int × Int × Int × (List ((List UInt8) × Int)) × Int × Bool × (List Int)) (k0 : (Int × Int × Int × (List ((List UInt8) × Int)) × Int × Bool × (List Int)) → O) (_ : (Unit) → O) (_ : (Unit) → O) : O := w55F0 N   (fun y0 y1 y2 y3 y4 y5 y6 => k0 (y0, y1, y2, y3, y4, y5, y6)) x.1 x.2.1 x.2.2.1 x.2.2.2.1 x.2.2.2.2.1 x.2.2.2.2.2.1 x.2.2.2.2.2.2
def w55n0 [Alg] (N : Nat) (a0 : Int) (a1 : Int) (a2 : Int) (a3 : (List ((List UInt8) × Int))) (a4 : Int) (a5 : Bool) (a6 : (List Int)) (k0 : Int → Int → Int → (List ((List UInt8) × Int)) → Int → Bool → (List Int) → O) : O := w55l0 N N (a0, a1, a2, a3, a4, a5, a6) (fun y => k0 y.1 y.2.1 y.2.2.1 y.2.2.2.1 y.2.2.2.2.1 y.2.2.2.2.2.1 y.2.2.2.2.2.2) (fun _ => none) (fun _ => none)
noncomputable def w55s0 [Alg] (N : Nat) (a0 : Int) (a1 : Int) (a2 : Int) (a3 : (List ((List UInt8) × Int))) (a4 : Int) (a5 : Bool) (a6 : (List Int)) (k0 : Int → Int → Int → (List ((List UInt8) × Int)) → Int → Bool → (List Int) → O) : O := subL w55I0 w55u0 (w55l0 N N) (w55I0 (a0, a1, a2, a3, a4, a5, a6)) (fun y => k0 y.1 y.2.1 y.2.2.1 y.2.2.2.1 y.2.2.2.2.1 y.2.2.2.2.2.1 y.2.2.2.2.2.2) (fun _ => none) (fun _ => none)
theorem w55e0 [Alg] (N : Nat) : w55s0 N = w55n0 N := funext fun _ => funext fun _ => funext fun _ => funext fun _ => funext fun _ => funext fun _ => funext fun _ => funext fun _ => subL_I w55ui0 _ _ _ _
noncomputable def w55h0 [Alg] (_ : Nat) : Hint := .d
theorem w55hk0 (N : Nat) : HintOk (w55c N) Tryd.f55.ntmps (w55h0 N) w55b0 := hk_of _ _ trivial
theorem w55q0 [Alg] (N : Nat) (K : Exit → Sg → O) (x : Int × Int × Int × (List ((List UInt8) × Int)) × Int × Bool × (List Int)) : w55F0 N   (fun y0 y1 y2 y3 y4 y5 y6 => K (w55X0_0 (y0, y1, y2, y3, y4, y5, y6)).1 (w55X0_0 (y0, y1, y2, y3, y4, y5, y6)).2) x.1 x.2.1 x.2.2.1 x.2.2.2.1 x.2.2.2.2.1 x.2.2.2.2.2.1 x.2.2.2.2.2.2 = exec (w55c N) Tryd.f55.ntmps (w55h0 N) w55b0 (w55I0 x) (partX w55w0 K) := by kernel_rfl
theorem w55S0 (N : Nat) (hc : CxOk (w55c N)) : SubOk (w55c N) Tryd.f55.ntmps w55b0 w55X0_0 (noX 1) (noX 2) (subL w55I0 w55u0 (w55l0 N N)) :=
 sub_part hc (w55hk0 N) w55o0 (fun x K => by
  have h : w55F0 N   (fun y0 y1 y2 y3 y4 y5 y6 => K (w55X0_0 (y0, y1, y2, y3, y4, y5, y6)).1 (w55X0_0 (y0, y1, y2, y3, y4, y5, y6)).2) x.1 x.2.1 x.2.2.1 x.2.2.2.1 x.2.2.2.2.1 x.2.2.2.2.2.1 x.2.2.2.2.2.2 = w55F0 N   (fun y0 y1 y2 y3 y4 y5 y6 => K (w55X0_0 (y0, y1, y2, y3, y4, y5, y6)).1 (w55X0_0 (y0, y1, y2, y3, y4, y5, y6)).2) x.1 x.2.1 x.2.2.1 x.2.2.2.1 x.2.2.2.2.1 x.2.2.2.2.2.1 x.2.2.2.2.2.2 := by rfl
  exact h.trans (w55q0 N K x))
def w55F1 [Alg] (N : Nat)   (k0 : Int → Int → Int → Int → (List ((List UInt8) × Int)) → Int → Bool → (List Int) → O) (x8_0 : Int) (x8_1 : Int) (x8_2 : Int) (x8_3 : Int) (x8_4 : (List ((List UInt8) × Int))) (x8_5 : Int) (x8_6 : Bool) (x8_7 : (List Int)) : O :=
 br (decide ((0 : Int) < (↑x8_7.length : Int)))
  (gx x8_7 (IntKind.i64.wrap ((↑x8_7.length : Int) - (1 : Int))) fun y11 =>
  ck (w36p N y11) <|
  k0 x8_0 (w36y0 N y11) x8_2 x8_3 x8_4 x8_5 x8_6 x8_7)
  (k0 x8_0 x8_1 x8_2 x8_3 x8_4 x8_5 x8_6 x8_7)
noncomputable def w55b1 : Code := atC [1, 1, 1, 0] w55b
def w55m1 : Nm := ⟨[0, 1, 2, 3], [], []⟩
def w55I1 (x : Int × Int × Int × Int × (List ((List UInt8) × Int)) × Int × Bool × (List Int)) : Sg := ⟨[(0, .ref 50 0), (1, .ref 51 0), (2, .e (.i .i64) x.1), (3, .e (.i .i64) x.2.1)], [(50, .box 87 [.ref 52 0]), (51, .box 51 [.own 53, .e (.i .i64) x.2.2.1, .e (.i .i64) x.2.2.2.1]), (52, .box 89 [.e (.sl (.pr .tx (.i .i64))) x.2.2.2.2.1, .e (.i .i64) x.2.2.2.2.2.1, .e .bo x.2.2.2.2.2.2.1]), (53, .row 3 (.i .i64) x.2.2.2.2.2.2.2 true)], 100⟩
def w55u1 (σ : Sg) : Int × Int × Int × Int × (List ((List UInt8) × Int)) × Int × Bool × (List Int) := (lvT (.i .i64) 2 0 σ, lvT (.i .i64) 3 0 σ, lvH (.i .i64) 51 1 σ, lvH (.i .i64) 51 2 σ, lvH (.sl (.pr .tx (.i .i64))) 52 0 σ, lvH (.i .i64) 52 1 σ, lvH .bo 52 2 σ, lvR (.i .i64) 53 σ)
theorem w55ui1 : ∀ x, w55u1 (w55I1 x) = x := fun _ => by kernel_rfl
def w55X1_0 (y : Int × Int × Int × Int × (List ((List UInt8) × Int)) × Int × Bool × (List Int)) : Exit × Sg := (.normal, ⟨[(0, .ref 50 0), (1, .ref 51 0), (2, .e (.i .i64) y.1), (3, .e (.i .i64) y.2.1)], [(50, .box 87 [.ref 52 0]), (51, .box 51 [.own 53, .e (.i .i64) y.2.2.1, .e (.i .i64) y.2.2.2.1]), (52, .box 89 [.e (.sl (.pr .tx (.i .i64))) y.2.2.2.2.1, .e (.i .i64) y.2.2.2.2.2.1, .e .bo y.2.2.2.2.2.2.1]), (53, .row 3 (.i .i64) y.2.2.2.2.2.2.2 true)], 100⟩)
def w55v1_0 (σ : Sg) : Int × Int × Int × Int × (List ((List UInt8) × Int)) × Int × Bool × (List Int) := (lvT (.i .i64) 2 0 σ, lvT (.i .i64) 3 0 σ, lvH (.i .i64) 51 1 σ, lvH (.i .i64) 51 2 σ, lvH (.sl (.pr .tx (.i .i64))) 52 0 σ, lvH (.i .i64) 52 1 σ, lvH .bo 52 2 σ, lvR (.i .i64) 53 σ)
def w55w1 : List (Exit × Nm) := [(.normal, ⟨[0, 1, 2, 3], [], []⟩)]
theorem w55o1 : Outs w55v1_0 (fun _ => ()) (fun _ => ()) w55X1_0 (noX 1) (noX 2) .normal (.goto 1) (.goto 2) := ⟨fun _ => by kernel_rfl, fun _ => by kernel_rfl, fun _ => by kernel_rfl, fun _ => by kernel_rfl, fun _ => by kernel_rfl, fun _ => by kernel_rfl, exNe_ok (by kernel_rfl), exNe_ok (by kernel_rfl), exNe_ok (by kernel_rfl)⟩
def w55l1 [Alg] (N : Nat) (_ : Nat) (x : Int × Int × Int × Int × (List ((List UInt8) × Int)) × Int × Bool × (List Int)) (k0 : (Int × Int × Int × Int × (List ((List UInt8) × Int)) × Int × Bool × (List Int)) → O) (_ : (Unit) → O) (_ : (Unit) → O) : O := w55F1 N   (fun y0 y1 y2 y3 y4 y5 y6 y7 => k0 (y0, y1, y2, y3, y4, y5, y6, y7)) x.1 x.2.1 x.2.2.1 x.2.2.2.1 x.2.2.2.2.1 x.2.2.2.2.2.1 x.2.2.2.2.2.2.1 x.2.2.2.2.2.2.2
def w55n1 [Alg] (N : Nat) (a0 : Int) (a1 : Int) (a2 : Int) (a3 : Int) (a4 : (List ((List UInt8) × Int))) (a5 : Int) (a6 : Bool) (a7 : (List Int)) (k0 : Int → Int → Int → Int → (List ((List UInt8) × Int)) → Int → Bool → (List Int) → O) : O := w55l1 N N (a0, a1, a2, a3, a4, a5, a6, a7) (fun y => k0 y.1 y.2.1 y.2.2.1 y.2.2.2.1 y.2.2.2.2.1 y.2.2.2.2.2.1 y.2.2.2.2.2.2.1 y.2.2.2.2.2.2.2) (fun _ => none) (fun _ => none)
noncomputable def w55s1 [Alg] (N : Nat) (a0 : Int) (a1 : Int) (a2 : Int) (a3 : Int) (a4 : (List ((List UInt8) × Int))) (a5 : Int) (a6 : Bool) (a7 : (List Int)) (k0 : Int → Int → Int → Int → (List ((List UInt8) × Int)) → Int → Bool → (List Int) → O) : O := subL w55I1 w55u1 (w55l1 N N) (w55I1 (a0, a1, a2, a3, a4, a5, a6, a7)) (fun y => k0 y.1 y.2.1 y.2.2.1 y.2.2.2.1 y.2.2.2.2.1 y.2.2.2.2.2.1 y.2.2.2.2.2.2.1 y.2.2.2.2.2.2.2) (fun _ => none) (fun _ => none)
theorem w55e1 [Alg] (N : Nat) : w55s1 N = w55n1 N := funext fun _ => funext fun _ => funext fun _ => funext fun _ => funext fun _ => funext fun _ => funext fun _ => funext fun _ => funext fun _ => subL_I w55ui1 _ _ _ _
noncomputable def w55h1 [Alg] (_ : Nat) : Hint := .d
theorem w55hk1 (N : Nat) : HintOk (w55c N) Tryd.f55.ntmps (w55h1 N) w55b1 := hk_of _ _ trivial
theorem w55q1 [Alg] (N : Nat) (K : Exit → Sg → O) (x : Int × Int × Int × Int × (List ((List UInt8) × Int)) × Int × Bool × (List Int)) : w55F1 N   (fun y0 y1 y2 y3 y4 y5 y6 y7 => K (w55X1_0 (y0, y1, y2, y3, y4, y5, y6, y7)).1 (w55X1_0 (y0, y1, y2, y3, y4, y5, y6, y7)).2) x.1 x.2.1 x.2.2.1 x.2.2.2.1 x.2.2.2.2.1 x.2.2.2.2.2.1 x.2.2.2.2.2.2.1 x.2.2.2.2.2.2.2 = exec (w55c N) Tryd.f55.ntmps (w55h1 N) w55b1 (w55I1 x) (partX w55w1 K) := by kernel_rfl
theorem w55S1 (N : Nat) (hc : CxOk (w55c N)) : SubOk (w55c N) Tryd.f55.ntmps w55b1 w55X1_0 (noX 1) (noX 2) (subL w55I1 w55u1 (w55l1 N N)) :=
 sub_part hc (w55hk1 N) w55o1 (fun x K => by
  have h : w55F1 N   (fun y0 y1 y2 y3 y4 y5 y6 y7 => K (w55X1_0 (y0, y1, y2, y3, y4, y5, y6, y7)).1 (w55X1_0 (y0, y1, y2, y3, y4, y5, y6, y7)).2) x.1 x.2.1 x.2.2.1 x.2.2.2.1 x.2.2.2.2.1 x.2.2.2.2.2.1 x.2.2.2.2.2.2.1 x.2.2.2.2.2.2.2 = w55F1 N   (fun y0 y1 y2 y3 y4 y5 y6 y7 => K (w55X1_0 (y0, y1, y2, y3, y4, y5, y6, y7)).1 (w55X1_0 (y0, y1, y2, y3, y4, y5, y6, y7)).2) x.1 x.2.1 x.2.2.1 x.2.2.2.1 x.2.2.2.2.1 x.2.2.2.2.2.1 x.2.2.2.2.2.2.1 x.2.2.2.2.2.2.2 := by rfl
  exact h.trans (w55q1 N K x))
def w55G [Alg] (N : Nat) (in0 : Int → Int → Int → (List ((List UInt8) × Int)) → Int → Bool → (List Int) → (Int → Int → Int → (List ((List UInt8) × Int)) → Int → Bool → (List Int) → O) → O) (in1 : Int → Int → Int → Int → (List ((List UInt8) × Int)) → Int → Bool → (List Int) → (Int → Int → Int → Int → (List ((List UInt8) × Int)) → Int → Bool → (List Int) → O) → O) (h51_0 : Int) (h51_1 : Int) (h52_0 : (List ((List UInt8) × Int))) (h52_1 : Int) (h52_2 : Bool) (h53_0 : (List Int)) : O :=
 in0 ((1 : Int)) h51_0 h51_1 h52_0 h52_1 h52_2 h53_0
  (fun z1 z2 z3 z4 z5 z6 z7 =>
   in1 z1 ((0 : Int)) z2 z3 z4 z5 z6 z7
    (fun z12 z13 z14 z15 z16 z17 z18 z19 =>
     ck (w57p N lF1x9 (IntKind.i64.wrap (z13 + (1 : Int))) (16 : Int) z16 z17 z18) <|
     br (!w57y3 N lF1x9 (IntKind.i64.wrap (z13 + (1 : Int))) (16 : Int) z16 z17 z18)
      (ck (lim (z19 ++ [IntKind.i64.wrap (z12 * w57y0 N lF1x9 (IntKind.i64.wrap (z13 + (1 : Int))) (16 : Int) z16 z17 z18)]).length (8 : Nat)) <|
      some (w55r0 z14 z15 (w57y1 N lF1x9 (IntKind.i64.wrap (z13 + (1 : Int))) (16 : Int) z16 z17 z18) (w57y2 N lF1x9 (IntKind.i64.wrap (z13 + (1 : Int))) (16 : Int) z16 z17 z18) (w57y3 N lF1x9 (IntKind.i64.wrap (z13 + (1 : Int))) (16 : Int) z16 z17 z18) (z19 ++ [IntKind.i64.wrap (z12 * w57y0 N lF1x9 (IntKind.i64.wrap (z13 + (1 : Int))) (16 : Int) z16 z17 z18)])))
      (some (w55r0 z14 z15 (w57y1 N lF1x9 (IntKind.i64.wrap (z13 + (1 : Int))) (16 : Int) z16 z17 z18) (w57y2 N lF1x9 (IntKind.i64.wrap (z13 + (1 : Int))) (16 : Int) z16 z17 z18) (w57y3 N lF1x9 (IntKind.i64.wrap (z13 + (1 : Int))) (16 : Int) z16 z17 z18) z19))))
def w55 [Alg] (N : Nat) (h51_0 : Int) (h51_1 : Int) (h52_0 : (List ((List UInt8) × Int))) (h52_1 : Int) (h52_2 : Bool) (h53_0 : (List Int)) : O := w55G N (w55n0 N) (w55n1 N) h51_0 h51_1 h52_0 h52_1 h52_2 h53_0
noncomputable def w55h [Alg] (N : Nat) : Hint := (.seq .d (.seq (.sub w55m0 _ _ _ w55X0_0 (noX 1) (noX 2) (subL w55I0 w55u0 (w55l0 N N))) (.seq .d (.seq (.sub w55m1 _ _ _ w55X1_0 (noX 1) (noX 2) (subL w55I1 w55u1 (w55l1 N N))) (.seq .d (.seq (.reg [] [.rn 1 0] []) .d))))))
theorem w55hk (N : Nat) (hc : CxOk (w55c N)) : HintOk (w55c N) Tryd.f55.ntmps (w55h N) w55b := hk_of _ _ (And.intro trivial (And.intro (w55S0 N hc) (And.intro trivial (And.intro (w55S1 N hc) (And.intro trivial (And.intro trivial trivial))))))
theorem w55q [Alg] (N : Nat) (h51_0 : Int) (h51_1 : Int) (h52_0 : (List ((List UInt8) × Int))) (h52_1 : Int) (h52_2 : Bool) (h53_0 : (List Int)) : w55G N (w55s0 N) (w55s1 N) h51_0 h51_1 h52_0 h52_1 h52_2 h53_0 = exec (w55c N) Tryd.f55.ntmps (w55h N) w55b ⟨argT 0 [.ref 50 0, .ref 51 0], [(50, .box 87 [.ref 52 0]), (51, .box 51 [.own 53, .e (.i .i64) h51_0, .e (.i .i64) h51_1]), (52, .box 89 [.e (.sl (.pr .tx (.i .i64))) h52_0, .e (.i .i64) h52_1, .e .bo h52_2]), (53, .row 3 (.i .i64) h53_0 true)], 100⟩ (finX (w55c N) Tryd.f55 true) := by kernel_rfl
theorem w55does {N : Nat} (hc : CxOk (w55c N)) {h51_0 : Int} {h51_1 : Int} {h52_0 : (List ((List UInt8) × Int))} {h52_1 : Int} {h52_2 : Bool} {h53_0 : (List Int)} {r : Res} (h : w55 N h51_0 h51_1 h52_0 h52_1 h52_2 h53_0 = some r) : Does Tryd.prog 55 (([.ref 50 0, .ref 51 0] : List X).map X.D) (HA [(50, .box 87 [.ref 52 0]), (51, .box 51 [.own 53, .e (.i .i64) h51_0, .e (.i .i64) h51_1]), (52, .box 89 [.e (.sl (.pr .tx (.i .i64))) h52_0, .e (.i .i64) h52_1, .e .bo h52_2]), (53, .row 3 (.i .i64) h53_0 true)]) r.1.D (HA r.2) :=
 fun_ok hc (f := 55) (fn := Tryd.f55) (code := w55b) (by kernel_rfl) (by kernel_rfl) (w55hk N hc) (Nat.le_of_ble_eq_true (by kernel_rfl)) (ow := true) ((w55q N h51_0 h51_1 h52_0 h52_1 h52_2 h53_0).symm.trans (by rw [w55e0 N, w55e1 N]; exact h))
def w55un (r : Res) : Option (Int × Int × (List ((List UInt8) × Int)) × Int × Bool × (List Int)) := match r with
 | (.tup [], [(50, .box 87 [.ref 52 0]), (51, .box 51 [.own 100, x0, x1]), (52, .box 89 [x2, x3, x4]), (100, x5)]) => (match ue (.i .i64) x0, ue (.i .i64) x1, ue (.sl (.pr .tx (.i .i64))) x2, ue (.i .i64) x3, ue .bo x4, ur 3 (.i .i64) true x5 with | some a0, some a1, some a2, some a3, some a4, some a5 => some (a0, a1, a2, a3, a4, a5) | _, _, _, _, _, _ => none)
 | _ => none
theorem w55uo {r : Res} {d : Int × Int × (List ((List UInt8) × Int)) × Int × Bool × (List Int)} (h : w55un r = some d) : r = w55r0 (d.1) (d.2.1) (d.2.2.1) (d.2.2.2.1) (d.2.2.2.2.1) (d.2.2.2.2.2) := by
 unfold w55un at h
 split at h
 ·split at h
  ·rename_i h0 h1 h2 h3 h4 h5; cases h; rw [ue_some h0, ue_some h1, ue_some h2, ue_some h3, ue_some h4, ur_some h5]; rfl
  ·cases h
 ·cases h
def w55z (N : Nat) (h51_0 : Int) (h51_1 : Int) (h52_0 : (List ((List UInt8) × Int))) (h52_1 : Int) (h52_2 : Bool) (h53_0 : (List Int)) : Option (Int × Int × (List ((List UInt8) × Int)) × Int × Bool × (List Int)) := (w55 N h51_0 h51_1 h52_0 h52_1 h52_2 h53_0).bind w55un
theorem w55fin {N : Nat} (hc : CxOk (w55c N)) {h51_0 : Int} {h51_1 : Int} {h52_0 : (List ((List UInt8) × Int))} {h52_1 : Int} {h52_2 : Bool} {h53_0 : (List Int)} {d : Int × Int × (List ((List UInt8) × Int)) × Int × Bool × (List Int)} (hd : w55z N h51_0 h51_1 h52_0 h52_1 h52_2 h53_0 = some d) : Does Tryd.prog 55 (([.ref 50 0, .ref 51 0] : List X).map X.D) (HA [(50, .box 87 [.ref 52 0]), (51, .box 51 [.own 53, .e (.i .i64) h51_0, .e (.i .i64) h51_1]), (52, .box 89 [.e (.sl (.pr .tx (.i .i64))) h52_0, .e (.i .i64) h52_1, .e .bo h52_2]), (53, .row 3 (.i .i64) h53_0 true)]) (w55r0 (d.1) (d.2.1) (d.2.2.1) (d.2.2.2.1) (d.2.2.2.2.1) (d.2.2.2.2.2)).1.D (HA (w55r0 (d.1) (d.2.1) (d.2.2.1) (d.2.2.2.1) (d.2.2.2.2.1) (d.2.2.2.2.2)).2) := by
 obtain ⟨r, hr, hu⟩ := Option.bind_eq_some_iff.1 hd
 have := w55does hc hr
 rw [w55uo hu] at this
 exact this
def w55p (N : Nat) (h51_0 : Int) (h51_1 : Int) (h52_0 : (List ((List UInt8) × Int))) (h52_1 : Int) (h52_2 : Bool) (h53_0 : (List Int)) : Bool := (w55z N h51_0 h51_1 h52_0 h52_1 h52_2 h53_0).isSome
def w55y0 (N : Nat) (h51_0 : Int) (h51_1 : Int) (h52_0 : (List ((List UInt8) × Int))) (h52_1 : Int) (h52_2 : Bool) (h53_0 : (List Int)) : Int := ((w55z N h51_0 h51_1 h52_0 h52_1 h52_2 h53_0).getD (0, 0, [], 0, false, [])).1
def w55y1 (N : Nat) (h51_0 : Int) (h51_1 : Int) (h52_0 : (List ((List UInt8) × Int))) (h52_1 : Int) (h52_2 : Bool) (h53_0 : (List Int)) : Int := ((w55z N h51_0 h51_1 h52_0 h52_1 h52_2 h53_0).getD (0, 0, [], 0, false, [])).2.1
def w55y2 (N : Nat) (h51_0 : Int) (h51_1 : Int) (h52_0 : (List ((List UInt8) × Int))) (h52_1 : Int) (h52_2 : Bool) (h53_0 : (List Int)) : (List ((List UInt8) × Int)) := ((w55z N h51_0 h51_1 h52_0 h52_1 h52_2 h53_0).getD (0, 0, [], 0, false, [])).2.2.1
def w55y3 (N : Nat) (h51_0 : Int) (h51_1 : Int) (h52_0 : (List ((List UInt8) × Int))) (h52_1 : Int) (h52_2 : Bool) (h53_0 : (List Int)) : Int := ((w55z N h51_0 h51_1 h52_0 h52_1 h52_2 h53_0).getD (0, 0, [], 0, false, [])).2.2.2.1
def w55y4 (N : Nat) (h51_0 : Int) (h51_1 : Int) (h52_0 : (List ((List UInt8) × Int))) (h52_1 : Int) (h52_2 : Bool) (h53_0 : (List Int)) : Bool := ((w55z N h51_0 h51_1 h52_0 h52_1 h52_2 h53_0).getD (0, 0, [], 0, false, [])).2.2.2.2.1
def w55y5 (N : Nat) (h51_0 : Int) (h51_1 : Int) (h52_0 : (List ((List UInt8) × Int))) (h52_1 : Int) (h52_2 : Bool) (h53_0 : (List Int)) : (List Int) := ((w55z N h51_0 h51_1 h52_0 h52_1 h52_2 h53_0).getD (0, 0, [], 0, false, [])).2.2.2.2.2
def w55in (xs : List X) (H : XH) : Option (Int × Int × (List ((List UInt8) × Int)) × Int × Bool × (List Int)) := match xs, H with
 | [.ref 50 0, .ref 51 0], [(50, .box 87 [.ref 52 0]), (51, .box 51 [.own 53, x0, x1]), (52, .box 89 [x2, x3, x4]), (53, x5)] => (match ue (.i .i64) x0, ue (.i .i64) x1, ue (.sl (.pr .tx (.i .i64))) x2, ue (.i .i64) x3, ue .bo x4, ur 3 (.i .i64) true x5 with | some a0, some a1, some a2, some a3, some a4, some a5 => some (a0, a1, a2, a3, a4, a5) | _, _, _, _, _, _ => none)
 | _, _ => none
theorem w55io {xs : List X} {H : XH} {d : Int × Int × (List ((List UInt8) × Int)) × Int × Bool × (List Int)} (h : w55in xs H = some d) : xs = [.ref 50 0, .ref 51 0] ∧ H = [(50, .box 87 [.ref 52 0]), (51, .box 51 [.own 53, .e (.i .i64) (d.1), .e (.i .i64) (d.2.1)]), (52, .box 89 [.e (.sl (.pr .tx (.i .i64))) (d.2.2.1), .e (.i .i64) (d.2.2.2.1), .e .bo (d.2.2.2.2.1)]), (53, .row 3 (.i .i64) (d.2.2.2.2.2) true)] := by
 unfold w55in at h
 split at h
 ·split at h
  ·rename_i h0 h1 h2 h3 h4 h5; cases h; rw [ue_some h0, ue_some h1, ue_some h2, ue_some h3, ue_some h4, ur_some h5]; exact ⟨rfl, rfl⟩
  ·cases h
 ·cases h
def w55e (N : Nat) : Ent' := fun xs H => match w55in xs H with | some d => some (w55p N (d.1) (d.2.1) (d.2.2.1) (d.2.2.2.1) (d.2.2.2.2.1) (d.2.2.2.2.2), w55r0 (w55y0 N (d.1) (d.2.1) (d.2.2.1) (d.2.2.2.1) (d.2.2.2.2.1) (d.2.2.2.2.2)) (w55y1 N (d.1) (d.2.1) (d.2.2.1) (d.2.2.2.1) (d.2.2.2.2.1) (d.2.2.2.2.2)) (w55y2 N (d.1) (d.2.1) (d.2.2.1) (d.2.2.2.1) (d.2.2.2.2.1) (d.2.2.2.2.2)) (w55y3 N (d.1) (d.2.1) (d.2.2.1) (d.2.2.2.1) (d.2.2.2.2.1) (d.2.2.2.2.2)) (w55y4 N (d.1) (d.2.1) (d.2.2.1) (d.2.2.2.1) (d.2.2.2.2.1) (d.2.2.2.2.2)) (w55y5 N (d.1) (d.2.1) (d.2.2.1) (d.2.2.2.1) (d.2.2.2.2.1) (d.2.2.2.2.2))) | none => none
theorem w55re {N : Nat} {h51_0 : Int} {h51_1 : Int} {h52_0 : (List ((List UInt8) × Int))} {h52_1 : Int} {h52_2 : Bool} {h53_0 : (List Int)} {d : Int × Int × (List ((List UInt8) × Int)) × Int × Bool × (List Int)} (hd : w55z N h51_0 h51_1 h52_0 h52_1 h52_2 h53_0 = some d) : w55r0 (w55y0 N h51_0 h51_1 h52_0 h52_1 h52_2 h53_0) (w55y1 N h51_0 h51_1 h52_0 h52_1 h52_2 h53_0) (w55y2 N h51_0 h51_1 h52_0 h52_1 h52_2 h53_0) (w55y3 N h51_0 h51_1 h52_0 h52_1 h52_2 h53_0) (w55y4 N h51_0 h51_1 h52_0 h52_1 h52_2 h53_0) (w55y5 N h51_0 h51_1 h52_0 h52_1 h52_2 h53_0) = w55r0 (d.1) (d.2.1) (d.2.2.1) (d.2.2.2.1) (d.2.2.2.2.1) (d.2.2.2.2.2) := by unfold w55y0 w55y1 w55y2 w55y3 w55y4 w55y5; rw [hd]; rfl
theorem w55ok (N : Nat) : EOk Tryd.prog 55 (w55e N) := fun xs H pre r he hp => by
 unfold w55e at he
 split at he
 ·rename_i d hd
  have he := Option.some.inj he
  have h1 := congrArg Prod.fst he
  have h2 := congrArg Prod.snd he
  simp only at h1 h2
  obtain ⟨e1, e2⟩ := w55io hd
  rw [e1, e2, ← h2]
  have h : (w55z N (d.1) (d.2.1) (d.2.2.1) (d.2.2.2.1) (d.2.2.2.2.1) (d.2.2.2.2.2)).isSome = true := h1.trans hp
  obtain ⟨d', hd'⟩ := Option.isSome_iff_exists.1 h
  have f := w55fin (w55cx N) hd'
  rw [← w55re hd'] at f
  exact f
 ·cases he
def w34r0 (a0 : Int) (a1 : Int) (a2 : Int) : Res := (.own 100, [(100, .mp .tx [(lF1x1, .e (.i .i64) a0), (lF1x0, .e (.i .i64) a1), (lF1x2, .e (.i .i64) a2)])])
noncomputable def w34L (_ : Nat) : List (Nat × Ent') := []
noncomputable def w34c (N : Nat) : Cx := ⟨Tryd.prog, 99999, w34L N⟩
noncomputable def w34b : Code := Tryd.f34.body.getD .skip
theorem w34cx (N : Nat) : CxOk (w34c N) := ctx_ok (by kernel_rfl) .nil
def w34G [Alg] (_ : Nat)   : O :=
 ck true <|
 ck true <|
 ck true <|
 some (w34r0 ((0 : Int)) ((1 : Int)) ((2 : Int)))
def w34 [Alg] (N : Nat)  : O := w34G N  
noncomputable def w34h [Alg] (_ : Nat) : Hint := .d
theorem w34hk (N : Nat) : HintOk (w34c N) Tryd.f34.ntmps (w34h N) w34b := hk_of _ _ trivial
theorem w34q [Alg] (N : Nat)  : w34G N   = exec (w34c N) Tryd.f34.ntmps (w34h N) w34b ⟨argT 0 [], [], 100⟩ (finX (w34c N) Tryd.f34 false) := by kernel_rfl
theorem w34does {N : Nat} (hc : CxOk (w34c N))  {r : Res} (h : w34 N  = some r) : Does Tryd.prog 34 (([] : List X).map X.D) (HA []) r.1.D (HA r.2) :=
 fun_ok hc (f := 34) (fn := Tryd.f34) (code := w34b) (by kernel_rfl) (by kernel_rfl) (w34hk N) (Nat.le_of_ble_eq_true (by kernel_rfl)) (ow := false) ((w34q N ).symm.trans (by exact h))
def w34e (_ : Nat) : Ent' := E0 (true, w34r0 ((0 : Int)) ((1 : Int)) ((2 : Int)))
theorem w34ok (N : Nat) : EOk Tryd.prog 34 (w34e N) := EOk.e0 (fun _ => w34does (w34cx N) (r := w34r0 ((0 : Int)) ((1 : Int)) ((2 : Int))) rfl)
def w42r0 (a0 : (List Int)) (a1 : Int) (a2 : Int) (a3 : (List ((List UInt8) × Int))) (a4 : Int) (a5 : Bool) : Res := (.agg [.e (.sl (.i .i64)) a0, .e (.i .i64) a1, .e (.i .i64) a2], [(50, .box 89 [.e (.sl (.pr .tx (.i .i64))) a3, .e (.i .i64) a4, .e .bo a5])])
noncomputable def w42L (N : Nat) : List (Nat × Ent') := [(55, w55e N), (56, w56e N), (34, w34e N), (58, w58e N), (57, w57e N)]
noncomputable def w42c (N : Nat) : Cx := ⟨Tryd.prog, 99999, w42L N⟩
noncomputable def w42b : Code := Tryd.f42.body.getD .skip
theorem w42cx (N : Nat) : CxOk (w42c N) := ctx_ok (by kernel_rfl) (.cons (by kernel_rfl) (w55ok N) (.cons (by kernel_rfl) (w56ok N) (.cons (by kernel_rfl) (w34ok N) (.cons (by kernel_rfl) (w58ok N) (.cons (by kernel_rfl) (w57ok N) .nil)))))
def w42F0 [Alg] (N : Nat)  (self : (List ((List UInt8) × Int)) → Int → Bool → Int → Int → (List Int) → O) (k0 : (List ((List UInt8) × Int)) → Int → Bool → Int → Int → Int → Int → (List Int) → O) (x28_3 : Int) (x28_4 : Int) (x28_0 : (List ((List UInt8) × Int))) (x28_1 : Int) (x28_2 : Bool) (x28_5 : Int) (x28_6 : Int) (x28_7 : (List Int)) : O :=
 br (!x28_2 && decide ((↑x28_7.length : Int) < (8 : Int)))
  (ck (w56p N [lF1x7] x28_0 x28_1 x28_2) <|
  br (decide (w56y0 N [lF1x7] x28_0 x28_1 x28_2 = (0 : Int)))
   (ck (w55p N x28_5 x28_6 (w56y1 N [lF1x7] x28_0 x28_1 x28_2) (w56y2 N [lF1x7] x28_0 x28_1 x28_2) (w56y3 N [lF1x7] x28_0 x28_1 x28_2) x28_7) <|
   self (w55y2 N x28_5 x28_6 (w56y1 N [lF1x7] x28_0 x28_1 x28_2) (w56y2 N [lF1x7] x28_0 x28_1 x28_2) (w56y3 N [lF1x7] x28_0 x28_1 x28_2) x28_7) (w55y3 N x28_5 x28_6 (w56y1 N [lF1x7] x28_0 x28_1 x28_2) (w56y2 N [lF1x7] x28_0 x28_1 x28_2) (w56y3 N [lF1x7] x28_0 x28_1 x28_2) x28_7) (w55y4 N x28_5 x28_6 (w56y1 N [lF1x7] x28_0 x28_1 x28_2) (w56y2 N [lF1x7] x28_0 x28_1 x28_2) (w56y3 N [lF1x7] x28_0 x28_1 x28_2) x28_7) (w55y0 N x28_5 x28_6 (w56y1 N [lF1x7] x28_0 x28_1 x28_2) (w56y2 N [lF1x7] x28_0 x28_1 x28_2) (w56y3 N [lF1x7] x28_0 x28_1 x28_2) x28_7) (w55y1 N x28_5 x28_6 (w56y1 N [lF1x7] x28_0 x28_1 x28_2) (w56y2 N [lF1x7] x28_0 x28_1 x28_2) (w56y3 N [lF1x7] x28_0 x28_1 x28_2) x28_7) (w55y5 N x28_5 x28_6 (w56y1 N [lF1x7] x28_0 x28_1 x28_2) (w56y2 N [lF1x7] x28_0 x28_1 x28_2) (w56y3 N [lF1x7] x28_0 x28_1 x28_2) x28_7))
   (k0 (w56y1 N [lF1x7] x28_0 x28_1 x28_2) (w56y2 N [lF1x7] x28_0 x28_1 x28_2) (w56y3 N [lF1x7] x28_0 x28_1 x28_2) x28_3 x28_4 x28_5 x28_6 x28_7))
  (br false
   (ck (w55p N x28_5 x28_6 x28_0 x28_1 x28_2 x28_7) <|
   self (w55y2 N x28_5 x28_6 x28_0 x28_1 x28_2 x28_7) (w55y3 N x28_5 x28_6 x28_0 x28_1 x28_2 x28_7) (w55y4 N x28_5 x28_6 x28_0 x28_1 x28_2 x28_7) (w55y0 N x28_5 x28_6 x28_0 x28_1 x28_2 x28_7) (w55y1 N x28_5 x28_6 x28_0 x28_1 x28_2 x28_7) (w55y5 N x28_5 x28_6 x28_0 x28_1 x28_2 x28_7))
   (k0 x28_0 x28_1 x28_2 x28_3 x28_4 x28_5 x28_6 x28_7))
noncomputable def w42b0 : Code := atC [1, 1, 1, 0, 1, 0, 1, 0, 1, 0, 0] w42b
def w42m0 : Nm := ⟨[1, 2, 3, 4], [], []⟩
def w42I0 (x : (List ((List UInt8) × Int)) × Int × Bool × Int × Int × Int × Int × (List Int)) : Sg := ⟨[(1, .ref 0 0), (2, .ref 1 0), (3, .ref 2 0), (4, .fn 55 [.ref 0 0, .ref 2 0])], [(50, .box 89 [.e (.sl (.pr .tx (.i .i64))) x.1, .e (.i .i64) x.2.1, .e .bo x.2.2.1]), (0, .box 87 [.ref 50 0]), (1, .box 51 [.nilS, .e (.i .i64) x.2.2.2.1, .e (.i .i64) x.2.2.2.2.1]), (2, .box 51 [.own 3, .e (.i .i64) x.2.2.2.2.2.1, .e (.i .i64) x.2.2.2.2.2.2.1]), (3, .row 3 (.i .i64) x.2.2.2.2.2.2.2 true)], 100⟩
def w42u0 (σ : Sg) : (List ((List UInt8) × Int)) × Int × Bool × Int × Int × Int × Int × (List Int) := (lvH (.sl (.pr .tx (.i .i64))) 50 0 σ, lvH (.i .i64) 50 1 σ, lvH .bo 50 2 σ, lvH (.i .i64) 1 1 σ, lvH (.i .i64) 1 2 σ, lvH (.i .i64) 2 1 σ, lvH (.i .i64) 2 2 σ, lvR (.i .i64) 3 σ)
theorem w42ui0 : ∀ x, w42u0 (w42I0 x) = x := fun _ => by kernel_rfl
def w42X0_0 (y : (List ((List UInt8) × Int)) × Int × Bool × Int × Int × Int × Int × (List Int)) : Exit × Sg := ((.exit 1), ⟨[(1, .ref 0 0), (2, .ref 1 0), (3, .ref 2 0)], [(50, .box 89 [.e (.sl (.pr .tx (.i .i64))) y.1, .e (.i .i64) y.2.1, .e .bo y.2.2.1]), (0, .box 87 [.ref 50 0]), (1, .box 51 [.nilS, .e (.i .i64) y.2.2.2.1, .e (.i .i64) y.2.2.2.2.1]), (2, .box 51 [.own 3, .e (.i .i64) y.2.2.2.2.2.1, .e (.i .i64) y.2.2.2.2.2.2.1]), (3, .row 3 (.i .i64) y.2.2.2.2.2.2.2 true)], 100⟩)
def w42v0_0 (σ : Sg) : (List ((List UInt8) × Int)) × Int × Bool × Int × Int × Int × Int × (List Int) := (lvH (.sl (.pr .tx (.i .i64))) 50 0 σ, lvH (.i .i64) 50 1 σ, lvH .bo 50 2 σ, lvH (.i .i64) 1 1 σ, lvH (.i .i64) 1 2 σ, lvH (.i .i64) 2 1 σ, lvH (.i .i64) 2 2 σ, lvR (.i .i64) 3 σ)
def w42w0 : List (Exit × Nm) := [((.exit 1), ⟨[1, 2, 3], [], []⟩)]
theorem w42o0 : Outs w42v0_0 (fun _ => ()) (fun _ => ()) w42X0_0 (noX 1) (noX 2) (.exit 1) (.goto 1) (.goto 2) := ⟨fun _ => by kernel_rfl, fun _ => by kernel_rfl, fun _ => by kernel_rfl, fun _ => by kernel_rfl, fun _ => by kernel_rfl, fun _ => by kernel_rfl, exNe_ok (by kernel_rfl), exNe_ok (by kernel_rfl), exNe_ok (by kernel_rfl)⟩
def w42l0 [Alg] (N : Nat) : Nat → ((List ((List UInt8) × Int)) × Int × Bool × Int × Int × Int × Int × (List Int)) → (((List ((List UInt8) × Int)) × Int × Bool × Int × Int × Int × Int × (List Int)) → O) → ((Unit) → O) → ((Unit) → O) → O
 | 0, _, _, _, _ => none
 | n + 1, x, k0, k1, k2 => w42F0 N  (fun v0 v1 v2 v3 v4 v5 => w42l0 N n (v0, v1, v2, x.2.2.2.1, x.2.2.2.2.1, v3, v4, v5) k0 k1 k2) (fun y0 y1 y2 y3 y4 y5 y6 y7 => k0 (y0, y1, y2, y3, y4, y5, y6, y7)) x.2.2.2.1 x.2.2.2.2.1 x.1 x.2.1 x.2.2.1 x.2.2.2.2.2.1 x.2.2.2.2.2.2.1 x.2.2.2.2.2.2.2
def w42n0 [Alg] (N : Nat) (a0 : (List ((List UInt8) × Int))) (a1 : Int) (a2 : Bool) (a3 : Int) (a4 : Int) (a5 : Int) (a6 : Int) (a7 : (List Int)) (k0 : (List ((List UInt8) × Int)) → Int → Bool → Int → Int → Int → Int → (List Int) → O) : O := w42l0 N N (a0, a1, a2, a3, a4, a5, a6, a7) (fun y => k0 y.1 y.2.1 y.2.2.1 y.2.2.2.1 y.2.2.2.2.1 y.2.2.2.2.2.1 y.2.2.2.2.2.2.1 y.2.2.2.2.2.2.2) (fun _ => none) (fun _ => none)
noncomputable def w42s0 [Alg] (N : Nat) (a0 : (List ((List UInt8) × Int))) (a1 : Int) (a2 : Bool) (a3 : Int) (a4 : Int) (a5 : Int) (a6 : Int) (a7 : (List Int)) (k0 : (List ((List UInt8) × Int)) → Int → Bool → Int → Int → Int → Int → (List Int) → O) : O := subL w42I0 w42u0 (w42l0 N N) (w42I0 (a0, a1, a2, a3, a4, a5, a6, a7)) (fun y => k0 y.1 y.2.1 y.2.2.1 y.2.2.2.1 y.2.2.2.2.1 y.2.2.2.2.2.1 y.2.2.2.2.2.2.1 y.2.2.2.2.2.2.2) (fun _ => none) (fun _ => none)
theorem w42e0 [Alg] (N : Nat) : w42s0 N = w42n0 N := funext fun _ => funext fun _ => funext fun _ => funext fun _ => funext fun _ => funext fun _ => funext fun _ => funext fun _ => funext fun _ => subL_I w42ui0 _ _ _ _
noncomputable def w42h0 [Alg] (_ : Nat) : Hint := (.seq (.seq (.reg [1012] [] []) .d) .d)
theorem w42hk0 (N : Nat) : HintOk (w42c N) Tryd.f42.ntmps (w42h0 N) w42b0 := hk_of _ _ (And.intro (And.intro trivial trivial) trivial)
theorem w42q0 [Alg] (N : Nat) (self : Sg → O) (K : Exit → Sg → O) (x : (List ((List UInt8) × Int)) × Int × Bool × Int × Int × Int × Int × (List Int)) : w42F0 N  (fun v0 v1 v2 v3 v4 v5 => self (w42I0 (v0, v1, v2, x.2.2.2.1, x.2.2.2.2.1, v3, v4, v5))) (fun y0 y1 y2 y3 y4 y5 y6 y7 => K (w42X0_0 (y0, y1, y2, y3, y4, y5, y6, y7)).1 (w42X0_0 (y0, y1, y2, y3, y4, y5, y6, y7)).2) x.2.2.2.1 x.2.2.2.2.1 x.1 x.2.1 x.2.2.1 x.2.2.2.2.2.1 x.2.2.2.2.2.2.1 x.2.2.2.2.2.2.2 = exec (w42c N) Tryd.f42.ntmps (w42h0 N) w42b0 (w42I0 x) (roundX w42m0 w42w0 self K) := by kernel_rfl
theorem w42S0 (N : Nat) (hc : CxOk (w42c N)) : SubOk (w42c N) Tryd.f42.ntmps (.loop w42b0) w42X0_0 (noX 1) (noX 2) (subL w42I0 w42u0 (w42l0 N N)) :=
 sub_loop hc (w42hk0 N) w42o0 (n := N) (fun x K => loop_ind (w42l0 N) (fun _ _ _ _ => rfl) (fun n K ih x => by
  have h : w42F0 N  (fun v0 v1 v2 v3 v4 v5 => w42l0 N n (v0, v1, v2, x.2.2.2.1, x.2.2.2.2.1, v3, v4, v5) (fun y => K (w42X0_0 y).1 (w42X0_0 y).2) (fun y => K ((noX 1) y).1 ((noX 1) y).2) (fun y => K ((noX 2) y).1 ((noX 2) y).2)) (fun y0 y1 y2 y3 y4 y5 y6 y7 => K (w42X0_0 (y0, y1, y2, y3, y4, y5, y6, y7)).1 (w42X0_0 (y0, y1, y2, y3, y4, y5, y6, y7)).2) x.2.2.2.1 x.2.2.2.2.1 x.1 x.2.1 x.2.2.1 x.2.2.2.2.2.1 x.2.2.2.2.2.2.1 x.2.2.2.2.2.2.2 = w42F0 N  (fun v0 v1 v2 v3 v4 v5 => loopX (w42c N) Tryd.f42.ntmps (w42h0 N) w42b0 w42m0 w42w0 n (w42I0 (v0, v1, v2, x.2.2.2.1, x.2.2.2.2.1, v3, v4, v5)) K) (fun y0 y1 y2 y3 y4 y5 y6 y7 => K (w42X0_0 (y0, y1, y2, y3, y4, y5, y6, y7)).1 (w42X0_0 (y0, y1, y2, y3, y4, y5, y6, y7)).2) x.2.2.2.1 x.2.2.2.2.1 x.1 x.2.1 x.2.2.1 x.2.2.2.2.2.1 x.2.2.2.2.2.2.1 x.2.2.2.2.2.2.2 := by rw [ show (fun v0 v1 v2 v3 v4 v5 => w42l0 N n (v0, v1, v2, x.2.2.2.1, x.2.2.2.2.1, v3, v4, v5) (fun y => K (w42X0_0 y).1 (w42X0_0 y).2) (fun y => K ((noX 1) y).1 ((noX 1) y).2) (fun y => K ((noX 2) y).1 ((noX 2) y).2)) = (fun v0 v1 v2 v3 v4 v5 => loopX (w42c N) Tryd.f42.ntmps (w42h0 N) w42b0 w42m0 w42w0 n (w42I0 (v0, v1, v2, x.2.2.2.1, x.2.2.2.2.1, v3, v4, v5)) K) from funext fun _ => funext fun _ => funext fun _ => funext fun _ => funext fun _ => funext fun _ => ih _]
  exact h.trans (w42q0 N (fun σ => loopX (w42c N) Tryd.f42.ntmps (w42h0 N) w42b0 w42m0 w42w0 n σ K) K x)) N x K)
def w42F1 [Alg] (N : Nat) (in0 : (List ((List UInt8) × Int)) → Int → Bool → Int → Int → Int → Int → (List Int) → ((List ((List UInt8) × Int)) → Int → Bool → Int → Int → Int → Int → (List Int) → O) → O)  (k0 : (List ((List UInt8) × Int)) → Int → Bool → Int → Int → Int → Int → (List Int) → O) (x0_0 : (List ((List UInt8) × Int))) (x0_1 : Int) (x0_2 : Bool) (x0_3 : Int) (x0_4 : Int) (x0_5 : Int) (x0_6 : Int) : O :=
 ck (w56p N [lF1x3, lF1x8] x0_0 x0_1 x0_2) <|
 br (decide (w56y0 N [lF1x3, lF1x8] x0_0 x0_1 x0_2 = (1 : Int)))
  (ck (w55p N x0_5 x0_6 (w56y1 N [lF1x3, lF1x8] x0_0 x0_1 x0_2) (w56y2 N [lF1x3, lF1x8] x0_0 x0_1 x0_2) (w56y3 N [lF1x3, lF1x8] x0_0 x0_1 x0_2) []) <|
  in0 (w55y2 N x0_5 x0_6 (w56y1 N [lF1x3, lF1x8] x0_0 x0_1 x0_2) (w56y2 N [lF1x3, lF1x8] x0_0 x0_1 x0_2) (w56y3 N [lF1x3, lF1x8] x0_0 x0_1 x0_2) []) (w55y3 N x0_5 x0_6 (w56y1 N [lF1x3, lF1x8] x0_0 x0_1 x0_2) (w56y2 N [lF1x3, lF1x8] x0_0 x0_1 x0_2) (w56y3 N [lF1x3, lF1x8] x0_0 x0_1 x0_2) []) (w55y4 N x0_5 x0_6 (w56y1 N [lF1x3, lF1x8] x0_0 x0_1 x0_2) (w56y2 N [lF1x3, lF1x8] x0_0 x0_1 x0_2) (w56y3 N [lF1x3, lF1x8] x0_0 x0_1 x0_2) []) x0_3 x0_4 (w55y0 N x0_5 x0_6 (w56y1 N [lF1x3, lF1x8] x0_0 x0_1 x0_2) (w56y2 N [lF1x3, lF1x8] x0_0 x0_1 x0_2) (w56y3 N [lF1x3, lF1x8] x0_0 x0_1 x0_2) []) (w55y1 N x0_5 x0_6 (w56y1 N [lF1x3, lF1x8] x0_0 x0_1 x0_2) (w56y2 N [lF1x3, lF1x8] x0_0 x0_1 x0_2) (w56y3 N [lF1x3, lF1x8] x0_0 x0_1 x0_2) []) (w55y5 N x0_5 x0_6 (w56y1 N [lF1x3, lF1x8] x0_0 x0_1 x0_2) (w56y2 N [lF1x3, lF1x8] x0_0 x0_1 x0_2) (w56y3 N [lF1x3, lF1x8] x0_0 x0_1 x0_2) [])
   (fun z29 z30 z31 z32 z33 z34 z35 z36 =>
    k0 z29 z30 z31 z32 z33 z34 z35 z36))
  (br (decide (w56y0 N [lF1x3, lF1x8] x0_0 x0_1 x0_2 = (-1 : Int)))
   (k0 (w56y1 N [lF1x3, lF1x8] x0_0 x0_1 x0_2) (w56y2 N [lF1x3, lF1x8] x0_0 x0_1 x0_2) true x0_3 x0_4 x0_5 x0_6 [])
   (k0 (w56y1 N [lF1x3, lF1x8] x0_0 x0_1 x0_2) (w56y2 N [lF1x3, lF1x8] x0_0 x0_1 x0_2) (w56y3 N [lF1x3, lF1x8] x0_0 x0_1 x0_2) x0_3 x0_4 x0_5 x0_6 []))
noncomputable def w42b1 : Code := atC [1, 1, 1, 0] w42b
def w42m1 : Nm := ⟨[1, 2, 3, 4], [], []⟩
def w42I1 (x : (List ((List UInt8) × Int)) × Int × Bool × Int × Int × Int × Int) : Sg := ⟨[(1, .ref 0 0), (2, .ref 1 0), (3, .ref 2 0), (4, .fn 55 [.ref 0 0, .ref 2 0])], [(50, .box 89 [.e (.sl (.pr .tx (.i .i64))) x.1, .e (.i .i64) x.2.1, .e .bo x.2.2.1]), (0, .box 87 [.ref 50 0]), (1, .box 51 [.nilS, .e (.i .i64) x.2.2.2.1, .e (.i .i64) x.2.2.2.2.1]), (2, .box 51 [.nilS, .e (.i .i64) x.2.2.2.2.2.1, .e (.i .i64) x.2.2.2.2.2.2])], 100⟩
def w42u1 (σ : Sg) : (List ((List UInt8) × Int)) × Int × Bool × Int × Int × Int × Int := (lvH (.sl (.pr .tx (.i .i64))) 50 0 σ, lvH (.i .i64) 50 1 σ, lvH .bo 50 2 σ, lvH (.i .i64) 1 1 σ, lvH (.i .i64) 1 2 σ, lvH (.i .i64) 2 1 σ, lvH (.i .i64) 2 2 σ)
theorem w42ui1 : ∀ x, w42u1 (w42I1 x) = x := fun _ => by kernel_rfl
def w42X1_0 (y : (List ((List UInt8) × Int)) × Int × Bool × Int × Int × Int × Int × (List Int)) : Exit × Sg := (.normal, ⟨[(1, .ref 0 0), (2, .ref 1 0), (3, .ref 2 0)], [(50, .box 89 [.e (.sl (.pr .tx (.i .i64))) y.1, .e (.i .i64) y.2.1, .e .bo y.2.2.1]), (0, .box 87 [.ref 50 0]), (1, .box 51 [.nilS, .e (.i .i64) y.2.2.2.1, .e (.i .i64) y.2.2.2.2.1]), (2, .box 51 [.own 3, .e (.i .i64) y.2.2.2.2.2.1, .e (.i .i64) y.2.2.2.2.2.2.1]), (3, .row 3 (.i .i64) y.2.2.2.2.2.2.2 true)], 100⟩)
def w42v1_0 (σ : Sg) : (List ((List UInt8) × Int)) × Int × Bool × Int × Int × Int × Int × (List Int) := (lvH (.sl (.pr .tx (.i .i64))) 50 0 σ, lvH (.i .i64) 50 1 σ, lvH .bo 50 2 σ, lvH (.i .i64) 1 1 σ, lvH (.i .i64) 1 2 σ, lvH (.i .i64) 2 1 σ, lvH (.i .i64) 2 2 σ, lvR (.i .i64) 3 σ)
def w42w1 : List (Exit × Nm) := [(.normal, ⟨[1, 2, 3], [], [.nilC 3 0 (.row 3 (.i .i64) [] true)]⟩)]
theorem w42o1 : Outs w42v1_0 (fun _ => ()) (fun _ => ()) w42X1_0 (noX 1) (noX 2) .normal (.goto 1) (.goto 2) := ⟨fun _ => by kernel_rfl, fun _ => by kernel_rfl, fun _ => by kernel_rfl, fun _ => by kernel_rfl, fun _ => by kernel_rfl, fun _ => by kernel_rfl, exNe_ok (by kernel_rfl), exNe_ok (by kernel_rfl), exNe_ok (by kernel_rfl)⟩
def w42l1 [Alg] (N : Nat) (_ : Nat) (x : (List ((List UInt8) × Int)) × Int × Bool × Int × Int × Int × Int) (k0 : ((List ((List UInt8) × Int)) × Int × Bool × Int × Int × Int × Int × (List Int)) → O) (_ : (Unit) → O) (_ : (Unit) → O) : O := w42F1 N (w42n0 N)  (fun y0 y1 y2 y3 y4 y5 y6 y7 => k0 (y0, y1, y2, y3, y4, y5, y6, y7)) x.1 x.2.1 x.2.2.1 x.2.2.2.1 x.2.2.2.2.1 x.2.2.2.2.2.1 x.2.2.2.2.2.2
def w42n1 [Alg] (N : Nat) (a0 : (List ((List UInt8) × Int))) (a1 : Int) (a2 : Bool) (a3 : Int) (a4 : Int) (a5 : Int) (a6 : Int) (k0 : (List ((List UInt8) × Int)) → Int → Bool → Int → Int → Int → Int → (List Int) → O) : O := w42l1 N N (a0, a1, a2, a3, a4, a5, a6) (fun y => k0 y.1 y.2.1 y.2.2.1 y.2.2.2.1 y.2.2.2.2.1 y.2.2.2.2.2.1 y.2.2.2.2.2.2.1 y.2.2.2.2.2.2.2) (fun _ => none) (fun _ => none)
noncomputable def w42s1 [Alg] (N : Nat) (a0 : (List ((List UInt8) × Int))) (a1 : Int) (a2 : Bool) (a3 : Int) (a4 : Int) (a5 : Int) (a6 : Int) (k0 : (List ((List UInt8) × Int)) → Int → Bool → Int → Int → Int → Int → (List Int) → O) : O := subL w42I1 w42u1 (w42l1 N N) (w42I1 (a0, a1, a2, a3, a4, a5, a6)) (fun y => k0 y.1 y.2.1 y.2.2.1 y.2.2.2.1 y.2.2.2.2.1 y.2.2.2.2.2.1 y.2.2.2.2.2.2.1 y.2.2.2.2.2.2.2) (fun _ => none) (fun _ => none)
theorem w42e1 [Alg] (N : Nat) : w42s1 N = w42n1 N := funext fun _ => funext fun _ => funext fun _ => funext fun _ => funext fun _ => funext fun _ => funext fun _ => funext fun _ => subL_I w42ui1 _ _ _ _
noncomputable def w42h1 [Alg] (N : Nat) : Hint := (.seq .d (.block (.seq .d (.cond (.seq (.reg [] [.nilC 3 0 (.row 3 (.i .i64) [] true)] []) (.block (.sub w42m0 _ _ _ w42X0_0 (noX 1) (noX 2) (subL w42I0 w42u0 (w42l0 N N))))) .d))))
theorem w42hk1 (N : Nat) (hc : CxOk (w42c N)) : HintOk (w42c N) Tryd.f42.ntmps (w42h1 N) w42b1 := hk_of _ _ (And.intro trivial (And.intro trivial (And.intro (And.intro trivial (w42S0 N hc)) trivial)))
theorem w42q1 [Alg] (N : Nat) (K : Exit → Sg → O) (x : (List ((List UInt8) × Int)) × Int × Bool × Int × Int × Int × Int) : w42F1 N (w42s0 N)  (fun y0 y1 y2 y3 y4 y5 y6 y7 => K (w42X1_0 (y0, y1, y2, y3, y4, y5, y6, y7)).1 (w42X1_0 (y0, y1, y2, y3, y4, y5, y6, y7)).2) x.1 x.2.1 x.2.2.1 x.2.2.2.1 x.2.2.2.2.1 x.2.2.2.2.2.1 x.2.2.2.2.2.2 = exec (w42c N) Tryd.f42.ntmps (w42h1 N) w42b1 (w42I1 x) (partX w42w1 K) := by kernel_rfl
theorem w42S1 (N : Nat) (hc : CxOk (w42c N)) : SubOk (w42c N) Tryd.f42.ntmps w42b1 w42X1_0 (noX 1) (noX 2) (subL w42I1 w42u1 (w42l1 N N)) :=
 sub_part hc (w42hk1 N hc) w42o1 (fun x K => by
  have h : w42F1 N (w42n0 N)  (fun y0 y1 y2 y3 y4 y5 y6 y7 => K (w42X1_0 (y0, y1, y2, y3, y4, y5, y6, y7)).1 (w42X1_0 (y0, y1, y2, y3, y4, y5, y6, y7)).2) x.1 x.2.1 x.2.2.1 x.2.2.2.1 x.2.2.2.2.1 x.2.2.2.2.2.1 x.2.2.2.2.2.2 = w42F1 N (w42s0 N)  (fun y0 y1 y2 y3 y4 y5 y6 y7 => K (w42X1_0 (y0, y1, y2, y3, y4, y5, y6, y7)).1 (w42X1_0 (y0, y1, y2, y3, y4, y5, y6, y7)).2) x.1 x.2.1 x.2.2.1 x.2.2.2.1 x.2.2.2.2.1 x.2.2.2.2.2.1 x.2.2.2.2.2.2 := by rw [w42e0 N]
  exact h.trans (w42q1 N K x))
def w42G [Alg] (N : Nat) (_in0 : (List ((List UInt8) × Int)) → Int → Bool → Int → Int → Int → Int → (List Int) → ((List ((List UInt8) × Int)) → Int → Bool → Int → Int → Int → Int → (List Int) → O) → O) (in1 : (List ((List UInt8) × Int)) → Int → Bool → Int → Int → Int → Int → ((List ((List UInt8) × Int)) → Int → Bool → Int → Int → Int → Int → (List Int) → O) → O) (h50_0 : (List ((List UInt8) × Int))) (h50_1 : Int) (h50_2 : Bool) : O :=
 in1 h50_0 h50_1 h50_2 ((0 : Int)) ((0 : Int)) ((0 : Int)) ((0 : Int))
  (fun z37 z38 z39 _ _ z42 z43 z44 =>
   br z39
    (some (w42r0 z44 z42 z43 z37 z38 z39))
    (ck true <|
    ck (w58p N z37 z38 z39) <|
    br (decide (lF1x1 = w58y0 N z37 z38 z39))
     (br false
      (some (w42r0 z44 z42 z43 (w58y1 N z37 z38 z39) (w58y2 N z37 z38 z39) true))
      (ck (w56p N [lF1x4, lF1x5] (w58y1 N z37 z38 z39) (IntKind.i64.wrap (w58y2 N z37 z38 z39 + (1 : Int))) (w58y3 N z37 z38 z39)) <|
      br (decide (w56y0 N [lF1x4, lF1x5] (w58y1 N z37 z38 z39) (IntKind.i64.wrap (w58y2 N z37 z38 z39 + (1 : Int))) (w58y3 N z37 z38 z39) = (0 : Int)))
       (ck (w57p N [] (0 : Int) (9999 : Int) (w56y1 N [lF1x4, lF1x5] (w58y1 N z37 z38 z39) (IntKind.i64.wrap (w58y2 N z37 z38 z39 + (1 : Int))) (w58y3 N z37 z38 z39)) (w56y2 N [lF1x4, lF1x5] (w58y1 N z37 z38 z39) (IntKind.i64.wrap (w58y2 N z37 z38 z39 + (1 : Int))) (w58y3 N z37 z38 z39)) (w56y3 N [lF1x4, lF1x5] (w58y1 N z37 z38 z39) (IntKind.i64.wrap (w58y2 N z37 z38 z39 + (1 : Int))) (w58y3 N z37 z38 z39))) <|
       some (w42r0 z44 ((0 : Int)) (w57y0 N [] (0 : Int) (9999 : Int) (w56y1 N [lF1x4, lF1x5] (w58y1 N z37 z38 z39) (IntKind.i64.wrap (w58y2 N z37 z38 z39 + (1 : Int))) (w58y3 N z37 z38 z39)) (w56y2 N [lF1x4, lF1x5] (w58y1 N z37 z38 z39) (IntKind.i64.wrap (w58y2 N z37 z38 z39 + (1 : Int))) (w58y3 N z37 z38 z39)) (w56y3 N [lF1x4, lF1x5] (w58y1 N z37 z38 z39) (IntKind.i64.wrap (w58y2 N z37 z38 z39 + (1 : Int))) (w58y3 N z37 z38 z39))) (w57y1 N [] (0 : Int) (9999 : Int) (w56y1 N [lF1x4, lF1x5] (w58y1 N z37 z38 z39) (IntKind.i64.wrap (w58y2 N z37 z38 z39 + (1 : Int))) (w58y3 N z37 z38 z39)) (w56y2 N [lF1x4, lF1x5] (w58y1 N z37 z38 z39) (IntKind.i64.wrap (w58y2 N z37 z38 z39 + (1 : Int))) (w58y3 N z37 z38 z39)) (w56y3 N [lF1x4, lF1x5] (w58y1 N z37 z38 z39) (IntKind.i64.wrap (w58y2 N z37 z38 z39 + (1 : Int))) (w58y3 N z37 z38 z39))) (w57y2 N [] (0 : Int) (9999 : Int) (w56y1 N [lF1x4, lF1x5] (w58y1 N z37 z38 z39) (IntKind.i64.wrap (w58y2 N z37 z38 z39 + (1 : Int))) (w58y3 N z37 z38 z39)) (w56y2 N [lF1x4, lF1x5] (w58y1 N z37 z38 z39) (IntKind.i64.wrap (w58y2 N z37 z38 z39 + (1 : Int))) (w58y3 N z37 z38 z39)) (w56y3 N [lF1x4, lF1x5] (w58y1 N z37 z38 z39) (IntKind.i64.wrap (w58y2 N z37 z38 z39 + (1 : Int))) (w58y3 N z37 z38 z39))) (w57y3 N [] (0 : Int) (9999 : Int) (w56y1 N [lF1x4, lF1x5] (w58y1 N z37 z38 z39) (IntKind.i64.wrap (w58y2 N z37 z38 z39 + (1 : Int))) (w58y3 N z37 z38 z39)) (w56y2 N [lF1x4, lF1x5] (w58y1 N z37 z38 z39) (IntKind.i64.wrap (w58y2 N z37 z38 z39 + (1 : Int))) (w58y3 N z37 z38 z39)) (w56y3 N [lF1x4, lF1x5] (w58y1 N z37 z38 z39) (IntKind.i64.wrap (w58y2 N z37 z38 z39 + (1 : Int))) (w58y3 N z37 z38 z39)))))
       (br (decide (w56y0 N [lF1x4, lF1x5] (w58y1 N z37 z38 z39) (IntKind.i64.wrap (w58y2 N z37 z38 z39 + (1 : Int))) (w58y3 N z37 z38 z39) = (1 : Int)))
        (ck (w57p N [] (0 : Int) (9999 : Int) (w56y1 N [lF1x4, lF1x5] (w58y1 N z37 z38 z39) (IntKind.i64.wrap (w58y2 N z37 z38 z39 + (1 : Int))) (w58y3 N z37 z38 z39)) (w56y2 N [lF1x4, lF1x5] (w58y1 N z37 z38 z39) (IntKind.i64.wrap (w58y2 N z37 z38 z39 + (1 : Int))) (w58y3 N z37 z38 z39)) (w56y3 N [lF1x4, lF1x5] (w58y1 N z37 z38 z39) (IntKind.i64.wrap (w58y2 N z37 z38 z39 + (1 : Int))) (w58y3 N z37 z38 z39))) <|
        some (w42r0 z44 ((0 : Int)) (IntKind.i64.wrap ((-1 : Int) - w57y0 N [] (0 : Int) (9999 : Int) (w56y1 N [lF1x4, lF1x5] (w58y1 N z37 z38 z39) (IntKind.i64.wrap (w58y2 N z37 z38 z39 + (1 : Int))) (w58y3 N z37 z38 z39)) (w56y2 N [lF1x4, lF1x5] (w58y1 N z37 z38 z39) (IntKind.i64.wrap (w58y2 N z37 z38 z39 + (1 : Int))) (w58y3 N z37 z38 z39)) (w56y3 N [lF1x4, lF1x5] (w58y1 N z37 z38 z39) (IntKind.i64.wrap (w58y2 N z37 z38 z39 + (1 : Int))) (w58y3 N z37 z38 z39)))) (w57y1 N [] (0 : Int) (9999 : Int) (w56y1 N [lF1x4, lF1x5] (w58y1 N z37 z38 z39) (IntKind.i64.wrap (w58y2 N z37 z38 z39 + (1 : Int))) (w58y3 N z37 z38 z39)) (w56y2 N [lF1x4, lF1x5] (w58y1 N z37 z38 z39) (IntKind.i64.wrap (w58y2 N z37 z38 z39 + (1 : Int))) (w58y3 N z37 z38 z39)) (w56y3 N [lF1x4, lF1x5] (w58y1 N z37 z38 z39) (IntKind.i64.wrap (w58y2 N z37 z38 z39 + (1 : Int))) (w58y3 N z37 z38 z39))) (w57y2 N [] (0 : Int) (9999 : Int) (w56y1 N [lF1x4, lF1x5] (w58y1 N z37 z38 z39) (IntKind.i64.wrap (w58y2 N z37 z38 z39 + (1 : Int))) (w58y3 N z37 z38 z39)) (w56y2 N [lF1x4, lF1x5] (w58y1 N z37 z38 z39) (IntKind.i64.wrap (w58y2 N z37 z38 z39 + (1 : Int))) (w58y3 N z37 z38 z39)) (w56y3 N [lF1x4, lF1x5] (w58y1 N z37 z38 z39) (IntKind.i64.wrap (w58y2 N z37 z38 z39 + (1 : Int))) (w58y3 N z37 z38 z39))) (w57y3 N [] (0 : Int) (9999 : Int) (w56y1 N [lF1x4, lF1x5] (w58y1 N z37 z38 z39) (IntKind.i64.wrap (w58y2 N z37 z38 z39 + (1 : Int))) (w58y3 N z37 z38 z39)) (w56y2 N [lF1x4, lF1x5] (w58y1 N z37 z38 z39) (IntKind.i64.wrap (w58y2 N z37 z38 z39 + (1 : Int))) (w58y3 N z37 z38 z39)) (w56y3 N [lF1x4, lF1x5] (w58y1 N z37 z38 z39) (IntKind.i64.wrap (w58y2 N z37 z38 z39 + (1 : Int))) (w58y3 N z37 z38 z39)))))
        (some (w42r0 z44 ((0 : Int)) z43 (w56y1 N [lF1x4, lF1x5] (w58y1 N z37 z38 z39) (IntKind.i64.wrap (w58y2 N z37 z38 z39 + (1 : Int))) (w58y3 N z37 z38 z39)) (w56y2 N [lF1x4, lF1x5] (w58y1 N z37 z38 z39) (IntKind.i64.wrap (w58y2 N z37 z38 z39 + (1 : Int))) (w58y3 N z37 z38 z39)) true)))))
     (br (decide (lF1x0 = w58y0 N z37 z38 z39))
      (br false
       (some (w42r0 z44 z42 z43 (w58y1 N z37 z38 z39) (w58y2 N z37 z38 z39) true))
       (ck (w56p N [lF1x4, lF1x5] (w58y1 N z37 z38 z39) (IntKind.i64.wrap (w58y2 N z37 z38 z39 + (1 : Int))) (w58y3 N z37 z38 z39)) <|
       br (decide (w56y0 N [lF1x4, lF1x5] (w58y1 N z37 z38 z39) (IntKind.i64.wrap (w58y2 N z37 z38 z39 + (1 : Int))) (w58y3 N z37 z38 z39) = (0 : Int)))
        (ck (w57p N [] (0 : Int) (9999 : Int) (w56y1 N [lF1x4, lF1x5] (w58y1 N z37 z38 z39) (IntKind.i64.wrap (w58y2 N z37 z38 z39 + (1 : Int))) (w58y3 N z37 z38 z39)) (w56y2 N [lF1x4, lF1x5] (w58y1 N z37 z38 z39) (IntKind.i64.wrap (w58y2 N z37 z38 z39 + (1 : Int))) (w58y3 N z37 z38 z39)) (w56y3 N [lF1x4, lF1x5] (w58y1 N z37 z38 z39) (IntKind.i64.wrap (w58y2 N z37 z38 z39 + (1 : Int))) (w58y3 N z37 z38 z39))) <|
        some (w42r0 z44 ((1 : Int)) (w57y0 N [] (0 : Int) (9999 : Int) (w56y1 N [lF1x4, lF1x5] (w58y1 N z37 z38 z39) (IntKind.i64.wrap (w58y2 N z37 z38 z39 + (1 : Int))) (w58y3 N z37 z38 z39)) (w56y2 N [lF1x4, lF1x5] (w58y1 N z37 z38 z39) (IntKind.i64.wrap (w58y2 N z37 z38 z39 + (1 : Int))) (w58y3 N z37 z38 z39)) (w56y3 N [lF1x4, lF1x5] (w58y1 N z37 z38 z39) (IntKind.i64.wrap (w58y2 N z37 z38 z39 + (1 : Int))) (w58y3 N z37 z38 z39))) (w57y1 N [] (0 : Int) (9999 : Int) (w56y1 N [lF1x4, lF1x5] (w58y1 N z37 z38 z39) (IntKind.i64.wrap (w58y2 N z37 z38 z39 + (1 : Int))) (w58y3 N z37 z38 z39)) (w56y2 N [lF1x4, lF1x5] (w58y1 N z37 z38 z39) (IntKind.i64.wrap (w58y2 N z37 z38 z39 + (1 : Int))) (w58y3 N z37 z38 z39)) (w56y3 N [lF1x4, lF1x5] (w58y1 N z37 z38 z39) (IntKind.i64.wrap (w58y2 N z37 z38 z39 + (1 : Int))) (w58y3 N z37 z38 z39))) (w57y2 N [] (0 : Int) (9999 : Int) (w56y1 N [lF1x4, lF1x5] (w58y1 N z37 z38 z39) (IntKind.i64.wrap (w58y2 N z37 z38 z39 + (1 : Int))) (w58y3 N z37 z38 z39)) (w56y2 N [lF1x4, lF1x5] (w58y1 N z37 z38 z39) (IntKind.i64.wrap (w58y2 N z37 z38 z39 + (1 : Int))) (w58y3 N z37 z38 z39)) (w56y3 N [lF1x4, lF1x5] (w58y1 N z37 z38 z39) (IntKind.i64.wrap (w58y2 N z37 z38 z39 + (1 : Int))) (w58y3 N z37 z38 z39))) (w57y3 N [] (0 : Int) (9999 : Int) (w56y1 N [lF1x4, lF1x5] (w58y1 N z37 z38 z39) (IntKind.i64.wrap (w58y2 N z37 z38 z39 + (1 : Int))) (w58y3 N z37 z38 z39)) (w56y2 N [lF1x4, lF1x5] (w58y1 N z37 z38 z39) (IntKind.i64.wrap (w58y2 N z37 z38 z39 + (1 : Int))) (w58y3 N z37 z38 z39)) (w56y3 N [lF1x4, lF1x5] (w58y1 N z37 z38 z39) (IntKind.i64.wrap (w58y2 N z37 z38 z39 + (1 : Int))) (w58y3 N z37 z38 z39)))))
        (br (decide (w56y0 N [lF1x4, lF1x5] (w58y1 N z37 z38 z39) (IntKind.i64.wrap (w58y2 N z37 z38 z39 + (1 : Int))) (w58y3 N z37 z38 z39) = (1 : Int)))
         (ck (w57p N [] (0 : Int) (9999 : Int) (w56y1 N [lF1x4, lF1x5] (w58y1 N z37 z38 z39) (IntKind.i64.wrap (w58y2 N z37 z38 z39 + (1 : Int))) (w58y3 N z37 z38 z39)) (w56y2 N [lF1x4, lF1x5] (w58y1 N z37 z38 z39) (IntKind.i64.wrap (w58y2 N z37 z38 z39 + (1 : Int))) (w58y3 N z37 z38 z39)) (w56y3 N [lF1x4, lF1x5] (w58y1 N z37 z38 z39) (IntKind.i64.wrap (w58y2 N z37 z38 z39 + (1 : Int))) (w58y3 N z37 z38 z39))) <|
         some (w42r0 z44 ((1 : Int)) (IntKind.i64.wrap ((-1 : Int) - w57y0 N [] (0 : Int) (9999 : Int) (w56y1 N [lF1x4, lF1x5] (w58y1 N z37 z38 z39) (IntKind.i64.wrap (w58y2 N z37 z38 z39 + (1 : Int))) (w58y3 N z37 z38 z39)) (w56y2 N [lF1x4, lF1x5] (w58y1 N z37 z38 z39) (IntKind.i64.wrap (w58y2 N z37 z38 z39 + (1 : Int))) (w58y3 N z37 z38 z39)) (w56y3 N [lF1x4, lF1x5] (w58y1 N z37 z38 z39) (IntKind.i64.wrap (w58y2 N z37 z38 z39 + (1 : Int))) (w58y3 N z37 z38 z39)))) (w57y1 N [] (0 : Int) (9999 : Int) (w56y1 N [lF1x4, lF1x5] (w58y1 N z37 z38 z39) (IntKind.i64.wrap (w58y2 N z37 z38 z39 + (1 : Int))) (w58y3 N z37 z38 z39)) (w56y2 N [lF1x4, lF1x5] (w58y1 N z37 z38 z39) (IntKind.i64.wrap (w58y2 N z37 z38 z39 + (1 : Int))) (w58y3 N z37 z38 z39)) (w56y3 N [lF1x4, lF1x5] (w58y1 N z37 z38 z39) (IntKind.i64.wrap (w58y2 N z37 z38 z39 + (1 : Int))) (w58y3 N z37 z38 z39))) (w57y2 N [] (0 : Int) (9999 : Int) (w56y1 N [lF1x4, lF1x5] (w58y1 N z37 z38 z39) (IntKind.i64.wrap (w58y2 N z37 z38 z39 + (1 : Int))) (w58y3 N z37 z38 z39)) (w56y2 N [lF1x4, lF1x5] (w58y1 N z37 z38 z39) (IntKind.i64.wrap (w58y2 N z37 z38 z39 + (1 : Int))) (w58y3 N z37 z38 z39)) (w56y3 N [lF1x4, lF1x5] (w58y1 N z37 z38 z39) (IntKind.i64.wrap (w58y2 N z37 z38 z39 + (1 : Int))) (w58y3 N z37 z38 z39))) (w57y3 N [] (0 : Int) (9999 : Int) (w56y1 N [lF1x4, lF1x5] (w58y1 N z37 z38 z39) (IntKind.i64.wrap (w58y2 N z37 z38 z39 + (1 : Int))) (w58y3 N z37 z38 z39)) (w56y2 N [lF1x4, lF1x5] (w58y1 N z37 z38 z39) (IntKind.i64.wrap (w58y2 N z37 z38 z39 + (1 : Int))) (w58y3 N z37 z38 z39)) (w56y3 N [lF1x4, lF1x5] (w58y1 N z37 z38 z39) (IntKind.i64.wrap (w58y2 N z37 z38 z39 + (1 : Int))) (w58y3 N z37 z38 z39)))))
         (some (w42r0 z44 ((1 : Int)) z43 (w56y1 N [lF1x4, lF1x5] (w58y1 N z37 z38 z39) (IntKind.i64.wrap (w58y2 N z37 z38 z39 + (1 : Int))) (w58y3 N z37 z38 z39)) (w56y2 N [lF1x4, lF1x5] (w58y1 N z37 z38 z39) (IntKind.i64.wrap (w58y2 N z37 z38 z39 + (1 : Int))) (w58y3 N z37 z38 z39)) true)))))
      (br (decide (lF1x2 = w58y0 N z37 z38 z39))
       (br false
        (some (w42r0 z44 z42 z43 (w58y1 N z37 z38 z39) (w58y2 N z37 z38 z39) true))
        (ck (w56p N [lF1x4, lF1x5] (w58y1 N z37 z38 z39) (IntKind.i64.wrap (w58y2 N z37 z38 z39 + (1 : Int))) (w58y3 N z37 z38 z39)) <|
        br (decide (w56y0 N [lF1x4, lF1x5] (w58y1 N z37 z38 z39) (IntKind.i64.wrap (w58y2 N z37 z38 z39 + (1 : Int))) (w58y3 N z37 z38 z39) = (0 : Int)))
         (ck (w57p N [] (0 : Int) (9999 : Int) (w56y1 N [lF1x4, lF1x5] (w58y1 N z37 z38 z39) (IntKind.i64.wrap (w58y2 N z37 z38 z39 + (1 : Int))) (w58y3 N z37 z38 z39)) (w56y2 N [lF1x4, lF1x5] (w58y1 N z37 z38 z39) (IntKind.i64.wrap (w58y2 N z37 z38 z39 + (1 : Int))) (w58y3 N z37 z38 z39)) (w56y3 N [lF1x4, lF1x5] (w58y1 N z37 z38 z39) (IntKind.i64.wrap (w58y2 N z37 z38 z39 + (1 : Int))) (w58y3 N z37 z38 z39))) <|
         some (w42r0 z44 ((2 : Int)) (w57y0 N [] (0 : Int) (9999 : Int) (w56y1 N [lF1x4, lF1x5] (w58y1 N z37 z38 z39) (IntKind.i64.wrap (w58y2 N z37 z38 z39 + (1 : Int))) (w58y3 N z37 z38 z39)) (w56y2 N [lF1x4, lF1x5] (w58y1 N z37 z38 z39) (IntKind.i64.wrap (w58y2 N z37 z38 z39 + (1 : Int))) (w58y3 N z37 z38 z39)) (w56y3 N [lF1x4, lF1x5] (w58y1 N z37 z38 z39) (IntKind.i64.wrap (w58y2 N z37 z38 z39 + (1 : Int))) (w58y3 N z37 z38 z39))) (w57y1 N [] (0 : Int) (9999 : Int) (w56y1 N [lF1x4, lF1x5] (w58y1 N z37 z38 z39) (IntKind.i64.wrap (w58y2 N z37 z38 z39 + (1 : Int))) (w58y3 N z37 z38 z39)) (w56y2 N [lF1x4, lF1x5] (w58y1 N z37 z38 z39) (IntKind.i64.wrap (w58y2 N z37 z38 z39 + (1 : Int))) (w58y3 N z37 z38 z39)) (w56y3 N [lF1x4, lF1x5] (w58y1 N z37 z38 z39) (IntKind.i64.wrap (w58y2 N z37 z38 z39 + (1 : Int))) (w58y3 N z37 z38 z39))) (w57y2 N [] (0 : Int) (9999 : Int) (w56y1 N [lF1x4, lF1x5] (w58y1 N z37 z38 z39) (IntKind.i64.wrap (w58y2 N z37 z38 z39 + (1 : Int))) (w58y3 N z37 z38 z39)) (w56y2 N [lF1x4, lF1x5] (w58y1 N z37 z38 z39) (IntKind.i64.wrap (w58y2 N z37 z38 z39 + (1 : Int))) (w58y3 N z37 z38 z39)) (w56y3 N [lF1x4, lF1x5] (w58y1 N z37 z38 z39) (IntKind.i64.wrap (w58y2 N z37 z38 z39 + (1 : Int))) (w58y3 N z37 z38 z39))) (w57y3 N [] (0 : Int) (9999 : Int) (w56y1 N [lF1x4, lF1x5] (w58y1 N z37 z38 z39) (IntKind.i64.wrap (w58y2 N z37 z38 z39 + (1 : Int))) (w58y3 N z37 z38 z39)) (w56y2 N [lF1x4, lF1x5] (w58y1 N z37 z38 z39) (IntKind.i64.wrap (w58y2 N z37 z38 z39 + (1 : Int))) (w58y3 N z37 z38 z39)) (w56y3 N [lF1x4, lF1x5] (w58y1 N z37 z38 z39) (IntKind.i64.wrap (w58y2 N z37 z38 z39 + (1 : Int))) (w58y3 N z37 z38 z39)))))
         (br (decide (w56y0 N [lF1x4, lF1x5] (w58y1 N z37 z38 z39) (IntKind.i64.wrap (w58y2 N z37 z38 z39 + (1 : Int))) (w58y3 N z37 z38 z39) = (1 : Int)))
          (ck (w57p N [] (0 : Int) (9999 : Int) (w56y1 N [lF1x4, lF1x5] (w58y1 N z37 z38 z39) (IntKind.i64.wrap (w58y2 N z37 z38 z39 + (1 : Int))) (w58y3 N z37 z38 z39)) (w56y2 N [lF1x4, lF1x5] (w58y1 N z37 z38 z39) (IntKind.i64.wrap (w58y2 N z37 z38 z39 + (1 : Int))) (w58y3 N z37 z38 z39)) (w56y3 N [lF1x4, lF1x5] (w58y1 N z37 z38 z39) (IntKind.i64.wrap (w58y2 N z37 z38 z39 + (1 : Int))) (w58y3 N z37 z38 z39))) <|
          some (w42r0 z44 ((2 : Int)) (IntKind.i64.wrap ((-1 : Int) - w57y0 N [] (0 : Int) (9999 : Int) (w56y1 N [lF1x4, lF1x5] (w58y1 N z37 z38 z39) (IntKind.i64.wrap (w58y2 N z37 z38 z39 + (1 : Int))) (w58y3 N z37 z38 z39)) (w56y2 N [lF1x4, lF1x5] (w58y1 N z37 z38 z39) (IntKind.i64.wrap (w58y2 N z37 z38 z39 + (1 : Int))) (w58y3 N z37 z38 z39)) (w56y3 N [lF1x4, lF1x5] (w58y1 N z37 z38 z39) (IntKind.i64.wrap (w58y2 N z37 z38 z39 + (1 : Int))) (w58y3 N z37 z38 z39)))) (w57y1 N [] (0 : Int) (9999 : Int) (w56y1 N [lF1x4, lF1x5] (w58y1 N z37 z38 z39) (IntKind.i64.wrap (w58y2 N z37 z38 z39 + (1 : Int))) (w58y3 N z37 z38 z39)) (w56y2 N [lF1x4, lF1x5] (w58y1 N z37 z38 z39) (IntKind.i64.wrap (w58y2 N z37 z38 z39 + (1 : Int))) (w58y3 N z37 z38 z39)) (w56y3 N [lF1x4, lF1x5] (w58y1 N z37 z38 z39) (IntKind.i64.wrap (w58y2 N z37 z38 z39 + (1 : Int))) (w58y3 N z37 z38 z39))) (w57y2 N [] (0 : Int) (9999 : Int) (w56y1 N [lF1x4, lF1x5] (w58y1 N z37 z38 z39) (IntKind.i64.wrap (w58y2 N z37 z38 z39 + (1 : Int))) (w58y3 N z37 z38 z39)) (w56y2 N [lF1x4, lF1x5] (w58y1 N z37 z38 z39) (IntKind.i64.wrap (w58y2 N z37 z38 z39 + (1 : Int))) (w58y3 N z37 z38 z39)) (w56y3 N [lF1x4, lF1x5] (w58y1 N z37 z38 z39) (IntKind.i64.wrap (w58y2 N z37 z38 z39 + (1 : Int))) (w58y3 N z37 z38 z39))) (w57y3 N [] (0 : Int) (9999 : Int) (w56y1 N [lF1x4, lF1x5] (w58y1 N z37 z38 z39) (IntKind.i64.wrap (w58y2 N z37 z38 z39 + (1 : Int))) (w58y3 N z37 z38 z39)) (w56y2 N [lF1x4, lF1x5] (w58y1 N z37 z38 z39) (IntKind.i64.wrap (w58y2 N z37 z38 z39 + (1 : Int))) (w58y3 N z37 z38 z39)) (w56y3 N [lF1x4, lF1x5] (w58y1 N z37 z38 z39) (IntKind.i64.wrap (w58y2 N z37 z38 z39 + (1 : Int))) (w58y3 N z37 z38 z39)))))
          (some (w42r0 z44 ((2 : Int)) z43 (w56y1 N [lF1x4, lF1x5] (w58y1 N z37 z38 z39) (IntKind.i64.wrap (w58y2 N z37 z38 z39 + (1 : Int))) (w58y3 N z37 z38 z39)) (w56y2 N [lF1x4, lF1x5] (w58y1 N z37 z38 z39) (IntKind.i64.wrap (w58y2 N z37 z38 z39 + (1 : Int))) (w58y3 N z37 z38 z39)) true)))))
       (br true
        (some (w42r0 z44 z42 z43 (w58y1 N z37 z38 z39) (w58y2 N z37 z38 z39) true))
        (ck (w56p N [lF1x4, lF1x5] (w58y1 N z37 z38 z39) (IntKind.i64.wrap (w58y2 N z37 z38 z39 + (1 : Int))) (w58y3 N z37 z38 z39)) <|
        br (decide (w56y0 N [lF1x4, lF1x5] (w58y1 N z37 z38 z39) (IntKind.i64.wrap (w58y2 N z37 z38 z39 + (1 : Int))) (w58y3 N z37 z38 z39) = (0 : Int)))
         (ck (w57p N [] (0 : Int) (9999 : Int) (w56y1 N [lF1x4, lF1x5] (w58y1 N z37 z38 z39) (IntKind.i64.wrap (w58y2 N z37 z38 z39 + (1 : Int))) (w58y3 N z37 z38 z39)) (w56y2 N [lF1x4, lF1x5] (w58y1 N z37 z38 z39) (IntKind.i64.wrap (w58y2 N z37 z38 z39 + (1 : Int))) (w58y3 N z37 z38 z39)) (w56y3 N [lF1x4, lF1x5] (w58y1 N z37 z38 z39) (IntKind.i64.wrap (w58y2 N z37 z38 z39 + (1 : Int))) (w58y3 N z37 z38 z39))) <|
         some (w42r0 z44 ((0 : Int)) (w57y0 N [] (0 : Int) (9999 : Int) (w56y1 N [lF1x4, lF1x5] (w58y1 N z37 z38 z39) (IntKind.i64.wrap (w58y2 N z37 z38 z39 + (1 : Int))) (w58y3 N z37 z38 z39)) (w56y2 N [lF1x4, lF1x5] (w58y1 N z37 z38 z39) (IntKind.i64.wrap (w58y2 N z37 z38 z39 + (1 : Int))) (w58y3 N z37 z38 z39)) (w56y3 N [lF1x4, lF1x5] (w58y1 N z37 z38 z39) (IntKind.i64.wrap (w58y2 N z37 z38 z39 + (1 : Int))) (w58y3 N z37 z38 z39))) (w57y1 N [] (0 : Int) (9999 : Int) (w56y1 N [lF1x4, lF1x5] (w58y1 N z37 z38 z39) (IntKind.i64.wrap (w58y2 N z37 z38 z39 + (1 : Int))) (w58y3 N z37 z38 z39)) (w56y2 N [lF1x4, lF1x5] (w58y1 N z37 z38 z39) (IntKind.i64.wrap (w58y2 N z37 z38 z39 + (1 : Int))) (w58y3 N z37 z38 z39)) (w56y3 N [lF1x4, lF1x5] (w58y1 N z37 z38 z39) (IntKind.i64.wrap (w58y2 N z37 z38 z39 + (1 : Int))) (w58y3 N z37 z38 z39))) (w57y2 N [] (0 : Int) (9999 : Int) (w56y1 N [lF1x4, lF1x5] (w58y1 N z37 z38 z39) (IntKind.i64.wrap (w58y2 N z37 z38 z39 + (1 : Int))) (w58y3 N z37 z38 z39)) (w56y2 N [lF1x4, lF1x5] (w58y1 N z37 z38 z39) (IntKind.i64.wrap (w58y2 N z37 z38 z39 + (1 : Int))) (w58y3 N z37 z38 z39)) (w56y3 N [lF1x4, lF1x5] (w58y1 N z37 z38 z39) (IntKind.i64.wrap (w58y2 N z37 z38 z39 + (1 : Int))) (w58y3 N z37 z38 z39))) (w57y3 N [] (0 : Int) (9999 : Int) (w56y1 N [lF1x4, lF1x5] (w58y1 N z37 z38 z39) (IntKind.i64.wrap (w58y2 N z37 z38 z39 + (1 : Int))) (w58y3 N z37 z38 z39)) (w56y2 N [lF1x4, lF1x5] (w58y1 N z37 z38 z39) (IntKind.i64.wrap (w58y2 N z37 z38 z39 + (1 : Int))) (w58y3 N z37 z38 z39)) (w56y3 N [lF1x4, lF1x5] (w58y1 N z37 z38 z39) (IntKind.i64.wrap (w58y2 N z37 z38 z39 + (1 : Int))) (w58y3 N z37 z38 z39)))))
         (br (decide (w56y0 N [lF1x4, lF1x5] (w58y1 N z37 z38 z39) (IntKind.i64.wrap (w58y2 N z37 z38 z39 + (1 : Int))) (w58y3 N z37 z38 z39) = (1 : Int)))
          (ck (w57p N [] (0 : Int) (9999 : Int) (w56y1 N [lF1x4, lF1x5] (w58y1 N z37 z38 z39) (IntKind.i64.wrap (w58y2 N z37 z38 z39 + (1 : Int))) (w58y3 N z37 z38 z39)) (w56y2 N [lF1x4, lF1x5] (w58y1 N z37 z38 z39) (IntKind.i64.wrap (w58y2 N z37 z38 z39 + (1 : Int))) (w58y3 N z37 z38 z39)) (w56y3 N [lF1x4, lF1x5] (w58y1 N z37 z38 z39) (IntKind.i64.wrap (w58y2 N z37 z38 z39 + (1 : Int))) (w58y3 N z37 z38 z39))) <|
          some (w42r0 z44 ((0 : Int)) (IntKind.i64.wrap ((-1 : Int) - w57y0 N [] (0 : Int) (9999 : Int) (w56y1 N [lF1x4, lF1x5] (w58y1 N z37 z38 z39) (IntKind.i64.wrap (w58y2 N z37 z38 z39 + (1 : Int))) (w58y3 N z37 z38 z39)) (w56y2 N [lF1x4, lF1x5] (w58y1 N z37 z38 z39) (IntKind.i64.wrap (w58y2 N z37 z38 z39 + (1 : Int))) (w58y3 N z37 z38 z39)) (w56y3 N [lF1x4, lF1x5] (w58y1 N z37 z38 z39) (IntKind.i64.wrap (w58y2 N z37 z38 z39 + (1 : Int))) (w58y3 N z37 z38 z39)))) (w57y1 N [] (0 : Int) (9999 : Int) (w56y1 N [lF1x4, lF1x5] (w58y1 N z37 z38 z39) (IntKind.i64.wrap (w58y2 N z37 z38 z39 + (1 : Int))) (w58y3 N z37 z38 z39)) (w56y2 N [lF1x4, lF1x5] (w58y1 N z37 z38 z39) (IntKind.i64.wrap (w58y2 N z37 z38 z39 + (1 : Int))) (w58y3 N z37 z38 z39)) (w56y3 N [lF1x4, lF1x5] (w58y1 N z37 z38 z39) (IntKind.i64.wrap (w58y2 N z37 z38 z39 + (1 : Int))) (w58y3 N z37 z38 z39))) (w57y2 N [] (0 : Int) (9999 : Int) (w56y1 N [lF1x4, lF1x5] (w58y1 N z37 z38 z39) (IntKind.i64.wrap (w58y2 N z37 z38 z39 + (1 : Int))) (w58y3 N z37 z38 z39)) (w56y2 N [lF1x4, lF1x5] (w58y1 N z37 z38 z39) (IntKind.i64.wrap (w58y2 N z37 z38 z39 + (1 : Int))) (w58y3 N z37 z38 z39)) (w56y3 N [lF1x4, lF1x5] (w58y1 N z37 z38 z39) (IntKind.i64.wrap (w58y2 N z37 z38 z39 + (1 : Int))) (w58y3 N z37 z38 z39))) (w57y3 N [] (0 : Int) (9999 : Int) (w56y1 N [lF1x4, lF1x5] (w58y1 N z37 z38 z39) (IntKind.i64.wrap (w58y2 N z37 z38 z39 + (1 : Int))) (w58y3 N z37 z38 z39)) (w56y2 N [lF1x4, lF1x5] (w58y1 N z37 z38 z39) (IntKind.i64.wrap (w58y2 N z37 z38 z39 + (1 : Int))) (w58y3 N z37 z38 z39)) (w56y3 N [lF1x4, lF1x5] (w58y1 N z37 z38 z39) (IntKind.i64.wrap (w58y2 N z37 z38 z39 + (1 : Int))) (w58y3 N z37 z38 z39)))))
          (some (w42r0 z44 ((0 : Int)) z43 (w56y1 N [lF1x4, lF1x5] (w58y1 N z37 z38 z39) (IntKind.i64.wrap (w58y2 N z37 z38 z39 + (1 : Int))) (w58y3 N z37 z38 z39)) (w56y2 N [lF1x4, lF1x5] (w58y1 N z37 z38 z39) (IntKind.i64.wrap (w58y2 N z37 z38 z39 + (1 : Int))) (w58y3 N z37 z38 z39)) true)))))))))
def w42 [Alg] (N : Nat) (h50_0 : (List ((List UInt8) × Int))) (h50_1 : Int) (h50_2 : Bool) : O := w42G N (w42n0 N) (w42n1 N) h50_0 h50_1 h50_2
noncomputable def w42h [Alg] (N : Nat) : Hint := (.seq .d (.seq .d (.seq .d (.seq (.sub w42m1 _ _ _ w42X1_0 (noX 1) (noX 2) (subL w42I1 w42u1 (w42l1 N N))) (.seq (.seq .d (.cond (.seq (.reg [] [.cv 3 0 (.sl (.i .i64))] []) .d) .d)) (.seq (.reg [] [] [[], [], [50], [], [], [], [], [], []]) (.seq (.seq .d (.cond (.seq .d (.seq (.reg [] [.cv 3 0 (.sl (.i .i64))] []) .d)) .d)) (.seq .d (.seq .d (.seq .d (.seq (.reg [] [.cv 3 0 (.sl (.i .i64))] []) .d)))))))))))
theorem w42hk (N : Nat) (hc : CxOk (w42c N)) : HintOk (w42c N) Tryd.f42.ntmps (w42h N) w42b := hk_of _ _ (And.intro trivial (And.intro trivial (And.intro trivial (And.intro (w42S1 N hc) (And.intro (And.intro trivial (And.intro (And.intro trivial trivial) trivial)) (And.intro trivial (And.intro (And.intro trivial (And.intro (And.intro trivial (And.intro trivial trivial)) trivial)) (And.intro trivial (And.intro trivial (And.intro trivial (And.intro trivial trivial)))))))))))
theorem w42q [Alg] (N : Nat) (h50_0 : (List ((List UInt8) × Int))) (h50_1 : Int) (h50_2 : Bool) : w42G N (w42s0 N) (w42s1 N) h50_0 h50_1 h50_2 = exec (w42c N) Tryd.f42.ntmps (w42h N) w42b ⟨argT 0 [.ref 50 0], [(50, .box 89 [.e (.sl (.pr .tx (.i .i64))) h50_0, .e (.i .i64) h50_1, .e .bo h50_2])], 100⟩ (finX (w42c N) Tryd.f42 true) := by kernel_rfl
theorem w42does {N : Nat} (hc : CxOk (w42c N)) {h50_0 : (List ((List UInt8) × Int))} {h50_1 : Int} {h50_2 : Bool} {r : Res} (h : w42 N h50_0 h50_1 h50_2 = some r) : Does Tryd.prog 42 (([.ref 50 0] : List X).map X.D) (HA [(50, .box 89 [.e (.sl (.pr .tx (.i .i64))) h50_0, .e (.i .i64) h50_1, .e .bo h50_2])]) r.1.D (HA r.2) :=
 fun_ok hc (f := 42) (fn := Tryd.f42) (code := w42b) (by kernel_rfl) (by kernel_rfl) (w42hk N hc) (Nat.le_of_ble_eq_true (by kernel_rfl)) (ow := true) ((w42q N h50_0 h50_1 h50_2).symm.trans (by rw [w42e0 N, w42e1 N]; exact h))
def w42un (r : Res) : Option ((List Int) × Int × Int × (List ((List UInt8) × Int)) × Int × Bool) := match r with
 | (.agg [x0, x1, x2], [(50, .box 89 [x3, x4, x5])]) => (match ue (.sl (.i .i64)) x0, ue (.i .i64) x1, ue (.i .i64) x2, ue (.sl (.pr .tx (.i .i64))) x3, ue (.i .i64) x4, ue .bo x5 with | some a0, some a1, some a2, some a3, some a4, some a5 => some (a0, a1, a2, a3, a4, a5) | _, _, _, _, _, _ => none)
 | _ => none
theorem w42uo {r : Res} {d : (List Int) × Int × Int × (List ((List UInt8) × Int)) × Int × Bool} (h : w42un r = some d) : r = w42r0 (d.1) (d.2.1) (d.2.2.1) (d.2.2.2.1) (d.2.2.2.2.1) (d.2.2.2.2.2) := by
 unfold w42un at h
 split at h
 ·split at h
  ·rename_i h0 h1 h2 h3 h4 h5; cases h; rw [ue_some h0, ue_some h1, ue_some h2, ue_some h3, ue_some h4, ue_some h5]; rfl
  ·cases h
 ·cases h
def w42z (N : Nat) (h50_0 : (List ((List UInt8) × Int))) (h50_1 : Int) (h50_2 : Bool) : Option ((List Int) × Int × Int × (List ((List UInt8) × Int)) × Int × Bool) := (w42 N h50_0 h50_1 h50_2).bind w42un
theorem w42fin {N : Nat} (hc : CxOk (w42c N)) {h50_0 : (List ((List UInt8) × Int))} {h50_1 : Int} {h50_2 : Bool} {d : (List Int) × Int × Int × (List ((List UInt8) × Int)) × Int × Bool} (hd : w42z N h50_0 h50_1 h50_2 = some d) : Does Tryd.prog 42 (([.ref 50 0] : List X).map X.D) (HA [(50, .box 89 [.e (.sl (.pr .tx (.i .i64))) h50_0, .e (.i .i64) h50_1, .e .bo h50_2])]) (w42r0 (d.1) (d.2.1) (d.2.2.1) (d.2.2.2.1) (d.2.2.2.2.1) (d.2.2.2.2.2)).1.D (HA (w42r0 (d.1) (d.2.1) (d.2.2.1) (d.2.2.2.1) (d.2.2.2.2.1) (d.2.2.2.2.2)).2) := by
 obtain ⟨r, hr, hu⟩ := Option.bind_eq_some_iff.1 hd
 have := w42does hc hr
 rw [w42uo hu] at this
 exact this
def w42p (N : Nat) (h50_0 : (List ((List UInt8) × Int))) (h50_1 : Int) (h50_2 : Bool) : Bool := (w42z N h50_0 h50_1 h50_2).isSome
def w42y0 (N : Nat) (h50_0 : (List ((List UInt8) × Int))) (h50_1 : Int) (h50_2 : Bool) : (List Int) := ((w42z N h50_0 h50_1 h50_2).getD ([], 0, 0, [], 0, false)).1
def w42y1 (N : Nat) (h50_0 : (List ((List UInt8) × Int))) (h50_1 : Int) (h50_2 : Bool) : Int := ((w42z N h50_0 h50_1 h50_2).getD ([], 0, 0, [], 0, false)).2.1
def w42y2 (N : Nat) (h50_0 : (List ((List UInt8) × Int))) (h50_1 : Int) (h50_2 : Bool) : Int := ((w42z N h50_0 h50_1 h50_2).getD ([], 0, 0, [], 0, false)).2.2.1
def w42y3 (N : Nat) (h50_0 : (List ((List UInt8) × Int))) (h50_1 : Int) (h50_2 : Bool) : (List ((List UInt8) × Int)) := ((w42z N h50_0 h50_1 h50_2).getD ([], 0, 0, [], 0, false)).2.2.2.1
def w42y4 (N : Nat) (h50_0 : (List ((List UInt8) × Int))) (h50_1 : Int) (h50_2 : Bool) : Int := ((w42z N h50_0 h50_1 h50_2).getD ([], 0, 0, [], 0, false)).2.2.2.2.1
def w42y5 (N : Nat) (h50_0 : (List ((List UInt8) × Int))) (h50_1 : Int) (h50_2 : Bool) : Bool := ((w42z N h50_0 h50_1 h50_2).getD ([], 0, 0, [], 0, false)).2.2.2.2.2
def w42in (xs : List X) (H : XH) : Option ((List ((List UInt8) × Int)) × Int × Bool) := match xs, H with
 | [.ref 50 0], [(50, .box 89 [x0, x1, x2])] => (match ue (.sl (.pr .tx (.i .i64))) x0, ue (.i .i64) x1, ue .bo x2 with | some a0, some a1, some a2 => some (a0, a1, a2) | _, _, _ => none)
 | _, _ => none
theorem w42io {xs : List X} {H : XH} {d : (List ((List UInt8) × Int)) × Int × Bool} (h : w42in xs H = some d) : xs = [.ref 50 0] ∧ H = [(50, .box 89 [.e (.sl (.pr .tx (.i .i64))) (d.1), .e (.i .i64) (d.2.1), .e .bo (d.2.2)])] := by
 unfold w42in at h
 split at h
 ·split at h
  ·rename_i h0 h1 h2; cases h; rw [ue_some h0, ue_some h1, ue_some h2]; exact ⟨rfl, rfl⟩
  ·cases h
 ·cases h
def w42e (N : Nat) : Ent' := fun xs H => match w42in xs H with | some d => some (w42p N (d.1) (d.2.1) (d.2.2), w42r0 (w42y0 N (d.1) (d.2.1) (d.2.2)) (w42y1 N (d.1) (d.2.1) (d.2.2)) (w42y2 N (d.1) (d.2.1) (d.2.2)) (w42y3 N (d.1) (d.2.1) (d.2.2)) (w42y4 N (d.1) (d.2.1) (d.2.2)) (w42y5 N (d.1) (d.2.1) (d.2.2))) | none => none
theorem w42re {N : Nat} {h50_0 : (List ((List UInt8) × Int))} {h50_1 : Int} {h50_2 : Bool} {d : (List Int) × Int × Int × (List ((List UInt8) × Int)) × Int × Bool} (hd : w42z N h50_0 h50_1 h50_2 = some d) : w42r0 (w42y0 N h50_0 h50_1 h50_2) (w42y1 N h50_0 h50_1 h50_2) (w42y2 N h50_0 h50_1 h50_2) (w42y3 N h50_0 h50_1 h50_2) (w42y4 N h50_0 h50_1 h50_2) (w42y5 N h50_0 h50_1 h50_2) = w42r0 (d.1) (d.2.1) (d.2.2.1) (d.2.2.2.1) (d.2.2.2.2.1) (d.2.2.2.2.2) := by unfold w42y0 w42y1 w42y2 w42y3 w42y4 w42y5; rw [hd]; rfl
theorem w42ok (N : Nat) : EOk Tryd.prog 42 (w42e N) := fun xs H pre r he hp => by
 unfold w42e at he
 split at he
 ·rename_i d hd
  have he := Option.some.inj he
  have h1 := congrArg Prod.fst he
  have h2 := congrArg Prod.snd he
  simp only at h1 h2
  obtain ⟨e1, e2⟩ := w42io hd
  rw [e1, e2, ← h2]
  have h : (w42z N (d.1) (d.2.1) (d.2.2)).isSome = true := h1.trans hp
  obtain ⟨d', hd'⟩ := Option.isSome_iff_exists.1 h
  have f := w42fin (w42cx N) hd'
  rw [← w42re hd'] at f
  exact f
 ·cases he
end
end Go.Proofs
