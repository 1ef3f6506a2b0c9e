/- What functions do. Conditions are in the theorems. -/
import Derived.Test.YtipllfcmdnellaaDoorE7
import Derived.Test.YtipllfcmdnellaaDoorProg
import Derived.KernelRfl
import Derived.Test.YtipllfcmdnellaaDoorF1
/- What functions do. -/
namespace Go.Proofs
noncomputable section
open Go.Ax Go.Ax.Alg Go.RowKit Go.Ab
open Go
abbrev lF2x0 : List UInt8 := [(97 : UInt8), (108 : UInt8), (119 : UInt8), (97 : UInt8), (121 : UInt8), (115 : UInt8), (32 : UInt8), (114 : UInt8), (101 : UInt8), (115 : UInt8), (116 : UInt8), (111 : UInt8), (114 : UInt8), (101 : UInt8), (32 : UInt8), (108 : UInt8), (101 : UInt8), (97 : UInt8), (115 : UInt8), (116 : UInt8), (32 : UInt8), (54 : UInt8), (48 : UInt8), (32 : UInt8), (105 : UInt8), (102 : UInt8), (32 : UInt8), (102 : UInt8), (49 : UInt8), (32 : UInt8), (97 : UInt8), (110 : UInt8), (100 : UInt8), (32 : UInt8), (110 : UInt8), (111 : UInt8), (116 : UInt8), (32 : UInt8), (102 : UInt8), (51 : UInt8), (32 : UInt8), (115 : UInt8), (116 : UInt8), (114 : UInt8), (105 : UInt8), (107 : UInt8), (101 : UInt8), (32 : UInt8), (108 : UInt8), (101 : UInt8), (97 : UInt8), (115 : UInt8), (116 : UInt8), (32 : UInt8), (49 : UInt8), (32 : UInt8), (105 : UInt8), (102 : UInt8), (32 : UInt8), (102 : UInt8), (49 : UInt8), (32 : UInt8), (115 : UInt8), (116 : UInt8), (114 : UInt8), (105 : UInt8), (107 : UInt8), (101 : UInt8), (32 : UInt8), (109 : UInt8), (111 : UInt8), (115 : UInt8), (116 : UInt8), (32 : UInt8), (48 : UInt8)]
abbrev lF2x1 : List UInt8 := [(105 : UInt8), (102 : UInt8), (32 : UInt8), (102 : UInt8), (51 : UInt8), (32 : UInt8), (97 : UInt8), (110 : UInt8), (100 : UInt8), (32 : UInt8), (102 : UInt8), (50 : UInt8), (32 : UInt8), (114 : UInt8), (101 : UInt8), (116 : UInt8), (97 : UInt8), (107 : UInt8), (101 : UInt8), (32 : UInt8), (108 : UInt8), (101 : UInt8), (97 : UInt8), (115 : UInt8), (116 : UInt8), (32 : UInt8), (49 : UInt8)]
abbrev lF2x2 : List UInt8 := [(97 : UInt8), (108 : UInt8), (119 : UInt8), (97 : UInt8), (121 : UInt8), (115 : UInt8), (32 : UInt8), (115 : UInt8), (116 : UInt8), (114 : UInt8), (105 : UInt8), (107 : UInt8), (101 : UInt8), (32 : UInt8), (108 : UInt8), (101 : UInt8), (97 : UInt8), (115 : UInt8), (116 : UInt8), (32 : UInt8), (48 : UInt8), (49 : UInt8)]
def w24r0 (a0 : (List ((List Int) × (Int × Int)))) (a1 : Int) (a2 : Int) : Res := (.tup [.e (.sl (.pr (.sl (.i .i64)) (.pr (.i .i64) (.i .i64)))) a0, .e (.i .i64) a1, .e (.i .i64) a2], [])
noncomputable def w24L (N : Nat) : List (Nat × Ent') := [(41, w41e N), (42, w42e N)]
noncomputable def w24c (N : Nat) : Cx := ⟨Tryd.prog, 99999, w24L N⟩
noncomputable def w24b : Code := Tryd.f24.body.getD .skip
theorem w24cx (N : Nat) : CxOk (w24c N) := ctx_ok (by kernel_rfl) (.cons (by kernel_rfl) (w41ok N) (.cons (by kernel_rfl) (w42ok N) .nil))
def w24F0 [Alg] (N : Nat)  (self : (List ((List UInt8) × Int)) → Int → Bool → (List ((List Int) × (Int × Int))) → O) (k0 : Int → Int → O) (k1 : (List UInt8) → Int → Int → Int → (List ((List Int) × (Int × Int))) → O) (x0_0 : (List UInt8)) (x0_1 : Int) (x0_2 : Int) (x0_3 : (List ((List UInt8) × Int))) (x0_4 : Int) (x0_5 : (List ((List UInt8) × Int))) (x0_6 : Int) (x0_7 : Bool) (x0_8 : (List ((List Int) × (Int × Int)))) : O :=
 br (decide (x0_6 < (↑x0_3.length : Int)))
  (ck (w42p N x0_5 x0_6 x0_7) <|
  br (w42y5 N x0_5 x0_6 x0_7)
   (br (decide (w42y4 N x0_5 x0_6 x0_7 < (↑x0_3.length : Int)))
    (gx x0_3 (w42y4 N x0_5 x0_6 x0_7) fun y4 =>
    k0 y4.2 ((2 : Int)))
    (k0 x0_4 ((2 : Int))))
   (ck (lim (x0_8 ++ [(w42y0 N x0_5 x0_6 x0_7, w42y1 N x0_5 x0_6 x0_7, w42y2 N x0_5 x0_6 x0_7)]).length (40 : Nat)) <|
   self (w42y3 N x0_5 x0_6 x0_7) (w42y4 N x0_5 x0_6 x0_7) (w42y5 N x0_5 x0_6 x0_7) (x0_8 ++ [(w42y0 N x0_5 x0_6 x0_7, w42y1 N x0_5 x0_6 x0_7, w42y2 N x0_5 x0_6 x0_7)])))
  (k1 x0_0 x0_1 x0_2 x0_4 x0_8)
noncomputable def w24b0 : Code := atC [1, 1, 1, 1, 1, 0, 0, 0] w24b
def w24m0 : Nm := ⟨[0, 2, 3, 4, 5, 6, 7, 8], [], [.nilR 8 (.row 51 (.pr (.sl (.i .i64)) (.pr (.i .i64) (.i .i64))) [] true)]⟩
def w24I0 (x : (List UInt8) × Int × Int × (List ((List UInt8) × Int)) × Int × (List ((List UInt8) × Int)) × Int × Bool × (List ((List Int) × (Int × Int)))) : Sg := ⟨[(0, .e .tx x.1), (2, .nilS), (3, .e (.i .i64) x.2.1), (4, .e (.i .i64) x.2.2.1), (5, .e (.sl (.pr .tx (.i .i64))) x.2.2.2.1), (6, .e (.i .i64) x.2.2.2.2.1), (7, .ref 0 0), (8, .own 1)], [(0, .box 89 [.e (.sl (.pr .tx (.i .i64))) x.2.2.2.2.2.1, .e (.i .i64) x.2.2.2.2.2.2.1, .e .bo x.2.2.2.2.2.2.2.1]), (1, .row 51 (.pr (.sl (.i .i64)) (.pr (.i .i64) (.i .i64))) x.2.2.2.2.2.2.2.2 true)], 100⟩
def w24u0 (σ : Sg) : (List UInt8) × Int × Int × (List ((List UInt8) × Int)) × Int × (List ((List UInt8) × Int)) × Int × Bool × (List ((List Int) × (Int × Int))) := (lvT .tx 0 0 σ, lvT (.i .i64) 3 0 σ, lvT (.i .i64) 4 0 σ, lvT (.sl (.pr .tx (.i .i64))) 5 0 σ, lvT (.i .i64) 6 0 σ, lvH (.sl (.pr .tx (.i .i64))) 0 0 σ, lvH (.i .i64) 0 1 σ, lvH .bo 0 2 σ, lvR (.pr (.sl (.i .i64)) (.pr (.i .i64) (.i .i64))) 1 σ)
theorem w24ui0 : ∀ x, w24u0 (w24I0 x) = x := fun _ => by kernel_rfl
def w24X0_0 (y : Int × Int) : Exit × Sg := (.ret, ⟨[(2, .nilS), (3, .e (.i .i64) y.1), (4, .e (.i .i64) y.2)], [], 100⟩)
def w24v0_0 (σ : Sg) : Int × Int := (lvT (.i .i64) 3 0 σ, lvT (.i .i64) 4 0 σ)
def w24X0_1 (y : (List UInt8) × Int × Int × Int × (List ((List Int) × (Int × Int)))) : Exit × Sg := ((.exit 0), ⟨[(0, .e .tx y.1), (2, .nilS), (3, .e (.i .i64) y.2.1), (4, .e (.i .i64) y.2.2.1), (6, .e (.i .i64) y.2.2.2.1), (8, .own 0)], [(0, .row 51 (.pr (.sl (.i .i64)) (.pr (.i .i64) (.i .i64))) y.2.2.2.2 true)], 100⟩)
def w24v0_1 (σ : Sg) : (List UInt8) × Int × Int × Int × (List ((List Int) × (Int × Int))) := (lvT .tx 0 0 σ, lvT (.i .i64) 3 0 σ, lvT (.i .i64) 4 0 σ, lvT (.i .i64) 6 0 σ, lvR (.pr (.sl (.i .i64)) (.pr (.i .i64) (.i .i64))) 0 σ)
def w24w0 : List (Exit × Nm) := [(.ret, ⟨[2, 3, 4], [], []⟩), ((.exit 0), ⟨[0, 2, 3, 4, 6, 8], [], []⟩)]
theorem w24o0 : Outs w24v0_0 w24v0_1 (fun _ => ()) w24X0_0 w24X0_1 (noX 2) .ret (.exit 0) (.goto 2) := ⟨fun _ => by kernel_rfl, fun _ => by kernel_rfl, fun _ => by kernel_rfl, fun _ => by kernel_rfl, fun _ => by kernel_rfl, fun _ => by kernel_rfl, exNe_ok (by kernel_rfl), exNe_ok (by kernel_rfl), exNe_ok (by kernel_rfl)⟩
def w24l0 [Alg] (N : Nat) : Nat → ((List UInt8) × Int × Int × (List ((List UInt8) × Int)) × Int × (List ((List UInt8) × Int)) × Int × Bool × (List ((List Int) × (Int × Int)))) → ((Int × Int) → O) → (((List UInt8) × Int × Int × Int × (List ((List Int) × (Int × Int)))) → O) → ((Unit) → O) → O
 | 0, _, _, _, _ => none
 | n + 1, x, k0, k1, k2 => w24F0 N  (fun v0 v1 v2 v3 => w24l0 N n (x.1, x.2.1, x.2.2.1, x.2.2.2.1, x.2.2.2.2.1, v0, v1, v2, v3) k0 k1 k2) (fun y0 y1 => k0 (y0, y1)) (fun y0 y1 y2 y3 y4 => k1 (y0, y1, y2, y3, y4)) x.1 x.2.1 x.2.2.1 x.2.2.2.1 x.2.2.2.2.1 x.2.2.2.2.2.1 x.2.2.2.2.2.2.1 x.2.2.2.2.2.2.2.1 x.2.2.2.2.2.2.2.2
def w24n0 [Alg] (N : Nat) (a0 : (List UInt8)) (a1 : Int) (a2 : Int) (a3 : (List ((List UInt8) × Int))) (a4 : Int) (a5 : (List ((List UInt8) × Int))) (a6 : Int) (a7 : Bool) (a8 : (List ((List Int) × (Int × Int)))) (k0 : Int → Int → O) (k1 : (List UInt8) → Int → Int → Int → (List ((List Int) × (Int × Int))) → O) : O := w24l0 N N (a0, a1, a2, a3, a4, a5, a6, a7, a8) (fun y => k0 y.1 y.2) (fun y => k1 y.1 y.2.1 y.2.2.1 y.2.2.2.1 y.2.2.2.2) (fun _ => none)
noncomputable def w24s0 [Alg] (N : Nat) (a0 : (List UInt8)) (a1 : Int) (a2 : Int) (a3 : (List ((List UInt8) × Int))) (a4 : Int) (a5 : (List ((List UInt8) × Int))) (a6 : Int) (a7 : Bool) (a8 : (List ((List Int) × (Int × Int)))) (k0 : Int → Int → O) (k1 : (List UInt8) → Int → Int → Int → (List ((List Int) × (Int × Int))) → O) : O := subL w24I0 w24u0 (w24l0 N N) (w24I0 (a0, a1, a2, a3, a4, a5, a6, a7, a8)) (fun y => k0 y.1 y.2) (fun y => k1 y.1 y.2.1 y.2.2.1 y.2.2.2.1 y.2.2.2.2) (fun _ => none)
theorem w24e0 [Alg] (N : Nat) : w24s0 N = w24n0 N := funext fun _ => funext fun _ => funext fun _ => funext fun _ => funext fun _ => funext fun _ => funext fun _ => funext fun _ => funext fun _ => funext fun _ => funext fun _ => subL_I w24ui0 _ _ _ _
noncomputable def w24h0 [Alg] (_ : Nat) : Hint := .d
theorem w24hk0 (N : Nat) : HintOk (w24c N) Tryd.f24.ntmps (w24h0 N) w24b0 := hk_of _ _ trivial
theorem w24q0 [Alg] (N : Nat) (self : Sg → O) (K : Exit → Sg → O) (x : (List UInt8) × Int × Int × (List ((List UInt8) × Int)) × Int × (List ((List UInt8) × Int)) × Int × Bool × (List ((List Int) × (Int × Int)))) : w24F0 N  (fun v0 v1 v2 v3 => self (w24I0 (x.1, x.2.1, x.2.2.1, x.2.2.2.1, x.2.2.2.2.1, v0, v1, v2, v3))) (fun y0 y1 => K (w24X0_0 (y0, y1)).1 (w24X0_0 (y0, y1)).2) (fun y0 y1 y2 y3 y4 => K (w24X0_1 (y0, y1, y2, y3, y4)).1 (w24X0_1 (y0, y1, y2, y3, y4)).2) x.1 x.2.1 x.2.2.1 x.2.2.2.1 x.2.2.2.2.1 x.2.2.2.2.2.1 x.2.2.2.2.2.2.1 x.2.2.2.2.2.2.2.1 x.2.2.2.2.2.2.2.2 = exec (w24c N) Tryd.f24.ntmps (w24h0 N) w24b0 (w24I0 x) (roundX w24m0 w24w0 self K) := by kernel_rfl
theorem w24S0 (N : Nat) (hc : CxOk (w24c N)) : SubOk (w24c N) Tryd.f24.ntmps (.loop w24b0) w24X0_0 w24X0_1 (noX 2) (subL w24I0 w24u0 (w24l0 N N)) :=
 sub_loop hc (w24hk0 N) w24o0 (n := N) (fun x K => loop_ind (w24l0 N) (fun _ _ _ _ => rfl) (fun n K ih x => by
  have h : w24F0 N  (fun v0 v1 v2 v3 => w24l0 N n (x.1, x.2.1, x.2.2.1, x.2.2.2.1, x.2.2.2.2.1, v0, v1, v2, v3) (fun y => K (w24X0_0 y).1 (w24X0_0 y).2) (fun y => K (w24X0_1 y).1 (w24X0_1 y).2) (fun y => K ((noX 2) y).1 ((noX 2) y).2)) (fun y0 y1 => K (w24X0_0 (y0, y1)).1 (w24X0_0 (y0, y1)).2) (fun y0 y1 y2 y3 y4 => K (w24X0_1 (y0, y1, y2, y3, y4)).1 (w24X0_1 (y0, y1, y2, y3, y4)).2) x.1 x.2.1 x.2.2.1 x.2.2.2.1 x.2.2.2.2.1 x.2.2.2.2.2.1 x.2.2.2.2.2.2.1 x.2.2.2.2.2.2.2.1 x.2.2.2.2.2.2.2.2 = w24F0 N  (fun v0 v1 v2 v3 => loopX (w24c N) Tryd.f24.ntmps (w24h0 N) w24b0 w24m0 w24w0 n (w24I0 (x.1, x.2.1, x.2.2.1, x.2.2.2.1, x.2.2.2.2.1, v0, v1, v2, v3)) K) (fun y0 y1 => K (w24X0_0 (y0, y1)).1 (w24X0_0 (y0, y1)).2) (fun y0 y1 y2 y3 y4 => K (w24X0_1 (y0, y1, y2, y3, y4)).1 (w24X0_1 (y0, y1, y2, y3, y4)).2) x.1 x.2.1 x.2.2.1 x.2.2.2.1 x.2.2.2.2.1 x.2.2.2.2.2.1 x.2.2.2.2.2.2.1 x.2.2.2.2.2.2.2.1 x.2.2.2.2.2.2.2.2 := by rw [ show (fun v0 v1 v2 v3 => w24l0 N n (x.1, x.2.1, x.2.2.1, x.2.2.2.1, x.2.2.2.2.1, v0, v1, v2, v3) (fun y => K (w24X0_0 y).1 (w24X0_0 y).2) (fun y => K (w24X0_1 y).1 (w24X0_1 y).2) (fun y => K ((noX 2) y).1 ((noX 2) y).2)) = (fun v0 v1 v2 v3 => loopX (w24c N) Tryd.f24.ntmps (w24h0 N) w24b0 w24m0 w24w0 n (w24I0 (x.1, x.2.1, x.2.2.1, x.2.2.2.1, x.2.2.2.2.1, v0, v1, v2, v3)) K) from funext fun _ => funext fun _ => funext fun _ => funext fun _ => ih _]
  exact h.trans (w24q0 N (fun σ => loopX (w24c N) Tryd.f24.ntmps (w24h0 N) w24b0 w24m0 w24w0 n σ K) K x)) N x K)
def w24G [Alg] (N : Nat) (in0 : (List UInt8) → Int → Int → (List ((List UInt8) × Int)) → Int → (List ((List UInt8) × Int)) → Int → Bool → (List ((List Int) × (Int × Int))) → (Int → Int → O) → ((List UInt8) → Int → Int → Int → (List ((List Int) × (Int × Int))) → O) → O) (s0 : (List UInt8)) : O :=
 br (decide ((8192 : Int) < (↑s0.length : Int)))
  (some (w24r0 [] ((0 : Int)) ((4 : Int))))
  (ck (w41p N s0) <|
  in0 s0 ((0 : Int)) ((0 : Int)) (w41y0 N s0) (w41y1 N s0) (w41y0 N s0) ((0 : Int)) false []
   (fun z5 z6 =>
    some (w24r0 [] z5 z6))
   (fun z7 _ _ z10 z11 =>
    br (decide (z10 < (↑z7.length : Int)))
     (some (w24r0 [] z10 ((2 : Int))))
     (br (decide ((32 : Int) < (↑z11.length : Int)))
      (some (w24r0 [] ((0 : Int)) ((4 : Int))))
      (some (w24r0 z11 ((0 : Int)) ((0 : Int)))))))
def w24 [Alg] (N : Nat) (s0 : (List UInt8)) : O := w24G N (w24n0 N) s0
noncomputable def w24h [Alg] (N : Nat) : Hint := (.seq .d (.seq .d (.seq .d (.seq .d (.seq .d (.seq (.block (.sub w24m0 _ _ _ w24X0_0 w24X0_1 (noX 2) (subL w24I0 w24u0 (w24l0 N N)))) .d))))))
theorem w24hk (N : Nat) (hc : CxOk (w24c N)) : HintOk (w24c N) Tryd.f24.ntmps (w24h N) w24b := hk_of _ _ (And.intro trivial (And.intro trivial (And.intro trivial (And.intro trivial (And.intro trivial (And.intro (w24S0 N hc) trivial))))))
theorem w24q [Alg] (N : Nat) (s0 : (List UInt8)) : w24G N (w24s0 N) s0 = exec (w24c N) Tryd.f24.ntmps (w24h N) w24b ⟨argT 0 [.e .tx s0], [], 100⟩ (finX (w24c N) Tryd.f24 false) := by kernel_rfl
theorem w24does {N : Nat} (hc : CxOk (w24c N)) {s0 : (List UInt8)} {r : Res} (h : w24 N s0 = some r) : Does Tryd.prog 24 (([.e .tx s0] : List X).map X.D) (HA []) r.1.D (HA r.2) :=
 fun_ok hc (f := 24) (fn := Tryd.f24) (code := w24b) (by kernel_rfl) (by kernel_rfl) (w24hk N hc) (Nat.le_of_ble_eq_true (by kernel_rfl)) (ow := false) ((w24q N s0).symm.trans (by rw [w24e0 N]; exact h))
def w24un (r : Res) : Option ((List ((List Int) × (Int × Int))) × Int × Int) := match r with
 | (.tup [x0, x1, x2], []) => (match ue (.sl (.pr (.sl (.i .i64)) (.pr (.i .i64) (.i .i64)))) x0, ue (.i .i64) x1, ue (.i .i64) x2 with | some a0, some a1, some a2 => some (a0, a1, a2) | _, _, _ => none)
 | _ => none
theorem w24uo {r : Res} {d : (List ((List Int) × (Int × Int))) × Int × Int} (h : w24un r = some d) : r = w24r0 (d.1) (d.2.1) (d.2.2) := by
 unfold w24un at h
 split at h
 ·split at h
  ·rename_i h0 h1 h2; cases h; rw [ue_some h0, ue_some h1, ue_some h2]; rfl
  ·cases h
 ·cases h
def w24z (N : Nat) (s0 : (List UInt8)) : Option ((List ((List Int) × (Int × Int))) × Int × Int) := (w24 N s0).bind w24un
theorem w24fin {N : Nat} (hc : CxOk (w24c N)) {s0 : (List UInt8)} {d : (List ((List Int) × (Int × Int))) × Int × Int} (hd : w24z N s0 = some d) : Does Tryd.prog 24 (([.e .tx s0] : List X).map X.D) (HA []) (w24r0 (d.1) (d.2.1) (d.2.2)).1.D (HA (w24r0 (d.1) (d.2.1) (d.2.2)).2) := by
 obtain ⟨r, hr, hu⟩ := Option.bind_eq_some_iff.1 hd
 have := w24does hc hr
 rw [w24uo hu] at this
 exact this
def w24p (N : Nat) (s0 : (List UInt8)) : Bool := (w24z N s0).isSome
def w24y0 (N : Nat) (s0 : (List UInt8)) : (List ((List Int) × (Int × Int))) := ((w24z N s0).getD ([], 0, 0)).1
def w24y1 (N : Nat) (s0 : (List UInt8)) : Int := ((w24z N s0).getD ([], 0, 0)).2.1
def w24y2 (N : Nat) (s0 : (List UInt8)) : Int := ((w24z N s0).getD ([], 0, 0)).2.2
def w24e (N : Nat) : Ent' := E1 .tx  (fun x0 => (w24p N x0, w24r0 (w24y0 N x0) (w24y1 N x0) (w24y2 N x0)))
theorem w24re {N : Nat} {s0 : (List UInt8)} {d : (List ((List Int) × (Int × Int))) × Int × Int} (hd : w24z N s0 = some d) : w24r0 (w24y0 N s0) (w24y1 N s0) (w24y2 N s0) = w24r0 (d.1) (d.2.1) (d.2.2) := by unfold w24y0 w24y1 w24y2; rw [hd]; rfl
theorem w24ok (N : Nat) : EOk Tryd.prog 24 (w24e N) := EOk.e1 (fun x0 h => by
 have h : (w24z N x0).isSome = true := h
 obtain ⟨d, hd⟩ := Option.isSome_iff_exists.1 h
 have f := w24fin (w24cx N) hd
 rw [← w24re hd] at f
 exact f)
def w59r0 (a0 : Int) : Res := (.e (.i .i64) a0, [])
noncomputable def w59L (N : Nat) : List (Nat × Ent') := [(46, w46e N)]
noncomputable def w59c (N : Nat) : Cx := ⟨Tryd.prog, 99999, w59L N⟩
noncomputable def w59b : Code := Tryd.f59.body.getD .skip
theorem w59cx (N : Nat) : CxOk (w59c N) := ctx_ok (by kernel_rfl) (.cons (by kernel_rfl) (w46ok N) .nil)
def w59F0 [Alg] (N : Nat)  (self : Int → O) (k0 : Int → O) (k1 : Int → O) (x0_0 : (List ((List Int) × (Int × Int)))) (x0_1 : Int) (x0_2 : Int) (x0_3 : Int) : O :=
 br (decide (x0_3 < x0_2))
  (gx x0_0 x0_3 fun y3 =>
  ck (w46p N y3.1 y3.2.1 y3.2.2) <|
  br (w46y0 N y3.1 y3.2.1 y3.2.2)
   (k0 x0_3)
   (self (IntKind.i64.wrap (x0_3 + (1 : Int)))))
  (k1 x0_1)
noncomputable def w59b0 : Code := atC [1, 0, 1, 0, 0] w59b
def w59m0 : Nm := ⟨[0, 1, 4, 7, 8], [], []⟩
def w59I0 (x : (List ((List Int) × (Int × Int))) × Int × Int × Int) : Sg := ⟨[(0, .e (.sl (.pr (.sl (.i .i64)) (.pr (.i .i64) (.i .i64)))) x.1), (1, .fn 46 []), (4, .e (.i .i64) x.2.1), (7, .e (.i .i64) x.2.2.1), (8, .e (.i .i64) x.2.2.2)], [], 100⟩
def w59u0 (σ : Sg) : (List ((List Int) × (Int × Int))) × Int × Int × Int := (lvT (.sl (.pr (.sl (.i .i64)) (.pr (.i .i64) (.i .i64)))) 0 0 σ, lvT (.i .i64) 4 0 σ, lvT (.i .i64) 7 0 σ, lvT (.i .i64) 8 0 σ)
theorem w59ui0 : ∀ x, w59u0 (w59I0 x) = x := fun _ => by kernel_rfl
def w59X0_0 (y : Int) : Exit × Sg := (.ret, ⟨[(4, .e (.i .i64) y)], [], 100⟩)
def w59v0_0 (σ : Sg) : Int := lvT (.i .i64) 4 0 σ
def w59X0_1 (y : Int) : Exit × Sg := ((.exit 0), ⟨[(4, .e (.i .i64) y)], [], 100⟩)
def w59v0_1 (σ : Sg) : Int := lvT (.i .i64) 4 0 σ
def w59w0 : List (Exit × Nm) := [(.ret, ⟨[4], [], []⟩), ((.exit 0), ⟨[4], [], []⟩)]
theorem w59o0 : Outs w59v0_0 w59v0_1 (fun _ => ()) w59X0_0 w59X0_1 (noX 2) .ret (.exit 0) (.goto 2) := ⟨fun _ => by kernel_rfl, fun _ => by kernel_rfl, fun _ => by kernel_rfl, fun _ => by kernel_rfl, fun _ => by kernel_rfl, fun _ => by kernel_rfl, exNe_ok (by kernel_rfl), exNe_ok (by kernel_rfl), exNe_ok (by kernel_rfl)⟩
def w59l0 [Alg] (N : Nat) : Nat → ((List ((List Int) × (Int × Int))) × Int × Int × Int) → ((Int) → O) → ((Int) → O) → ((Unit) → O) → O
 | 0, _, _, _, _ => none
 | n + 1, x, k0, k1, k2 => w59F0 N  (fun v0 => w59l0 N n (x.1, x.2.1, x.2.2.1, v0) k0 k1 k2) (fun y0 => k0 y0) (fun y0 => k1 y0) x.1 x.2.1 x.2.2.1 x.2.2.2
def w59n0 [Alg] (N : Nat) (a0 : (List ((List Int) × (Int × Int)))) (a1 : Int) (a2 : Int) (a3 : Int) (k0 : Int → O) (k1 : Int → O) : O := w59l0 N N (a0, a1, a2, a3) (fun y => k0 y) (fun y => k1 y) (fun _ => none)
noncomputable def w59s0 [Alg] (N : Nat) (a0 : (List ((List Int) × (Int × Int)))) (a1 : Int) (a2 : Int) (a3 : Int) (k0 : Int → O) (k1 : Int → O) : O := subL w59I0 w59u0 (w59l0 N N) (w59I0 (a0, a1, a2, a3)) (fun y => k0 y) (fun y => k1 y) (fun _ => none)
theorem w59e0 [Alg] (N : Nat) : w59s0 N = w59n0 N := funext fun _ => funext fun _ => funext fun _ => funext fun _ => funext fun _ => funext fun _ => subL_I w59ui0 _ _ _ _
noncomputable def w59h0 [Alg] (_ : Nat) : Hint := .d
theorem w59hk0 (N : Nat) : HintOk (w59c N) Tryd.f59.ntmps (w59h0 N) w59b0 := hk_of _ _ trivial
theorem w59q0 [Alg] (N : Nat) (self : Sg → O) (K : Exit → Sg → O) (x : (List ((List Int) × (Int × Int))) × Int × Int × Int) : w59F0 N  (fun v0 => self (w59I0 (x.1, x.2.1, x.2.2.1, v0))) (fun y0 => K (w59X0_0 y0).1 (w59X0_0 y0).2) (fun y0 => K (w59X0_1 y0).1 (w59X0_1 y0).2) x.1 x.2.1 x.2.2.1 x.2.2.2 = exec (w59c N) Tryd.f59.ntmps (w59h0 N) w59b0 (w59I0 x) (roundX w59m0 w59w0 self K) := by kernel_rfl
theorem w59S0 (N : Nat) (hc : CxOk (w59c N)) : SubOk (w59c N) Tryd.f59.ntmps (.loop w59b0) w59X0_0 w59X0_1 (noX 2) (subL w59I0 w59u0 (w59l0 N N)) :=
 sub_loop hc (w59hk0 N) w59o0 (n := N) (fun x K => loop_ind (w59l0 N) (fun _ _ _ _ => rfl) (fun n K ih x => by
  have h : w59F0 N  (fun v0 => w59l0 N n (x.1, x.2.1, x.2.2.1, v0) (fun y => K (w59X0_0 y).1 (w59X0_0 y).2) (fun y => K (w59X0_1 y).1 (w59X0_1 y).2) (fun y => K ((noX 2) y).1 ((noX 2) y).2)) (fun y0 => K (w59X0_0 y0).1 (w59X0_0 y0).2) (fun y0 => K (w59X0_1 y0).1 (w59X0_1 y0).2) x.1 x.2.1 x.2.2.1 x.2.2.2 = w59F0 N  (fun v0 => loopX (w59c N) Tryd.f59.ntmps (w59h0 N) w59b0 w59m0 w59w0 n (w59I0 (x.1, x.2.1, x.2.2.1, v0)) K) (fun y0 => K (w59X0_0 y0).1 (w59X0_0 y0).2) (fun y0 => K (w59X0_1 y0).1 (w59X0_1 y0).2) x.1 x.2.1 x.2.2.1 x.2.2.2 := by rw [ show (fun v0 => w59l0 N n (x.1, x.2.1, x.2.2.1, v0) (fun y => K (w59X0_0 y).1 (w59X0_0 y).2) (fun y => K (w59X0_1 y).1 (w59X0_1 y).2) (fun y => K ((noX 2) y).1 ((noX 2) y).2)) = (fun v0 => loopX (w59c N) Tryd.f59.ntmps (w59h0 N) w59b0 w59m0 w59w0 n (w59I0 (x.1, x.2.1, x.2.2.1, v0)) K) from funext fun _ => ih _]
  exact h.trans (w59q0 N (fun σ => loopX (w59c N) Tryd.f59.ntmps (w59h0 N) w59b0 w59m0 w59w0 n σ K) K x)) N x K)
def w59G [Alg] (_ : Nat) (in0 : (List ((List Int) × (Int × Int))) → Int → Int → Int → (Int → O) → (Int → O) → O) (s0 : (List ((List Int) × (Int × Int)))) : O :=
 in0 s0 ((0 : Int)) ((↑s0.length : Int)) ((0 : Int))
  (fun z4 =>
   some (w59r0 z4))
  (fun _ =>
   some (w59r0 ((-1 : Int))))
def w59 [Alg] (N : Nat) (s0 : (List ((List Int) × (Int × Int)))) : O := w59G N (w59n0 N) s0
noncomputable def w59h [Alg] (N : Nat) : Hint := (.seq .d (.seq (.seq .d (.block (.sub w59m0 _ _ _ w59X0_0 w59X0_1 (noX 2) (subL w59I0 w59u0 (w59l0 N N))))) .d))
theorem w59hk (N : Nat) (hc : CxOk (w59c N)) : HintOk (w59c N) Tryd.f59.ntmps (w59h N) w59b := hk_of _ _ (And.intro trivial (And.intro (And.intro trivial (w59S0 N hc)) trivial))
theorem w59q [Alg] (N : Nat) (s0 : (List ((List Int) × (Int × Int)))) : w59G N (w59s0 N) s0 = exec (w59c N) Tryd.f59.ntmps (w59h N) w59b ⟨argT 0 [.e (.sl (.pr (.sl (.i .i64)) (.pr (.i .i64) (.i .i64)))) s0, .fn 46 []], [], 100⟩ (finX (w59c N) Tryd.f59 false) := by kernel_rfl
theorem w59does {N : Nat} (hc : CxOk (w59c N)) {s0 : (List ((List Int) × (Int × Int)))} {r : Res} (h : w59 N s0 = some r) : Does Tryd.prog 59 (([.e (.sl (.pr (.sl (.i .i64)) (.pr (.i .i64) (.i .i64)))) s0, .fn 46 []] : List X).map X.D) (HA []) r.1.D (HA r.2) :=
 fun_ok hc (f := 59) (fn := Tryd.f59) (code := w59b) (by kernel_rfl) (by kernel_rfl) (w59hk N hc) (Nat.le_of_ble_eq_true (by kernel_rfl)) (ow := false) ((w59q N s0).symm.trans (by rw [w59e0 N]; exact h))
def w59un (r : Res) : Option (Int) := match r with
 | (x0, []) => (match ue (.i .i64) x0 with | some a0 => some a0 | _ => none)
 | _ => none
theorem w59uo {r : Res} {d : Int} (h : w59un r = some d) : r = w59r0 (d) := by
 unfold w59un at h
 split at h
 ·split at h
  ·rename_i h0; cases h; rw [ue_some h0]; rfl
  ·cases h
 ·cases h
def w59z (N : Nat) (s0 : (List ((List Int) × (Int × Int)))) : Option (Int) := (w59 N s0).bind w59un
theorem w59fin {N : Nat} (hc : CxOk (w59c N)) {s0 : (List ((List Int) × (Int × Int)))} {d : Int} (hd : w59z N s0 = some d) : Does Tryd.prog 59 (([.e (.sl (.pr (.sl (.i .i64)) (.pr (.i .i64) (.i .i64)))) s0, .fn 46 []] : List X).map X.D) (HA []) (w59r0 (d)).1.D (HA (w59r0 (d)).2) := by
 obtain ⟨r, hr, hu⟩ := Option.bind_eq_some_iff.1 hd
 have := w59does hc hr
 rw [w59uo hu] at this
 exact this
def w59p (N : Nat) (s0 : (List ((List Int) × (Int × Int)))) : Bool := (w59z N s0).isSome
def w59y0 (N : Nat) (s0 : (List ((List Int) × (Int × Int)))) : Int := ((w59z N s0).getD 0)
def w59e (N : Nat) : Ent' := Ef1 (.sl (.pr (.sl (.i .i64)) (.pr (.i .i64) (.i .i64)))) 46 (fun x0 => (w59p N x0, w59r0 (w59y0 N x0)))
theorem w59re {N : Nat} {s0 : (List ((List Int) × (Int × Int)))} {d : Int} (hd : w59z N s0 = some d) : w59r0 (w59y0 N s0) = w59r0 (d) := by unfold w59y0; rw [hd]; rfl
theorem w59ok (N : Nat) : EOk Tryd.prog 59 (w59e N) := EOk.f1 (fun x0 h => by
 have h : (w59z N x0).isSome = true := h
 obtain ⟨d, hd⟩ := Option.isSome_iff_exists.1 h
 have f := w59fin (w59cx N) hd
 rw [← w59re hd] at f
 exact f)
def w45r0 (a0 : Bool) : Res := (.e .bo a0, [])
noncomputable def w45L (N : Nat) : List (Nat × Ent') := [(59, w59e N)]
noncomputable def w45c (N : Nat) : Cx := ⟨Tryd.prog, 99999, w45L N⟩
noncomputable def w45b : Code := Tryd.f45.body.getD .skip
theorem w45cx (N : Nat) : CxOk (w45c N) := ctx_ok (by kernel_rfl) (.cons (by kernel_rfl) (w59ok N) .nil)
def w45G [Alg] (N : Nat)  (s0 : (List ((List Int) × (Int × Int)))) : O :=
 ck (w59p N s0) <|
 some (w45r0 (decide ((0 : Int) ≤ w59y0 N s0)))
def w45 [Alg] (N : Nat) (s0 : (List ((List Int) × (Int × Int)))) : O := w45G N  s0
noncomputable def w45h [Alg] (_ : Nat) : Hint := .d
theorem w45hk (N : Nat) : HintOk (w45c N) Tryd.f45.ntmps (w45h N) w45b := hk_of _ _ trivial
theorem w45q [Alg] (N : Nat) (s0 : (List ((List Int) × (Int × Int)))) : w45G N  s0 = exec (w45c N) Tryd.f45.ntmps (w45h N) w45b ⟨argT 0 [.e (.sl (.pr (.sl (.i .i64)) (.pr (.i .i64) (.i .i64)))) s0, .fn 46 []], [], 100⟩ (finX (w45c N) Tryd.f45 false) := by kernel_rfl
theorem w45does {N : Nat} (hc : CxOk (w45c N)) {s0 : (List ((List Int) × (Int × Int)))} {r : Res} (h : w45 N s0 = some r) : Does Tryd.prog 45 (([.e (.sl (.pr (.sl (.i .i64)) (.pr (.i .i64) (.i .i64)))) s0, .fn 46 []] : List X).map X.D) (HA []) r.1.D (HA r.2) :=
 fun_ok hc (f := 45) (fn := Tryd.f45) (code := w45b) (by kernel_rfl) (by kernel_rfl) (w45hk N) (Nat.le_of_ble_eq_true (by kernel_rfl)) (ow := false) ((w45q N s0).symm.trans (by exact h))
def w45un (r : Res) : Option (Bool) := match r with
 | (x0, []) => (match ue .bo x0 with | some a0 => some a0 | _ => none)
 | _ => none
theorem w45uo {r : Res} {d : Bool} (h : w45un r = some d) : r = w45r0 (d) := by
 unfold w45un at h
 split at h
 ·split at h
  ·rename_i h0; cases h; rw [ue_some h0]; rfl
  ·cases h
 ·cases h
def w45z (N : Nat) (s0 : (List ((List Int) × (Int × Int)))) : Option (Bool) := (w45 N s0).bind w45un
theorem w45fin {N : Nat} (hc : CxOk (w45c N)) {s0 : (List ((List Int) × (Int × Int)))} {d : Bool} (hd : w45z N s0 = some d) : Does Tryd.prog 45 (([.e (.sl (.pr (.sl (.i .i64)) (.pr (.i .i64) (.i .i64)))) s0, .fn 46 []] : List X).map X.D) (HA []) (w45r0 (d)).1.D (HA (w45r0 (d)).2) := by
 obtain ⟨r, hr, hu⟩ := Option.bind_eq_some_iff.1 hd
 have := w45does hc hr
 rw [w45uo hu] at this
 exact this
def w45p (N : Nat) (s0 : (List ((List Int) × (Int × Int)))) : Bool := (w45z N s0).isSome
def w45y0 (N : Nat) (s0 : (List ((List Int) × (Int × Int)))) : Bool := ((w45z N s0).getD false)
def w45e (N : Nat) : Ent' := Ef1 (.sl (.pr (.sl (.i .i64)) (.pr (.i .i64) (.i .i64)))) 46 (fun x0 => (w45p N x0, w45r0 (w45y0 N x0)))
theorem w45re {N : Nat} {s0 : (List ((List Int) × (Int × Int)))} {d : Bool} (hd : w45z N s0 = some d) : w45r0 (w45y0 N s0) = w45r0 (d) := by unfold w45y0; rw [hd]; rfl
theorem w45ok (N : Nat) : EOk Tryd.prog 45 (w45e N) := EOk.f1 (fun x0 h => by
 have h : (w45z N x0).isSome = true := h
 obtain ⟨d, hd⟩ := Option.isSome_iff_exists.1 h
 have f := w45fin (w45cx N) hd
 rw [← w45re hd] at f
 exact f)
def w29r0 (a0 : Int) : Res := (.e (.i .i64) a0, [])
noncomputable def w29L (N : Nat) : List (Nat × Ent') := [(45, w45e N), (46, w46e N)]
noncomputable def w29c (N : Nat) : Cx := ⟨Tryd.prog, 99999, w29L N⟩
noncomputable def w29b : Code := Tryd.f29.body.getD .skip
theorem w29cx (N : Nat) : CxOk (w29c N) := ctx_ok (by kernel_rfl) (.cons (by kernel_rfl) (w45ok N) (.cons (by kernel_rfl) (w46ok N) .nil))
def w29G [Alg] (N : Nat)  (l0 : (List ((List Int) × (Int × Int)))) : O :=
 br (decide ((32 : Int) < (↑l0.length : Int)))
  (some (w29r0 ((4 : Int))))
  (ck (w45p N l0) <|
  br (w45y0 N l0)
   (some (w29r0 ((1 : Int))))
   (some (w29r0 ((0 : Int)))))
def w29 [Alg] (N : Nat) (l0 : (List ((List Int) × (Int × Int)))) : O := w29G N  l0
noncomputable def w29h [Alg] (_ : Nat) : Hint := .d
theorem w29hk (N : Nat) : HintOk (w29c N) Tryd.f29.ntmps (w29h N) w29b := hk_of _ _ trivial
theorem w29q [Alg] (N : Nat) (l0 : (List ((List Int) × (Int × Int)))) : w29G N  l0 = exec (w29c N) Tryd.f29.ntmps (w29h N) w29b ⟨argT 0 [.e (.sl (.pr (.sl (.i .i64)) (.pr (.i .i64) (.i .i64)))) l0], [], 100⟩ (finX (w29c N) Tryd.f29 false) := by kernel_rfl
theorem w29does {N : Nat} (hc : CxOk (w29c N)) {l0 : (List ((List Int) × (Int × Int)))} {r : Res} (h : w29 N l0 = some r) : Does Tryd.prog 29 (([.e (.sl (.pr (.sl (.i .i64)) (.pr (.i .i64) (.i .i64)))) l0] : List X).map X.D) (HA []) r.1.D (HA r.2) :=
 fun_ok hc (f := 29) (fn := Tryd.f29) (code := w29b) (by kernel_rfl) (by kernel_rfl) (w29hk N) (Nat.le_of_ble_eq_true (by kernel_rfl)) (ow := false) ((w29q N l0).symm.trans (by exact h))
def w29un (r : Res) : Option (Int) := match r with
 | (x0, []) => (match ue (.i .i64) x0 with | some a0 => some a0 | _ => none)
 | _ => none
theorem w29uo {r : Res} {d : Int} (h : w29un r = some d) : r = w29r0 (d) := by
 unfold w29un at h
 split at h
 ·split at h
  ·rename_i h0; cases h; rw [ue_some h0]; rfl
  ·cases h
 ·cases h
def w29z (N : Nat) (l0 : (List ((List Int) × (Int × Int)))) : Option (Int) := (w29 N l0).bind w29un
theorem w29fin {N : Nat} (hc : CxOk (w29c N)) {l0 : (List ((List Int) × (Int × Int)))} {d : Int} (hd : w29z N l0 = some d) : Does Tryd.prog 29 (([.e (.sl (.pr (.sl (.i .i64)) (.pr (.i .i64) (.i .i64)))) l0] : List X).map X.D) (HA []) (w29r0 (d)).1.D (HA (w29r0 (d)).2) := by
 obtain ⟨r, hr, hu⟩ := Option.bind_eq_some_iff.1 hd
 have := w29does hc hr
 rw [w29uo hu] at this
 exact this
def w29p (N : Nat) (l0 : (List ((List Int) × (Int × Int)))) : Bool := (w29z N l0).isSome
def w29y0 (N : Nat) (l0 : (List ((List Int) × (Int × Int)))) : Int := ((w29z N l0).getD 0)
def w29e (N : Nat) : Ent' := E1 (.sl (.pr (.sl (.i .i64)) (.pr (.i .i64) (.i .i64))))  (fun x0 => (w29p N x0, w29r0 (w29y0 N x0)))
theorem w29re {N : Nat} {l0 : (List ((List Int) × (Int × Int)))} {d : Int} (hd : w29z N l0 = some d) : w29r0 (w29y0 N l0) = w29r0 (d) := by unfold w29y0; rw [hd]; rfl
theorem w29ok (N : Nat) : EOk Tryd.prog 29 (w29e N) := EOk.e1 (fun x0 h => by
 have h : (w29z N x0).isSome = true := h
 obtain ⟨d, hd⟩ := Option.isSome_iff_exists.1 h
 have f := w29fin (w29cx N) hd
 rw [← w29re hd] at f
 exact f)
def w11r0 (a0 : Int) (a1 : Int) (a2 : (List Bool)) (a3 : Bool) (a4 : Int) : Res := (.tup [.agg [.e (.i .i64) a0, .e (.i .i64) a1], .e (.sl .bo) a2, .e .bo a3, .e (.i .i64) a4], [])
noncomputable def w11L (N : Nat) : List (Nat × Ent') := [(29, w29e N), (30, w30e N)]
noncomputable def w11c (N : Nat) : Cx := ⟨Tryd.prog, 99999, w11L N⟩
noncomputable def w11b : Code := Tryd.f11.body.getD .skip
theorem w11cx (N : Nat) : CxOk (w11c N) := ctx_ok (by kernel_rfl) (.cons (by kernel_rfl) (w29ok N) (.cons (by kernel_rfl) (w30ok N) .nil))
def w11F0 [Alg] (N : Nat)  (self : Int → O) (k0 : (List Bool) → Bool → Int → Int → Int → O) (k1 : (List ((List Int) × (Int × Int))) → Bool → Int → (List ((List Int) × (Int × Int))) → Int → Int → Bool → Int → ((List Int) × (Int × Int)) → (List Int) → Int → Int → Int → Int → Int → Int → Int → (List ((List Int) × (Int × Int))) → Int → Bool → Int → Int → (List Int) → Int → Int → O) (x72_0 : (List ((List Int) × (Int × Int)))) (x72_1 : Bool) (x72_2 : Int) (x72_3 : (List ((List Int) × (Int × Int)))) (x72_4 : Int) (x72_5 : Int) (x72_6 : Bool) (x72_7 : Int) (x72_8 : ((List Int) × (Int × Int))) (x72_9 : (List Int)) (x72_10 : Int) (x72_11 : Int) (x72_12 : Int) (x72_13 : Int) (x72_14 : Int) (x72_16 : Int) (x72_17 : Int) (x72_18 : (List Int)) (x72_19 : Int) (x72_20 : Int) (x72_15 : Int) : O :=
 br (decide (x72_15 < (↑x72_0.length : Int)))
  (gx x72_0 x72_15 fun y75 =>
  br (decide (x72_19 ≠ y75.2.1) || decide (max x72_20 y75.2.2 < (0 : Int)) || decide ((0 : Int) ≤ min x72_20 y75.2.2) || decide (max x72_20 y75.2.2 ≤ IntKind.i64.wrap ((-1 : Int) - min x72_20 y75.2.2)))
   (self (IntKind.i64.wrap (x72_15 + (1 : Int))))
   (ck (w30p N x72_18 x72_19 x72_20 y75.1 y75.2.1 y75.2.2) <|
   br (w30y1 N x72_18 x72_19 x72_20 y75.1 y75.2.1 y75.2.2)
    (k0 (w30y0 N x72_18 x72_19 x72_20 y75.1 y75.2.1 y75.2.2) true ((0 : Int)) x72_12 x72_15)
    (self (IntKind.i64.wrap (x72_15 + (1 : Int))))))
  (k1 x72_0 x72_1 x72_2 x72_3 x72_4 x72_5 x72_6 x72_7 x72_8 x72_9 x72_10 x72_11 x72_12 x72_13 x72_14 x72_15 x72_15 x72_0 ((↑x72_0.length : Int)) (decide (x72_15 < (↑x72_0.length : Int))) x72_16 x72_17 x72_18 x72_19 x72_20)
noncomputable def w11b0 : Code := atC [1, 1, 0, 1, 0, 0, 1, 1, 0, 0, 1, 1, 0, 0] w11b
def w11m0 : Nm := ⟨[0, 2, 3, 4, 5, 21, 22, 23, 24, 25, 26, 27, 8, 7, 28, 29, 9], [], []⟩
def w11I0 (x : (List ((List Int) × (Int × Int))) × Bool × Int × (List ((List Int) × (Int × Int))) × Int × Int × Bool × Int × ((List Int) × (Int × Int)) × (List Int) × Int × Int × Int × Int × Int × Int × Int × Int × (List Int) × Int × Int) : Sg := ⟨[(0, .e (.sl (.pr (.sl (.i .i64)) (.pr (.i .i64) (.i .i64)))) x.1), (2, .ref 0 0), (3, .nilS), (4, .e .bo x.2.1), (5, .e (.i .i64) x.2.2.1), (21, .e (.sl (.pr (.sl (.i .i64)) (.pr (.i .i64) (.i .i64)))) x.2.2.2.1), (22, .e (.i .i64) x.2.2.2.2.1), (23, .e (.i .i64) x.2.2.2.2.2.1), (24, .e .bo x.2.2.2.2.2.2.1), (25, .e (.i .i64) x.2.2.2.2.2.2.2.1), (26, .pt (.pr (.sl (.i .i64)) (.pr (.i .i64) (.i .i64))) x.2.2.2.2.2.2.2.2.1 0), (27, .agg [.e (.sl (.i .i64)) x.2.2.2.2.2.2.2.2.2.1, .e (.i .i64) x.2.2.2.2.2.2.2.2.2.2.1, .e (.i .i64) x.2.2.2.2.2.2.2.2.2.2.2.1]), (8, .ref 1 0), (7, .e (.i .i64) x.2.2.2.2.2.2.2.2.2.2.2.2.1), (28, .e (.i .i64) x.2.2.2.2.2.2.2.2.2.2.2.2.2.1), (29, .e (.i .i64) x.2.2.2.2.2.2.2.2.2.2.2.2.2.2.1), (9, .e (.i .i64) x.2.2.2.2.2.2.2.2.2.2.2.2.2.2.2.1)], [(0, .box 27 [.e (.i .i64) x.2.2.2.2.2.2.2.2.2.2.2.2.2.2.2.2.1, .e (.i .i64) x.2.2.2.2.2.2.2.2.2.2.2.2.2.2.2.2.2.1]), (1, .box 51 [.e (.sl (.i .i64)) x.2.2.2.2.2.2.2.2.2.2.2.2.2.2.2.2.2.2.1, .e (.i .i64) x.2.2.2.2.2.2.2.2.2.2.2.2.2.2.2.2.2.2.2.1, .e (.i .i64) x.2.2.2.2.2.2.2.2.2.2.2.2.2.2.2.2.2.2.2.2])], 100⟩
def w11u0 (σ : Sg) : (List ((List Int) × (Int × Int))) × Bool × Int × (List ((List Int) × (Int × Int))) × Int × Int × Bool × Int × ((List Int) × (Int × Int)) × (List Int) × Int × Int × Int × Int × Int × Int × Int × Int × (List Int) × Int × Int := (lvT (.sl (.pr (.sl (.i .i64)) (.pr (.i .i64) (.i .i64)))) 0 0 σ, lvT .bo 4 0 σ, lvT (.i .i64) 5 0 σ, lvT (.sl (.pr (.sl (.i .i64)) (.pr (.i .i64) (.i .i64)))) 21 0 σ, lvT (.i .i64) 22 0 σ, lvT (.i .i64) 23 0 σ, lvT .bo 24 0 σ, lvT (.i .i64) 25 0 σ, lvT (.pr (.sl (.i .i64)) (.pr (.i .i64) (.i .i64))) 26 0 σ, lvT (.sl (.i .i64)) 27 0 σ, lvT (.i .i64) 27 1 σ, lvT (.i .i64) 27 2 σ, lvT (.i .i64) 7 0 σ, lvT (.i .i64) 28 0 σ, lvT (.i .i64) 29 0 σ, lvT (.i .i64) 9 0 σ, lvH (.i .i64) 0 0 σ, lvH (.i .i64) 0 1 σ, lvH (.sl (.i .i64)) 1 0 σ, lvH (.i .i64) 1 1 σ, lvH (.i .i64) 1 2 σ)
theorem w11ui0 : ∀ x, w11u0 (w11I0 x) = x := fun _ => by kernel_rfl
def w11X0_0 (y : (List Bool) × Bool × Int × Int × Int) : Exit × Sg := (.ret, ⟨[(2, .ref 0 0), (3, .e (.sl .bo) y.1), (4, .e .bo y.2.1), (5, .e (.i .i64) y.2.2.1)], [(0, .box 27 [.e (.i .i64) y.2.2.2.1, .e (.i .i64) y.2.2.2.2])], 100⟩)
def w11v0_0 (σ : Sg) : (List Bool) × Bool × Int × Int × Int := (lvT (.sl .bo) 3 0 σ, lvT .bo 4 0 σ, lvT (.i .i64) 5 0 σ, lvH (.i .i64) 0 0 σ, lvH (.i .i64) 0 1 σ)
def w11X0_1 (y : (List ((List Int) × (Int × Int))) × Bool × Int × (List ((List Int) × (Int × Int))) × Int × Int × Bool × Int × ((List Int) × (Int × Int)) × (List Int) × Int × Int × Int × Int × Int × Int × Int × (List ((List Int) × (Int × Int))) × Int × Bool × Int × Int × (List Int) × Int × Int) : Exit × Sg := ((.exit 2), ⟨[(0, .e (.sl (.pr (.sl (.i .i64)) (.pr (.i .i64) (.i .i64)))) y.1), (2, .ref 0 0), (3, .nilS), (4, .e .bo y.2.1), (5, .e (.i .i64) y.2.2.1), (21, .e (.sl (.pr (.sl (.i .i64)) (.pr (.i .i64) (.i .i64)))) y.2.2.2.1), (22, .e (.i .i64) y.2.2.2.2.1), (23, .e (.i .i64) y.2.2.2.2.2.1), (24, .e .bo y.2.2.2.2.2.2.1), (25, .e (.i .i64) y.2.2.2.2.2.2.2.1), (26, .pt (.pr (.sl (.i .i64)) (.pr (.i .i64) (.i .i64))) y.2.2.2.2.2.2.2.2.1 0), (27, .agg [.e (.sl (.i .i64)) y.2.2.2.2.2.2.2.2.2.1, .e (.i .i64) y.2.2.2.2.2.2.2.2.2.2.1, .e (.i .i64) y.2.2.2.2.2.2.2.2.2.2.2.1]), (8, .ref 1 0), (7, .e (.i .i64) y.2.2.2.2.2.2.2.2.2.2.2.2.1), (28, .e (.i .i64) y.2.2.2.2.2.2.2.2.2.2.2.2.2.1), (29, .e (.i .i64) y.2.2.2.2.2.2.2.2.2.2.2.2.2.2.1), (9, .e (.i .i64) y.2.2.2.2.2.2.2.2.2.2.2.2.2.2.2.1), (30, .e (.i .i64) y.2.2.2.2.2.2.2.2.2.2.2.2.2.2.2.2.1), (31, .e (.sl (.pr (.sl (.i .i64)) (.pr (.i .i64) (.i .i64)))) y.2.2.2.2.2.2.2.2.2.2.2.2.2.2.2.2.2.1), (32, .e (.i .i64) y.2.2.2.2.2.2.2.2.2.2.2.2.2.2.2.2.2.2.1), (33, .e .bo y.2.2.2.2.2.2.2.2.2.2.2.2.2.2.2.2.2.2.2.1)], [(0, .box 27 [.e (.i .i64) y.2.2.2.2.2.2.2.2.2.2.2.2.2.2.2.2.2.2.2.2.1, .e (.i .i64) y.2.2.2.2.2.2.2.2.2.2.2.2.2.2.2.2.2.2.2.2.2.1]), (1, .box 51 [.e (.sl (.i .i64)) y.2.2.2.2.2.2.2.2.2.2.2.2.2.2.2.2.2.2.2.2.2.2.1, .e (.i .i64) y.2.2.2.2.2.2.2.2.2.2.2.2.2.2.2.2.2.2.2.2.2.2.2.1, .e (.i .i64) y.2.2.2.2.2.2.2.2.2.2.2.2.2.2.2.2.2.2.2.2.2.2.2.2])], 100⟩)
def w11v0_1 (σ : Sg) : (List ((List Int) × (Int × Int))) × Bool × Int × (List ((List Int) × (Int × Int))) × Int × Int × Bool × Int × ((List Int) × (Int × Int)) × (List Int) × Int × Int × Int × Int × Int × Int × Int × (List ((List Int) × (Int × Int))) × Int × Bool × Int × Int × (List Int) × Int × Int := (lvT (.sl (.pr (.sl (.i .i64)) (.pr (.i .i64) (.i .i64)))) 0 0 σ, lvT .bo 4 0 σ, lvT (.i .i64) 5 0 σ, lvT (.sl (.pr (.sl (.i .i64)) (.pr (.i .i64) (.i .i64)))) 21 0 σ, lvT (.i .i64) 22 0 σ, lvT (.i .i64) 23 0 σ, lvT .bo 24 0 σ, lvT (.i .i64) 25 0 σ, lvT (.pr (.sl (.i .i64)) (.pr (.i .i64) (.i .i64))) 26 0 σ, lvT (.sl (.i .i64)) 27 0 σ, lvT (.i .i64) 27 1 σ, lvT (.i .i64) 27 2 σ, lvT (.i .i64) 7 0 σ, lvT (.i .i64) 28 0 σ, lvT (.i .i64) 29 0 σ, lvT (.i .i64) 9 0 σ, lvT (.i .i64) 30 0 σ, lvT (.sl (.pr (.sl (.i .i64)) (.pr (.i .i64) (.i .i64)))) 31 0 σ, lvT (.i .i64) 32 0 σ, lvT .bo 33 0 σ, lvH (.i .i64) 0 0 σ, lvH (.i .i64) 0 1 σ, lvH (.sl (.i .i64)) 1 0 σ, lvH (.i .i64) 1 1 σ, lvH (.i .i64) 1 2 σ)
def w11w0 : List (Exit × Nm) := [(.ret, ⟨[2, 3, 4, 5], [], []⟩), ((.exit 2), ⟨[0, 2, 3, 4, 5, 21, 22, 23, 24, 25, 26, 27, 8, 7, 28, 29, 9, 30, 31, 32, 33], [], []⟩)]
theorem w11o0 : Outs w11v0_0 w11v0_1 (fun _ => ()) w11X0_0 w11X0_1 (noX 2) .ret (.exit 2) (.goto 2) := ⟨fun _ => by kernel_rfl, fun _ => by kernel_rfl, fun _ => by kernel_rfl, fun _ => by kernel_rfl, fun _ => by kernel_rfl, fun _ => by kernel_rfl, exNe_ok (by kernel_rfl), exNe_ok (by kernel_rfl), exNe_ok (by kernel_rfl)⟩
def w11l0 [Alg] (N : Nat) : Nat → ((List ((List Int) × (Int × Int))) × Bool × Int × (List ((List Int) × (Int × Int))) × Int × Int × Bool × Int × ((List Int) × (Int × Int)) × (List Int) × Int × Int × Int × Int × Int × Int × Int × Int × (List Int) × Int × Int) → (((List Bool) × Bool × Int × Int × Int) → O) → (((List ((List Int) × (Int × Int))) × Bool × Int × (List ((List Int) × (Int × Int))) × Int × Int × Bool × Int × ((List Int) × (Int × Int)) × (List Int) × Int × Int × Int × Int × Int × Int × Int × (List ((List Int) × (Int × Int))) × Int × Bool × Int × Int × (List Int) × Int × Int) → O) → ((Unit) → O) → O
 | 0, _, _, _, _ => none
 | n + 1, x, k0, k1, k2 => w11F0 N  (fun v0 => w11l0 N n (x.1, x.2.1, x.2.2.1, x.2.2.2.1, x.2.2.2.2.1, x.2.2.2.2.2.1, x.2.2.2.2.2.2.1, x.2.2.2.2.2.2.2.1, x.2.2.2.2.2.2.2.2.1, x.2.2.2.2.2.2.2.2.2.1, x.2.2.2.2.2.2.2.2.2.2.1, x.2.2.2.2.2.2.2.2.2.2.2.1, x.2.2.2.2.2.2.2.2.2.2.2.2.1, x.2.2.2.2.2.2.2.2.2.2.2.2.2.1, x.2.2.2.2.2.2.2.2.2.2.2.2.2.2.1, v0, x.2.2.2.2.2.2.2.2.2.2.2.2.2.2.2.2.1, x.2.2.2.2.2.2.2.2.2.2.2.2.2.2.2.2.2.1, x.2.2.2.2.2.2.2.2.2.2.2.2.2.2.2.2.2.2.1, x.2.2.2.2.2.2.2.2.2.2.2.2.2.2.2.2.2.2.2.1, x.2.2.2.2.2.2.2.2.2.2.2.2.2.2.2.2.2.2.2.2) k0 k1 k2) (fun y0 y1 y2 y3 y4 => k0 (y0, y1, y2, y3, y4)) (fun y0 y1 y2 y3 y4 y5 y6 y7 y8 y9 y10 y11 y12 y13 y14 y15 y16 y17 y18 y19 y20 y21 y22 y23 y24 => k1 (y0, y1, y2, y3, y4, y5, y6, y7, y8, y9, y10, y11, y12, y13, y14, y15, y16, y17, y18, y19, y20, y21, y22, y23, y24)) x.1 x.2.1 x.2.2.1 x.2.2.2.1 x.2.2.2.2.1 x.2.2.2.2.2.1 x.2.2.2.2.2.2.1 x.2.2.2.2.2.2.2.1 x.2.2.2.2.2.2.2.2.1 x.2.2.2.2.2.2.2.2.2.1 x.2.2.2.2.2.2.2.2.2.2.1 x.2.2.2.2.2.2.2.2.2.2.2.1 x.2.2.2.2.2.2.2.2.2.2.2.2.1 x.2.2.2.2.2.2.2.2.2.2.2.2.2.1 x.2.2.2.2.2.2.2.2.2.2.2.2.2.2.1 x.2.2.2.2.2.2.2.2.2.2.2.2.2.2.2.2.1 x.2.2.2.2.2.2.2.2.2.2.2.2.2.2.2.2.2.1 x.2.2.2.2.2.2.2.2.2.2.2.2.2.2.2.2.2.2.1 x.2.2.2.2.2.2.2.2.2.2.2.2.2.2.2.2.2.2.2.1 x.2.2.2.2.2.2.2.2.2.2.2.2.2.2.2.2.2.2.2.2 x.2.2.2.2.2.2.2.2.2.2.2.2.2.2.2.1
def w11n0 [Alg] (N : Nat) (a0 : (List ((List Int) × (Int × Int)))) (a1 : Bool) (a2 : Int) (a3 : (List ((List Int) × (Int × Int)))) (a4 : Int) (a5 : Int) (a6 : Bool) (a7 : Int) (a8 : ((List Int) × (Int × Int))) (a9 : (List Int)) (a10 : Int) (a11 : Int) (a12 : Int) (a13 : Int) (a14 : Int) (a15 : Int) (a16 : Int) (a17 : Int) (a18 : (List Int)) (a19 : Int) (a20 : Int) (k0 : (List Bool) → Bool → Int → Int → Int → O) (k1 : (List ((List Int) × (Int × Int))) → Bool → Int → (List ((List Int) × (Int × Int))) → Int → Int → Bool → Int → ((List Int) × (Int × Int)) → (List Int) → Int → Int → Int → Int → Int → Int → Int → (List ((List Int) × (Int × Int))) → Int → Bool → Int → Int → (List Int) → Int → Int → O) : O := w11l0 N N (a0, a1, a2, a3, a4, a5, a6, a7, a8, a9, a10, a11, a12, a13, a14, a15, a16, a17, a18, a19, a20) (fun y => k0 y.1 y.2.1 y.2.2.1 y.2.2.2.1 y.2.2.2.2) (fun y => k1 y.1 y.2.1 y.2.2.1 y.2.2.2.1 y.2.2.2.2.1 y.2.2.2.2.2.1 y.2.2.2.2.2.2.1 y.2.2.2.2.2.2.2.1 y.2.2.2.2.2.2.2.2.1 y.2.2.2.2.2.2.2.2.2.1 y.2.2.2.2.2.2.2.2.2.2.1 y.2.2.2.2.2.2.2.2.2.2.2.1 y.2.2.2.2.2.2.2.2.2.2.2.2.1 y.2.2.2.2.2.2.2.2.2.2.2.2.2.1 y.2.2.2.2.2.2.2.2.2.2.2.2.2.2.1 y.2.2.2.2.2.2.2.2.2.2.2.2.2.2.2.1 y.2.2.2.2.2.2.2.2.2.2.2.2.2.2.2.2.1 y.2.2.2.2.2.2.2.2.2.2.2.2.2.2.2.2.2.1 y.2.2.2.2.2.2.2.2.2.2.2.2.2.2.2.2.2.2.1 y.2.2.2.2.2.2.2.2.2.2.2.2.2.2.2.2.2.2.2.1 y.2.2.2.2.2.2.2.2.2.2.2.2.2.2.2.2.2.2.2.2.1 y.2.2.2.2.2.2.2.2.2.2.2.2.2.2.2.2.2.2.2.2.2.1 y.2.2.2.2.2.2.2.2.2.2.2.2.2.2.2.2.2.2.2.2.2.2.1 y.2.2.2.2.2.2.2.2.2.2.2.2.2.2.2.2.2.2.2.2.2.2.2.1 y.2.2.2.2.2.2.2.2.2.2.2.2.2.2.2.2.2.2.2.2.2.2.2.2) (fun _ => none)
noncomputable def w11s0 [Alg] (N : Nat) (a0 : (List ((List Int) × (Int × Int)))) (a1 : Bool) (a2 : Int) (a3 : (List ((List Int) × (Int × Int)))) (a4 : Int) (a5 : Int) (a6 : Bool) (a7 : Int) (a8 : ((List Int) × (Int × Int))) (a9 : (List Int)) (a10 : Int) (a11 : Int) (a12 : Int) (a13 : Int) (a14 : Int) (a15 : Int) (a16 : Int) (a17 : Int) (a18 : (List Int)) (a19 : Int) (a20 : Int) (k0 : (List Bool) → Bool → Int → Int → Int → O) (k1 : (List ((List Int) × (Int × Int))) → Bool → Int → (List ((List Int) × (Int × Int))) → Int → Int → Bool → Int → ((List Int) × (Int × Int)) → (List Int) → Int → Int → Int → Int → Int → Int → Int → (List ((List Int) × (Int × Int))) → Int → Bool → Int → Int → (List Int) → Int → Int → O) : O := subL w11I0 w11u0 (w11l0 N N) (w11I0 (a0, a1, a2, a3, a4, a5, a6, a7, a8, a9, a10, a11, a12, a13, a14, a15, a16, a17, a18, a19, a20)) (fun y => k0 y.1 y.2.1 y.2.2.1 y.2.2.2.1 y.2.2.2.2) (fun y => k1 y.1 y.2.1 y.2.2.1 y.2.2.2.1 y.2.2.2.2.1 y.2.2.2.2.2.1 y.2.2.2.2.2.2.1 y.2.2.2.2.2.2.2.1 y.2.2.2.2.2.2.2.2.1 y.2.2.2.2.2.2.2.2.2.1 y.2.2.2.2.2.2.2.2.2.2.1 y.2.2.2.2.2.2.2.2.2.2.2.1 y.2.2.2.2.2.2.2.2.2.2.2.2.1 y.2.2.2.2.2.2.2.2.2.2.2.2.2.1 y.2.2.2.2.2.2.2.2.2.2.2.2.2.2.1 y.2.2.2.2.2.2.2.2.2.2.2.2.2.2.2.1 y.2.2.2.2.2.2.2.2.2.2.2.2.2.2.2.2.1 y.2.2.2.2.2.2.2.2.2.2.2.2.2.2.2.2.2.1 y.2.2.2.2.2.2.2.2.2.2.2.2.2.2.2.2.2.2.1 y.2.2.2.2.2.2.2.2.2.2.2.2.2.2.2.2.2.2.2.1 y.2.2.2.2.2.2.2.2.2.2.2.2.2.2.2.2.2.2.2.2.1 y.2.2.2.2.2.2.2.2.2.2.2.2.2.2.2.2.2.2.2.2.2.1 y.2.2.2.2.2.2.2.2.2.2.2.2.2.2.2.2.2.2.2.2.2.2.1 y.2.2.2.2.2.2.2.2.2.2.2.2.2.2.2.2.2.2.2.2.2.2.2.1 y.2.2.2.2.2.2.2.2.2.2.2.2.2.2.2.2.2.2.2.2.2.2.2.2) (fun _ => none)
theorem w11e0 [Alg] (N : Nat) : w11s0 N = w11n0 N := funext fun _ => funext fun _ => funext fun _ => funext fun _ => funext fun _ => funext fun _ => funext fun _ => funext fun _ => funext fun _ => funext fun _ => funext fun _ => funext fun _ => funext fun _ => funext fun _ => funext fun _ => funext fun _ => funext fun _ => funext fun _ => funext fun _ => funext fun _ => funext fun _ => funext fun _ => funext fun _ => subL_I w11ui0 _ _ _ _
noncomputable def w11h0 [Alg] (_ : Nat) : Hint := .d
theorem w11hk0 (N : Nat) : HintOk (w11c N) Tryd.f11.ntmps (w11h0 N) w11b0 := hk_of _ _ trivial
theorem w11q0 [Alg] (N : Nat) (self : Sg → O) (K : Exit → Sg → O) (x : (List ((List Int) × (Int × Int))) × Bool × Int × (List ((List Int) × (Int × Int))) × Int × Int × Bool × Int × ((List Int) × (Int × Int)) × (List Int) × Int × Int × Int × Int × Int × Int × Int × Int × (List Int) × Int × Int) : w11F0 N  (fun v0 => self (w11I0 (x.1, x.2.1, x.2.2.1, x.2.2.2.1, x.2.2.2.2.1, x.2.2.2.2.2.1, x.2.2.2.2.2.2.1, x.2.2.2.2.2.2.2.1, x.2.2.2.2.2.2.2.2.1, x.2.2.2.2.2.2.2.2.2.1, x.2.2.2.2.2.2.2.2.2.2.1, x.2.2.2.2.2.2.2.2.2.2.2.1, x.2.2.2.2.2.2.2.2.2.2.2.2.1, x.2.2.2.2.2.2.2.2.2.2.2.2.2.1, x.2.2.2.2.2.2.2.2.2.2.2.2.2.2.1, v0, x.2.2.2.2.2.2.2.2.2.2.2.2.2.2.2.2.1, x.2.2.2.2.2.2.2.2.2.2.2.2.2.2.2.2.2.1, x.2.2.2.2.2.2.2.2.2.2.2.2.2.2.2.2.2.2.1, x.2.2.2.2.2.2.2.2.2.2.2.2.2.2.2.2.2.2.2.1, x.2.2.2.2.2.2.2.2.2.2.2.2.2.2.2.2.2.2.2.2))) (fun y0 y1 y2 y3 y4 => K (w11X0_0 (y0, y1, y2, y3, y4)).1 (w11X0_0 (y0, y1, y2, y3, y4)).2) (fun y0 y1 y2 y3 y4 y5 y6 y7 y8 y9 y10 y11 y12 y13 y14 y15 y16 y17 y18 y19 y20 y21 y22 y23 y24 => K (w11X0_1 (y0, y1, y2, y3, y4, y5, y6, y7, y8, y9, y10, y11, y12, y13, y14, y15, y16, y17, y18, y19, y20, y21, y22, y23, y24)).1 (w11X0_1 (y0, y1, y2, y3, y4, y5, y6, y7, y8, y9, y10, y11, y12, y13, y14, y15, y16, y17, y18, y19, y20, y21, y22, y23, y24)).2) x.1 x.2.1 x.2.2.1 x.2.2.2.1 x.2.2.2.2.1 x.2.2.2.2.2.1 x.2.2.2.2.2.2.1 x.2.2.2.2.2.2.2.1 x.2.2.2.2.2.2.2.2.1 x.2.2.2.2.2.2.2.2.2.1 x.2.2.2.2.2.2.2.2.2.2.1 x.2.2.2.2.2.2.2.2.2.2.2.1 x.2.2.2.2.2.2.2.2.2.2.2.2.1 x.2.2.2.2.2.2.2.2.2.2.2.2.2.1 x.2.2.2.2.2.2.2.2.2.2.2.2.2.2.1 x.2.2.2.2.2.2.2.2.2.2.2.2.2.2.2.2.1 x.2.2.2.2.2.2.2.2.2.2.2.2.2.2.2.2.2.1 x.2.2.2.2.2.2.2.2.2.2.2.2.2.2.2.2.2.2.1 x.2.2.2.2.2.2.2.2.2.2.2.2.2.2.2.2.2.2.2.1 x.2.2.2.2.2.2.2.2.2.2.2.2.2.2.2.2.2.2.2.2 x.2.2.2.2.2.2.2.2.2.2.2.2.2.2.2.1 = exec (w11c N) Tryd.f11.ntmps (w11h0 N) w11b0 (w11I0 x) (roundX w11m0 w11w0 self K) := by kernel_rfl
theorem w11S0 (N : Nat) (hc : CxOk (w11c N)) : SubOk (w11c N) Tryd.f11.ntmps (.loop w11b0) w11X0_0 w11X0_1 (noX 2) (subL w11I0 w11u0 (w11l0 N N)) :=
 sub_loop hc (w11hk0 N) w11o0 (n := N) (fun x K => loop_ind (w11l0 N) (fun _ _ _ _ => rfl) (fun n K ih x => by
  have h : w11F0 N  (fun v0 => w11l0 N n (x.1, x.2.1, x.2.2.1, x.2.2.2.1, x.2.2.2.2.1, x.2.2.2.2.2.1, x.2.2.2.2.2.2.1, x.2.2.2.2.2.2.2.1, x.2.2.2.2.2.2.2.2.1, x.2.2.2.2.2.2.2.2.2.1, x.2.2.2.2.2.2.2.2.2.2.1, x.2.2.2.2.2.2.2.2.2.2.2.1, x.2.2.2.2.2.2.2.2.2.2.2.2.1, x.2.2.2.2.2.2.2.2.2.2.2.2.2.1, x.2.2.2.2.2.2.2.2.2.2.2.2.2.2.1, v0, x.2.2.2.2.2.2.2.2.2.2.2.2.2.2.2.2.1, x.2.2.2.2.2.2.2.2.2.2.2.2.2.2.2.2.2.1, x.2.2.2.2.2.2.2.2.2.2.2.2.2.2.2.2.2.2.1, x.2.2.2.2.2.2.2.2.2.2.2.2.2.2.2.2.2.2.2.1, x.2.2.2.2.2.2.2.2.2.2.2.2.2.2.2.2.2.2.2.2) (fun y => K (w11X0_0 y).1 (w11X0_0 y).2) (fun y => K (w11X0_1 y).1 (w11X0_1 y).2) (fun y => K ((noX 2) y).1 ((noX 2) y).2)) (fun y0 y1 y2 y3 y4 => K (w11X0_0 (y0, y1, y2, y3, y4)).1 (w11X0_0 (y0, y1, y2, y3, y4)).2) (fun y0 y1 y2 y3 y4 y5 y6 y7 y8 y9 y10 y11 y12 y13 y14 y15 y16 y17 y18 y19 y20 y21 y22 y23 y24 => K (w11X0_1 (y0, y1, y2, y3, y4, y5, y6, y7, y8, y9, y10, y11, y12, y13, y14, y15, y16, y17, y18, y19, y20, y21, y22, y23, y24)).1 (w11X0_1 (y0, y1, y2, y3, y4, y5, y6, y7, y8, y9, y10, y11, y12, y13, y14, y15, y16, y17, y18, y19, y20, y21, y22, y23, y24)).2) x.1 x.2.1 x.2.2.1 x.2.2.2.1 x.2.2.2.2.1 x.2.2.2.2.2.1 x.2.2.2.2.2.2.1 x.2.2.2.2.2.2.2.1 x.2.2.2.2.2.2.2.2.1 x.2.2.2.2.2.2.2.2.2.1 x.2.2.2.2.2.2.2.2.2.2.1 x.2.2.2.2.2.2.2.2.2.2.2.1 x.2.2.2.2.2.2.2.2.2.2.2.2.1 x.2.2.2.2.2.2.2.2.2.2.2.2.2.1 x.2.2.2.2.2.2.2.2.2.2.2.2.2.2.1 x.2.2.2.2.2.2.2.2.2.2.2.2.2.2.2.2.1 x.2.2.2.2.2.2.2.2.2.2.2.2.2.2.2.2.2.1 x.2.2.2.2.2.2.2.2.2.2.2.2.2.2.2.2.2.2.1 x.2.2.2.2.2.2.2.2.2.2.2.2.2.2.2.2.2.2.2.1 x.2.2.2.2.2.2.2.2.2.2.2.2.2.2.2.2.2.2.2.2 x.2.2.2.2.2.2.2.2.2.2.2.2.2.2.2.1 = w11F0 N  (fun v0 => loopX (w11c N) Tryd.f11.ntmps (w11h0 N) w11b0 w11m0 w11w0 n (w11I0 (x.1, x.2.1, x.2.2.1, x.2.2.2.1, x.2.2.2.2.1, x.2.2.2.2.2.1, x.2.2.2.2.2.2.1, x.2.2.2.2.2.2.2.1, x.2.2.2.2.2.2.2.2.1, x.2.2.2.2.2.2.2.2.2.1, x.2.2.2.2.2.2.2.2.2.2.1, x.2.2.2.2.2.2.2.2.2.2.2.1, x.2.2.2.2.2.2.2.2.2.2.2.2.1, x.2.2.2.2.2.2.2.2.2.2.2.2.2.1, x.2.2.2.2.2.2.2.2.2.2.2.2.2.2.1, v0, x.2.2.2.2.2.2.2.2.2.2.2.2.2.2.2.2.1, x.2.2.2.2.2.2.2.2.2.2.2.2.2.2.2.2.2.1, x.2.2.2.2.2.2.2.2.2.2.2.2.2.2.2.2.2.2.1, x.2.2.2.2.2.2.2.2.2.2.2.2.2.2.2.2.2.2.2.1, x.2.2.2.2.2.2.2.2.2.2.2.2.2.2.2.2.2.2.2.2)) K) (fun y0 y1 y2 y3 y4 => K (w11X0_0 (y0, y1, y2, y3, y4)).1 (w11X0_0 (y0, y1, y2, y3, y4)).2) (fun y0 y1 y2 y3 y4 y5 y6 y7 y8 y9 y10 y11 y12 y13 y14 y15 y16 y17 y18 y19 y20 y21 y22 y23 y24 => K (w11X0_1 (y0, y1, y2, y3, y4, y5, y6, y7, y8, y9, y10, y11, y12, y13, y14, y15, y16, y17, y18, y19, y20, y21, y22, y23, y24)).1 (w11X0_1 (y0, y1, y2, y3, y4, y5, y6, y7, y8, y9, y10, y11, y12, y13, y14, y15, y16, y17, y18, y19, y20, y21, y22, y23, y24)).2) x.1 x.2.1 x.2.2.1 x.2.2.2.1 x.2.2.2.2.1 x.2.2.2.2.2.1 x.2.2.2.2.2.2.1 x.2.2.2.2.2.2.2.1 x.2.2.2.2.2.2.2.2.1 x.2.2.2.2.2.2.2.2.2.1 x.2.2.2.2.2.2.2.2.2.2.1 x.2.2.2.2.2.2.2.2.2.2.2.1 x.2.2.2.2.2.2.2.2.2.2.2.2.1 x.2.2.2.2.2.2.2.2.2.2.2.2.2.1 x.2.2.2.2.2.2.2.2.2.2.2.2.2.2.1 x.2.2.2.2.2.2.2.2.2.2.2.2.2.2.2.2.1 x.2.2.2.2.2.2.2.2.2.2.2.2.2.2.2.2.2.1 x.2.2.2.2.2.2.2.2.2.2.2.2.2.2.2.2.2.2.1 x.2.2.2.2.2.2.2.2.2.2.2.2.2.2.2.2.2.2.2.1 x.2.2.2.2.2.2.2.2.2.2.2.2.2.2.2.2.2.2.2.2 x.2.2.2.2.2.2.2.2.2.2.2.2.2.2.2.1 := by rw [ show (fun v0 => w11l0 N n (x.1, x.2.1, x.2.2.1, x.2.2.2.1, x.2.2.2.2.1, x.2.2.2.2.2.1, x.2.2.2.2.2.2.1, x.2.2.2.2.2.2.2.1, x.2.2.2.2.2.2.2.2.1, x.2.2.2.2.2.2.2.2.2.1, x.2.2.2.2.2.2.2.2.2.2.1, x.2.2.2.2.2.2.2.2.2.2.2.1, x.2.2.2.2.2.2.2.2.2.2.2.2.1, x.2.2.2.2.2.2.2.2.2.2.2.2.2.1, x.2.2.2.2.2.2.2.2.2.2.2.2.2.2.1, v0, x.2.2.2.2.2.2.2.2.2.2.2.2.2.2.2.2.1, x.2.2.2.2.2.2.2.2.2.2.2.2.2.2.2.2.2.1, x.2.2.2.2.2.2.2.2.2.2.2.2.2.2.2.2.2.2.1, x.2.2.2.2.2.2.2.2.2.2.2.2.2.2.2.2.2.2.2.1, x.2.2.2.2.2.2.2.2.2.2.2.2.2.2.2.2.2.2.2.2) (fun y => K (w11X0_0 y).1 (w11X0_0 y).2) (fun y => K (w11X0_1 y).1 (w11X0_1 y).2) (fun y => K ((noX 2) y).1 ((noX 2) y).2)) = (fun v0 => loopX (w11c N) Tryd.f11.ntmps (w11h0 N) w11b0 w11m0 w11w0 n (w11I0 (x.1, x.2.1, x.2.2.1, x.2.2.2.1, x.2.2.2.2.1, x.2.2.2.2.2.1, x.2.2.2.2.2.2.1, x.2.2.2.2.2.2.2.1, x.2.2.2.2.2.2.2.2.1, x.2.2.2.2.2.2.2.2.2.1, x.2.2.2.2.2.2.2.2.2.2.1, x.2.2.2.2.2.2.2.2.2.2.2.1, x.2.2.2.2.2.2.2.2.2.2.2.2.1, x.2.2.2.2.2.2.2.2.2.2.2.2.2.1, x.2.2.2.2.2.2.2.2.2.2.2.2.2.2.1, v0, x.2.2.2.2.2.2.2.2.2.2.2.2.2.2.2.2.1, x.2.2.2.2.2.2.2.2.2.2.2.2.2.2.2.2.2.1, x.2.2.2.2.2.2.2.2.2.2.2.2.2.2.2.2.2.2.1, x.2.2.2.2.2.2.2.2.2.2.2.2.2.2.2.2.2.2.2.1, x.2.2.2.2.2.2.2.2.2.2.2.2.2.2.2.2.2.2.2.2)) K) from funext fun _ => ih _]
  exact h.trans (w11q0 N (fun σ => loopX (w11c N) Tryd.f11.ntmps (w11h0 N) w11b0 w11m0 w11w0 n σ K) K x)) N x K)
def w11F1 [Alg] (_ : Nat) (in0 : (List ((List Int) × (Int × Int))) → Bool → Int → (List ((List Int) × (Int × Int))) → Int → Int → Bool → Int → ((List Int) × (Int × Int)) → (List Int) → Int → Int → Int → Int → Int → Int → Int → Int → (List Int) → Int → Int → ((List Bool) → Bool → Int → Int → Int → O) → ((List ((List Int) × (Int × Int))) → Bool → Int → (List ((List Int) × (Int × Int))) → Int → Int → Bool → Int → ((List Int) × (Int × Int)) → (List Int) → Int → Int → Int → Int → Int → Int → Int → (List ((List Int) × (Int × Int))) → Int → Bool → Int → Int → (List Int) → Int → Int → O) → O) (self : (List ((List Int) × (Int × Int))) → Bool → Int → (List ((List Int) × (Int × Int))) → Int → Int → Int → Int → O) (k0 : (List Bool) → Bool → Int → Int → Int → O) (k1 : Bool → Int → Int → Int → O) (x0_0 : (List ((List Int) × (Int × Int)))) (x0_1 : Bool) (x0_2 : Int) (x0_3 : (List ((List Int) × (Int × Int)))) (x0_4 : Int) (x0_5 : Int) (x0_6 : Int) (x0_7 : Int) : O :=
 br (decide (x0_5 < x0_4))
  (gx x0_3 x0_5 fun y71 =>
  in0 x0_0 x0_1 x0_2 x0_3 x0_4 x0_5 (decide (x0_5 < x0_4)) x0_5 y71 y71.1 y71.2.1 y71.2.2 x0_5 x0_5 (IntKind.i64.wrap (x0_5 + (1 : Int))) (IntKind.i64.wrap (x0_5 + (1 : Int))) x0_6 x0_7 y71.1 y71.2.1 y71.2.2
   (fun z76 z77 z78 z79 z80 =>
    k0 z76 z77 z78 z79 z80)
   (fun z81 z82 z83 z84 z85 z86 _ _ _ _ _ _ _ _ _ _ _ _ _ _ z101 z102 _ _ _ =>
    self z81 z82 z83 z84 z85 (IntKind.i64.wrap (z86 + (1 : Int))) z101 z102))
  (k1 x0_1 x0_2 x0_6 x0_7)
noncomputable def w11b1 : Code := atC [1, 1, 0, 1, 0, 0] w11b
def w11m1 : Nm := ⟨[0, 2, 3, 4, 5, 21, 22, 23], [], []⟩
def w11I1 (x : (List ((List Int) × (Int × Int))) × Bool × Int × (List ((List Int) × (Int × Int))) × Int × Int × Int × Int) : Sg := ⟨[(0, .e (.sl (.pr (.sl (.i .i64)) (.pr (.i .i64) (.i .i64)))) x.1), (2, .ref 0 0), (3, .nilS), (4, .e .bo x.2.1), (5, .e (.i .i64) x.2.2.1), (21, .e (.sl (.pr (.sl (.i .i64)) (.pr (.i .i64) (.i .i64)))) x.2.2.2.1), (22, .e (.i .i64) x.2.2.2.2.1), (23, .e (.i .i64) x.2.2.2.2.2.1)], [(0, .box 27 [.e (.i .i64) x.2.2.2.2.2.2.1, .e (.i .i64) x.2.2.2.2.2.2.2])], 100⟩
def w11u1 (σ : Sg) : (List ((List Int) × (Int × Int))) × Bool × Int × (List ((List Int) × (Int × Int))) × Int × Int × Int × Int := (lvT (.sl (.pr (.sl (.i .i64)) (.pr (.i .i64) (.i .i64)))) 0 0 σ, lvT .bo 4 0 σ, lvT (.i .i64) 5 0 σ, lvT (.sl (.pr (.sl (.i .i64)) (.pr (.i .i64) (.i .i64)))) 21 0 σ, lvT (.i .i64) 22 0 σ, lvT (.i .i64) 23 0 σ, lvH (.i .i64) 0 0 σ, lvH (.i .i64) 0 1 σ)
theorem w11ui1 : ∀ x, w11u1 (w11I1 x) = x := fun _ => by kernel_rfl
def w11X1_0 (y : (List Bool) × Bool × Int × Int × Int) : Exit × Sg := (.ret, ⟨[(2, .ref 0 0), (3, .e (.sl .bo) y.1), (4, .e .bo y.2.1), (5, .e (.i .i64) y.2.2.1)], [(0, .box 27 [.e (.i .i64) y.2.2.2.1, .e (.i .i64) y.2.2.2.2])], 100⟩)
def w11v1_0 (σ : Sg) : (List Bool) × Bool × Int × Int × Int := (lvT (.sl .bo) 3 0 σ, lvT .bo 4 0 σ, lvT (.i .i64) 5 0 σ, lvH (.i .i64) 0 0 σ, lvH (.i .i64) 0 1 σ)
def w11X1_1 (y : Bool × Int × Int × Int) : Exit × Sg := ((.exit 0), ⟨[(2, .ref 0 0), (3, .nilS), (4, .e .bo y.1), (5, .e (.i .i64) y.2.1)], [(0, .box 27 [.e (.i .i64) y.2.2.1, .e (.i .i64) y.2.2.2])], 100⟩)
def w11v1_1 (σ : Sg) : Bool × Int × Int × Int := (lvT .bo 4 0 σ, lvT (.i .i64) 5 0 σ, lvH (.i .i64) 0 0 σ, lvH (.i .i64) 0 1 σ)
def w11w1 : List (Exit × Nm) := [(.ret, ⟨[2, 3, 4, 5], [], []⟩), ((.exit 0), ⟨[2, 3, 4, 5], [], []⟩)]
theorem w11o1 : Outs w11v1_0 w11v1_1 (fun _ => ()) w11X1_0 w11X1_1 (noX 2) .ret (.exit 0) (.goto 2) := ⟨fun _ => by kernel_rfl, fun _ => by kernel_rfl, fun _ => by kernel_rfl, fun _ => by kernel_rfl, fun _ => by kernel_rfl, fun _ => by kernel_rfl, exNe_ok (by kernel_rfl), exNe_ok (by kernel_rfl), exNe_ok (by kernel_rfl)⟩
def w11l1 [Alg] (N : Nat) : Nat → ((List ((List Int) × (Int × Int))) × Bool × Int × (List ((List Int) × (Int × Int))) × Int × Int × Int × Int) → (((List Bool) × Bool × Int × Int × Int) → O) → ((Bool × Int × Int × Int) → O) → ((Unit) → O) → O
 | 0, _, _, _, _ => none
 | n + 1, x, k0, k1, k2 => w11F1 N (w11n0 N) (fun v0 v1 v2 v3 v4 v5 v6 v7 => w11l1 N n (v0, v1, v2, v3, v4, v5, v6, v7) k0 k1 k2) (fun y0 y1 y2 y3 y4 => k0 (y0, y1, y2, y3, y4)) (fun y0 y1 y2 y3 => k1 (y0, y1, y2, y3)) x.1 x.2.1 x.2.2.1 x.2.2.2.1 x.2.2.2.2.1 x.2.2.2.2.2.1 x.2.2.2.2.2.2.1 x.2.2.2.2.2.2.2
def w11n1 [Alg] (N : Nat) (a0 : (List ((List Int) × (Int × Int)))) (a1 : Bool) (a2 : Int) (a3 : (List ((List Int) × (Int × Int)))) (a4 : Int) (a5 : Int) (a6 : Int) (a7 : Int) (k0 : (List Bool) → Bool → Int → Int → Int → O) (k1 : Bool → Int → Int → Int → O) : O := w11l1 N N (a0, a1, a2, a3, a4, a5, a6, a7) (fun y => k0 y.1 y.2.1 y.2.2.1 y.2.2.2.1 y.2.2.2.2) (fun y => k1 y.1 y.2.1 y.2.2.1 y.2.2.2) (fun _ => none)
noncomputable def w11s1 [Alg] (N : Nat) (a0 : (List ((List Int) × (Int × Int)))) (a1 : Bool) (a2 : Int) (a3 : (List ((List Int) × (Int × Int)))) (a4 : Int) (a5 : Int) (a6 : Int) (a7 : Int) (k0 : (List Bool) → Bool → Int → Int → Int → O) (k1 : Bool → Int → Int → Int → O) : O := subL w11I1 w11u1 (w11l1 N N) (w11I1 (a0, a1, a2, a3, a4, a5, a6, a7)) (fun y => k0 y.1 y.2.1 y.2.2.1 y.2.2.2.1 y.2.2.2.2) (fun y => k1 y.1 y.2.1 y.2.2.1 y.2.2.2) (fun _ => none)
theorem w11e1 [Alg] (N : Nat) : w11s1 N = w11n1 N := funext fun _ => funext fun _ => funext fun _ => funext fun _ => funext fun _ => funext fun _ => funext fun _ => funext fun _ => funext fun _ => funext fun _ => subL_I w11ui1 _ _ _ _
noncomputable def w11h1 [Alg] (N : Nat) : Hint := (.seq .d (.seq .d (.seq (.block (.seq .d (.seq .d (.block (.sub w11m0 _ _ _ w11X0_0 w11X0_1 (noX 2) (subL w11I0 w11u0 (w11l0 N N))))))) .d)))
theorem w11hk1 (N : Nat) (hc : CxOk (w11c N)) : HintOk (w11c N) Tryd.f11.ntmps (w11h1 N) w11b1 := hk_of _ _ (And.intro trivial (And.intro trivial (And.intro (And.intro trivial (And.intro trivial (w11S0 N hc))) trivial)))
theorem w11q1 [Alg] (N : Nat) (self : Sg → O) (K : Exit → Sg → O) (x : (List ((List Int) × (Int × Int))) × Bool × Int × (List ((List Int) × (Int × Int))) × Int × Int × Int × Int) : w11F1 N (w11s0 N) (fun v0 v1 v2 v3 v4 v5 v6 v7 => self (w11I1 (v0, v1, v2, v3, v4, v5, v6, v7))) (fun y0 y1 y2 y3 y4 => K (w11X1_0 (y0, y1, y2, y3, y4)).1 (w11X1_0 (y0, y1, y2, y3, y4)).2) (fun y0 y1 y2 y3 => K (w11X1_1 (y0, y1, y2, y3)).1 (w11X1_1 (y0, y1, y2, y3)).2) x.1 x.2.1 x.2.2.1 x.2.2.2.1 x.2.2.2.2.1 x.2.2.2.2.2.1 x.2.2.2.2.2.2.1 x.2.2.2.2.2.2.2 = exec (w11c N) Tryd.f11.ntmps (w11h1 N) w11b1 (w11I1 x) (roundX w11m1 w11w1 self K) := by kernel_rfl
theorem w11S1 (N : Nat) (hc : CxOk (w11c N)) : SubOk (w11c N) Tryd.f11.ntmps (.loop w11b1) w11X1_0 w11X1_1 (noX 2) (subL w11I1 w11u1 (w11l1 N N)) :=
 sub_loop hc (w11hk1 N hc) w11o1 (n := N) (fun x K => loop_ind (w11l1 N) (fun _ _ _ _ => rfl) (fun n K ih x => by
  have h : w11F1 N (w11n0 N) (fun v0 v1 v2 v3 v4 v5 v6 v7 => w11l1 N n (v0, v1, v2, v3, v4, v5, v6, v7) (fun y => K (w11X1_0 y).1 (w11X1_0 y).2) (fun y => K (w11X1_1 y).1 (w11X1_1 y).2) (fun y => K ((noX 2) y).1 ((noX 2) y).2)) (fun y0 y1 y2 y3 y4 => K (w11X1_0 (y0, y1, y2, y3, y4)).1 (w11X1_0 (y0, y1, y2, y3, y4)).2) (fun y0 y1 y2 y3 => K (w11X1_1 (y0, y1, y2, y3)).1 (w11X1_1 (y0, y1, y2, y3)).2) x.1 x.2.1 x.2.2.1 x.2.2.2.1 x.2.2.2.2.1 x.2.2.2.2.2.1 x.2.2.2.2.2.2.1 x.2.2.2.2.2.2.2 = w11F1 N (w11s0 N) (fun v0 v1 v2 v3 v4 v5 v6 v7 => loopX (w11c N) Tryd.f11.ntmps (w11h1 N) w11b1 w11m1 w11w1 n (w11I1 (v0, v1, v2, v3, v4, v5, v6, v7)) K) (fun y0 y1 y2 y3 y4 => K (w11X1_0 (y0, y1, y2, y3, y4)).1 (w11X1_0 (y0, y1, y2, y3, y4)).2) (fun y0 y1 y2 y3 => K (w11X1_1 (y0, y1, y2, y3)).1 (w11X1_1 (y0, y1, y2, y3)).2) x.1 x.2.1 x.2.2.1 x.2.2.2.1 x.2.2.2.2.1 x.2.2.2.2.2.1 x.2.2.2.2.2.2.1 x.2.2.2.2.2.2.2 := by rw [w11e0 N, show (fun v0 v1 v2 v3 v4 v5 v6 v7 => w11l1 N n (v0, v1, v2, v3, v4, v5, v6, v7) (fun y => K (w11X1_0 y).1 (w11X1_0 y).2) (fun y => K (w11X1_1 y).1 (w11X1_1 y).2) (fun y => K ((noX 2) y).1 ((noX 2) y).2)) = (fun v0 v1 v2 v3 v4 v5 v6 v7 => loopX (w11c N) Tryd.f11.ntmps (w11h1 N) w11b1 w11m1 w11w1 n (w11I1 (v0, v1, v2, v3, v4, v5, v6, v7)) K) from funext fun _ => funext fun _ => funext fun _ => funext fun _ => funext fun _ => funext fun _ => funext fun _ => funext fun _ => ih _]
  exact h.trans (w11q1 N (fun σ => loopX (w11c N) Tryd.f11.ntmps (w11h1 N) w11b1 w11m1 w11w1 n σ K) K x)) N x K)
def w11G [Alg] (N : Nat) (_in0 : (List ((List Int) × (Int × Int))) → Bool → Int → (List ((List Int) × (Int × Int))) → Int → Int → Bool → Int → ((List Int) × (Int × Int)) → (List Int) → Int → Int → Int → Int → Int → Int → Int → Int → (List Int) → Int → Int → ((List Bool) → Bool → Int → Int → Int → O) → ((List ((List Int) × (Int × Int))) → Bool → Int → (List ((List Int) × (Int × Int))) → Int → Int → Bool → Int → ((List Int) × (Int × Int)) → (List Int) → Int → Int → Int → Int → Int → Int → Int → (List ((List Int) × (Int × Int))) → Int → Bool → Int → Int → (List Int) → Int → Int → O) → O) (in1 : (List ((List Int) × (Int × Int))) → Bool → Int → (List ((List Int) × (Int × Int))) → Int → Int → Int → Int → ((List Bool) → Bool → Int → Int → Int → O) → (Bool → Int → Int → Int → O) → O) (l0 : (List ((List Int) × (Int × Int)))) : O :=
 ck (w29p N l0) <|
 br (decide (w29y0 N l0 ≠ (0 : Int)))
  (some (w11r0 ((0 : Int)) ((0 : Int)) [] false (w29y0 N l0)))
  (in1 l0 false ((0 : Int)) l0 ((↑l0.length : Int)) ((0 : Int)) ((0 : Int)) ((0 : Int))
   (fun z106 z107 z108 z109 z110 =>
    some (w11r0 z109 z110 z106 z107 z108))
   (fun _ _ _ _ =>
    some (w11r0 ((0 : Int)) ((0 : Int)) [] false ((0 : Int)))))
def w11 [Alg] (N : Nat) (l0 : (List ((List Int) × (Int × Int)))) : O := w11G N (w11n0 N) (w11n1 N) l0
noncomputable def w11h [Alg] (N : Nat) : Hint := (.seq .d (.seq .d (.seq (.seq .d (.block (.sub w11m1 _ _ _ w11X1_0 w11X1_1 (noX 2) (subL w11I1 w11u1 (w11l1 N N))))) .d)))
theorem w11hk (N : Nat) (hc : CxOk (w11c N)) : HintOk (w11c N) Tryd.f11.ntmps (w11h N) w11b := hk_of _ _ (And.intro trivial (And.intro trivial (And.intro (And.intro trivial (w11S1 N hc)) trivial)))
theorem w11q [Alg] (N : Nat) (l0 : (List ((List Int) × (Int × Int)))) : w11G N (w11s0 N) (w11s1 N) l0 = exec (w11c N) Tryd.f11.ntmps (w11h N) w11b ⟨argT 0 [.e (.sl (.pr (.sl (.i .i64)) (.pr (.i .i64) (.i .i64)))) l0], [], 100⟩ (finX (w11c N) Tryd.f11 false) := by kernel_rfl
theorem w11does {N : Nat} (hc : CxOk (w11c N)) {l0 : (List ((List Int) × (Int × Int)))} {r : Res} (h : w11 N l0 = some r) : Does Tryd.prog 11 (([.e (.sl (.pr (.sl (.i .i64)) (.pr (.i .i64) (.i .i64)))) l0] : List X).map X.D) (HA []) r.1.D (HA r.2) :=
 fun_ok hc (f := 11) (fn := Tryd.f11) (code := w11b) (by kernel_rfl) (by kernel_rfl) (w11hk N hc) (Nat.le_of_ble_eq_true (by kernel_rfl)) (ow := false) ((w11q N l0).symm.trans (by rw [w11e0 N, w11e1 N]; exact h))
def w11un (r : Res) : Option (Int × Int × (List Bool) × Bool × Int) := match r with
 | (.tup [.agg [x0, x1], x2, x3, x4], []) => (match ue (.i .i64) x0, ue (.i .i64) x1, ue (.sl .bo) x2, ue .bo x3, ue (.i .i64) x4 with | some a0, some a1, some a2, some a3, some a4 => some (a0, a1, a2, a3, a4) | _, _, _, _, _ => none)
 | _ => none
theorem w11uo {r : Res} {d : Int × Int × (List Bool) × Bool × Int} (h : w11un r = some d) : r = w11r0 (d.1) (d.2.1) (d.2.2.1) (d.2.2.2.1) (d.2.2.2.2) := by
 unfold w11un at h
 split at h
 ·split at h
  ·rename_i h0 h1 h2 h3 h4; cases h; rw [ue_some h0, ue_some h1, ue_some h2, ue_some h3, ue_some h4]; rfl
  ·cases h
 ·cases h
def w11z (N : Nat) (l0 : (List ((List Int) × (Int × Int)))) : Option (Int × Int × (List Bool) × Bool × Int) := (w11 N l0).bind w11un
theorem w11fin {N : Nat} (hc : CxOk (w11c N)) {l0 : (List ((List Int) × (Int × Int)))} {d : Int × Int × (List Bool) × Bool × Int} (hd : w11z N l0 = some d) : Does Tryd.prog 11 (([.e (.sl (.pr (.sl (.i .i64)) (.pr (.i .i64) (.i .i64)))) l0] : List X).map X.D) (HA []) (w11r0 (d.1) (d.2.1) (d.2.2.1) (d.2.2.2.1) (d.2.2.2.2)).1.D (HA (w11r0 (d.1) (d.2.1) (d.2.2.1) (d.2.2.2.1) (d.2.2.2.2)).2) := by
 obtain ⟨r, hr, hu⟩ := Option.bind_eq_some_iff.1 hd
 have := w11does hc hr
 rw [w11uo hu] at this
 exact this
def w11p (N : Nat) (l0 : (List ((List Int) × (Int × Int)))) : Bool := (w11z N l0).isSome
def w11y0 (N : Nat) (l0 : (List ((List Int) × (Int × Int)))) : Int := ((w11z N l0).getD (0, 0, [], false, 0)).1
def w11y1 (N : Nat) (l0 : (List ((List Int) × (Int × Int)))) : Int := ((w11z N l0).getD (0, 0, [], false, 0)).2.1
def w11y2 (N : Nat) (l0 : (List ((List Int) × (Int × Int)))) : (List Bool) := ((w11z N l0).getD (0, 0, [], false, 0)).2.2.1
def w11y3 (N : Nat) (l0 : (List ((List Int) × (Int × Int)))) : Bool := ((w11z N l0).getD (0, 0, [], false, 0)).2.2.2.1
def w11y4 (N : Nat) (l0 : (List ((List Int) × (Int × Int)))) : Int := ((w11z N l0).getD (0, 0, [], false, 0)).2.2.2.2
def w11e (N : Nat) : Ent' := E1 (.sl (.pr (.sl (.i .i64)) (.pr (.i .i64) (.i .i64))))  (fun x0 => (w11p N x0, w11r0 (w11y0 N x0) (w11y1 N x0) (w11y2 N x0) (w11y3 N x0) (w11y4 N x0)))
theorem w11re {N : Nat} {l0 : (List ((List Int) × (Int × Int)))} {d : Int × Int × (List Bool) × Bool × Int} (hd : w11z N l0 = some d) : w11r0 (w11y0 N l0) (w11y1 N l0) (w11y2 N l0) (w11y3 N l0) (w11y4 N l0) = w11r0 (d.1) (d.2.1) (d.2.2.1) (d.2.2.2.1) (d.2.2.2.2) := by unfold w11y0 w11y1 w11y2 w11y3 w11y4; rw [hd]; rfl
theorem w11ok (N : Nat) : EOk Tryd.prog 11 (w11e N) := EOk.e1 (fun x0 h => by
 have h : (w11z N x0).isSome = true := h
 obtain ⟨d, hd⟩ := Option.isSome_iff_exists.1 h
 have f := w11fin (w11cx N) hd
 rw [← w11re hd] at f
 exact f)
def w16r0 (a0 : Int) (a1 : Int) (a2 : Int) (a3 : Int) : Res := (.tup [.agg [.e (.i .i64) a0, .e (.i .i64) a1, .e (.i .i64) a2], .e (.i .i64) a3], [])
noncomputable def w16L (N : Nat) : List (Nat × Ent') := [(29, w29e N), (32, w32e N)]
noncomputable def w16c (N : Nat) : Cx := ⟨Tryd.prog, 99999, w16L N⟩
noncomputable def w16b : Code := Tryd.f16.body.getD .skip
theorem w16cx (N : Nat) : CxOk (w16c N) := ctx_ok (by kernel_rfl) (.cons (by kernel_rfl) (w29ok N) (.cons (by kernel_rfl) (w32ok N) .nil))
def w16F0 [Alg] (N : Nat)  (self : Int → Int → Int → Int → Int → Int → Int → O) (k0 : Int → Int → Int → Int → Int → Int → Int → Int → Int → Int → O) (x0_0 : (List Bool)) (x0_1 : Int) (x0_2 : (List ((List Int) × (Int × Int)))) (x0_3 : Int) (x0_5 : Int) (x0_6 : Int) (x0_7 : Int) (x0_4 : Int) (x0_8 : Int) (x0_9 : Int) (x0_10 : Int) (x0_11 : Int) (x0_12 : Int) (x0_13 : Int) : O :=
 br (decide (x0_4 < x0_3))
  (gx x0_2 x0_4 fun y7 =>
  ck (w32p N y7.1 y7.2.1 y7.2.2 x0_0) <|
  br (!w32y0 N y7.1 y7.2.1 y7.2.2 x0_0)
   (self (IntKind.i64.wrap (x0_4 + (1 : Int))) x0_8 x0_9 x0_10 x0_11 x0_12 x0_13)
   (ck (decide ((0 : Int) ≤ y7.2.1 ∧ y7.2.1 < (3 : Int))) <|
   gx [x0_8, x0_9, x0_10] ((↑((0 : Nat) + y7.2.1.toNat * (1 : Nat)) : Int)) fun y8 =>
   ck (decide ((0 : Int) ≤ y7.2.1 ∧ y7.2.1 < (3 : Int))) <|
   ck (decide ((0 : Nat) + y7.2.1.toNat * (1 : Nat) < [x0_8, x0_9, x0_10].length)) <|
   br (decide (y7.2.2 < (0 : Int)))
    (ck (decide ((0 : Int) ≤ y7.2.1 ∧ y7.2.1 < (3 : Int))) <|
    gx [x0_11, x0_12, x0_13] ((↑((0 : Nat) + y7.2.1.toNat * (1 : Nat)) : Int)) fun y9 =>
    ck (decide ((0 : Int) ≤ y7.2.1 ∧ y7.2.1 < (3 : Int))) <|
    ck (decide ((0 : Nat) + y7.2.1.toNat * (1 : Nat) < [x0_11, x0_12, x0_13].length)) <|
    self (IntKind.i64.wrap (x0_4 + (1 : Int))) (sel (((0 : Nat) + y7.2.1.toNat * (1 : Nat)).beq (0 : Nat)) (max y8 y7.2.2) x0_8) (sel (((0 : Nat) + y7.2.1.toNat * (1 : Nat)).beq (1 : Nat)) (max y8 y7.2.2) x0_9) (sel (((0 : Nat) + y7.2.1.toNat * (1 : Nat)).beq (2 : Nat)) (max y8 y7.2.2) x0_10) (sel (((0 : Nat) + y7.2.1.toNat * (1 : Nat)).beq (0 : Nat)) (min y9 (IntKind.i64.wrap ((-1 : Int) - y7.2.2))) x0_11) (sel (((0 : Nat) + y7.2.1.toNat * (1 : Nat)).beq (1 : Nat)) (min y9 (IntKind.i64.wrap ((-1 : Int) - y7.2.2))) x0_12) (sel (((0 : Nat) + y7.2.1.toNat * (1 : Nat)).beq (2 : Nat)) (min y9 (IntKind.i64.wrap ((-1 : Int) - y7.2.2))) x0_13))
    (self (IntKind.i64.wrap (x0_4 + (1 : Int))) (sel (((0 : Nat) + y7.2.1.toNat * (1 : Nat)).beq (0 : Nat)) (max y8 y7.2.2) x0_8) (sel (((0 : Nat) + y7.2.1.toNat * (1 : Nat)).beq (1 : Nat)) (max y8 y7.2.2) x0_9) (sel (((0 : Nat) + y7.2.1.toNat * (1 : Nat)).beq (2 : Nat)) (max y8 y7.2.2) x0_10) x0_11 x0_12 x0_13)))
  (k0 x0_1 x0_5 x0_6 x0_7 x0_8 x0_9 x0_10 x0_11 x0_12 x0_13)
noncomputable def w16b0 : Code := atC [1, 1, 1, 1, 1, 0, 1, 0, 0] w16b
def w16m0 : Nm := ⟨[1, 4, 5, 7, 8, 23, 24, 25], [], []⟩
def w16I0 (x : (List Bool) × Int × (List ((List Int) × (Int × Int))) × Int × Int × Int × Int × Int × Int × Int × Int × Int × Int × Int) : Sg := ⟨[(1, .e (.sl .bo) x.1), (4, .ref 0 0), (5, .e (.i .i64) x.2.1), (7, .ref 1 0), (8, .ref 2 0), (23, .e (.sl (.pr (.sl (.i .i64)) (.pr (.i .i64) (.i .i64)))) x.2.2.1), (24, .e (.i .i64) x.2.2.2.1), (25, .e (.i .i64) x.2.2.2.2.1)], [(0, .box 38 [.e (.i .i64) x.2.2.2.2.2.1, .e (.i .i64) x.2.2.2.2.2.2.1, .e (.i .i64) x.2.2.2.2.2.2.2.1]), (1, .box 38 [.e (.i .i64) x.2.2.2.2.2.2.2.2.1, .e (.i .i64) x.2.2.2.2.2.2.2.2.2.1, .e (.i .i64) x.2.2.2.2.2.2.2.2.2.2.1]), (2, .box 38 [.e (.i .i64) x.2.2.2.2.2.2.2.2.2.2.2.1, .e (.i .i64) x.2.2.2.2.2.2.2.2.2.2.2.2.1, .e (.i .i64) x.2.2.2.2.2.2.2.2.2.2.2.2.2])], 100⟩
def w16u0 (σ : Sg) : (List Bool) × Int × (List ((List Int) × (Int × Int))) × Int × Int × Int × Int × Int × Int × Int × Int × Int × Int × Int := (lvT (.sl .bo) 1 0 σ, lvT (.i .i64) 5 0 σ, lvT (.sl (.pr (.sl (.i .i64)) (.pr (.i .i64) (.i .i64)))) 23 0 σ, lvT (.i .i64) 24 0 σ, lvT (.i .i64) 25 0 σ, lvH (.i .i64) 0 0 σ, lvH (.i .i64) 0 1 σ, lvH (.i .i64) 0 2 σ, lvH (.i .i64) 1 0 σ, lvH (.i .i64) 1 1 σ, lvH (.i .i64) 1 2 σ, lvH (.i .i64) 2 0 σ, lvH (.i .i64) 2 1 σ, lvH (.i .i64) 2 2 σ)
theorem w16ui0 : ∀ x, w16u0 (w16I0 x) = x := fun _ => by kernel_rfl
def w16X0_0 (y : Int × Int × Int × Int × Int × Int × Int × Int × Int × Int) : Exit × Sg := ((.exit 0), ⟨[(4, .ref 0 0), (5, .e (.i .i64) y.1), (7, .ref 1 0), (8, .ref 2 0)], [(0, .box 38 [.e (.i .i64) y.2.1, .e (.i .i64) y.2.2.1, .e (.i .i64) y.2.2.2.1]), (1, .box 38 [.e (.i .i64) y.2.2.2.2.1, .e (.i .i64) y.2.2.2.2.2.1, .e (.i .i64) y.2.2.2.2.2.2.1]), (2, .box 38 [.e (.i .i64) y.2.2.2.2.2.2.2.1, .e (.i .i64) y.2.2.2.2.2.2.2.2.1, .e (.i .i64) y.2.2.2.2.2.2.2.2.2])], 100⟩)
def w16v0_0 (σ : Sg) : Int × Int × Int × Int × Int × Int × Int × Int × Int × Int := (lvT (.i .i64) 5 0 σ, lvH (.i .i64) 0 0 σ, lvH (.i .i64) 0 1 σ, lvH (.i .i64) 0 2 σ, lvH (.i .i64) 1 0 σ, lvH (.i .i64) 1 1 σ, lvH (.i .i64) 1 2 σ, lvH (.i .i64) 2 0 σ, lvH (.i .i64) 2 1 σ, lvH (.i .i64) 2 2 σ)
def w16w0 : List (Exit × Nm) := [((.exit 0), ⟨[4, 5, 7, 8], [], []⟩)]
theorem w16o0 : Outs w16v0_0 (fun _ => ()) (fun _ => ()) w16X0_0 (noX 1) (noX 2) (.exit 0) (.goto 1) (.goto 2) := ⟨fun _ => by kernel_rfl, fun _ => by kernel_rfl, fun _ => by kernel_rfl, fun _ => by kernel_rfl, fun _ => by kernel_rfl, fun _ => by kernel_rfl, exNe_ok (by kernel_rfl), exNe_ok (by kernel_rfl), exNe_ok (by kernel_rfl)⟩
def w16l0 [Alg] (N : Nat) : Nat → ((List Bool) × Int × (List ((List Int) × (Int × Int))) × Int × Int × Int × Int × Int × Int × Int × Int × Int × Int × Int) → ((Int × Int × Int × Int × Int × Int × Int × Int × Int × Int) → O) → ((Unit) → O) → ((Unit) → O) → O
 | 0, _, _, _, _ => none
 | n + 1, x, k0, k1, k2 => w16F0 N  (fun v0 v1 v2 v3 v4 v5 v6 => w16l0 N n (x.1, x.2.1, x.2.2.1, x.2.2.2.1, v0, x.2.2.2.2.2.1, x.2.2.2.2.2.2.1, x.2.2.2.2.2.2.2.1, v1, v2, v3, v4, v5, v6) k0 k1 k2) (fun y0 y1 y2 y3 y4 y5 y6 y7 y8 y9 => k0 (y0, y1, y2, y3, y4, y5, y6, y7, y8, y9)) x.1 x.2.1 x.2.2.1 x.2.2.2.1 x.2.2.2.2.2.1 x.2.2.2.2.2.2.1 x.2.2.2.2.2.2.2.1 x.2.2.2.2.1 x.2.2.2.2.2.2.2.2.1 x.2.2.2.2.2.2.2.2.2.1 x.2.2.2.2.2.2.2.2.2.2.1 x.2.2.2.2.2.2.2.2.2.2.2.1 x.2.2.2.2.2.2.2.2.2.2.2.2.1 x.2.2.2.2.2.2.2.2.2.2.2.2.2
def w16n0 [Alg] (N : Nat) (a0 : (List Bool)) (a1 : Int) (a2 : (List ((List Int) × (Int × Int)))) (a3 : Int) (a4 : Int) (a5 : Int) (a6 : Int) (a7 : Int) (a8 : Int) (a9 : Int) (a10 : Int) (a11 : Int) (a12 : Int) (a13 : Int) (k0 : Int → Int → Int → Int → Int → Int → Int → Int → Int → Int → O) : O := w16l0 N N (a0, a1, a2, a3, a4, a5, a6, a7, a8, a9, a10, a11, a12, a13) (fun y => k0 y.1 y.2.1 y.2.2.1 y.2.2.2.1 y.2.2.2.2.1 y.2.2.2.2.2.1 y.2.2.2.2.2.2.1 y.2.2.2.2.2.2.2.1 y.2.2.2.2.2.2.2.2.1 y.2.2.2.2.2.2.2.2.2) (fun _ => none) (fun _ => none)
noncomputable def w16s0 [Alg] (N : Nat) (a0 : (List Bool)) (a1 : Int) (a2 : (List ((List Int) × (Int × Int)))) (a3 : Int) (a4 : Int) (a5 : Int) (a6 : Int) (a7 : Int) (a8 : Int) (a9 : Int) (a10 : Int) (a11 : Int) (a12 : Int) (a13 : Int) (k0 : Int → Int → Int → Int → Int → Int → Int → Int → Int → Int → O) : O := subL w16I0 w16u0 (w16l0 N N) (w16I0 (a0, a1, a2, a3, a4, a5, a6, a7, a8, a9, a10, a11, a12, a13)) (fun y => k0 y.1 y.2.1 y.2.2.1 y.2.2.2.1 y.2.2.2.2.1 y.2.2.2.2.2.1 y.2.2.2.2.2.2.1 y.2.2.2.2.2.2.2.1 y.2.2.2.2.2.2.2.2.1 y.2.2.2.2.2.2.2.2.2) (fun _ => none) (fun _ => none)
theorem w16e0 [Alg] (N : Nat) : w16s0 N = w16n0 N := funext fun _ => funext fun _ => funext fun _ => funext fun _ => funext fun _ => funext fun _ => funext fun _ => funext fun _ => funext fun _ => funext fun _ => funext fun _ => funext fun _ => funext fun _ => funext fun _ => funext fun _ => subL_I w16ui0 _ _ _ _
noncomputable def w16h0 [Alg] (_ : Nat) : Hint := (.seq .d (.seq .d (.seq (.block (.seq .d (.seq .d (.seq (.reg [4, 5, 9, 10] [] [[], [], [], [], [], [], [], [], [], [], [1]]) (.seq .d (.cond (.reg [4, 5, 10, 11] [] [[], [], [], [], [], [], [], [], [], [], [], [2]]) .d)))))) .d)))
theorem w16hk0 (N : Nat) : HintOk (w16c N) Tryd.f16.ntmps (w16h0 N) w16b0 := hk_of _ _ (And.intro trivial (And.intro trivial (And.intro (And.intro trivial (And.intro trivial (And.intro trivial (And.intro trivial (And.intro trivial trivial))))) trivial)))
theorem w16q0 [Alg] (N : Nat) (self : Sg → O) (K : Exit → Sg → O) (x : (List Bool) × Int × (List ((List Int) × (Int × Int))) × Int × Int × Int × Int × Int × Int × Int × Int × Int × Int × Int) : w16F0 N  (fun v0 v1 v2 v3 v4 v5 v6 => self (w16I0 (x.1, x.2.1, x.2.2.1, x.2.2.2.1, v0, x.2.2.2.2.2.1, x.2.2.2.2.2.2.1, x.2.2.2.2.2.2.2.1, v1, v2, v3, v4, v5, v6))) (fun y0 y1 y2 y3 y4 y5 y6 y7 y8 y9 => K (w16X0_0 (y0, y1, y2, y3, y4, y5, y6, y7, y8, y9)).1 (w16X0_0 (y0, y1, y2, y3, y4, y5, y6, y7, y8, y9)).2) x.1 x.2.1 x.2.2.1 x.2.2.2.1 x.2.2.2.2.2.1 x.2.2.2.2.2.2.1 x.2.2.2.2.2.2.2.1 x.2.2.2.2.1 x.2.2.2.2.2.2.2.2.1 x.2.2.2.2.2.2.2.2.2.1 x.2.2.2.2.2.2.2.2.2.2.1 x.2.2.2.2.2.2.2.2.2.2.2.1 x.2.2.2.2.2.2.2.2.2.2.2.2.1 x.2.2.2.2.2.2.2.2.2.2.2.2.2 = exec (w16c N) Tryd.f16.ntmps (w16h0 N) w16b0 (w16I0 x) (roundX w16m0 w16w0 self K) := by kernel_rfl
theorem w16S0 (N : Nat) (hc : CxOk (w16c N)) : SubOk (w16c N) Tryd.f16.ntmps (.loop w16b0) w16X0_0 (noX 1) (noX 2) (subL w16I0 w16u0 (w16l0 N N)) :=
 sub_loop hc (w16hk0 N) w16o0 (n := N) (fun x K => loop_ind (w16l0 N) (fun _ _ _ _ => rfl) (fun n K ih x => by
  have h : w16F0 N  (fun v0 v1 v2 v3 v4 v5 v6 => w16l0 N n (x.1, x.2.1, x.2.2.1, x.2.2.2.1, v0, x.2.2.2.2.2.1, x.2.2.2.2.2.2.1, x.2.2.2.2.2.2.2.1, v1, v2, v3, v4, v5, v6) (fun y => K (w16X0_0 y).1 (w16X0_0 y).2) (fun y => K ((noX 1) y).1 ((noX 1) y).2) (fun y => K ((noX 2) y).1 ((noX 2) y).2)) (fun y0 y1 y2 y3 y4 y5 y6 y7 y8 y9 => K (w16X0_0 (y0, y1, y2, y3, y4, y5, y6, y7, y8, y9)).1 (w16X0_0 (y0, y1, y2, y3, y4, y5, y6, y7, y8, y9)).2) x.1 x.2.1 x.2.2.1 x.2.2.2.1 x.2.2.2.2.2.1 x.2.2.2.2.2.2.1 x.2.2.2.2.2.2.2.1 x.2.2.2.2.1 x.2.2.2.2.2.2.2.2.1 x.2.2.2.2.2.2.2.2.2.1 x.2.2.2.2.2.2.2.2.2.2.1 x.2.2.2.2.2.2.2.2.2.2.2.1 x.2.2.2.2.2.2.2.2.2.2.2.2.1 x.2.2.2.2.2.2.2.2.2.2.2.2.2 = w16F0 N  (fun v0 v1 v2 v3 v4 v5 v6 => loopX (w16c N) Tryd.f16.ntmps (w16h0 N) w16b0 w16m0 w16w0 n (w16I0 (x.1, x.2.1, x.2.2.1, x.2.2.2.1, v0, x.2.2.2.2.2.1, x.2.2.2.2.2.2.1, x.2.2.2.2.2.2.2.1, v1, v2, v3, v4, v5, v6)) K) (fun y0 y1 y2 y3 y4 y5 y6 y7 y8 y9 => K (w16X0_0 (y0, y1, y2, y3, y4, y5, y6, y7, y8, y9)).1 (w16X0_0 (y0, y1, y2, y3, y4, y5, y6, y7, y8, y9)).2) x.1 x.2.1 x.2.2.1 x.2.2.2.1 x.2.2.2.2.2.1 x.2.2.2.2.2.2.1 x.2.2.2.2.2.2.2.1 x.2.2.2.2.1 x.2.2.2.2.2.2.2.2.1 x.2.2.2.2.2.2.2.2.2.1 x.2.2.2.2.2.2.2.2.2.2.1 x.2.2.2.2.2.2.2.2.2.2.2.1 x.2.2.2.2.2.2.2.2.2.2.2.2.1 x.2.2.2.2.2.2.2.2.2.2.2.2.2 := by rw [ show (fun v0 v1 v2 v3 v4 v5 v6 => w16l0 N n (x.1, x.2.1, x.2.2.1, x.2.2.2.1, v0, x.2.2.2.2.2.1, x.2.2.2.2.2.2.1, x.2.2.2.2.2.2.2.1, v1, v2, v3, v4, v5, v6) (fun y => K (w16X0_0 y).1 (w16X0_0 y).2) (fun y => K ((noX 1) y).1 ((noX 1) y).2) (fun y => K ((noX 2) y).1 ((noX 2) y).2)) = (fun v0 v1 v2 v3 v4 v5 v6 => loopX (w16c N) Tryd.f16.ntmps (w16h0 N) w16b0 w16m0 w16w0 n (w16I0 (x.1, x.2.1, x.2.2.1, x.2.2.2.1, v0, x.2.2.2.2.2.1, x.2.2.2.2.2.2.1, x.2.2.2.2.2.2.2.1, v1, v2, v3, v4, v5, v6)) K) from funext fun _ => funext fun _ => funext fun _ => funext fun _ => funext fun _ => funext fun _ => funext fun _ => ih _]
  exact h.trans (w16q0 N (fun σ => loopX (w16c N) Tryd.f16.ntmps (w16h0 N) w16b0 w16m0 w16w0 n σ K) K x)) N x K)
def w16F1 [Alg] (N : Nat)  (self : Int → O) (k0 : Int → Int → Int → Int → O) (k1 : Int → Int → Int → Int → Int → Int → Int → O) (x20_0 : Int) (x20_2 : Int) (x20_3 : Int) (x20_4 : Int) (x20_5 : Int) (x20_6 : Int) (x20_7 : Int) (x20_8 : Int) (x20_9 : Int) (x20_10 : Int) (x20_1 : Int) : O :=
 br (decide (x20_1 < (3 : Int)))
  (ck (decide ((0 : Int) ≤ x20_1 ∧ x20_1 < (3 : Int))) <|
  gx [x20_5, x20_6, x20_7] ((↑((0 : Nat) + x20_1.toNat * (1 : Nat)) : Int)) fun y25 =>
  ck (decide ((0 : Int) ≤ x20_1 ∧ x20_1 < (3 : Int))) <|
  gx [x20_8, x20_9, x20_10] ((↑((0 : Nat) + x20_1.toNat * (1 : Nat)) : Int)) fun y26 =>
  br (decide (y26 < y25))
   (k0 ((18 : Int)) ((0 : Int)) ((0 : Int)) ((0 : Int)))
   (self (IntKind.i64.wrap (x20_1 + (1 : Int)))))
  (k1 x20_0 x20_2 x20_3 x20_4 x20_5 x20_6 x20_7)
noncomputable def w16b1 : Code := atC [1, 1, 1, 1, 1, 1, 0, 1, 0, 0] w16b
def w16m1 : Nm := ⟨[4, 5, 7, 8, 58], [], []⟩
def w16I1 (x : Int × Int × Int × Int × Int × Int × Int × Int × Int × Int × Int) : Sg := ⟨[(4, .ref 0 0), (5, .e (.i .i64) x.1), (7, .ref 1 0), (8, .ref 2 0), (58, .e (.i .i64) x.2.1)], [(0, .box 38 [.e (.i .i64) x.2.2.1, .e (.i .i64) x.2.2.2.1, .e (.i .i64) x.2.2.2.2.1]), (1, .box 38 [.e (.i .i64) x.2.2.2.2.2.1, .e (.i .i64) x.2.2.2.2.2.2.1, .e (.i .i64) x.2.2.2.2.2.2.2.1]), (2, .box 38 [.e (.i .i64) x.2.2.2.2.2.2.2.2.1, .e (.i .i64) x.2.2.2.2.2.2.2.2.2.1, .e (.i .i64) x.2.2.2.2.2.2.2.2.2.2])], 100⟩
def w16u1 (σ : Sg) : Int × Int × Int × Int × Int × Int × Int × Int × Int × Int × Int := (lvT (.i .i64) 5 0 σ, lvT (.i .i64) 58 0 σ, lvH (.i .i64) 0 0 σ, lvH (.i .i64) 0 1 σ, lvH (.i .i64) 0 2 σ, lvH (.i .i64) 1 0 σ, lvH (.i .i64) 1 1 σ, lvH (.i .i64) 1 2 σ, lvH (.i .i64) 2 0 σ, lvH (.i .i64) 2 1 σ, lvH (.i .i64) 2 2 σ)
theorem w16ui1 : ∀ x, w16u1 (w16I1 x) = x := fun _ => by kernel_rfl
def w16X1_0 (y : Int × Int × Int × Int) : Exit × Sg := (.ret, ⟨[(4, .ref 0 0), (5, .e (.i .i64) y.1)], [(0, .box 38 [.e (.i .i64) y.2.1, .e (.i .i64) y.2.2.1, .e (.i .i64) y.2.2.2])], 100⟩)
def w16v1_0 (σ : Sg) : Int × Int × Int × Int := (lvT (.i .i64) 5 0 σ, lvH (.i .i64) 0 0 σ, lvH (.i .i64) 0 1 σ, lvH (.i .i64) 0 2 σ)
def w16X1_1 (y : Int × Int × Int × Int × Int × Int × Int) : Exit × Sg := ((.exit 2), ⟨[(4, .ref 0 0), (5, .e (.i .i64) y.1), (7, .ref 1 0)], [(0, .box 38 [.e (.i .i64) y.2.1, .e (.i .i64) y.2.2.1, .e (.i .i64) y.2.2.2.1]), (1, .box 38 [.e (.i .i64) y.2.2.2.2.1, .e (.i .i64) y.2.2.2.2.2.1, .e (.i .i64) y.2.2.2.2.2.2])], 100⟩)
def w16v1_1 (σ : Sg) : Int × Int × Int × Int × Int × Int × Int := (lvT (.i .i64) 5 0 σ, lvH (.i .i64) 0 0 σ, lvH (.i .i64) 0 1 σ, lvH (.i .i64) 0 2 σ, lvH (.i .i64) 1 0 σ, lvH (.i .i64) 1 1 σ, lvH (.i .i64) 1 2 σ)
def w16w1 : List (Exit × Nm) := [(.ret, ⟨[4, 5], [], []⟩), ((.exit 2), ⟨[4, 5, 7], [], []⟩)]
theorem w16o1 : Outs w16v1_0 w16v1_1 (fun _ => ()) w16X1_0 w16X1_1 (noX 2) .ret (.exit 2) (.goto 2) := ⟨fun _ => by kernel_rfl, fun _ => by kernel_rfl, fun _ => by kernel_rfl, fun _ => by kernel_rfl, fun _ => by kernel_rfl, fun _ => by kernel_rfl, exNe_ok (by kernel_rfl), exNe_ok (by kernel_rfl), exNe_ok (by kernel_rfl)⟩
def w16l1 [Alg] (N : Nat) : Nat → (Int × Int × Int × Int × Int × Int × Int × Int × Int × Int × Int) → ((Int × Int × Int × Int) → O) → ((Int × Int × Int × Int × Int × Int × Int) → O) → ((Unit) → O) → O
 | 0, _, _, _, _ => none
 | n + 1, x, k0, k1, k2 => w16F1 N  (fun v0 => w16l1 N n (x.1, v0, x.2.2.1, x.2.2.2.1, x.2.2.2.2.1, x.2.2.2.2.2.1, x.2.2.2.2.2.2.1, x.2.2.2.2.2.2.2.1, x.2.2.2.2.2.2.2.2.1, x.2.2.2.2.2.2.2.2.2.1, x.2.2.2.2.2.2.2.2.2.2) k0 k1 k2) (fun y0 y1 y2 y3 => k0 (y0, y1, y2, y3)) (fun y0 y1 y2 y3 y4 y5 y6 => k1 (y0, y1, y2, y3, y4, y5, y6)) x.1 x.2.2.1 x.2.2.2.1 x.2.2.2.2.1 x.2.2.2.2.2.1 x.2.2.2.2.2.2.1 x.2.2.2.2.2.2.2.1 x.2.2.2.2.2.2.2.2.1 x.2.2.2.2.2.2.2.2.2.1 x.2.2.2.2.2.2.2.2.2.2 x.2.1
def w16n1 [Alg] (N : Nat) (a0 : Int) (a1 : Int) (a2 : Int) (a3 : Int) (a4 : Int) (a5 : Int) (a6 : Int) (a7 : Int) (a8 : Int) (a9 : Int) (a10 : Int) (k0 : Int → Int → Int → Int → O) (k1 : Int → Int → Int → Int → Int → Int → Int → O) : O := w16l1 N N (a0, a1, a2, a3, a4, a5, a6, a7, a8, a9, a10) (fun y => k0 y.1 y.2.1 y.2.2.1 y.2.2.2) (fun y => k1 y.1 y.2.1 y.2.2.1 y.2.2.2.1 y.2.2.2.2.1 y.2.2.2.2.2.1 y.2.2.2.2.2.2) (fun _ => none)
noncomputable def w16s1 [Alg] (N : Nat) (a0 : Int) (a1 : Int) (a2 : Int) (a3 : Int) (a4 : Int) (a5 : Int) (a6 : Int) (a7 : Int) (a8 : Int) (a9 : Int) (a10 : Int) (k0 : Int → Int → Int → Int → O) (k1 : Int → Int → Int → Int → Int → Int → Int → O) : O := subL w16I1 w16u1 (w16l1 N N) (w16I1 (a0, a1, a2, a3, a4, a5, a6, a7, a8, a9, a10)) (fun y => k0 y.1 y.2.1 y.2.2.1 y.2.2.2) (fun y => k1 y.1 y.2.1 y.2.2.1 y.2.2.2.1 y.2.2.2.2.1 y.2.2.2.2.2.1 y.2.2.2.2.2.2) (fun _ => none)
theorem w16e1 [Alg] (N : Nat) : w16s1 N = w16n1 N := funext fun _ => funext fun _ => funext fun _ => funext fun _ => funext fun _ => funext fun _ => funext fun _ => funext fun _ => funext fun _ => funext fun _ => funext fun _ => funext fun _ => funext fun _ => subL_I w16ui1 _ _ _ _
noncomputable def w16h1 [Alg] (_ : Nat) : Hint := (.seq .d (.seq .d (.seq (.block (.seq .d (.seq (.reg [1, 2, 4, 5] [] []) .d))) .d)))
theorem w16hk1 (N : Nat) : HintOk (w16c N) Tryd.f16.ntmps (w16h1 N) w16b1 := hk_of _ _ (And.intro trivial (And.intro trivial (And.intro (And.intro trivial (And.intro trivial trivial)) trivial)))
theorem w16q1 [Alg] (N : Nat) (self : Sg → O) (K : Exit → Sg → O) (x : Int × Int × Int × Int × Int × Int × Int × Int × Int × Int × Int) : w16F1 N  (fun v0 => self (w16I1 (x.1, v0, x.2.2.1, x.2.2.2.1, x.2.2.2.2.1, x.2.2.2.2.2.1, x.2.2.2.2.2.2.1, x.2.2.2.2.2.2.2.1, x.2.2.2.2.2.2.2.2.1, x.2.2.2.2.2.2.2.2.2.1, x.2.2.2.2.2.2.2.2.2.2))) (fun y0 y1 y2 y3 => K (w16X1_0 (y0, y1, y2, y3)).1 (w16X1_0 (y0, y1, y2, y3)).2) (fun y0 y1 y2 y3 y4 y5 y6 => K (w16X1_1 (y0, y1, y2, y3, y4, y5, y6)).1 (w16X1_1 (y0, y1, y2, y3, y4, y5, y6)).2) x.1 x.2.2.1 x.2.2.2.1 x.2.2.2.2.1 x.2.2.2.2.2.1 x.2.2.2.2.2.2.1 x.2.2.2.2.2.2.2.1 x.2.2.2.2.2.2.2.2.1 x.2.2.2.2.2.2.2.2.2.1 x.2.2.2.2.2.2.2.2.2.2 x.2.1 = exec (w16c N) Tryd.f16.ntmps (w16h1 N) w16b1 (w16I1 x) (roundX w16m1 w16w1 self K) := by kernel_rfl
theorem w16S1 (N : Nat) (hc : CxOk (w16c N)) : SubOk (w16c N) Tryd.f16.ntmps (.loop w16b1) w16X1_0 w16X1_1 (noX 2) (subL w16I1 w16u1 (w16l1 N N)) :=
 sub_loop hc (w16hk1 N) w16o1 (n := N) (fun x K => loop_ind (w16l1 N) (fun _ _ _ _ => rfl) (fun n K ih x => by
  have h : w16F1 N  (fun v0 => w16l1 N n (x.1, v0, x.2.2.1, x.2.2.2.1, x.2.2.2.2.1, x.2.2.2.2.2.1, x.2.2.2.2.2.2.1, x.2.2.2.2.2.2.2.1, x.2.2.2.2.2.2.2.2.1, x.2.2.2.2.2.2.2.2.2.1, x.2.2.2.2.2.2.2.2.2.2) (fun y => K (w16X1_0 y).1 (w16X1_0 y).2) (fun y => K (w16X1_1 y).1 (w16X1_1 y).2) (fun y => K ((noX 2) y).1 ((noX 2) y).2)) (fun y0 y1 y2 y3 => K (w16X1_0 (y0, y1, y2, y3)).1 (w16X1_0 (y0, y1, y2, y3)).2) (fun y0 y1 y2 y3 y4 y5 y6 => K (w16X1_1 (y0, y1, y2, y3, y4, y5, y6)).1 (w16X1_1 (y0, y1, y2, y3, y4, y5, y6)).2) x.1 x.2.2.1 x.2.2.2.1 x.2.2.2.2.1 x.2.2.2.2.2.1 x.2.2.2.2.2.2.1 x.2.2.2.2.2.2.2.1 x.2.2.2.2.2.2.2.2.1 x.2.2.2.2.2.2.2.2.2.1 x.2.2.2.2.2.2.2.2.2.2 x.2.1 = w16F1 N  (fun v0 => loopX (w16c N) Tryd.f16.ntmps (w16h1 N) w16b1 w16m1 w16w1 n (w16I1 (x.1, v0, x.2.2.1, x.2.2.2.1, x.2.2.2.2.1, x.2.2.2.2.2.1, x.2.2.2.2.2.2.1, x.2.2.2.2.2.2.2.1, x.2.2.2.2.2.2.2.2.1, x.2.2.2.2.2.2.2.2.2.1, x.2.2.2.2.2.2.2.2.2.2)) K) (fun y0 y1 y2 y3 => K (w16X1_0 (y0, y1, y2, y3)).1 (w16X1_0 (y0, y1, y2, y3)).2) (fun y0 y1 y2 y3 y4 y5 y6 => K (w16X1_1 (y0, y1, y2, y3, y4, y5, y6)).1 (w16X1_1 (y0, y1, y2, y3, y4, y5, y6)).2) x.1 x.2.2.1 x.2.2.2.1 x.2.2.2.2.1 x.2.2.2.2.2.1 x.2.2.2.2.2.2.1 x.2.2.2.2.2.2.2.1 x.2.2.2.2.2.2.2.2.1 x.2.2.2.2.2.2.2.2.2.1 x.2.2.2.2.2.2.2.2.2.2 x.2.1 := by rw [ show (fun v0 => w16l1 N n (x.1, v0, x.2.2.1, x.2.2.2.1, x.2.2.2.2.1, x.2.2.2.2.2.1, x.2.2.2.2.2.2.1, x.2.2.2.2.2.2.2.1, x.2.2.2.2.2.2.2.2.1, x.2.2.2.2.2.2.2.2.2.1, x.2.2.2.2.2.2.2.2.2.2) (fun y => K (w16X1_0 y).1 (w16X1_0 y).2) (fun y => K (w16X1_1 y).1 (w16X1_1 y).2) (fun y => K ((noX 2) y).1 ((noX 2) y).2)) = (fun v0 => loopX (w16c N) Tryd.f16.ntmps (w16h1 N) w16b1 w16m1 w16w1 n (w16I1 (x.1, v0, x.2.2.1, x.2.2.2.1, x.2.2.2.2.1, x.2.2.2.2.2.1, x.2.2.2.2.2.2.1, x.2.2.2.2.2.2.2.1, x.2.2.2.2.2.2.2.2.1, x.2.2.2.2.2.2.2.2.2.1, x.2.2.2.2.2.2.2.2.2.2)) K) from funext fun _ => ih _]
  exact h.trans (w16q1 N (fun σ => loopX (w16c N) Tryd.f16.ntmps (w16h1 N) w16b1 w16m1 w16w1 n σ K) K x)) N x K)
def w16G [Alg] (N : Nat) (in0 : (List Bool) → Int → (List ((List Int) × (Int × Int))) → Int → Int → Int → Int → Int → Int → Int → Int → Int → Int → Int → (Int → Int → Int → Int → Int → Int → Int → Int → Int → Int → O) → O) (in1 : Int → Int → Int → Int → Int → Int → Int → Int → Int → Int → Int → (Int → Int → Int → Int → O) → (Int → Int → Int → Int → Int → Int → Int → O) → O) (l0 : (List ((List Int) × (Int × Int)))) (have1 : (List Bool)) : O :=
 ck (w29p N l0) <|
 br (decide (w29y0 N l0 ≠ (0 : Int)))
  (some (w16r0 ((0 : Int)) ((0 : Int)) ((0 : Int)) (w29y0 N l0)))
  (br (decide ((↑have1.length : Int) ≠ (16 : Int)))
   (some (w16r0 ((0 : Int)) ((0 : Int)) ((0 : Int)) ((1 : Int))))
   (in0 have1 ((0 : Int)) l0 ((↑l0.length : Int)) ((0 : Int)) ((0 : Int)) ((0 : Int)) ((0 : Int)) ((0 : Int)) ((0 : Int)) ((0 : Int)) ((9999 : Int)) ((9999 : Int)) ((9999 : Int))
    (fun z10 z11 z12 z13 z14 z15 z16 z17 z18 z19 =>
     in1 z10 ((0 : Int)) z11 z12 z13 z14 z15 z16 z17 z18 z19
      (fun z27 z28 z29 z30 =>
       some (w16r0 z28 z29 z30 z27))
      (fun _ _ _ _ z35 z36 z37 =>
       some (w16r0 z35 z36 z37 ((0 : Int)))))))
def w16 [Alg] (N : Nat) (l0 : (List ((List Int) × (Int × Int)))) (have1 : (List Bool)) : O := w16G N (w16n0 N) (w16n1 N) l0 have1
noncomputable def w16h [Alg] (N : Nat) : Hint := (.seq .d (.seq .d (.seq .d (.seq .d (.seq .d (.seq (.seq .d (.block (.sub w16m0 _ _ _ w16X0_0 (noX 1) (noX 2) (subL w16I0 w16u0 (w16l0 N N))))) (.seq (.seq .d (.block (.sub w16m1 _ _ _ w16X1_0 w16X1_1 (noX 2) (subL w16I1 w16u1 (w16l1 N N))))) .d)))))))
theorem w16hk (N : Nat) (hc : CxOk (w16c N)) : HintOk (w16c N) Tryd.f16.ntmps (w16h N) w16b := hk_of _ _ (And.intro trivial (And.intro trivial (And.intro trivial (And.intro trivial (And.intro trivial (And.intro (And.intro trivial (w16S0 N hc)) (And.intro (And.intro trivial (w16S1 N hc)) trivial)))))))
theorem w16q [Alg] (N : Nat) (l0 : (List ((List Int) × (Int × Int)))) (have1 : (List Bool)) : w16G N (w16s0 N) (w16s1 N) l0 have1 = exec (w16c N) Tryd.f16.ntmps (w16h N) w16b ⟨argT 0 [.e (.sl (.pr (.sl (.i .i64)) (.pr (.i .i64) (.i .i64)))) l0, .e (.sl .bo) have1], [], 100⟩ (finX (w16c N) Tryd.f16 false) := by kernel_rfl
theorem w16does {N : Nat} (hc : CxOk (w16c N)) {l0 : (List ((List Int) × (Int × Int)))} {have1 : (List Bool)} {r : Res} (h : w16 N l0 have1 = some r) : Does Tryd.prog 16 (([.e (.sl (.pr (.sl (.i .i64)) (.pr (.i .i64) (.i .i64)))) l0, .e (.sl .bo) have1] : List X).map X.D) (HA []) r.1.D (HA r.2) :=
 fun_ok hc (f := 16) (fn := Tryd.f16) (code := w16b) (by kernel_rfl) (by kernel_rfl) (w16hk N hc) (Nat.le_of_ble_eq_true (by kernel_rfl)) (ow := false) ((w16q N l0 have1).symm.trans (by rw [w16e0 N, w16e1 N]; exact h))
def w16un (r : Res) : Option (Int × Int × Int × Int) := match r with
 | (.tup [.agg [x0, x1, x2], x3], []) => (match ue (.i .i64) x0, ue (.i .i64) x1, ue (.i .i64) x2, ue (.i .i64) x3 with | some a0, some a1, some a2, some a3 => some (a0, a1, a2, a3) | _, _, _, _ => none)
 | _ => none
theorem w16uo {r : Res} {d : Int × Int × Int × Int} (h : w16un r = some d) : r = w16r0 (d.1) (d.2.1) (d.2.2.1) (d.2.2.2) := by
 unfold w16un at h
 split at h
 ·split at h
  ·rename_i h0 h1 h2 h3; cases h; rw [ue_some h0, ue_some h1, ue_some h2, ue_some h3]; rfl
  ·cases h
 ·cases h
def w16z (N : Nat) (l0 : (List ((List Int) × (Int × Int)))) (have1 : (List Bool)) : Option (Int × Int × Int × Int) := (w16 N l0 have1).bind w16un
theorem w16fin {N : Nat} (hc : CxOk (w16c N)) {l0 : (List ((List Int) × (Int × Int)))} {have1 : (List Bool)} {d : Int × Int × Int × Int} (hd : w16z N l0 have1 = some d) : Does Tryd.prog 16 (([.e (.sl (.pr (.sl (.i .i64)) (.pr (.i .i64) (.i .i64)))) l0, .e (.sl .bo) have1] : List X).map X.D) (HA []) (w16r0 (d.1) (d.2.1) (d.2.2.1) (d.2.2.2)).1.D (HA (w16r0 (d.1) (d.2.1) (d.2.2.1) (d.2.2.2)).2) := by
 obtain ⟨r, hr, hu⟩ := Option.bind_eq_some_iff.1 hd
 have := w16does hc hr
 rw [w16uo hu] at this
 exact this
def w16p (N : Nat) (l0 : (List ((List Int) × (Int × Int)))) (have1 : (List Bool)) : Bool := (w16z N l0 have1).isSome
def w16y0 (N : Nat) (l0 : (List ((List Int) × (Int × Int)))) (have1 : (List Bool)) : Int := ((w16z N l0 have1).getD (0, 0, 0, 0)).1
def w16y1 (N : Nat) (l0 : (List ((List Int) × (Int × Int)))) (have1 : (List Bool)) : Int := ((w16z N l0 have1).getD (0, 0, 0, 0)).2.1
def w16y2 (N : Nat) (l0 : (List ((List Int) × (Int × Int)))) (have1 : (List Bool)) : Int := ((w16z N l0 have1).getD (0, 0, 0, 0)).2.2.1
def w16y3 (N : Nat) (l0 : (List ((List Int) × (Int × Int)))) (have1 : (List Bool)) : Int := ((w16z N l0 have1).getD (0, 0, 0, 0)).2.2.2
def w16e (N : Nat) : Ent' := E2 (.sl (.pr (.sl (.i .i64)) (.pr (.i .i64) (.i .i64)))) (.sl .bo)  (fun x0 x1 => (w16p N x0 x1, w16r0 (w16y0 N x0 x1) (w16y1 N x0 x1) (w16y2 N x0 x1) (w16y3 N x0 x1)))
theorem w16re {N : Nat} {l0 : (List ((List Int) × (Int × Int)))} {have1 : (List Bool)} {d : Int × Int × Int × Int} (hd : w16z N l0 have1 = some d) : w16r0 (w16y0 N l0 have1) (w16y1 N l0 have1) (w16y2 N l0 have1) (w16y3 N l0 have1) = w16r0 (d.1) (d.2.1) (d.2.2.1) (d.2.2.2) := by unfold w16y0 w16y1 w16y2 w16y3; rw [hd]; rfl
theorem w16ok (N : Nat) : EOk Tryd.prog 16 (w16e N) := EOk.e2 (fun x0 x1 h => by
 have h : (w16z N x0 x1).isSome = true := h
 obtain ⟨d, hd⟩ := Option.isSome_iff_exists.1 h
 have f := w16fin (w16cx N) hd
 rw [← w16re hd] at f
 exact f)
def w20r0 (a0 : Bool) : Res := (.e .bo a0, [])
noncomputable def w20L (_ : Nat) : List (Nat × Ent') := []
noncomputable def w20c (N : Nat) : Cx := ⟨Tryd.prog, 99999, w20L N⟩
noncomputable def w20b : Code := Tryd.f20.body.getD .skip
theorem w20cx (N : Nat) : CxOk (w20c N) := ctx_ok (by kernel_rfl) .nil
def w20F0 [Alg] (N : Nat)  (self : Int → O) (k0 : Bool → O) (k1 : Bool → O) (x0_0 : Bool) (x0_1 : Int) (x0_2 : Int) (x0_3 : Int) (x0_5 : Int) (x0_6 : Int) (x0_7 : Int) (x0_4 : Int) : O :=
 br (decide (x0_4 < (3 : Int)))
  (gx [x0_1, x0_2, x0_3] x0_4 fun y5 =>
  ck (decide ((0 : Int) ≤ x0_4 ∧ x0_4 < (3 : Int))) <|
  gx [x0_5, x0_6, x0_7] ((↑((0 : Nat) + x0_4.toNat * (1 : Nat)) : Int)) fun y6 =>
  br (decide (y5 < y6))
   (k0 true)
   (self (IntKind.i64.wrap (x0_4 + (1 : Int)))))
  (k1 x0_0)
noncomputable def w20b0 : Code := atC [1, 0, 1, 0, 0] w20b
def w20m0 : Nm := ⟨[3, 4, 7, 8], [], []⟩
def w20I0 (x : Bool × Int × Int × Int × Int × Int × Int × Int) : Sg := ⟨[(3, .ref 0 0), (4, .e .bo x.1), (7, .agg [.e (.i .i64) x.2.1, .e (.i .i64) x.2.2.1, .e (.i .i64) x.2.2.2.1]), (8, .e (.i .i64) x.2.2.2.2.1)], [(0, .box 38 [.e (.i .i64) x.2.2.2.2.2.1, .e (.i .i64) x.2.2.2.2.2.2.1, .e (.i .i64) x.2.2.2.2.2.2.2])], 100⟩
def w20u0 (σ : Sg) : Bool × Int × Int × Int × Int × Int × Int × Int := (lvT .bo 4 0 σ, lvT (.i .i64) 7 0 σ, lvT (.i .i64) 7 1 σ, lvT (.i .i64) 7 2 σ, lvT (.i .i64) 8 0 σ, lvH (.i .i64) 0 0 σ, lvH (.i .i64) 0 1 σ, lvH (.i .i64) 0 2 σ)
theorem w20ui0 : ∀ x, w20u0 (w20I0 x) = x := fun _ => by kernel_rfl
def w20X0_0 (y : Bool) : Exit × Sg := (.ret, ⟨[(4, .e .bo y)], [], 100⟩)
def w20v0_0 (σ : Sg) : Bool := lvT .bo 4 0 σ
def w20X0_1 (y : Bool) : Exit × Sg := ((.exit 0), ⟨[(4, .e .bo y)], [], 100⟩)
def w20v0_1 (σ : Sg) : Bool := lvT .bo 4 0 σ
def w20w0 : List (Exit × Nm) := [(.ret, ⟨[4], [], []⟩), ((.exit 0), ⟨[4], [], []⟩)]
theorem w20o0 : Outs w20v0_0 w20v0_1 (fun _ => ()) w20X0_0 w20X0_1 (noX 2) .ret (.exit 0) (.goto 2) := ⟨fun _ => by kernel_rfl, fun _ => by kernel_rfl, fun _ => by kernel_rfl, fun _ => by kernel_rfl, fun _ => by kernel_rfl, fun _ => by kernel_rfl, exNe_ok (by kernel_rfl), exNe_ok (by kernel_rfl), exNe_ok (by kernel_rfl)⟩
def w20l0 [Alg] (N : Nat) : Nat → (Bool × Int × Int × Int × Int × Int × Int × Int) → ((Bool) → O) → ((Bool) → O) → ((Unit) → O) → O
 | 0, _, _, _, _ => none
 | n + 1, x, k0, k1, k2 => w20F0 N  (fun v0 => w20l0 N n (x.1, x.2.1, x.2.2.1, x.2.2.2.1, v0, x.2.2.2.2.2.1, x.2.2.2.2.2.2.1, x.2.2.2.2.2.2.2) k0 k1 k2) (fun y0 => k0 y0) (fun y0 => k1 y0) x.1 x.2.1 x.2.2.1 x.2.2.2.1 x.2.2.2.2.2.1 x.2.2.2.2.2.2.1 x.2.2.2.2.2.2.2 x.2.2.2.2.1
def w20n0 [Alg] (N : Nat) (a0 : Bool) (a1 : Int) (a2 : Int) (a3 : Int) (a4 : Int) (a5 : Int) (a6 : Int) (a7 : Int) (k0 : Bool → O) (k1 : Bool → O) : O := w20l0 N N (a0, a1, a2, a3, a4, a5, a6, a7) (fun y => k0 y) (fun y => k1 y) (fun _ => none)
noncomputable def w20s0 [Alg] (N : Nat) (a0 : Bool) (a1 : Int) (a2 : Int) (a3 : Int) (a4 : Int) (a5 : Int) (a6 : Int) (a7 : Int) (k0 : Bool → O) (k1 : Bool → O) : O := subL w20I0 w20u0 (w20l0 N N) (w20I0 (a0, a1, a2, a3, a4, a5, a6, a7)) (fun y => k0 y) (fun y => k1 y) (fun _ => none)
theorem w20e0 [Alg] (N : Nat) : w20s0 N = w20n0 N := funext fun _ => funext fun _ => funext fun _ => funext fun _ => funext fun _ => funext fun _ => funext fun _ => funext fun _ => funext fun _ => funext fun _ => subL_I w20ui0 _ _ _ _
noncomputable def w20h0 [Alg] (_ : Nat) : Hint := (.seq .d (.seq .d (.seq (.block (.seq .d (.seq (.reg [2, 3] [] []) .d))) .d)))
theorem w20hk0 (N : Nat) : HintOk (w20c N) Tryd.f20.ntmps (w20h0 N) w20b0 := hk_of _ _ (And.intro trivial (And.intro trivial (And.intro (And.intro trivial (And.intro trivial trivial)) trivial)))
theorem w20q0 [Alg] (N : Nat) (self : Sg → O) (K : Exit → Sg → O) (x : Bool × Int × Int × Int × Int × Int × Int × Int) : w20F0 N  (fun v0 => self (w20I0 (x.1, x.2.1, x.2.2.1, x.2.2.2.1, v0, x.2.2.2.2.2.1, x.2.2.2.2.2.2.1, x.2.2.2.2.2.2.2))) (fun y0 => K (w20X0_0 y0).1 (w20X0_0 y0).2) (fun y0 => K (w20X0_1 y0).1 (w20X0_1 y0).2) x.1 x.2.1 x.2.2.1 x.2.2.2.1 x.2.2.2.2.2.1 x.2.2.2.2.2.2.1 x.2.2.2.2.2.2.2 x.2.2.2.2.1 = exec (w20c N) Tryd.f20.ntmps (w20h0 N) w20b0 (w20I0 x) (roundX w20m0 w20w0 self K) := by kernel_rfl
theorem w20S0 (N : Nat) (hc : CxOk (w20c N)) : SubOk (w20c N) Tryd.f20.ntmps (.loop w20b0) w20X0_0 w20X0_1 (noX 2) (subL w20I0 w20u0 (w20l0 N N)) :=
 sub_loop hc (w20hk0 N) w20o0 (n := N) (fun x K => loop_ind (w20l0 N) (fun _ _ _ _ => rfl) (fun n K ih x => by
  have h : w20F0 N  (fun v0 => w20l0 N n (x.1, x.2.1, x.2.2.1, x.2.2.2.1, v0, x.2.2.2.2.2.1, x.2.2.2.2.2.2.1, x.2.2.2.2.2.2.2) (fun y => K (w20X0_0 y).1 (w20X0_0 y).2) (fun y => K (w20X0_1 y).1 (w20X0_1 y).2) (fun y => K ((noX 2) y).1 ((noX 2) y).2)) (fun y0 => K (w20X0_0 y0).1 (w20X0_0 y0).2) (fun y0 => K (w20X0_1 y0).1 (w20X0_1 y0).2) x.1 x.2.1 x.2.2.1 x.2.2.2.1 x.2.2.2.2.2.1 x.2.2.2.2.2.2.1 x.2.2.2.2.2.2.2 x.2.2.2.2.1 = w20F0 N  (fun v0 => loopX (w20c N) Tryd.f20.ntmps (w20h0 N) w20b0 w20m0 w20w0 n (w20I0 (x.1, x.2.1, x.2.2.1, x.2.2.2.1, v0, x.2.2.2.2.2.1, x.2.2.2.2.2.2.1, x.2.2.2.2.2.2.2)) K) (fun y0 => K (w20X0_0 y0).1 (w20X0_0 y0).2) (fun y0 => K (w20X0_1 y0).1 (w20X0_1 y0).2) x.1 x.2.1 x.2.2.1 x.2.2.2.1 x.2.2.2.2.2.1 x.2.2.2.2.2.2.1 x.2.2.2.2.2.2.2 x.2.2.2.2.1 := by rw [ show (fun v0 => w20l0 N n (x.1, x.2.1, x.2.2.1, x.2.2.2.1, v0, x.2.2.2.2.2.1, x.2.2.2.2.2.2.1, x.2.2.2.2.2.2.2) (fun y => K (w20X0_0 y).1 (w20X0_0 y).2) (fun y => K (w20X0_1 y).1 (w20X0_1 y).2) (fun y => K ((noX 2) y).1 ((noX 2) y).2)) = (fun v0 => loopX (w20c N) Tryd.f20.ntmps (w20h0 N) w20b0 w20m0 w20w0 n (w20I0 (x.1, x.2.1, x.2.2.1, x.2.2.2.1, v0, x.2.2.2.2.2.1, x.2.2.2.2.2.2.1, x.2.2.2.2.2.2.2)) K) from funext fun _ => ih _]
  exact h.trans (w20q0 N (fun σ => loopX (w20c N) Tryd.f20.ntmps (w20h0 N) w20b0 w20m0 w20w0 n σ K) K x)) N x K)
def w20G [Alg] (_ : Nat) (in0 : Bool → Int → Int → Int → Int → Int → Int → Int → (Bool → O) → (Bool → O) → O) (remedy0_0 : Int) (remedy0_1 : Int) (remedy0_2 : Int) (fault1_0 : Int) (fault1_1 : Int) (fault1_2 : Int) : O :=
 in0 false remedy0_0 remedy0_1 remedy0_2 ((0 : Int)) fault1_0 fault1_1 fault1_2
  (fun z7 =>
   some (w20r0 z7))
  (fun _ =>
   some (w20r0 false))
def w20 [Alg] (N : Nat) (remedy0_0 : Int) (remedy0_1 : Int) (remedy0_2 : Int) (fault1_0 : Int) (fault1_1 : Int) (fault1_2 : Int) : O := w20G N (w20n0 N) remedy0_0 remedy0_1 remedy0_2 fault1_0 fault1_1 fault1_2
noncomputable def w20h [Alg] (N : Nat) : Hint := (.seq .d (.seq (.seq .d (.block (.sub w20m0 _ _ _ w20X0_0 w20X0_1 (noX 2) (subL w20I0 w20u0 (w20l0 N N))))) .d))
theorem w20hk (N : Nat) (hc : CxOk (w20c N)) : HintOk (w20c N) Tryd.f20.ntmps (w20h N) w20b := hk_of _ _ (And.intro trivial (And.intro (And.intro trivial (w20S0 N hc)) trivial))
theorem w20q [Alg] (N : Nat) (remedy0_0 : Int) (remedy0_1 : Int) (remedy0_2 : Int) (fault1_0 : Int) (fault1_1 : Int) (fault1_2 : Int) : w20G N (w20s0 N) remedy0_0 remedy0_1 remedy0_2 fault1_0 fault1_1 fault1_2 = exec (w20c N) Tryd.f20.ntmps (w20h N) w20b ⟨argT 0 [.agg [.e (.i .i64) remedy0_0, .e (.i .i64) remedy0_1, .e (.i .i64) remedy0_2], .agg [.e (.i .i64) fault1_0, .e (.i .i64) fault1_1, .e (.i .i64) fault1_2]], [], 100⟩ (finX (w20c N) Tryd.f20 false) := by kernel_rfl
theorem w20does {N : Nat} (hc : CxOk (w20c N)) {remedy0_0 : Int} {remedy0_1 : Int} {remedy0_2 : Int} {fault1_0 : Int} {fault1_1 : Int} {fault1_2 : Int} {r : Res} (h : w20 N remedy0_0 remedy0_1 remedy0_2 fault1_0 fault1_1 fault1_2 = some r) : Does Tryd.prog 20 (([.agg [.e (.i .i64) remedy0_0, .e (.i .i64) remedy0_1, .e (.i .i64) remedy0_2], .agg [.e (.i .i64) fault1_0, .e (.i .i64) fault1_1, .e (.i .i64) fault1_2]] : List X).map X.D) (HA []) r.1.D (HA r.2) :=
 fun_ok hc (f := 20) (fn := Tryd.f20) (code := w20b) (by kernel_rfl) (by kernel_rfl) (w20hk N hc) (Nat.le_of_ble_eq_true (by kernel_rfl)) (ow := false) ((w20q N remedy0_0 remedy0_1 remedy0_2 fault1_0 fault1_1 fault1_2).symm.trans (by rw [w20e0 N]; exact h))
def w20un (r : Res) : Option (Bool) := match r with
 | (x0, []) => (match ue .bo x0 with | some a0 => some a0 | _ => none)
 | _ => none
theorem w20uo {r : Res} {d : Bool} (h : w20un r = some d) : r = w20r0 (d) := by
 unfold w20un at h
 split at h
 ·split at h
  ·rename_i h0; cases h; rw [ue_some h0]; rfl
  ·cases h
 ·cases h
def w20z (N : Nat) (remedy0_0 : Int) (remedy0_1 : Int) (remedy0_2 : Int) (fault1_0 : Int) (fault1_1 : Int) (fault1_2 : Int) : Option (Bool) := (w20 N remedy0_0 remedy0_1 remedy0_2 fault1_0 fault1_1 fault1_2).bind w20un
theorem w20fin {N : Nat} (hc : CxOk (w20c N)) {remedy0_0 : Int} {remedy0_1 : Int} {remedy0_2 : Int} {fault1_0 : Int} {fault1_1 : Int} {fault1_2 : Int} {d : Bool} (hd : w20z N remedy0_0 remedy0_1 remedy0_2 fault1_0 fault1_1 fault1_2 = some d) : Does Tryd.prog 20 (([.agg [.e (.i .i64) remedy0_0, .e (.i .i64) remedy0_1, .e (.i .i64) remedy0_2], .agg [.e (.i .i64) fault1_0, .e (.i .i64) fault1_1, .e (.i .i64) fault1_2]] : List X).map X.D) (HA []) (w20r0 (d)).1.D (HA (w20r0 (d)).2) := by
 obtain ⟨r, hr, hu⟩ := Option.bind_eq_some_iff.1 hd
 have := w20does hc hr
 rw [w20uo hu] at this
 exact this
def w20p (N : Nat) (remedy0_0 : Int) (remedy0_1 : Int) (remedy0_2 : Int) (fault1_0 : Int) (fault1_1 : Int) (fault1_2 : Int) : Bool := (w20z N remedy0_0 remedy0_1 remedy0_2 fault1_0 fault1_1 fault1_2).isSome
def w20y0 (N : Nat) (remedy0_0 : Int) (remedy0_1 : Int) (remedy0_2 : Int) (fault1_0 : Int) (fault1_1 : Int) (fault1_2 : Int) : Bool := ((w20z N remedy0_0 remedy0_1 remedy0_2 fault1_0 fault1_1 fault1_2).getD false)
def w20e (N : Nat) : Ent' := E2 (.pr (.i .i64) (.pr (.i .i64) (.i .i64))) (.pr (.i .i64) (.pr (.i .i64) (.i .i64)))  (fun x0 x1 => (w20p N x0.1 x0.2.1 x0.2.2 x1.1 x1.2.1 x1.2.2, w20r0 (w20y0 N x0.1 x0.2.1 x0.2.2 x1.1 x1.2.1 x1.2.2)))
theorem w20re {N : Nat} {remedy0_0 : Int} {remedy0_1 : Int} {remedy0_2 : Int} {fault1_0 : Int} {fault1_1 : Int} {fault1_2 : Int} {d : Bool} (hd : w20z N remedy0_0 remedy0_1 remedy0_2 fault1_0 fault1_1 fault1_2 = some d) : w20r0 (w20y0 N remedy0_0 remedy0_1 remedy0_2 fault1_0 fault1_1 fault1_2) = w20r0 (d) := by unfold w20y0; rw [hd]; rfl
theorem w20ok (N : Nat) : EOk Tryd.prog 20 (w20e N) := EOk.e2 (fun x0 x1 h => by
 have h : (w20z N x0.1 x0.2.1 x0.2.2 x1.1 x1.2.1 x1.2.2).isSome = true := h
 obtain ⟨d, hd⟩ := Option.isSome_iff_exists.1 h
 have f := w20fin (w20cx N) hd
 rw [← w20re hd] at f
 exact f)
def w17r0 (a0 : (List Bool)) : Res := (.e (.sl .bo) a0, [])
noncomputable def w17L (_ : Nat) : List (Nat × Ent') := []
noncomputable def w17c (N : Nat) : Cx := ⟨Tryd.prog, 99999, w17L N⟩
noncomputable def w17b : Code := Tryd.f17.body.getD .skip
theorem w17cx (N : Nat) : CxOk (w17c N) := ctx_ok (by kernel_rfl) .nil
def w17F0 [Alg] (_ : Nat)  (self : Int → (List Bool) → O) (k0 : (List Bool) → O) (x0_0 : Int) (x0_1 : Int) (x0_2 : (List Bool)) : O :=
 br (decide (x0_1 < (16 : Int)))
  (ck (decide ((0 : Int) ≤ IntKind.u64.wrap x0_1)) <|
  ck true <|
  ck (lim (x0_2 ++ [decide ((x0_0.fdiv ((2 : Int) ^ min (IntKind.u64.wrap x0_1).toNat (64 : Nat))).tmod (2 : Int) = (1 : Int))]).length (1 : Nat)) <|
  self (IntKind.i64.wrap (x0_1 + (1 : Int))) (x0_2 ++ [decide ((x0_0.fdiv ((2 : Int) ^ min (IntKind.u64.wrap x0_1).toNat (64 : Nat))).tmod (2 : Int) = (1 : Int))]))
  (k0 x0_2)
noncomputable def w17b0 : Code := atC [1, 1, 0, 1, 0, 0] w17b
def w17m0 : Nm := ⟨[0, 2, 3, 4], [], [.nilR 3 (.row 4 .bo [] true)]⟩
def w17I0 (x : Int × Int × (List Bool)) : Sg := ⟨[(0, .e (.i .i64) x.1), (2, .nilS), (3, .own 0), (4, .e (.i .i64) x.2.1)], [(0, .row 4 .bo x.2.2 true)], 100⟩
def w17u0 (σ : Sg) : Int × Int × (List Bool) := (lvT (.i .i64) 0 0 σ, lvT (.i .i64) 4 0 σ, lvR .bo 0 σ)
theorem w17ui0 : ∀ x, w17u0 (w17I0 x) = x := fun _ => by kernel_rfl
def w17X0_0 (y : (List Bool)) : Exit × Sg := ((.exit 0), ⟨[(2, .nilS), (3, .own 0)], [(0, .row 4 .bo y true)], 100⟩)
def w17v0_0 (σ : Sg) : (List Bool) := lvR .bo 0 σ
def w17w0 : List (Exit × Nm) := [((.exit 0), ⟨[2, 3], [], []⟩)]
theorem w17o0 : Outs w17v0_0 (fun _ => ()) (fun _ => ()) w17X0_0 (noX 1) (noX 2) (.exit 0) (.goto 1) (.goto 2) := ⟨fun _ => by kernel_rfl, fun _ => by kernel_rfl, fun _ => by kernel_rfl, fun _ => by kernel_rfl, fun _ => by kernel_rfl, fun _ => by kernel_rfl, exNe_ok (by kernel_rfl), exNe_ok (by kernel_rfl), exNe_ok (by kernel_rfl)⟩
def w17l0 [Alg] (N : Nat) : Nat → (Int × Int × (List Bool)) → (((List Bool)) → O) → ((Unit) → O) → ((Unit) → O) → O
 | 0, _, _, _, _ => none
 | n + 1, x, k0, k1, k2 => w17F0 N  (fun v0 v1 => w17l0 N n (x.1, v0, v1) k0 k1 k2) (fun y0 => k0 y0) x.1 x.2.1 x.2.2
def w17n0 [Alg] (N : Nat) (a0 : Int) (a1 : Int) (a2 : (List Bool)) (k0 : (List Bool) → O) : O := w17l0 N N (a0, a1, a2) (fun y => k0 y) (fun _ => none) (fun _ => none)
noncomputable def w17s0 [Alg] (N : Nat) (a0 : Int) (a1 : Int) (a2 : (List Bool)) (k0 : (List Bool) → O) : O := subL w17I0 w17u0 (w17l0 N N) (w17I0 (a0, a1, a2)) (fun y => k0 y) (fun _ => none) (fun _ => none)
theorem w17e0 [Alg] (N : Nat) : w17s0 N = w17n0 N := funext fun _ => funext fun _ => funext fun _ => funext fun _ => subL_I w17ui0 _ _ _ _
noncomputable def w17h0 [Alg] (_ : Nat) : Hint := .d
theorem w17hk0 (N : Nat) : HintOk (w17c N) Tryd.f17.ntmps (w17h0 N) w17b0 := hk_of _ _ trivial
theorem w17q0 [Alg] (N : Nat) (self : Sg → O) (K : Exit → Sg → O) (x : Int × Int × (List Bool)) : w17F0 N  (fun v0 v1 => self (w17I0 (x.1, v0, v1))) (fun y0 => K (w17X0_0 y0).1 (w17X0_0 y0).2) x.1 x.2.1 x.2.2 = exec (w17c N) Tryd.f17.ntmps (w17h0 N) w17b0 (w17I0 x) (roundX w17m0 w17w0 self K) := by kernel_rfl
theorem w17S0 (N : Nat) (hc : CxOk (w17c N)) : SubOk (w17c N) Tryd.f17.ntmps (.loop w17b0) w17X0_0 (noX 1) (noX 2) (subL w17I0 w17u0 (w17l0 N N)) :=
 sub_loop hc (w17hk0 N) w17o0 (n := N) (fun x K => loop_ind (w17l0 N) (fun _ _ _ _ => rfl) (fun n K ih x => by
  have h : w17F0 N  (fun v0 v1 => w17l0 N n (x.1, v0, v1) (fun y => K (w17X0_0 y).1 (w17X0_0 y).2) (fun y => K ((noX 1) y).1 ((noX 1) y).2) (fun y => K ((noX 2) y).1 ((noX 2) y).2)) (fun y0 => K (w17X0_0 y0).1 (w17X0_0 y0).2) x.1 x.2.1 x.2.2 = w17F0 N  (fun v0 v1 => loopX (w17c N) Tryd.f17.ntmps (w17h0 N) w17b0 w17m0 w17w0 n (w17I0 (x.1, v0, v1)) K) (fun y0 => K (w17X0_0 y0).1 (w17X0_0 y0).2) x.1 x.2.1 x.2.2 := by rw [ show (fun v0 v1 => w17l0 N n (x.1, v0, v1) (fun y => K (w17X0_0 y).1 (w17X0_0 y).2) (fun y => K ((noX 1) y).1 ((noX 1) y).2) (fun y => K ((noX 2) y).1 ((noX 2) y).2)) = (fun v0 v1 => loopX (w17c N) Tryd.f17.ntmps (w17h0 N) w17b0 w17m0 w17w0 n (w17I0 (x.1, v0, v1)) K) from funext fun _ => funext fun _ => ih _]
  exact h.trans (w17q0 N (fun σ => loopX (w17c N) Tryd.f17.ntmps (w17h0 N) w17b0 w17m0 w17w0 n σ K) K x)) N x K)
def w17G [Alg] (_ : Nat) (in0 : Int → Int → (List Bool) → ((List Bool) → O) → O) (n0 : Int) : O :=
 in0 n0 ((0 : Int)) []
  (fun z1 =>
   some (w17r0 z1))
def w17 [Alg] (N : Nat) (n0 : Int) : O := w17G N (w17n0 N) n0
noncomputable def w17h [Alg] (N : Nat) : Hint := (.seq .d (.seq .d (.seq (.seq .d (.block (.sub w17m0 _ _ _ w17X0_0 (noX 1) (noX 2) (subL w17I0 w17u0 (w17l0 N N))))) .d)))
theorem w17hk (N : Nat) (hc : CxOk (w17c N)) : HintOk (w17c N) Tryd.f17.ntmps (w17h N) w17b := hk_of _ _ (And.intro trivial (And.intro trivial (And.intro (And.intro trivial (w17S0 N hc)) trivial)))
theorem w17q [Alg] (N : Nat) (n0 : Int) : w17G N (w17s0 N) n0 = exec (w17c N) Tryd.f17.ntmps (w17h N) w17b ⟨argT 0 [.e (.i .i64) n0], [], 100⟩ (finX (w17c N) Tryd.f17 false) := by kernel_rfl
theorem w17does {N : Nat} (hc : CxOk (w17c N)) {n0 : Int} {r : Res} (h : w17 N n0 = some r) : Does Tryd.prog 17 (([.e (.i .i64) n0] : List X).map X.D) (HA []) r.1.D (HA r.2) :=
 fun_ok hc (f := 17) (fn := Tryd.f17) (code := w17b) (by kernel_rfl) (by kernel_rfl) (w17hk N hc) (Nat.le_of_ble_eq_true (by kernel_rfl)) (ow := false) ((w17q N n0).symm.trans (by rw [w17e0 N]; exact h))
def w17un (r : Res) : Option ((List Bool)) := match r with
 | (x0, []) => (match ue (.sl .bo) x0 with | some a0 => some a0 | _ => none)
 | _ => none
theorem w17uo {r : Res} {d : (List Bool)} (h : w17un r = some d) : r = w17r0 (d) := by
 unfold w17un at h
 split at h
 ·split at h
  ·rename_i h0; cases h; rw [ue_some h0]; rfl
  ·cases h
 ·cases h
def w17z (N : Nat) (n0 : Int) : Option ((List Bool)) := (w17 N n0).bind w17un
theorem w17fin {N : Nat} (hc : CxOk (w17c N)) {n0 : Int} {d : (List Bool)} (hd : w17z N n0 = some d) : Does Tryd.prog 17 (([.e (.i .i64) n0] : List X).map X.D) (HA []) (w17r0 (d)).1.D (HA (w17r0 (d)).2) := by
 obtain ⟨r, hr, hu⟩ := Option.bind_eq_some_iff.1 hd
 have := w17does hc hr
 rw [w17uo hu] at this
 exact this
def w17p (N : Nat) (n0 : Int) : Bool := (w17z N n0).isSome
def w17y0 (N : Nat) (n0 : Int) : (List Bool) := ((w17z N n0).getD [])
def w17e (N : Nat) : Ent' := E1 (.i .i64)  (fun x0 => (w17p N x0, w17r0 (w17y0 N x0)))
theorem w17re {N : Nat} {n0 : Int} {d : (List Bool)} (hd : w17z N n0 = some d) : w17r0 (w17y0 N n0) = w17r0 (d) := by unfold w17y0; rw [hd]; rfl
theorem w17ok (N : Nat) : EOk Tryd.prog 17 (w17e N) := EOk.e1 (fun x0 h => by
 have h : (w17z N x0).isSome = true := h
 obtain ⟨d, hd⟩ := Option.isSome_iff_exists.1 h
 have f := w17fin (w17cx N) hd
 rw [← w17re hd] at f
 exact f)
def w27r0 (a0 : (List ((List Int) × (Int × Int)))) : Res := (.e (.sl (.pr (.sl (.i .i64)) (.pr (.i .i64) (.i .i64)))) a0, [])
noncomputable def w27L (_ : Nat) : List (Nat × Ent') := []
noncomputable def w27c (N : Nat) : Cx := ⟨Tryd.prog, 99999, w27L N⟩
noncomputable def w27b : Code := Tryd.f27.body.getD .skip
theorem w27cx (N : Nat) : CxOk (w27c N) := ctx_ok (by kernel_rfl) .nil
def w27F0 [Alg] (_ : Nat)  (self : Int → (List ((List Int) × (Int × Int))) → O) (k0 : (List ((List Int) × (Int × Int))) → O) (x0_0 : (List ((List Int) × (Int × Int)))) (x0_1 : Int) (x0_2 : (List ((List Int) × (Int × Int)))) : O :=
 br (decide (x0_1 < (↑x0_0.length : Int)))
  (gx x0_0 x0_1 fun y10 =>
  gx x0_0 x0_1 fun y11 =>
  gx x0_0 x0_1 fun y12 =>
  ck (lim (x0_2 ++ [(y10.1, y11.2.1, y12.2.2)]).length (40 : Nat)) <|
  self (IntKind.i64.wrap (x0_1 + (1 : Int))) (x0_2 ++ [(y10.1, y11.2.1, y12.2.2)]))
  (k0 x0_2)
noncomputable def w27b0 : Code := atC [1, 1, 0, 1, 0, 0] w27b
def w27m0 : Nm := ⟨[0, 2, 3, 4], [], [.nilR 3 (.row 49 (.pr (.sl (.i .i64)) (.pr (.i .i64) (.i .i64))) [] true)]⟩
def w27I0 (x : (List ((List Int) × (Int × Int))) × Int × (List ((List Int) × (Int × Int)))) : Sg := ⟨[(0, .e (.sl (.pr (.sl (.i .i64)) (.pr (.i .i64) (.i .i64)))) x.1), (2, .nilS), (3, .own 0), (4, .e (.i .i64) x.2.1)], [(0, .row 49 (.pr (.sl (.i .i64)) (.pr (.i .i64) (.i .i64))) x.2.2 true)], 100⟩
def w27u0 (σ : Sg) : (List ((List Int) × (Int × Int))) × Int × (List ((List Int) × (Int × Int))) := (lvT (.sl (.pr (.sl (.i .i64)) (.pr (.i .i64) (.i .i64)))) 0 0 σ, lvT (.i .i64) 4 0 σ, lvR (.pr (.sl (.i .i64)) (.pr (.i .i64) (.i .i64))) 0 σ)
theorem w27ui0 : ∀ x, w27u0 (w27I0 x) = x := fun _ => by kernel_rfl
def w27X0_0 (y : (List ((List Int) × (Int × Int)))) : Exit × Sg := ((.exit 0), ⟨[(2, .nilS), (3, .own 0)], [(0, .row 49 (.pr (.sl (.i .i64)) (.pr (.i .i64) (.i .i64))) y true)], 100⟩)
def w27v0_0 (σ : Sg) : (List ((List Int) × (Int × Int))) := lvR (.pr (.sl (.i .i64)) (.pr (.i .i64) (.i .i64))) 0 σ
def w27w0 : List (Exit × Nm) := [((.exit 0), ⟨[2, 3], [], []⟩)]
theorem w27o0 : Outs w27v0_0 (fun _ => ()) (fun _ => ()) w27X0_0 (noX 1) (noX 2) (.exit 0) (.goto 1) (.goto 2) := ⟨fun _ => by kernel_rfl, fun _ => by kernel_rfl, fun _ => by kernel_rfl, fun _ => by kernel_rfl, fun _ => by kernel_rfl, fun _ => by kernel_rfl, exNe_ok (by kernel_rfl), exNe_ok (by kernel_rfl), exNe_ok (by kernel_rfl)⟩
def w27l0 [Alg] (N : Nat) : Nat → ((List ((List Int) × (Int × Int))) × Int × (List ((List Int) × (Int × Int)))) → (((List ((List Int) × (Int × Int)))) → O) → ((Unit) → O) → ((Unit) → O) → O
 | 0, _, _, _, _ => none
 | n + 1, x, k0, k1, k2 => w27F0 N  (fun v0 v1 => w27l0 N n (x.1, v0, v1) k0 k1 k2) (fun y0 => k0 y0) x.1 x.2.1 x.2.2
def w27n0 [Alg] (N : Nat) (a0 : (List ((List Int) × (Int × Int)))) (a1 : Int) (a2 : (List ((List Int) × (Int × Int)))) (k0 : (List ((List Int) × (Int × Int))) → O) : O := w27l0 N N (a0, a1, a2) (fun y => k0 y) (fun _ => none) (fun _ => none)
noncomputable def w27s0 [Alg] (N : Nat) (a0 : (List ((List Int) × (Int × Int)))) (a1 : Int) (a2 : (List ((List Int) × (Int × Int)))) (k0 : (List ((List Int) × (Int × Int))) → O) : O := subL w27I0 w27u0 (w27l0 N N) (w27I0 (a0, a1, a2)) (fun y => k0 y) (fun _ => none) (fun _ => none)
theorem w27e0 [Alg] (N : Nat) : w27s0 N = w27n0 N := funext fun _ => funext fun _ => funext fun _ => funext fun _ => subL_I w27ui0 _ _ _ _
noncomputable def w27h0 [Alg] (_ : Nat) : Hint := (.seq .d (.seq (.block (.reg [] [] [[], [], [], [], [], [], [], [], [], [], [], [], [], [], [], [], [], [], [276, 0], []])) .d))
theorem w27hk0 (N : Nat) : HintOk (w27c N) Tryd.f27.ntmps (w27h0 N) w27b0 := hk_of _ _ (And.intro trivial (And.intro trivial trivial))
theorem w27q0 [Alg] (N : Nat) (self : Sg → O) (K : Exit → Sg → O) (x : (List ((List Int) × (Int × Int))) × Int × (List ((List Int) × (Int × Int)))) : w27F0 N  (fun v0 v1 => self (w27I0 (x.1, v0, v1))) (fun y0 => K (w27X0_0 y0).1 (w27X0_0 y0).2) x.1 x.2.1 x.2.2 = exec (w27c N) Tryd.f27.ntmps (w27h0 N) w27b0 (w27I0 x) (roundX w27m0 w27w0 self K) := by kernel_rfl
theorem w27S0 (N : Nat) (hc : CxOk (w27c N)) : SubOk (w27c N) Tryd.f27.ntmps (.loop w27b0) w27X0_0 (noX 1) (noX 2) (subL w27I0 w27u0 (w27l0 N N)) :=
 sub_loop hc (w27hk0 N) w27o0 (n := N) (fun x K => loop_ind (w27l0 N) (fun _ _ _ _ => rfl) (fun n K ih x => by
  have h : w27F0 N  (fun v0 v1 => w27l0 N n (x.1, v0, v1) (fun y => K (w27X0_0 y).1 (w27X0_0 y).2) (fun y => K ((noX 1) y).1 ((noX 1) y).2) (fun y => K ((noX 2) y).1 ((noX 2) y).2)) (fun y0 => K (w27X0_0 y0).1 (w27X0_0 y0).2) x.1 x.2.1 x.2.2 = w27F0 N  (fun v0 v1 => loopX (w27c N) Tryd.f27.ntmps (w27h0 N) w27b0 w27m0 w27w0 n (w27I0 (x.1, v0, v1)) K) (fun y0 => K (w27X0_0 y0).1 (w27X0_0 y0).2) x.1 x.2.1 x.2.2 := by rw [ show (fun v0 v1 => w27l0 N n (x.1, v0, v1) (fun y => K (w27X0_0 y).1 (w27X0_0 y).2) (fun y => K ((noX 1) y).1 ((noX 1) y).2) (fun y => K ((noX 2) y).1 ((noX 2) y).2)) = (fun v0 v1 => loopX (w27c N) Tryd.f27.ntmps (w27h0 N) w27b0 w27m0 w27w0 n (w27I0 (x.1, v0, v1)) K) from funext fun _ => funext fun _ => ih _]
  exact h.trans (w27q0 N (fun σ => loopX (w27c N) Tryd.f27.ntmps (w27h0 N) w27b0 w27m0 w27w0 n σ K) K x)) N x K)
def w27G [Alg] (_ : Nat) (in0 : (List ((List Int) × (Int × Int))) → Int → (List ((List Int) × (Int × Int))) → ((List ((List Int) × (Int × Int))) → O) → O) (l0 : (List ((List Int) × (Int × Int)))) : O :=
 in0 l0 ((0 : Int)) []
  (fun z13 =>
   some (w27r0 z13))
def w27 [Alg] (N : Nat) (l0 : (List ((List Int) × (Int × Int)))) : O := w27G N (w27n0 N) l0
noncomputable def w27h [Alg] (N : Nat) : Hint := (.seq .d (.seq .d (.seq (.seq .d (.block (.sub w27m0 _ _ _ w27X0_0 (noX 1) (noX 2) (subL w27I0 w27u0 (w27l0 N N))))) .d)))
theorem w27hk (N : Nat) (hc : CxOk (w27c N)) : HintOk (w27c N) Tryd.f27.ntmps (w27h N) w27b := hk_of _ _ (And.intro trivial (And.intro trivial (And.intro (And.intro trivial (w27S0 N hc)) trivial)))
theorem w27q [Alg] (N : Nat) (l0 : (List ((List Int) × (Int × Int)))) : w27G N (w27s0 N) l0 = exec (w27c N) Tryd.f27.ntmps (w27h N) w27b ⟨argT 0 [.e (.sl (.pr (.sl (.i .i64)) (.pr (.i .i64) (.i .i64)))) l0], [], 100⟩ (finX (w27c N) Tryd.f27 false) := by kernel_rfl
theorem w27does {N : Nat} (hc : CxOk (w27c N)) {l0 : (List ((List Int) × (Int × Int)))} {r : Res} (h : w27 N l0 = some r) : Does Tryd.prog 27 (([.e (.sl (.pr (.sl (.i .i64)) (.pr (.i .i64) (.i .i64)))) l0] : List X).map X.D) (HA []) r.1.D (HA r.2) :=
 fun_ok hc (f := 27) (fn := Tryd.f27) (code := w27b) (by kernel_rfl) (by kernel_rfl) (w27hk N hc) (Nat.le_of_ble_eq_true (by kernel_rfl)) (ow := false) ((w27q N l0).symm.trans (by rw [w27e0 N]; exact h))
def w27un (r : Res) : Option ((List ((List Int) × (Int × Int)))) := match r with
 | (x0, []) => (match ue (.sl (.pr (.sl (.i .i64)) (.pr (.i .i64) (.i .i64)))) x0 with | some a0 => some a0 | _ => none)
 | _ => none
theorem w27uo {r : Res} {d : (List ((List Int) × (Int × Int)))} (h : w27un r = some d) : r = w27r0 (d) := by
 unfold w27un at h
 split at h
 ·split at h
  ·rename_i h0; cases h; rw [ue_some h0]; rfl
  ·cases h
 ·cases h
def w27z (N : Nat) (l0 : (List ((List Int) × (Int × Int)))) : Option ((List ((List Int) × (Int × Int)))) := (w27 N l0).bind w27un
theorem w27fin {N : Nat} (hc : CxOk (w27c N)) {l0 : (List ((List Int) × (Int × Int)))} {d : (List ((List Int) × (Int × Int)))} (hd : w27z N l0 = some d) : Does Tryd.prog 27 (([.e (.sl (.pr (.sl (.i .i64)) (.pr (.i .i64) (.i .i64)))) l0] : List X).map X.D) (HA []) (w27r0 (d)).1.D (HA (w27r0 (d)).2) := by
 obtain ⟨r, hr, hu⟩ := Option.bind_eq_some_iff.1 hd
 have := w27does hc hr
 rw [w27uo hu] at this
 exact this
def w27p (N : Nat) (l0 : (List ((List Int) × (Int × Int)))) : Bool := (w27z N l0).isSome
def w27y0 (N : Nat) (l0 : (List ((List Int) × (Int × Int)))) : (List ((List Int) × (Int × Int))) := ((w27z N l0).getD [])
def w27e (N : Nat) : Ent' := E1 (.sl (.pr (.sl (.i .i64)) (.pr (.i .i64) (.i .i64))))  (fun x0 => (w27p N x0, w27r0 (w27y0 N x0)))
theorem w27re {N : Nat} {l0 : (List ((List Int) × (Int × Int)))} {d : (List ((List Int) × (Int × Int)))} (hd : w27z N l0 = some d) : w27r0 (w27y0 N l0) = w27r0 (d) := by unfold w27y0; rw [hd]; rfl
theorem w27ok (N : Nat) : EOk Tryd.prog 27 (w27e N) := EOk.e1 (fun x0 h => by
 have h : (w27z N x0).isSome = true := h
 obtain ⟨d, hd⟩ := Option.isSome_iff_exists.1 h
 have f := w27fin (w27cx N) hd
 rw [← w27re hd] at f
 exact f)
def w44r0 (a0 : Bool) : Res := (.e .bo a0, [])
noncomputable def w44L (_ : Nat) : List (Nat × Ent') := []
noncomputable def w44c (N : Nat) : Cx := ⟨Tryd.prog, 99999, w44L N⟩
noncomputable def w44b : Code := Tryd.f44.body.getD .skip
theorem w44cx (N : Nat) : CxOk (w44c N) := ctx_ok (by kernel_rfl) .nil
def w44F0 [Alg] (_ : Nat)  (self : Int → O) (k0 : Bool → O) (k1 : Bool → O) (x0_0 : (List Int)) (x0_1 : (List Int)) (x0_2 : Bool) (x0_3 : Int) : O :=
 br (decide (x0_3 < (↑x0_0.length : Int)))
  (gx x0_0 x0_3 fun y5 =>
  gx x0_1 x0_3 fun y6 =>
  br (decide (y5 ≠ y6))
   (k0 false)
   (self (IntKind.i64.wrap (x0_3 + (1 : Int)))))
  (k1 x0_2)
noncomputable def w44b0 : Code := atC [1, 1, 0, 1, 0, 0] w44b
def w44m0 : Nm := ⟨[0, 1, 4, 5], [], []⟩
def w44I0 (x : (List Int) × (List Int) × Bool × Int) : Sg := ⟨[(0, .e (.sl (.i .i64)) x.1), (1, .e (.sl (.i .i64)) x.2.1), (4, .e .bo x.2.2.1), (5, .e (.i .i64) x.2.2.2)], [], 100⟩
def w44u0 (σ : Sg) : (List Int) × (List Int) × Bool × Int := (lvT (.sl (.i .i64)) 0 0 σ, lvT (.sl (.i .i64)) 1 0 σ, lvT .bo 4 0 σ, lvT (.i .i64) 5 0 σ)
theorem w44ui0 : ∀ x, w44u0 (w44I0 x) = x := fun _ => by kernel_rfl
def w44X0_0 (y : Bool) : Exit × Sg := (.ret, ⟨[(4, .e .bo y)], [], 100⟩)
def w44v0_0 (σ : Sg) : Bool := lvT .bo 4 0 σ
def w44X0_1 (y : Bool) : Exit × Sg := ((.exit 0), ⟨[(4, .e .bo y)], [], 100⟩)
def w44v0_1 (σ : Sg) : Bool := lvT .bo 4 0 σ
def w44w0 : List (Exit × Nm) := [(.ret, ⟨[4], [], []⟩), ((.exit 0), ⟨[4], [], []⟩)]
theorem w44o0 : Outs w44v0_0 w44v0_1 (fun _ => ()) w44X0_0 w44X0_1 (noX 2) .ret (.exit 0) (.goto 2) := ⟨fun _ => by kernel_rfl, fun _ => by kernel_rfl, fun _ => by kernel_rfl, fun _ => by kernel_rfl, fun _ => by kernel_rfl, fun _ => by kernel_rfl, exNe_ok (by kernel_rfl), exNe_ok (by kernel_rfl), exNe_ok (by kernel_rfl)⟩
def w44l0 [Alg] (N : Nat) : Nat → ((List Int) × (List Int) × Bool × Int) → ((Bool) → O) → ((Bool) → O) → ((Unit) → O) → O
 | 0, _, _, _, _ => none
 | n + 1, x, k0, k1, k2 => w44F0 N  (fun v0 => w44l0 N n (x.1, x.2.1, x.2.2.1, v0) k0 k1 k2) (fun y0 => k0 y0) (fun y0 => k1 y0) x.1 x.2.1 x.2.2.1 x.2.2.2
def w44n0 [Alg] (N : Nat) (a0 : (List Int)) (a1 : (List Int)) (a2 : Bool) (a3 : Int) (k0 : Bool → O) (k1 : Bool → O) : O := w44l0 N N (a0, a1, a2, a3) (fun y => k0 y) (fun y => k1 y) (fun _ => none)
noncomputable def w44s0 [Alg] (N : Nat) (a0 : (List Int)) (a1 : (List Int)) (a2 : Bool) (a3 : Int) (k0 : Bool → O) (k1 : Bool → O) : O := subL w44I0 w44u0 (w44l0 N N) (w44I0 (a0, a1, a2, a3)) (fun y => k0 y) (fun y => k1 y) (fun _ => none)
theorem w44e0 [Alg] (N : Nat) : w44s0 N = w44n0 N := funext fun _ => funext fun _ => funext fun _ => funext fun _ => funext fun _ => funext fun _ => subL_I w44ui0 _ _ _ _
noncomputable def w44h0 [Alg] (_ : Nat) : Hint := .d
theorem w44hk0 (N : Nat) : HintOk (w44c N) Tryd.f44.ntmps (w44h0 N) w44b0 := hk_of _ _ trivial
theorem w44q0 [Alg] (N : Nat) (self : Sg → O) (K : Exit → Sg → O) (x : (List Int) × (List Int) × Bool × Int) : w44F0 N  (fun v0 => self (w44I0 (x.1, x.2.1, x.2.2.1, v0))) (fun y0 => K (w44X0_0 y0).1 (w44X0_0 y0).2) (fun y0 => K (w44X0_1 y0).1 (w44X0_1 y0).2) x.1 x.2.1 x.2.2.1 x.2.2.2 = exec (w44c N) Tryd.f44.ntmps (w44h0 N) w44b0 (w44I0 x) (roundX w44m0 w44w0 self K) := by kernel_rfl
theorem w44S0 (N : Nat) (hc : CxOk (w44c N)) : SubOk (w44c N) Tryd.f44.ntmps (.loop w44b0) w44X0_0 w44X0_1 (noX 2) (subL w44I0 w44u0 (w44l0 N N)) :=
 sub_loop hc (w44hk0 N) w44o0 (n := N) (fun x K => loop_ind (w44l0 N) (fun _ _ _ _ => rfl) (fun n K ih x => by
  have h : w44F0 N  (fun v0 => w44l0 N n (x.1, x.2.1, x.2.2.1, v0) (fun y => K (w44X0_0 y).1 (w44X0_0 y).2) (fun y => K (w44X0_1 y).1 (w44X0_1 y).2) (fun y => K ((noX 2) y).1 ((noX 2) y).2)) (fun y0 => K (w44X0_0 y0).1 (w44X0_0 y0).2) (fun y0 => K (w44X0_1 y0).1 (w44X0_1 y0).2) x.1 x.2.1 x.2.2.1 x.2.2.2 = w44F0 N  (fun v0 => loopX (w44c N) Tryd.f44.ntmps (w44h0 N) w44b0 w44m0 w44w0 n (w44I0 (x.1, x.2.1, x.2.2.1, v0)) K) (fun y0 => K (w44X0_0 y0).1 (w44X0_0 y0).2) (fun y0 => K (w44X0_1 y0).1 (w44X0_1 y0).2) x.1 x.2.1 x.2.2.1 x.2.2.2 := by rw [ show (fun v0 => w44l0 N n (x.1, x.2.1, x.2.2.1, v0) (fun y => K (w44X0_0 y).1 (w44X0_0 y).2) (fun y => K (w44X0_1 y).1 (w44X0_1 y).2) (fun y => K ((noX 2) y).1 ((noX 2) y).2)) = (fun v0 => loopX (w44c N) Tryd.f44.ntmps (w44h0 N) w44b0 w44m0 w44w0 n (w44I0 (x.1, x.2.1, x.2.2.1, v0)) K) from funext fun _ => ih _]
  exact h.trans (w44q0 N (fun σ => loopX (w44c N) Tryd.f44.ntmps (w44h0 N) w44b0 w44m0 w44w0 n σ K) K x)) N x K)
def w44G [Alg] (_ : Nat) (in0 : (List Int) → (List Int) → Bool → Int → (Bool → O) → (Bool → O) → O) (a0 : (List Int)) (b1 : (List Int)) : O :=
 br (decide ((↑a0.length : Int) ≠ (↑b1.length : Int)))
  (some (w44r0 false))
  (in0 a0 b1 false ((0 : Int))
   (fun z7 =>
    some (w44r0 z7))
   (fun _ =>
    some (w44r0 true)))
def w44 [Alg] (N : Nat) (a0 : (List Int)) (b1 : (List Int)) : O := w44G N (w44n0 N) a0 b1
noncomputable def w44h [Alg] (N : Nat) : Hint := (.seq .d (.seq .d (.seq (.seq .d (.block (.sub w44m0 _ _ _ w44X0_0 w44X0_1 (noX 2) (subL w44I0 w44u0 (w44l0 N N))))) .d)))
theorem w44hk (N : Nat) (hc : CxOk (w44c N)) : HintOk (w44c N) Tryd.f44.ntmps (w44h N) w44b := hk_of _ _ (And.intro trivial (And.intro trivial (And.intro (And.intro trivial (w44S0 N hc)) trivial)))
theorem w44q [Alg] (N : Nat) (a0 : (List Int)) (b1 : (List Int)) : w44G N (w44s0 N) a0 b1 = exec (w44c N) Tryd.f44.ntmps (w44h N) w44b ⟨argT 0 [.e (.sl (.i .i64)) a0, .e (.sl (.i .i64)) b1], [], 100⟩ (finX (w44c N) Tryd.f44 false) := by kernel_rfl
theorem w44does {N : Nat} (hc : CxOk (w44c N)) {a0 : (List Int)} {b1 : (List Int)} {r : Res} (h : w44 N a0 b1 = some r) : Does Tryd.prog 44 (([.e (.sl (.i .i64)) a0, .e (.sl (.i .i64)) b1] : List X).map X.D) (HA []) r.1.D (HA r.2) :=
 fun_ok hc (f := 44) (fn := Tryd.f44) (code := w44b) (by kernel_rfl) (by kernel_rfl) (w44hk N hc) (Nat.le_of_ble_eq_true (by kernel_rfl)) (ow := false) ((w44q N a0 b1).symm.trans (by rw [w44e0 N]; exact h))
def w44un (r : Res) : Option (Bool) := match r with
 | (x0, []) => (match ue .bo x0 with | some a0 => some a0 | _ => none)
 | _ => none
theorem w44uo {r : Res} {d : Bool} (h : w44un r = some d) : r = w44r0 (d) := by
 unfold w44un at h
 split at h
 ·split at h
  ·rename_i h0; cases h; rw [ue_some h0]; rfl
  ·cases h
 ·cases h
def w44z (N : Nat) (a0 : (List Int)) (b1 : (List Int)) : Option (Bool) := (w44 N a0 b1).bind w44un
theorem w44fin {N : Nat} (hc : CxOk (w44c N)) {a0 : (List Int)} {b1 : (List Int)} {d : Bool} (hd : w44z N a0 b1 = some d) : Does Tryd.prog 44 (([.e (.sl (.i .i64)) a0, .e (.sl (.i .i64)) b1] : List X).map X.D) (HA []) (w44r0 (d)).1.D (HA (w44r0 (d)).2) := by
 obtain ⟨r, hr, hu⟩ := Option.bind_eq_some_iff.1 hd
 have := w44does hc hr
 rw [w44uo hu] at this
 exact this
def w44p (N : Nat) (a0 : (List Int)) (b1 : (List Int)) : Bool := (w44z N a0 b1).isSome
def w44y0 (N : Nat) (a0 : (List Int)) (b1 : (List Int)) : Bool := ((w44z N a0 b1).getD false)
def w44e (N : Nat) : Ent' := E2 (.sl (.i .i64)) (.sl (.i .i64))  (fun x0 x1 => (w44p N x0 x1, w44r0 (w44y0 N x0 x1)))
theorem w44re {N : Nat} {a0 : (List Int)} {b1 : (List Int)} {d : Bool} (hd : w44z N a0 b1 = some d) : w44r0 (w44y0 N a0 b1) = w44r0 (d) := by unfold w44y0; rw [hd]; rfl
theorem w44ok (N : Nat) : EOk Tryd.prog 44 (w44e N) := EOk.e2 (fun x0 x1 h => by
 have h : (w44z N x0 x1).isSome = true := h
 obtain ⟨d, hd⟩ := Option.isSome_iff_exists.1 h
 have f := w44fin (w44cx N) hd
 rw [← w44re hd] at f
 exact f)
def w26r0 (a0 : Bool) : Res := (.e .bo a0, [])
noncomputable def w26L (N : Nat) : List (Nat × Ent') := [(44, w44e N)]
noncomputable def w26c (N : Nat) : Cx := ⟨Tryd.prog, 99999, w26L N⟩
noncomputable def w26b : Code := Tryd.f26.body.getD .skip
theorem w26cx (N : Nat) : CxOk (w26c N) := ctx_ok (by kernel_rfl) (.cons (by kernel_rfl) (w44ok N) .nil)
def w26F0 [Alg] (N : Nat)  (self : Int → O) (k0 : Bool → O) (k1 : Bool → O) (x0_0 : (List ((List Int) × (Int × Int)))) (x0_1 : (List ((List Int) × (Int × Int)))) (x0_2 : Bool) (x0_3 : Int) : O :=
 br (decide (x0_3 < (↑x0_0.length : Int)))
  (gx x0_0 x0_3 fun y13 =>
  gx x0_1 x0_3 fun y14 =>
  gc (!decide (y13.2.1 ≠ y14.2.1)) (([], ((0 : Int), (0 : Int)))) x0_0 x0_3 fun y15 =>
  gc (!decide (y13.2.1 ≠ y14.2.1)) (([], ((0 : Int), (0 : Int)))) x0_1 x0_3 fun y16 =>
  gc (!(decide (y13.2.1 ≠ y14.2.1) || decide (y15.2.2 ≠ y16.2.2))) (([], ((0 : Int), (0 : Int)))) x0_0 x0_3 fun y17 =>
  gc (!(decide (y13.2.1 ≠ y14.2.1) || decide (y15.2.2 ≠ y16.2.2))) (([], ((0 : Int), (0 : Int)))) x0_1 x0_3 fun y18 =>
  ck (!!(decide (y13.2.1 ≠ y14.2.1) || decide (y15.2.2 ≠ y16.2.2)) || w44p N y17.1 y18.1) <|
  br (decide (y13.2.1 ≠ y14.2.1) || decide (y15.2.2 ≠ y16.2.2) || !w44y0 N y17.1 y18.1)
   (k0 false)
   (self (IntKind.i64.wrap (x0_3 + (1 : Int)))))
  (k1 x0_2)
noncomputable def w26b0 : Code := atC [1, 1, 0, 1, 0, 0] w26b
def w26m0 : Nm := ⟨[0, 1, 4, 5], [], []⟩
def w26I0 (x : (List ((List Int) × (Int × Int))) × (List ((List Int) × (Int × Int))) × Bool × Int) : Sg := ⟨[(0, .e (.sl (.pr (.sl (.i .i64)) (.pr (.i .i64) (.i .i64)))) x.1), (1, .e (.sl (.pr (.sl (.i .i64)) (.pr (.i .i64) (.i .i64)))) x.2.1), (4, .e .bo x.2.2.1), (5, .e (.i .i64) x.2.2.2)], [], 100⟩
def w26u0 (σ : Sg) : (List ((List Int) × (Int × Int))) × (List ((List Int) × (Int × Int))) × Bool × Int := (lvT (.sl (.pr (.sl (.i .i64)) (.pr (.i .i64) (.i .i64)))) 0 0 σ, lvT (.sl (.pr (.sl (.i .i64)) (.pr (.i .i64) (.i .i64)))) 1 0 σ, lvT .bo 4 0 σ, lvT (.i .i64) 5 0 σ)
theorem w26ui0 : ∀ x, w26u0 (w26I0 x) = x := fun _ => by kernel_rfl
def w26X0_0 (y : Bool) : Exit × Sg := (.ret, ⟨[(4, .e .bo y)], [], 100⟩)
def w26v0_0 (σ : Sg) : Bool := lvT .bo 4 0 σ
def w26X0_1 (y : Bool) : Exit × Sg := ((.exit 0), ⟨[(4, .e .bo y)], [], 100⟩)
def w26v0_1 (σ : Sg) : Bool := lvT .bo 4 0 σ
def w26w0 : List (Exit × Nm) := [(.ret, ⟨[4], [], []⟩), ((.exit 0), ⟨[4], [], []⟩)]
theorem w26o0 : Outs w26v0_0 w26v0_1 (fun _ => ()) w26X0_0 w26X0_1 (noX 2) .ret (.exit 0) (.goto 2) := ⟨fun _ => by kernel_rfl, fun _ => by kernel_rfl, fun _ => by kernel_rfl, fun _ => by kernel_rfl, fun _ => by kernel_rfl, fun _ => by kernel_rfl, exNe_ok (by kernel_rfl), exNe_ok (by kernel_rfl), exNe_ok (by kernel_rfl)⟩
def w26l0 [Alg] (N : Nat) : Nat → ((List ((List Int) × (Int × Int))) × (List ((List Int) × (Int × Int))) × Bool × Int) → ((Bool) → O) → ((Bool) → O) → ((Unit) → O) → O
 | 0, _, _, _, _ => none
 | n + 1, x, k0, k1, k2 => w26F0 N  (fun v0 => w26l0 N n (x.1, x.2.1, x.2.2.1, v0) k0 k1 k2) (fun y0 => k0 y0) (fun y0 => k1 y0) x.1 x.2.1 x.2.2.1 x.2.2.2
def w26n0 [Alg] (N : Nat) (a0 : (List ((List Int) × (Int × Int)))) (a1 : (List ((List Int) × (Int × Int)))) (a2 : Bool) (a3 : Int) (k0 : Bool → O) (k1 : Bool → O) : O := w26l0 N N (a0, a1, a2, a3) (fun y => k0 y) (fun y => k1 y) (fun _ => none)
noncomputable def w26s0 [Alg] (N : Nat) (a0 : (List ((List Int) × (Int × Int)))) (a1 : (List ((List Int) × (Int × Int)))) (a2 : Bool) (a3 : Int) (k0 : Bool → O) (k1 : Bool → O) : O := subL w26I0 w26u0 (w26l0 N N) (w26I0 (a0, a1, a2, a3)) (fun y => k0 y) (fun y => k1 y) (fun _ => none)
theorem w26e0 [Alg] (N : Nat) : w26s0 N = w26n0 N := funext fun _ => funext fun _ => funext fun _ => funext fun _ => funext fun _ => funext fun _ => subL_I w26ui0 _ _ _ _
noncomputable def w26h0 [Alg] (_ : Nat) : Hint := .d
theorem w26hk0 (N : Nat) : HintOk (w26c N) Tryd.f26.ntmps (w26h0 N) w26b0 := hk_of _ _ trivial
theorem w26q0 [Alg] (N : Nat) (self : Sg → O) (K : Exit → Sg → O) (x : (List ((List Int) × (Int × Int))) × (List ((List Int) × (Int × Int))) × Bool × Int) : w26F0 N  (fun v0 => self (w26I0 (x.1, x.2.1, x.2.2.1, v0))) (fun y0 => K (w26X0_0 y0).1 (w26X0_0 y0).2) (fun y0 => K (w26X0_1 y0).1 (w26X0_1 y0).2) x.1 x.2.1 x.2.2.1 x.2.2.2 = exec (w26c N) Tryd.f26.ntmps (w26h0 N) w26b0 (w26I0 x) (roundX w26m0 w26w0 self K) := by kernel_rfl
theorem w26S0 (N : Nat) (hc : CxOk (w26c N)) : SubOk (w26c N) Tryd.f26.ntmps (.loop w26b0) w26X0_0 w26X0_1 (noX 2) (subL w26I0 w26u0 (w26l0 N N)) :=
 sub_loop hc (w26hk0 N) w26o0 (n := N) (fun x K => loop_ind (w26l0 N) (fun _ _ _ _ => rfl) (fun n K ih x => by
  have h : w26F0 N  (fun v0 => w26l0 N n (x.1, x.2.1, x.2.2.1, v0) (fun y => K (w26X0_0 y).1 (w26X0_0 y).2) (fun y => K (w26X0_1 y).1 (w26X0_1 y).2) (fun y => K ((noX 2) y).1 ((noX 2) y).2)) (fun y0 => K (w26X0_0 y0).1 (w26X0_0 y0).2) (fun y0 => K (w26X0_1 y0).1 (w26X0_1 y0).2) x.1 x.2.1 x.2.2.1 x.2.2.2 = w26F0 N  (fun v0 => loopX (w26c N) Tryd.f26.ntmps (w26h0 N) w26b0 w26m0 w26w0 n (w26I0 (x.1, x.2.1, x.2.2.1, v0)) K) (fun y0 => K (w26X0_0 y0).1 (w26X0_0 y0).2) (fun y0 => K (w26X0_1 y0).1 (w26X0_1 y0).2) x.1 x.2.1 x.2.2.1 x.2.2.2 := by rw [ show (fun v0 => w26l0 N n (x.1, x.2.1, x.2.2.1, v0) (fun y => K (w26X0_0 y).1 (w26X0_0 y).2) (fun y => K (w26X0_1 y).1 (w26X0_1 y).2) (fun y => K ((noX 2) y).1 ((noX 2) y).2)) = (fun v0 => loopX (w26c N) Tryd.f26.ntmps (w26h0 N) w26b0 w26m0 w26w0 n (w26I0 (x.1, x.2.1, x.2.2.1, v0)) K) from funext fun _ => ih _]
  exact h.trans (w26q0 N (fun σ => loopX (w26c N) Tryd.f26.ntmps (w26h0 N) w26b0 w26m0 w26w0 n σ K) K x)) N x K)
def w26G [Alg] (_ : Nat) (in0 : (List ((List Int) × (Int × Int))) → (List ((List Int) × (Int × Int))) → Bool → Int → (Bool → O) → (Bool → O) → O) (a0 : (List ((List Int) × (Int × Int)))) (b1 : (List ((List Int) × (Int × Int)))) : O :=
 br (decide ((↑a0.length : Int) ≠ (↑b1.length : Int)))
  (some (w26r0 false))
  (in0 a0 b1 false ((0 : Int))
   (fun z19 =>
    some (w26r0 z19))
   (fun _ =>
    some (w26r0 true)))
def w26 [Alg] (N : Nat) (a0 : (List ((List Int) × (Int × Int)))) (b1 : (List ((List Int) × (Int × Int)))) : O := w26G N (w26n0 N) a0 b1
noncomputable def w26h [Alg] (N : Nat) : Hint := (.seq .d (.seq .d (.seq (.seq .d (.block (.sub w26m0 _ _ _ w26X0_0 w26X0_1 (noX 2) (subL w26I0 w26u0 (w26l0 N N))))) .d)))
theorem w26hk (N : Nat) (hc : CxOk (w26c N)) : HintOk (w26c N) Tryd.f26.ntmps (w26h N) w26b := hk_of _ _ (And.intro trivial (And.intro trivial (And.intro (And.intro trivial (w26S0 N hc)) trivial)))
theorem w26q [Alg] (N : Nat) (a0 : (List ((List Int) × (Int × Int)))) (b1 : (List ((List Int) × (Int × Int)))) : w26G N (w26s0 N) a0 b1 = exec (w26c N) Tryd.f26.ntmps (w26h N) w26b ⟨argT 0 [.e (.sl (.pr (.sl (.i .i64)) (.pr (.i .i64) (.i .i64)))) a0, .e (.sl (.pr (.sl (.i .i64)) (.pr (.i .i64) (.i .i64)))) b1], [], 100⟩ (finX (w26c N) Tryd.f26 false) := by kernel_rfl
theorem w26does {N : Nat} (hc : CxOk (w26c N)) {a0 : (List ((List Int) × (Int × Int)))} {b1 : (List ((List Int) × (Int × Int)))} {r : Res} (h : w26 N a0 b1 = some r) : Does Tryd.prog 26 (([.e (.sl (.pr (.sl (.i .i64)) (.pr (.i .i64) (.i .i64)))) a0, .e (.sl (.pr (.sl (.i .i64)) (.pr (.i .i64) (.i .i64)))) b1] : List X).map X.D) (HA []) r.1.D (HA r.2) :=
 fun_ok hc (f := 26) (fn := Tryd.f26) (code := w26b) (by kernel_rfl) (by kernel_rfl) (w26hk N hc) (Nat.le_of_ble_eq_true (by kernel_rfl)) (ow := false) ((w26q N a0 b1).symm.trans (by rw [w26e0 N]; exact h))
def w26un (r : Res) : Option (Bool) := match r with
 | (x0, []) => (match ue .bo x0 with | some a0 => some a0 | _ => none)
 | _ => none
theorem w26uo {r : Res} {d : Bool} (h : w26un r = some d) : r = w26r0 (d) := by
 unfold w26un at h
 split at h
 ·split at h
  ·rename_i h0; cases h; rw [ue_some h0]; rfl
  ·cases h
 ·cases h
def w26z (N : Nat) (a0 : (List ((List Int) × (Int × Int)))) (b1 : (List ((List Int) × (Int × Int)))) : Option (Bool) := (w26 N a0 b1).bind w26un
theorem w26fin {N : Nat} (hc : CxOk (w26c N)) {a0 : (List ((List Int) × (Int × Int)))} {b1 : (List ((List Int) × (Int × Int)))} {d : Bool} (hd : w26z N a0 b1 = some d) : Does Tryd.prog 26 (([.e (.sl (.pr (.sl (.i .i64)) (.pr (.i .i64) (.i .i64)))) a0, .e (.sl (.pr (.sl (.i .i64)) (.pr (.i .i64) (.i .i64)))) b1] : List X).map X.D) (HA []) (w26r0 (d)).1.D (HA (w26r0 (d)).2) := by
 obtain ⟨r, hr, hu⟩ := Option.bind_eq_some_iff.1 hd
 have := w26does hc hr
 rw [w26uo hu] at this
 exact this
def w26p (N : Nat) (a0 : (List ((List Int) × (Int × Int)))) (b1 : (List ((List Int) × (Int × Int)))) : Bool := (w26z N a0 b1).isSome
def w26y0 (N : Nat) (a0 : (List ((List Int) × (Int × Int)))) (b1 : (List ((List Int) × (Int × Int)))) : Bool := ((w26z N a0 b1).getD false)
def w26e (N : Nat) : Ent' := E2 (.sl (.pr (.sl (.i .i64)) (.pr (.i .i64) (.i .i64)))) (.sl (.pr (.sl (.i .i64)) (.pr (.i .i64) (.i .i64))))  (fun x0 x1 => (w26p N x0 x1, w26r0 (w26y0 N x0 x1)))
theorem w26re {N : Nat} {a0 : (List ((List Int) × (Int × Int)))} {b1 : (List ((List Int) × (Int × Int)))} {d : Bool} (hd : w26z N a0 b1 = some d) : w26r0 (w26y0 N a0 b1) = w26r0 (d) := by unfold w26y0; rw [hd]; rfl
theorem w26ok (N : Nat) : EOk Tryd.prog 26 (w26e N) := EOk.e2 (fun x0 x1 h => by
 have h : (w26z N x0 x1).isSome = true := h
 obtain ⟨d, hd⟩ := Option.isSome_iff_exists.1 h
 have f := w26fin (w26cx N) hd
 rw [← w26re hd] at f
 exact f)
def w14r0 (a0 : Bool) : Res := (.e .bo a0, [])
noncomputable def w14L (_ : Nat) : List (Nat × Ent') := []
noncomputable def w14c (N : Nat) : Cx := ⟨Tryd.prog, 99999, w14L N⟩
noncomputable def w14b : Code := Tryd.f14.body.getD .skip
theorem w14cx (N : Nat) : CxOk (w14c N) := ctx_ok (by kernel_rfl) .nil
def w14F0 [Alg] (_ : Nat)  (self : Int → O) (k0 : Bool → O) (k1 : Bool → O) (x0_0 : (List Bool)) (x0_1 : (List Bool)) (x0_2 : Bool) (x0_3 : Int) : O :=
 br (decide (x0_3 < (↑x0_0.length : Int)))
  (gx x0_0 x0_3 fun y5 =>
  gx x0_1 x0_3 fun y6 =>
  br (!y5 == y6)
   (k0 false)
   (self (IntKind.i64.wrap (x0_3 + (1 : Int)))))
  (k1 x0_2)
noncomputable def w14b0 : Code := atC [1, 1, 0, 1, 0, 0] w14b
def w14m0 : Nm := ⟨[0, 1, 4, 5], [], []⟩
def w14I0 (x : (List Bool) × (List Bool) × Bool × Int) : Sg := ⟨[(0, .e (.sl .bo) x.1), (1, .e (.sl .bo) x.2.1), (4, .e .bo x.2.2.1), (5, .e (.i .i64) x.2.2.2)], [], 100⟩
def w14u0 (σ : Sg) : (List Bool) × (List Bool) × Bool × Int := (lvT (.sl .bo) 0 0 σ, lvT (.sl .bo) 1 0 σ, lvT .bo 4 0 σ, lvT (.i .i64) 5 0 σ)
theorem w14ui0 : ∀ x, w14u0 (w14I0 x) = x := fun _ => by kernel_rfl
def w14X0_0 (y : Bool) : Exit × Sg := (.ret, ⟨[(4, .e .bo y)], [], 100⟩)
def w14v0_0 (σ : Sg) : Bool := lvT .bo 4 0 σ
def w14X0_1 (y : Bool) : Exit × Sg := ((.exit 0), ⟨[(4, .e .bo y)], [], 100⟩)
def w14v0_1 (σ : Sg) : Bool := lvT .bo 4 0 σ
def w14w0 : List (Exit × Nm) := [(.ret, ⟨[4], [], []⟩), ((.exit 0), ⟨[4], [], []⟩)]
theorem w14o0 : Outs w14v0_0 w14v0_1 (fun _ => ()) w14X0_0 w14X0_1 (noX 2) .ret (.exit 0) (.goto 2) := ⟨fun _ => by kernel_rfl, fun _ => by kernel_rfl, fun _ => by kernel_rfl, fun _ => by kernel_rfl, fun _ => by kernel_rfl, fun _ => by kernel_rfl, exNe_ok (by kernel_rfl), exNe_ok (by kernel_rfl), exNe_ok (by kernel_rfl)⟩
def w14l0 [Alg] (N : Nat) : Nat → ((List Bool) × (List Bool) × Bool × Int) → ((Bool) → O) → ((Bool) → O) → ((Unit) → O) → O
 | 0, _, _, _, _ => none
 | n + 1, x, k0, k1, k2 => w14F0 N  (fun v0 => w14l0 N n (x.1, x.2.1, x.2.2.1, v0) k0 k1 k2) (fun y0 => k0 y0) (fun y0 => k1 y0) x.1 x.2.1 x.2.2.1 x.2.2.2
def w14n0 [Alg] (N : Nat) (a0 : (List Bool)) (a1 : (List Bool)) (a2 : Bool) (a3 : Int) (k0 : Bool → O) (k1 : Bool → O) : O := w14l0 N N (a0, a1, a2, a3) (fun y => k0 y) (fun y => k1 y) (fun _ => none)
noncomputable def w14s0 [Alg] (N : Nat) (a0 : (List Bool)) (a1 : (List Bool)) (a2 : Bool) (a3 : Int) (k0 : Bool → O) (k1 : Bool → O) : O := subL w14I0 w14u0 (w14l0 N N) (w14I0 (a0, a1, a2, a3)) (fun y => k0 y) (fun y => k1 y) (fun _ => none)
theorem w14e0 [Alg] (N : Nat) : w14s0 N = w14n0 N := funext fun _ => funext fun _ => funext fun _ => funext fun _ => funext fun _ => funext fun _ => subL_I w14ui0 _ _ _ _
noncomputable def w14h0 [Alg] (_ : Nat) : Hint := .d
theorem w14hk0 (N : Nat) : HintOk (w14c N) Tryd.f14.ntmps (w14h0 N) w14b0 := hk_of _ _ trivial
theorem w14q0 [Alg] (N : Nat) (self : Sg → O) (K : Exit → Sg → O) (x : (List Bool) × (List Bool) × Bool × Int) : w14F0 N  (fun v0 => self (w14I0 (x.1, x.2.1, x.2.2.1, v0))) (fun y0 => K (w14X0_0 y0).1 (w14X0_0 y0).2) (fun y0 => K (w14X0_1 y0).1 (w14X0_1 y0).2) x.1 x.2.1 x.2.2.1 x.2.2.2 = exec (w14c N) Tryd.f14.ntmps (w14h0 N) w14b0 (w14I0 x) (roundX w14m0 w14w0 self K) := by kernel_rfl
theorem w14S0 (N : Nat) (hc : CxOk (w14c N)) : SubOk (w14c N) Tryd.f14.ntmps (.loop w14b0) w14X0_0 w14X0_1 (noX 2) (subL w14I0 w14u0 (w14l0 N N)) :=
 sub_loop hc (w14hk0 N) w14o0 (n := N) (fun x K => loop_ind (w14l0 N) (fun _ _ _ _ => rfl) (fun n K ih x => by
  have h : w14F0 N  (fun v0 => w14l0 N n (x.1, x.2.1, x.2.2.1, v0) (fun y => K (w14X0_0 y).1 (w14X0_0 y).2) (fun y => K (w14X0_1 y).1 (w14X0_1 y).2) (fun y => K ((noX 2) y).1 ((noX 2) y).2)) (fun y0 => K (w14X0_0 y0).1 (w14X0_0 y0).2) (fun y0 => K (w14X0_1 y0).1 (w14X0_1 y0).2) x.1 x.2.1 x.2.2.1 x.2.2.2 = w14F0 N  (fun v0 => loopX (w14c N) Tryd.f14.ntmps (w14h0 N) w14b0 w14m0 w14w0 n (w14I0 (x.1, x.2.1, x.2.2.1, v0)) K) (fun y0 => K (w14X0_0 y0).1 (w14X0_0 y0).2) (fun y0 => K (w14X0_1 y0).1 (w14X0_1 y0).2) x.1 x.2.1 x.2.2.1 x.2.2.2 := by rw [ show (fun v0 => w14l0 N n (x.1, x.2.1, x.2.2.1, v0) (fun y => K (w14X0_0 y).1 (w14X0_0 y).2) (fun y => K (w14X0_1 y).1 (w14X0_1 y).2) (fun y => K ((noX 2) y).1 ((noX 2) y).2)) = (fun v0 => loopX (w14c N) Tryd.f14.ntmps (w14h0 N) w14b0 w14m0 w14w0 n (w14I0 (x.1, x.2.1, x.2.2.1, v0)) K) from funext fun _ => ih _]
  exact h.trans (w14q0 N (fun σ => loopX (w14c N) Tryd.f14.ntmps (w14h0 N) w14b0 w14m0 w14w0 n σ K) K x)) N x K)
def w14G [Alg] (_ : Nat) (in0 : (List Bool) → (List Bool) → Bool → Int → (Bool → O) → (Bool → O) → O) (a0 : (List Bool)) (b1 : (List Bool)) : O :=
 br (decide ((↑a0.length : Int) ≠ (↑b1.length : Int)))
  (some (w14r0 false))
  (in0 a0 b1 false ((0 : Int))
   (fun z7 =>
    some (w14r0 z7))
   (fun _ =>
    some (w14r0 true)))
def w14 [Alg] (N : Nat) (a0 : (List Bool)) (b1 : (List Bool)) : O := w14G N (w14n0 N) a0 b1
noncomputable def w14h [Alg] (N : Nat) : Hint := (.seq .d (.seq .d (.seq (.seq .d (.block (.sub w14m0 _ _ _ w14X0_0 w14X0_1 (noX 2) (subL w14I0 w14u0 (w14l0 N N))))) .d)))
theorem w14hk (N : Nat) (hc : CxOk (w14c N)) : HintOk (w14c N) Tryd.f14.ntmps (w14h N) w14b := hk_of _ _ (And.intro trivial (And.intro trivial (And.intro (And.intro trivial (w14S0 N hc)) trivial)))
theorem w14q [Alg] (N : Nat) (a0 : (List Bool)) (b1 : (List Bool)) : w14G N (w14s0 N) a0 b1 = exec (w14c N) Tryd.f14.ntmps (w14h N) w14b ⟨argT 0 [.e (.sl .bo) a0, .e (.sl .bo) b1], [], 100⟩ (finX (w14c N) Tryd.f14 false) := by kernel_rfl
theorem w14does {N : Nat} (hc : CxOk (w14c N)) {a0 : (List Bool)} {b1 : (List Bool)} {r : Res} (h : w14 N a0 b1 = some r) : Does Tryd.prog 14 (([.e (.sl .bo) a0, .e (.sl .bo) b1] : List X).map X.D) (HA []) r.1.D (HA r.2) :=
 fun_ok hc (f := 14) (fn := Tryd.f14) (code := w14b) (by kernel_rfl) (by kernel_rfl) (w14hk N hc) (Nat.le_of_ble_eq_true (by kernel_rfl)) (ow := false) ((w14q N a0 b1).symm.trans (by rw [w14e0 N]; exact h))
def w14un (r : Res) : Option (Bool) := match r with
 | (x0, []) => (match ue .bo x0 with | some a0 => some a0 | _ => none)
 | _ => none
theorem w14uo {r : Res} {d : Bool} (h : w14un r = some d) : r = w14r0 (d) := by
 unfold w14un at h
 split at h
 ·split at h
  ·rename_i h0; cases h; rw [ue_some h0]; rfl
  ·cases h
 ·cases h
def w14z (N : Nat) (a0 : (List Bool)) (b1 : (List Bool)) : Option (Bool) := (w14 N a0 b1).bind w14un
theorem w14fin {N : Nat} (hc : CxOk (w14c N)) {a0 : (List Bool)} {b1 : (List Bool)} {d : Bool} (hd : w14z N a0 b1 = some d) : Does Tryd.prog 14 (([.e (.sl .bo) a0, .e (.sl .bo) b1] : List X).map X.D) (HA []) (w14r0 (d)).1.D (HA (w14r0 (d)).2) := by
 obtain ⟨r, hr, hu⟩ := Option.bind_eq_some_iff.1 hd
 have := w14does hc hr
 rw [w14uo hu] at this
 exact this
def w14p (N : Nat) (a0 : (List Bool)) (b1 : (List Bool)) : Bool := (w14z N a0 b1).isSome
def w14y0 (N : Nat) (a0 : (List Bool)) (b1 : (List Bool)) : Bool := ((w14z N a0 b1).getD false)
def w14e (N : Nat) : Ent' := E2 (.sl .bo) (.sl .bo)  (fun x0 x1 => (w14p N x0 x1, w14r0 (w14y0 N x0 x1)))
theorem w14re {N : Nat} {a0 : (List Bool)} {b1 : (List Bool)} {d : Bool} (hd : w14z N a0 b1 = some d) : w14r0 (w14y0 N a0 b1) = w14r0 (d) := by unfold w14y0; rw [hd]; rfl
theorem w14ok (N : Nat) : EOk Tryd.prog 14 (w14e N) := EOk.e2 (fun x0 x1 h => by
 have h : (w14z N x0 x1).isSome = true := h
 obtain ⟨d, hd⟩ := Option.isSome_iff_exists.1 h
 have f := w14fin (w14cx N) hd
 rw [← w14re hd] at f
 exact f)
def w15r0 (a0 : Bool) : Res := (.e .bo a0, [])
noncomputable def w15L (N : Nat) : List (Nat × Ent') := [(24, w24e N), (11, w11e N), (17, w17e N), (16, w16e N), (27, w27e N), (26, w26e N), (14, w14e N)]
noncomputable def w15c (N : Nat) : Cx := ⟨Tryd.prog, 99999, w15L N⟩
noncomputable def w15b : Code := Tryd.f15.body.getD .skip
theorem w15cx (N : Nat) : CxOk (w15c N) := ctx_ok (by kernel_rfl) (.cons (by kernel_rfl) (w24ok N) (.cons (by kernel_rfl) (w11ok N) (.cons (by kernel_rfl) (w17ok N) (.cons (by kernel_rfl) (w16ok N) (.cons (by kernel_rfl) (w27ok N) (.cons (by kernel_rfl) (w26ok N) (.cons (by kernel_rfl) (w14ok N) .nil)))))))
def w15G [Alg] (N : Nat)   : O :=
 ck (w24p N lF2x0) <|
 ck (w11p N (w24y0 N lF2x0)) <|
 ck (w17p N (5 : Int)) <|
 ck (w16p N (w24y0 N lF2x0) (w17y0 N (5 : Int))) <|
 ck (w17p N (1 : Int)) <|
 ck (w16p N (w24y0 N lF2x0) (w17y0 N (1 : Int))) <|
 ck (w24p N lF2x1) <|
 ck (w24p N lF2x2) <|
 br (decide (w24y2 N lF2x0 ≠ (0 : Int)) || decide (w11y4 N (w24y0 N lF2x0) ≠ (0 : Int)) || decide (w16y3 N (w24y0 N lF2x0) (w17y0 N (5 : Int)) ≠ (0 : Int)) || decide (w16y3 N (w24y0 N lF2x0) (w17y0 N (1 : Int)) ≠ (18 : Int)) || decide (w24y2 N lF2x1 ≠ (2 : Int)) || decide (w24y2 N lF2x2 ≠ (2 : Int)))
  (some (w15r0 false))
  (ck (w27p N (w24y0 N lF2x0)) <|
  ck (w26p N (w27y0 N (w24y0 N lF2x0)) [([], (1 : Int), (60 : Int)), ([(1 : Int), (-3 : Int)], (0 : Int), (1 : Int)), ([(1 : Int)], (0 : Int), (-1 : Int))]) <|
  br (w26y0 N (w27y0 N (w24y0 N lF2x0)) [([], (1 : Int), (60 : Int)), ([(1 : Int), (-3 : Int)], (0 : Int), (1 : Int)), ([(1 : Int)], (0 : Int), (-1 : Int))] && w11y3 N (w24y0 N lF2x0))
   (ck (!(decide (w11y0 N (w24y0 N lF2x0) = (1 : Int)) && decide (w11y1 N (w24y0 N lF2x0) = (2 : Int))) || w17p N (1 : Int)) <|
   ck (!(decide (w11y0 N (w24y0 N lF2x0) = (1 : Int)) && decide (w11y1 N (w24y0 N lF2x0) = (2 : Int))) || w14p N (w11y2 N (w24y0 N lF2x0)) (w17y0 N (1 : Int))) <|
   br (decide (w11y0 N (w24y0 N lF2x0) = (1 : Int)) && decide (w11y1 N (w24y0 N lF2x0) = (2 : Int)) && w14y0 N (w11y2 N (w24y0 N lF2x0)) (w17y0 N (1 : Int)))
    (some (w15r0 (decide (w16y0 N (w24y0 N lF2x0) (w17y0 N (5 : Int)) = (0 : Int)) && (decide (w16y1 N (w24y0 N lF2x0) (w17y0 N (5 : Int)) = (60 : Int)) && decide (w16y2 N (w24y0 N lF2x0) (w17y0 N (5 : Int)) = (0 : Int))) && decide (w24y1 N lF2x1 = (10 : Int)) && decide (w24y1 N lF2x2 = (20 : Int)))))
    (some (w15r0 (false && decide (w24y1 N lF2x1 = (10 : Int)) && decide (w24y1 N lF2x2 = (20 : Int))))))
   (ck (true || w17p N (1 : Int)) <|
   ck (true || w14p N (w11y2 N (w24y0 N lF2x0)) (w17y0 N (1 : Int))) <|
   br (false && w14y0 N (w11y2 N (w24y0 N lF2x0)) (w17y0 N (1 : Int)))
    (some (w15r0 (decide (w16y0 N (w24y0 N lF2x0) (w17y0 N (5 : Int)) = (0 : Int)) && (decide (w16y1 N (w24y0 N lF2x0) (w17y0 N (5 : Int)) = (60 : Int)) && decide (w16y2 N (w24y0 N lF2x0) (w17y0 N (5 : Int)) = (0 : Int))) && decide (w24y1 N lF2x1 = (10 : Int)) && decide (w24y1 N lF2x2 = (20 : Int)))))
    (some (w15r0 (false && decide (w24y1 N lF2x1 = (10 : Int)) && decide (w24y1 N lF2x2 = (20 : Int)))))))
def w15 [Alg] (N : Nat)  : O := w15G N  
noncomputable def w15h [Alg] (_ : Nat) : Hint := (.seq .d (.seq .d (.seq .d (.seq .d (.seq .d (.seq .d (.seq .d (.seq .d (.seq .d (.seq (.reg [1008, 1018] [] []) .d))))))))))
theorem w15hk (N : Nat) : HintOk (w15c N) Tryd.f15.ntmps (w15h N) w15b := hk_of _ _ (And.intro trivial (And.intro trivial (And.intro trivial (And.intro trivial (And.intro trivial (And.intro trivial (And.intro trivial (And.intro trivial (And.intro trivial (And.intro trivial trivial))))))))))
theorem w15q [Alg] (N : Nat)  : w15G N   = exec (w15c N) Tryd.f15.ntmps (w15h N) w15b ⟨argT 0 [], [], 100⟩ (finX (w15c N) Tryd.f15 false) := by kernel_rfl
theorem w15does {N : Nat} (hc : CxOk (w15c N))  {r : Res} (h : w15 N  = some r) : Does Tryd.prog 15 (([] : List X).map X.D) (HA []) r.1.D (HA r.2) :=
 fun_ok hc (f := 15) (fn := Tryd.f15) (code := w15b) (by kernel_rfl) (by kernel_rfl) (w15hk N) (Nat.le_of_ble_eq_true (by kernel_rfl)) (ow := false) ((w15q N ).symm.trans (by exact h))
def w15un (r : Res) : Option (Bool) := match r with
 | (x0, []) => (match ue .bo x0 with | some a0 => some a0 | _ => none)
 | _ => none
theorem w15uo {r : Res} {d : Bool} (h : w15un r = some d) : r = w15r0 (d) := by
 unfold w15un at h
 split at h
 ·split at h
  ·rename_i h0; cases h; rw [ue_some h0]; rfl
  ·cases h
 ·cases h
def w15z (N : Nat)  : Option (Bool) := (w15 N ).bind w15un
theorem w15fin {N : Nat} (hc : CxOk (w15c N))  {d : Bool} (hd : w15z N  = some d) : Does Tryd.prog 15 (([] : List X).map X.D) (HA []) (w15r0 (d)).1.D (HA (w15r0 (d)).2) := by
 obtain ⟨r, hr, hu⟩ := Option.bind_eq_some_iff.1 hd
 have := w15does hc hr
 rw [w15uo hu] at this
 exact this
end
end Go.Proofs
