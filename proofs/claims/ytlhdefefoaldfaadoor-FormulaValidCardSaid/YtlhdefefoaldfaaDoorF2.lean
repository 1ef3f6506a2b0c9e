/- What functions do: values, texts. Conditions are in the theorems. -/
import Derived.Test.YtlhdefefoaldfaaDoorE7
import Derived.Test.YtlhdefefoaldfaaDoorProg
import Derived.KernelRfl
import Derived.Test.YtlhdefefoaldfaaDoorF0
import Derived.Test.YtlhdefefoaldfaaDoorF1
/- What functions do. -/
namespace Go.Proofs
noncomputable section
open Go.Ax Go.Ax.Alg Go.RowKit Go.Ab
open Go
abbrev lF2x0 : List UInt8 := [(82 : UInt8), (40 : UInt8)]
def w50r0 (a0 : (List UInt8)) : Res := (.own 100, [(100, .row 5 .u8 a0 true)])
def w50in (xs : List X) (H : XH) : Option (Int × Int × (List Ex) × Int × (List UInt8)) := match xs, H with
 | [.own 50, .agg [x0, x1, x2], x3], [(50, x4)] => (match ue (.i .i64) x0, ue (.i .i64) x1, ue (.sl .ex) x2, ue (.i .i64) x3, ur 5 .u8 true x4 with | some a0, some a1, some a2, some a3, some a4 => some (a0, a1, a2, a3, a4) | _, _, _, _, _ => none)
 | _, _ => none
theorem w50io {xs : List X} {H : XH} {d : Int × Int × (List Ex) × Int × (List UInt8)} (h : w50in xs H = some d) : xs = [.own 50, .agg [.e (.i .i64) (d.1), .e (.i .i64) (d.2.1), .e (.sl .ex) (d.2.2.1)], .e (.i .i64) (d.2.2.2.1)] ∧ H = [(50, .row 5 .u8 (d.2.2.2.2) true)] := by
 unfold w50in at h
 split at h
 ·split at h
  ·rename_i h0 h1 h2 h3 h4; cases h; rw [ue_some h0, ue_some h1, ue_some h2, ue_some h3, ur_some h4]; exact ⟨rfl, rfl⟩
  ·cases h
 ·cases h
abbrev w50T := Nat × ((Int → Int → (List Ex) → Int → (List UInt8) → Option ((List UInt8))))
def w50E (N : w50T) : Ent' := withNil 5 .u8 <| entR w50in (fun d => (N.2 (d.1) (d.2.1) (d.2.2.1) (d.2.2.2.1) (d.2.2.2.2)).isSome) (fun d => w50r0 (((N.2 (d.1) (d.2.1) (d.2.2.1) (d.2.2.2.1) (d.2.2.2.2)).getD [])))
noncomputable def w50L (N : w50T) : List (Nat × Ent') := [(50, w50E N), (80, w80e N.1)]
noncomputable def w50c (N : w50T) : Cx := ⟨Tryd.prog, 25, w50L N, []⟩
noncomputable def w50b : Code := Tryd.f50.body.getD .skip
theorem w50cx (N : w50T) (hw50 : EOk Tryd.prog 50 (w50E N)) : CxOk (w50c N) := ctx_ok (by kernel_rfl) (.cons (by kernel_rfl) hw50 (.cons (by kernel_rfl) (w80ok N.1) .nil)) .nil
def w50G [Alg] (N : w50T)  (e1_0 e1_1 : Int) (e1_2 : (List Ex)) (level2 : Int) (g0 : (List UInt8)) : O :=
 gx [((0 : Int), (999999 : Int), (4 : Int), (0 : UInt8)), ((0 : Int), (25 : Int), (4 : Int), (0 : UInt8)), ((1 : Int), (0 : Int), (3 : Int), (45 : UInt8)), ((2 : Int), (0 : Int), (1 : Int), (43 : UInt8)), ((2 : Int), (0 : Int), (1 : Int), (45 : UInt8)), ((2 : Int), (0 : Int), (2 : Int), (42 : UInt8)), ((2 : Int), (0 : Int), (2 : Int), (47 : UInt8)), ((2 : Int), (0 : Int), (3 : Int), (94 : UInt8)), ((1 : Int), (0 : Int), (4 : Int), (82 : UInt8)), ((2 : Int), (0 : Int), (0 : Int), (61 : UInt8)), ((2 : Int), (0 : Int), (0 : Int), (60 : UInt8))] e1_0 fun y0 =>
 br (decide (y0.2.2.1 < level2))
  (ck (lim (g0 ++ [(40 : UInt8)]).length (1 : Nat)) <|
  ck ((N.2 e1_0 e1_1 e1_2 (0 : Int) (g0 ++ [(40 : UInt8)])).isSome) <|
  ck (lim ((N.2 e1_0 e1_1 e1_2 (0 : Int) (g0 ++ [(40 : UInt8)])).getD [] ++ [(41 : UInt8)]).length (1 : Nat)) <|
  some (w50r0 ((N.2 e1_0 e1_1 e1_2 (0 : Int) (g0 ++ [(40 : UInt8)])).getD [] ++ [(41 : UInt8)])))
  (br (decide (e1_0 = (0 : Int)))
   (ck (w80p N.1 e1_1 (10 : Int) g0) <|
   some (w50r0 (w80y0 N.1 e1_1 (10 : Int) g0)))
   (br (decide (e1_0 = (1 : Int)))
    (ck (lim (g0 ++ [u8of (IntKind.i64.wrap ((97 : Int) + e1_1))]).length (1 : Nat)) <|
    some (w50r0 (g0 ++ [u8of (IntKind.i64.wrap ((97 : Int) + e1_1))])))
    (br (decide (e1_0 = (2 : Int)))
     (ck (lim (g0 ++ [(45 : UInt8)]).length (1 : Nat)) <|
     gx e1_2 ((0 : Int)) fun y1 =>
     ck ((N.2 y1.op y1.num y1.kids (3 : Int) (g0 ++ [(45 : UInt8)])).isSome) <|
     some (w50r0 ((N.2 y1.op y1.num y1.kids (3 : Int) (g0 ++ [(45 : UInt8)])).getD [])))
     (br (decide (e1_0 = (8 : Int)))
      (ck (lim (g0 ++ lF2x0).length (1 : Nat)) <|
      gx e1_2 ((0 : Int)) fun y2 =>
      ck ((N.2 y2.op y2.num y2.kids (1 : Int) (g0 ++ lF2x0)).isSome) <|
      ck (lim ((N.2 y2.op y2.num y2.kids (1 : Int) (g0 ++ lF2x0)).getD [] ++ [(41 : UInt8)]).length (1 : Nat)) <|
      some (w50r0 ((N.2 y2.op y2.num y2.kids (1 : Int) (g0 ++ lF2x0)).getD [] ++ [(41 : UInt8)])))
      (br (decide (e1_0 = (7 : Int)))
       (gx e1_2 ((0 : Int)) fun y3 =>
       ck ((N.2 y3.op y3.num y3.kids (4 : Int) g0).isSome) <|
       ck (lim ((N.2 y3.op y3.num y3.kids (4 : Int) g0).getD [] ++ [(94 : UInt8)]).length (1 : Nat)) <|
       gx e1_2 ((1 : Int)) fun y4 =>
       ck ((N.2 y4.op y4.num y4.kids (3 : Int) ((N.2 y3.op y3.num y3.kids (4 : Int) g0).getD [] ++ [(94 : UInt8)])).isSome) <|
       some (w50r0 ((N.2 y4.op y4.num y4.kids (3 : Int) ((N.2 y3.op y3.num y3.kids (4 : Int) g0).getD [] ++ [(94 : UInt8)])).getD [])))
       (gx e1_2 ((0 : Int)) fun y5 =>
       ck ((N.2 y5.op y5.num y5.kids (max (1 : Int) y0.2.2.1) g0).isSome) <|
       ck (lim ((N.2 y5.op y5.num y5.kids (max (1 : Int) y0.2.2.1) g0).getD [] ++ [y0.2.2.2]).length (1 : Nat)) <|
       gx e1_2 ((1 : Int)) fun y6 =>
       ck ((N.2 y6.op y6.num y6.kids (IntKind.i64.wrap (y0.2.2.1 + (1 : Int))) ((N.2 y5.op y5.num y5.kids (max (1 : Int) y0.2.2.1) g0).getD [] ++ [y0.2.2.2])).isSome) <|
       some (w50r0 ((N.2 y6.op y6.num y6.kids (IntKind.i64.wrap (y0.2.2.1 + (1 : Int))) ((N.2 y5.op y5.num y5.kids (max (1 : Int) y0.2.2.1) g0).getD [] ++ [y0.2.2.2])).getD []))))))))
def w50 [Alg] (N : w50T) (e1_0 e1_1 : Int) (e1_2 : (List Ex)) (level2 : Int) (g0 : (List UInt8)) : O := w50G N  e1_0 e1_1 e1_2 level2 g0
noncomputable def w50h [Alg] (_ : w50T) : Hint := (.seq .d (.seq .d (.seq (.seq .d (.cond (.seq (.reg [] [] [[], [], [212, 50], [], [228, 212], [], [244, 228], []]) .d) .d)) (.seq (.seq .d (.block (.seq .d (.cond .d (.seq .d (.cond .d (.seq .d (.cond (.seq (.reg [] [] [[], [], [276, 50], [], [], [], [], [316, 276], []]) .d) (.seq .d (.cond (.seq (.reg [] [] [[], [], [292, 50], [], [], [], [], [332, 292], [], [348, 332], []]) .d) (.seq .d (.cond (.seq (.reg [] [] [[], [], [], [], [], [332, 50], [], [348, 332], [], [], [], [], [388, 348], []]) .d) .d)))))))))))) (.seq (.reg [] [] [[], [], [], [], [], [], [], [], [356, 50], [], [], [], [388, 356], [], [], [], [], [], [], [], [452, 388], []]) .d)))))
theorem w50hk (N : w50T) : HintOk (w50c N) Tryd.f50.ntmps (w50h N) w50b := hk_of _ _ (And.intro trivial (And.intro trivial (And.intro (And.intro trivial (And.intro (And.intro trivial trivial) trivial)) (And.intro (And.intro trivial (And.intro trivial (And.intro trivial (And.intro trivial (And.intro trivial (And.intro trivial (And.intro (And.intro trivial trivial) (And.intro trivial (And.intro (And.intro trivial trivial) (And.intro trivial (And.intro (And.intro trivial trivial) trivial))))))))))) (And.intro trivial trivial)))))
theorem w50q [Alg] (N : w50T) (e1_0 e1_1 : Int) (e1_2 : (List Ex)) (level2 : Int) (g0 : (List UInt8)) : w50G N  e1_0 e1_1 e1_2 level2 g0 = exec (w50c N) Tryd.f50.ntmps (w50h N) w50b ⟨argT 0 [.own 50, .agg [.e (.i .i64) e1_0, .e (.i .i64) e1_1, .e (.sl .ex) e1_2], .e (.i .i64) level2], [(50, .row 5 .u8 g0 true)], 100⟩ (finX (w50c N) Tryd.f50 true) := by kernel_rfl
theorem w50does {N : w50T} (hc : CxOk (w50c N)) {e1_0 e1_1 : Int} {e1_2 : (List Ex)} {level2 : Int} {g0 : (List UInt8)} {r : Res} (h : w50 N e1_0 e1_1 e1_2 level2 g0 = some r) : DoesR Tryd.prog 50 (([.own 50, .agg [.e (.i .i64) e1_0, .e (.i .i64) e1_1, .e (.sl .ex) e1_2], .e (.i .i64) level2] : List X).map X.D) (HA [(50, .row 5 .u8 g0 true)]) r :=
 fun_ok hc (f := 50) (fn := Tryd.f50) (code := w50b) (by kernel_rfl) (by kernel_rfl) (w50hk N) (Nat.le_of_ble_eq_true (by kernel_rfl)) (ow := true) ((w50q N e1_0 e1_1 e1_2 level2 g0).symm.trans (by exact h))
def w50un (r : Res) : Option ((List UInt8)) := match r with
 | (.own 100, [(100, x0)]) => (match ur 5 .u8 true x0 with | some a0 => some a0 | _ => none)
 | _ => none
theorem w50uo {r : Res} {d : (List UInt8)} (h : w50un r = some d) : r = w50r0 (d) := by
 unfold w50un at h
 split at h
 ·split at h
  ·rename_i h0; cases h; rw [ur_some h0]; rfl
  ·cases h
 ·cases h
def w50z (N : w50T) (e1_0 e1_1 : Int) (e1_2 : (List Ex)) (level2 : Int) (g0 : (List UInt8)) : Option ((List UInt8)) := (w50 N e1_0 e1_1 e1_2 level2 g0).bind w50un
theorem w50fin {N : w50T} (hc : CxOk (w50c N)) {e1_0 e1_1 : Int} {e1_2 : (List Ex)} {level2 : Int} {g0 d : (List UInt8)} (hd : w50z N e1_0 e1_1 e1_2 level2 g0 = some d) : Does Tryd.prog 50 (([.own 50, .agg [.e (.i .i64) e1_0, .e (.i .i64) e1_1, .e (.sl .ex) e1_2], .e (.i .i64) level2] : List X).map X.D) (HA [(50, .row 5 .u8 g0 true)]) (w50r0 (d)).1.D (HA (w50r0 (d)).2) := by
 obtain ⟨r, hr, hu⟩ := Option.bind_eq_some_iff.1 hd
 have := w50does hc hr
 rw [w50uo hu] at this
 exact this
def w50gY (N : Nat) : Nat → (Int → Int → (List Ex) → Int → (List UInt8) → Option ((List UInt8)))
 | 0 => fun _ _ _ _ _ => none
 | n + 1 => fun e1_0 e1_1 e1_2 level2 g0 => w50z (N, w50gY N n) e1_0 e1_1 e1_2 level2 g0
theorem w50gYok (N : Nat) : ∀ n, EOk Tryd.prog 50 (w50E (N, w50gY N n))
 | 0 => withNil_ok <| entR_ok w50io (fun _ h => by cases h)
 | n + 1 =>
   have ih := w50gYok N n
   withNil_ok <| entR_ok w50io (fun d h => norStep (zz := w50z (N, w50gY N n) (d.1) (d.2.1) (d.2.2.1) (d.2.2.2.1) (d.2.2.2.2)) (R := fun y => w50r0 (y)) (d0 := []) (fun _ hy => w50fin (w50cx (N, w50gY N n) ih) hy) h)
def w50p (N : Nat) (e1_0 e1_1 : Int) (e1_2 : (List Ex)) (level2 : Int) (g0 : (List UInt8)) : Bool := ((w50gY N N) e1_0 e1_1 e1_2 level2 g0).isSome
def w50y0 (N : Nat) (e1_0 e1_1 : Int) (e1_2 : (List Ex)) (level2 : Int) (g0 : (List UInt8)) : (List UInt8) := (((w50gY N N) e1_0 e1_1 e1_2 level2 g0).getD [])
def w50e (N : Nat) : Ent' := withNil 5 .u8 <| entR w50in (fun d => w50p N (d.1) (d.2.1) (d.2.2.1) (d.2.2.2.1) (d.2.2.2.2)) (fun d => w50r0 (w50y0 N (d.1) (d.2.1) (d.2.2.1) (d.2.2.2.1) (d.2.2.2.2)))
theorem w50ok (N : Nat) : EOk Tryd.prog 50 (w50e N) := w50gYok N N
def w14r0 (a0 : (List UInt8)) : Res := (.e .tx a0, [])
noncomputable def w14L (N : Nat) : List (Nat × Ent') := [(17, w17e N), (50, w50e N)]
noncomputable def w14c (N : Nat) : Cx := ⟨Tryd.prog, 25, w14L N, []⟩
noncomputable def w14b : Code := Tryd.f14.body.getD .skip
theorem w14cx (N : Nat) : CxOk (w14c N) := ctx_ok (by kernel_rfl) (.cons (by kernel_rfl) (w17ok N) (.cons (by kernel_rfl) (w50ok N) .nil)) .nil
def w14G [Alg] (N : Nat)  (A B : Int) (C : (List Ex)) : O :=
 ck (w17p N A B C) <|
 br (decide (w17y0 N A B C ≠ (0 : Int)))
  (some (w14r0 []))
  (ck (w50p N A B C (0 : Int) []) <|
  some (w14r0 (w50y0 N A B C (0 : Int) [])))
def w14 [Alg] (N : Nat) (A B : Int) (C : (List Ex)) : O := w14G N  A B C
noncomputable def w14h [Alg] (_ : Nat) : Hint := .d
theorem w14hk (N : Nat) : HintOk (w14c N) Tryd.f14.ntmps (w14h N) w14b := hk_of _ _ trivial
theorem w14q [Alg] (N : Nat) (A B : Int) (C : (List Ex)) : w14G N  A B C = exec (w14c N) Tryd.f14.ntmps (w14h N) w14b ⟨argT 0 [.agg [.e (.i .i64) A, .e (.i .i64) B, .e (.sl .ex) C]], [], 100⟩ (finX (w14c N) Tryd.f14 false) := by kernel_rfl
theorem w14does {N : Nat} (hc : CxOk (w14c N)) {A B : Int} {C : (List Ex)} {r : Res} (h : w14 N A B C = some r) : DoesR Tryd.prog 14 (([.agg [.e (.i .i64) A, .e (.i .i64) B, .e (.sl .ex) C]] : List X).map X.D) (HA []) r :=
 fun_ok hc (f := 14) (fn := Tryd.f14) (code := w14b) (by kernel_rfl) (by kernel_rfl) (w14hk N) (Nat.le_of_ble_eq_true (by kernel_rfl)) (ow := false) ((w14q N A B C).symm.trans (by exact h))
def w14un (r : Res) : Option ((List UInt8)) := match r with
 | (x0, []) => (match ue .tx x0 with | some a0 => some a0 | _ => none)
 | _ => none
theorem w14uo {r : Res} {d : (List UInt8)} (h : w14un r = some d) : r = w14r0 (d) := by
 unfold w14un at h
 split at h
 ·split at h
  ·rename_i h0; cases h; rw [ue_some h0]; rfl
  ·cases h
 ·cases h
def w14z (N : Nat) (A B : Int) (C : (List Ex)) : Option ((List UInt8)) := (w14 N A B C).bind w14un
theorem w14fin {N : Nat} (hc : CxOk (w14c N)) {A B : Int} {C : (List Ex)} {d : (List UInt8)} (hd : w14z N A B C = some d) : Does Tryd.prog 14 (([.agg [.e (.i .i64) A, .e (.i .i64) B, .e (.sl .ex) C]] : List X).map X.D) (HA []) (w14r0 (d)).1.D (HA (w14r0 (d)).2) := by
 obtain ⟨r, hr, hu⟩ := Option.bind_eq_some_iff.1 hd
 have := w14does hc hr
 rw [w14uo hu] at this
 exact this
def w14p (N : Nat) (A B : Int) (C : (List Ex)) : Bool := (w14z N A B C).isSome
def w14y0 (N : Nat) (A B : Int) (C : (List Ex)) : (List UInt8) := ((w14z N A B C).getD [])
def w14e (N : Nat) : Ent' := E1 .ex  (fun x0 => (w14p N (Ex.op x0) (Ex.num x0) (Ex.kids x0), w14r0 (w14y0 N (Ex.op x0) (Ex.num x0) (Ex.kids x0))))
theorem w14re {N : Nat} {A B : Int} {C : (List Ex)} {d : (List UInt8)} (hd : w14z N A B C = some d) : w14r0 (w14y0 N A B C) = w14r0 (d) := by unfold w14y0; rw [hd]; rfl
theorem w14ok (N : Nat) : EOk Tryd.prog 14 (w14e N) := EOk.e1 (fun x0 h => by
 have h : (w14z N (Ex.op x0) (Ex.num x0) (Ex.kids x0)).isSome = true := h
 obtain ⟨d, hd⟩ := Option.isSome_iff_exists.1 h
 have f := w14fin (w14cx N) hd
 rw [← w14re hd] at f
 exact f)
def w69r0 (a0 : Bool) : Res := (.e .bo a0, [])
def w69in (xs : List X) (H : XH) : Option ((List Ex) × (List Ex)) := match xs, H with
 | [x0, x1, .fn 38 []], [] => (match ue (.sl .ex) x0, ue (.sl .ex) x1 with | some a0, some a1 => some (a0, a1) | _, _ => none)
 | _, _ => none
theorem w69io {xs : List X} {H : XH} {d : (List Ex) × (List Ex)} (h : w69in xs H = some d) : xs = [.e (.sl .ex) (d.1), .e (.sl .ex) (d.2), .fn 38 []] ∧ H = [] := by
 unfold w69in at h
 split at h
 ·split at h
  ·rename_i h0 h1; cases h; rw [ue_some h0, ue_some h1]; exact ⟨rfl, rfl⟩
  ·cases h
 ·cases h
abbrev w69T := Nat × (((List Ex) → (List Ex) → Option (Bool)) × (Int → Int → (List Ex) → Int → Int → (List Ex) → Option (Bool)))
def w69E (N : w69T) : Ent' := entR w69in (fun d => (N.2.1 (d.1) (d.2)).isSome) (fun d => w69r0 (((N.2.1 (d.1) (d.2)).getD false)))
def w38r0 (a0 : Bool) : Res := (.e .bo a0, [])
def w38in (xs : List X) (H : XH) : Option (Int × Int × (List Ex) × Int × Int × (List Ex)) := match xs, H with
 | [.agg [x0, x1, x2], .agg [x3, x4, x5]], [] => (match ue (.i .i64) x0, ue (.i .i64) x1, ue (.sl .ex) x2, ue (.i .i64) x3, ue (.i .i64) x4, ue (.sl .ex) x5 with | some a0, some a1, some a2, some a3, some a4, some a5 => some (a0, a1, a2, a3, a4, a5) | _, _, _, _, _, _ => none)
 | _, _ => none
theorem w38io {xs : List X} {H : XH} {d : Int × Int × (List Ex) × Int × Int × (List Ex)} (h : w38in xs H = some d) : xs = [.agg [.e (.i .i64) (d.1), .e (.i .i64) (d.2.1), .e (.sl .ex) (d.2.2.1)], .agg [.e (.i .i64) (d.2.2.2.1), .e (.i .i64) (d.2.2.2.2.1), .e (.sl .ex) (d.2.2.2.2.2)]] ∧ H = [] := by
 unfold w38in at h
 split at h
 ·split at h
  ·rename_i h0 h1 h2 h3 h4 h5; cases h; rw [ue_some h0, ue_some h1, ue_some h2, ue_some h3, ue_some h4, ue_some h5]; exact ⟨rfl, rfl⟩
  ·cases h
 ·cases h
def w38E (N : w69T) : Ent' := entR w38in (fun d => (N.2.2 (d.1) (d.2.1) (d.2.2.1) (d.2.2.2.1) (d.2.2.2.2.1) (d.2.2.2.2.2)).isSome) (fun d => w38r0 (((N.2.2 (d.1) (d.2.1) (d.2.2.1) (d.2.2.2.1) (d.2.2.2.2.1) (d.2.2.2.2.2)).getD false)))
noncomputable def w69L (N : w69T) : List (Nat × Ent') := [(69, w69E N), (38, w38E N)]
noncomputable def w69c (N : w69T) : Cx := ⟨Tryd.prog, 25, w69L N, []⟩
noncomputable def w69b : Code := Tryd.f69.body.getD .skip
theorem w69cx (N : w69T) (hw69 : EOk Tryd.prog 69 (w69E N)) (hw38 : EOk Tryd.prog 38 (w38E N)) : CxOk (w69c N) := ctx_ok (by kernel_rfl) (.cons (by kernel_rfl) hw69 (.cons (by kernel_rfl) hw38 .nil)) .nil
def w69F0 [Alg] (N : w69T)  (self : Int → O) (k0 : Bool → O) (k1 : Unit → O) (x0_0 x0_1 : (List Ex)) (x0_2 x0_3 : Int) : O :=
 br (decide (x0_3 < x0_2))
  (gx x0_1 x0_3 fun y5 =>
  gx x0_0 x0_3 fun y6 =>
  ck ((N.snd.2 y5.op y5.num y5.kids y6.op y6.num y6.kids).isSome) <|
  br (!(N.snd.2 y5.op y5.num y5.kids y6.op y6.num y6.kids).getD false)
   (k0 false)
   (self (IntKind.i64.wrap (x0_3 + (1 : Int)))))
  (k1 ())
noncomputable def w69b0 : Code := atC [1, 1, 0, 1, 0, 0] w69b
def w69m0 : Nm := ⟨[1, 2, 15, 16, 17], [], []⟩
def w69I0 (x : (List Ex) × (List Ex) × Int × Int) : Sg := ⟨[(1, .e (.sl .ex) x.1), (2, .fn 38 []), (15, .e (.sl .ex) x.2.1), (16, .e (.i .i64) x.2.2.1), (17, .e (.i .i64) x.2.2.2)], [], 100⟩
def w69u0 (σ : Sg) : (List Ex) × (List Ex) × Int × Int := (lvT (.sl .ex) 1 0 σ, lvT (.sl .ex) 15 0 σ, lvT (.i .i64) 16 0 σ, lvT (.i .i64) 17 0 σ)
theorem w69ui0 : ∀ x, w69u0 (w69I0 x) = x := fun _ => by kernel_rfl
def w69X0_0 (y : Bool) : Exit × Sg := (.ret, ⟨[(6, .e .bo y)], [], 100⟩)
def w69v0_0 (_ : Exit) (σ : Sg) : Bool := lvT .bo 6 0 σ
def w69X0_1 (_ : Unit) : Exit × Sg := ((.exit 0), ⟨[], [], 100⟩)
def w69v0_1 (_ : Exit) (_ : Sg) : Unit := ()
def w69w0 : List (Exit × Nm) := [(.ret, ⟨[6], [], []⟩), ((.exit 0), ⟨[], [], []⟩)]
theorem w69o0 : Outs w69v0_0 w69v0_1 (fun _ _ => ()) w69X0_0 w69X0_1 (noX 2) (exC .ret) (exC (.exit 0)) (exC (.goto 2)) := ⟨fun _ => by kernel_rfl, fun _ => by kernel_rfl, fun _ => by kernel_rfl, fun _ => by kernel_rfl, fun _ => by kernel_rfl, fun _ => by kernel_rfl, exNe_ok (by kernel_rfl), exNe_ok (by kernel_rfl), exNe_ok (by kernel_rfl)⟩
def w69l0 [Alg] (N : w69T) : Nat → ((List Ex) × (List Ex) × Int × Int) → ((Bool) → O) → ((Unit) → O) → ((Unit) → O) → O
 | 0, _, _, _, _ => none
 | n + 1, x, k0, k1, k2 => w69F0 N  (fun v0 => w69l0 N n (x.1, x.2.1, x.2.2.1, v0) k0 k1 k2) (fun y0 => k0 y0) (fun (_ : Unit) => k1 ()) x.1 x.2.1 x.2.2.1 x.2.2.2
def w69n0 [Alg] (N : w69T) (a0 a1 : (List Ex)) (a2 a3 : Int) (k0 : Bool → O) (k1 : Unit → O) : O := w69l0 N N.1 (a0, a1, a2, a3) (fun y => k0 y) (fun y => k1 y) (fun _ => none)
noncomputable def w69s0 [Alg] (N : w69T) (a0 a1 : (List Ex)) (a2 a3 : Int) (k0 : Bool → O) (k1 : Unit → O) : O := subL w69I0 w69u0 (w69l0 N N.1) (w69I0 (a0, a1, a2, a3)) (fun y => k0 y) (fun y => k1 y) (fun _ => none)
theorem w69e0 [Alg] (N : w69T) : w69s0 N = w69n0 N := funext fun _ => funext fun _ => funext fun _ => funext fun _ => funext fun _ => funext fun _ => subL_I w69ui0 _ _ _ _
noncomputable def w69h0 [Alg] (_ : w69T) : Hint := .d
theorem w69hk0 (N : w69T) : HintOk (w69c N) Tryd.f69.ntmps (w69h0 N) w69b0 := hk_of _ _ trivial
theorem w69q0 [Alg] (N : w69T) (self : Sg → O) (K : Exit → Sg → O) (x : (List Ex) × (List Ex) × Int × Int) : w69F0 N  (fun v0 => self (w69I0 (x.1, x.2.1, x.2.2.1, v0))) (fun y0 => K (w69X0_0 y0).1 (w69X0_0 y0).2) (fun (_ : Unit) => K (w69X0_1 ()).1 (w69X0_1 ()).2) x.1 x.2.1 x.2.2.1 x.2.2.2 = exec (w69c N) Tryd.f69.ntmps (w69h0 N) w69b0 (w69I0 x) (roundX w69m0 w69w0 self K) := by kernel_rfl
theorem w69S0 (N : w69T) (hc : CxOk (w69c N)) : SubOk (w69c N) Tryd.f69.ntmps (.loop w69b0) w69X0_0 w69X0_1 (noX 2) (subL w69I0 w69u0 (w69l0 N N.1)) :=
 sub_loop hc (w69hk0 N) w69o0 (n := N.1) (fun x K => loop_ind (w69l0 N) (fun _ _ _ _ => rfl) (fun n K ih x => by
  have h : w69F0 N  (fun v0 => w69l0 N n (x.1, x.2.1, x.2.2.1, v0) (fun y => K (w69X0_0 y).1 (w69X0_0 y).2) (fun y => K (w69X0_1 y).1 (w69X0_1 y).2) (fun y => K ((noX 2) y).1 ((noX 2) y).2)) (fun y0 => K (w69X0_0 y0).1 (w69X0_0 y0).2) (fun (_ : Unit) => K (w69X0_1 ()).1 (w69X0_1 ()).2) x.1 x.2.1 x.2.2.1 x.2.2.2 = w69F0 N  (fun v0 => loopX (w69c N) Tryd.f69.ntmps (w69h0 N) w69b0 w69m0 w69w0 n (w69I0 (x.1, x.2.1, x.2.2.1, v0)) K) (fun y0 => K (w69X0_0 y0).1 (w69X0_0 y0).2) (fun (_ : Unit) => K (w69X0_1 ()).1 (w69X0_1 ()).2) x.1 x.2.1 x.2.2.1 x.2.2.2 := by rw [ show (fun v0 => w69l0 N n (x.1, x.2.1, x.2.2.1, v0) (fun y => K (w69X0_0 y).1 (w69X0_0 y).2) (fun y => K (w69X0_1 y).1 (w69X0_1 y).2) (fun y => K ((noX 2) y).1 ((noX 2) y).2)) = (fun v0 => loopX (w69c N) Tryd.f69.ntmps (w69h0 N) w69b0 w69m0 w69w0 n (w69I0 (x.1, x.2.1, x.2.2.1, v0)) K) from funext fun _ => ih _]
  exact h.trans (w69q0 N (fun σ => loopX (w69c N) Tryd.f69.ntmps (w69h0 N) w69b0 w69m0 w69w0 n σ K) K x)) N.1 x K)
def w69G [Alg] (_ : w69T) (in0 : (List Ex) → (List Ex) → Int → Int → (Bool → O) → (Unit → O) → O) (s10 s21 : (List Ex)) : O :=
 br (decide ((↑s10.length : Int) ≠ (↑s21.length : Int)))
  (some (w69r0 false))
  (in0 s21 s10 ((↑s10.length : Int)) ((0 : Int))
   (fun z7 =>
    some (w69r0 z7))
   (fun (_ : Unit) =>
    some (w69r0 true)))
def w69 [Alg] (N : w69T) (s10 s21 : (List Ex)) : O := w69G N (w69n0 N) s10 s21
noncomputable def w69h [Alg] (N : w69T) : Hint := (.seq .d (.seq .d (.seq (.seq .d (.block (.sub w69m0 _ _ _ w69X0_0 w69X0_1 (noX 2) (subL w69I0 w69u0 (w69l0 N N.1))))) .d)))
theorem w69hk (N : w69T) (hc : CxOk (w69c N)) : HintOk (w69c N) Tryd.f69.ntmps (w69h N) w69b := hk_of _ _ (And.intro trivial (And.intro trivial (And.intro (And.intro trivial (w69S0 N hc)) trivial)))
theorem w69q [Alg] (N : w69T) (s10 s21 : (List Ex)) : w69G N (w69s0 N) s10 s21 = exec (w69c N) Tryd.f69.ntmps (w69h N) w69b ⟨argT 0 [.e (.sl .ex) s10, .e (.sl .ex) s21, .fn 38 []], [], 100⟩ (finX (w69c N) Tryd.f69 false) := by kernel_rfl
theorem w69does {N : w69T} (hc : CxOk (w69c N)) {s10 s21 : (List Ex)} {r : Res} (h : w69 N s10 s21 = some r) : DoesR Tryd.prog 69 (([.e (.sl .ex) s10, .e (.sl .ex) s21, .fn 38 []] : List X).map X.D) (HA []) r :=
 fun_ok hc (f := 69) (fn := Tryd.f69) (code := w69b) (by kernel_rfl) (by kernel_rfl) (w69hk N hc) (Nat.le_of_ble_eq_true (by kernel_rfl)) (ow := false) ((w69q N s10 s21).symm.trans (by rw [w69e0 N]; exact h))
def w69un (r : Res) : Option (Bool) := match r with
 | (x0, []) => (match ue .bo x0 with | some a0 => some a0 | _ => none)
 | _ => none
theorem w69uo {r : Res} {d : Bool} (h : w69un r = some d) : r = w69r0 (d) := by
 unfold w69un at h
 split at h
 ·split at h
  ·rename_i h0; cases h; rw [ue_some h0]; rfl
  ·cases h
 ·cases h
def w69z (N : w69T) (s10 s21 : (List Ex)) : Option (Bool) := (w69 N s10 s21).bind w69un
theorem w69fin {N : w69T} (hc : CxOk (w69c N)) {s10 s21 : (List Ex)} {d : Bool} (hd : w69z N s10 s21 = some d) : Does Tryd.prog 69 (([.e (.sl .ex) s10, .e (.sl .ex) s21, .fn 38 []] : List X).map X.D) (HA []) (w69r0 (d)).1.D (HA (w69r0 (d)).2) := by
 obtain ⟨r, hr, hu⟩ := Option.bind_eq_some_iff.1 hd
 have := w69does hc hr
 rw [w69uo hu] at this
 exact this
noncomputable def w38L (N : w69T) : List (Nat × Ent') := [(69, w69E N), (38, w38E N)]
noncomputable def w38c (N : w69T) : Cx := ⟨Tryd.prog, 25, w38L N, []⟩
noncomputable def w38b : Code := Tryd.f38.body.getD .skip
theorem w38cx (N : w69T) (hw69 : EOk Tryd.prog 69 (w69E N)) (hw38 : EOk Tryd.prog 38 (w38E N)) : CxOk (w38c N) := ctx_ok (by kernel_rfl) (.cons (by kernel_rfl) hw69 (.cons (by kernel_rfl) hw38 .nil)) .nil
def w38G [Alg] (N : w69T)  (a0_0 a0_1 : Int) (a0_2 : (List Ex)) (b1_0 b1_1 : Int) (b1_2 : (List Ex)) : O :=
 ck (!(decide (a0_0 = b1_0) && decide (a0_1 = b1_1)) || (N.snd.1 a0_2 b1_2).isSome) <|
 some (w38r0 (decide (a0_0 = b1_0) && decide (a0_1 = b1_1) && (N.snd.1 a0_2 b1_2).getD false))
def w38 [Alg] (N : w69T) (a0_0 a0_1 : Int) (a0_2 : (List Ex)) (b1_0 b1_1 : Int) (b1_2 : (List Ex)) : O := w38G N  a0_0 a0_1 a0_2 b1_0 b1_1 b1_2
noncomputable def w38h [Alg] (_ : w69T) : Hint := .d
theorem w38hk (N : w69T) : HintOk (w38c N) Tryd.f38.ntmps (w38h N) w38b := hk_of _ _ trivial
theorem w38q [Alg] (N : w69T) (a0_0 a0_1 : Int) (a0_2 : (List Ex)) (b1_0 b1_1 : Int) (b1_2 : (List Ex)) : w38G N  a0_0 a0_1 a0_2 b1_0 b1_1 b1_2 = exec (w38c N) Tryd.f38.ntmps (w38h N) w38b ⟨argT 0 [.agg [.e (.i .i64) a0_0, .e (.i .i64) a0_1, .e (.sl .ex) a0_2], .agg [.e (.i .i64) b1_0, .e (.i .i64) b1_1, .e (.sl .ex) b1_2]], [], 100⟩ (finX (w38c N) Tryd.f38 false) := by kernel_rfl
theorem w38does {N : w69T} (hc : CxOk (w38c N)) {a0_0 a0_1 : Int} {a0_2 : (List Ex)} {b1_0 b1_1 : Int} {b1_2 : (List Ex)} {r : Res} (h : w38 N a0_0 a0_1 a0_2 b1_0 b1_1 b1_2 = some r) : DoesR Tryd.prog 38 (([.agg [.e (.i .i64) a0_0, .e (.i .i64) a0_1, .e (.sl .ex) a0_2], .agg [.e (.i .i64) b1_0, .e (.i .i64) b1_1, .e (.sl .ex) b1_2]] : List X).map X.D) (HA []) r :=
 fun_ok hc (f := 38) (fn := Tryd.f38) (code := w38b) (by kernel_rfl) (by kernel_rfl) (w38hk N) (Nat.le_of_ble_eq_true (by kernel_rfl)) (ow := false) ((w38q N a0_0 a0_1 a0_2 b1_0 b1_1 b1_2).symm.trans (by exact h))
def w38un (r : Res) : Option (Bool) := match r with
 | (x0, []) => (match ue .bo x0 with | some a0 => some a0 | _ => none)
 | _ => none
theorem w38uo {r : Res} {d : Bool} (h : w38un r = some d) : r = w38r0 (d) := by
 unfold w38un at h
 split at h
 ·split at h
  ·rename_i h0; cases h; rw [ue_some h0]; rfl
  ·cases h
 ·cases h
def w38z (N : w69T) (a0_0 a0_1 : Int) (a0_2 : (List Ex)) (b1_0 b1_1 : Int) (b1_2 : (List Ex)) : Option (Bool) := (w38 N a0_0 a0_1 a0_2 b1_0 b1_1 b1_2).bind w38un
theorem w38fin {N : w69T} (hc : CxOk (w38c N)) {a0_0 a0_1 : Int} {a0_2 : (List Ex)} {b1_0 b1_1 : Int} {b1_2 : (List Ex)} {d : Bool} (hd : w38z N a0_0 a0_1 a0_2 b1_0 b1_1 b1_2 = some d) : Does Tryd.prog 38 (([.agg [.e (.i .i64) a0_0, .e (.i .i64) a0_1, .e (.sl .ex) a0_2], .agg [.e (.i .i64) b1_0, .e (.i .i64) b1_1, .e (.sl .ex) b1_2]] : List X).map X.D) (HA []) (w38r0 (d)).1.D (HA (w38r0 (d)).2) := by
 obtain ⟨r, hr, hu⟩ := Option.bind_eq_some_iff.1 hd
 have := w38does hc hr
 rw [w38uo hu] at this
 exact this
def w69gY (N : Nat) : Nat → ((List Ex) → (List Ex) → Option (Bool)) × (Int → Int → (List Ex) → Int → Int → (List Ex) → Option (Bool))
 | 0 => (fun _ _ => none, fun _ _ _ _ _ _ => none)
 | n + 1 => (fun s10 s21 => w69z (N, w69gY N n) s10 s21, fun a0_0 a0_1 a0_2 b1_0 b1_1 b1_2 => w38z (N, w69gY N n) a0_0 a0_1 a0_2 b1_0 b1_1 b1_2)
theorem w69gYok (N : Nat) : ∀ n, EOk Tryd.prog 69 (w69E (N, w69gY N n)) ∧ EOk Tryd.prog 38 (w38E (N, w69gY N n))
 | 0 => ⟨entR_ok w69io (fun _ h => by cases h), entR_ok w38io (fun _ h => by cases h)⟩
 | n + 1 =>
   have ih := w69gYok N n
   ⟨entR_ok w69io (fun d h => norStep (zz := w69z (N, w69gY N n) (d.1) (d.2)) (R := fun y => w69r0 (y)) (d0 := false) (fun _ hy => w69fin (w69cx (N, w69gY N n) ih.1 ih.2) hy) h), entR_ok w38io (fun d h => norStep (zz := w38z (N, w69gY N n) (d.1) (d.2.1) (d.2.2.1) (d.2.2.2.1) (d.2.2.2.2.1) (d.2.2.2.2.2)) (R := fun y => w38r0 (y)) (d0 := false) (fun _ hy => w38fin (w38cx (N, w69gY N n) ih.1 ih.2) hy) h)⟩
def w38p (N : Nat) (a0_0 a0_1 : Int) (a0_2 : (List Ex)) (b1_0 b1_1 : Int) (b1_2 : (List Ex)) : Bool := ((w69gY N N).2 a0_0 a0_1 a0_2 b1_0 b1_1 b1_2).isSome
def w38y0 (N : Nat) (a0_0 a0_1 : Int) (a0_2 : (List Ex)) (b1_0 b1_1 : Int) (b1_2 : (List Ex)) : Bool := (((w69gY N N).2 a0_0 a0_1 a0_2 b1_0 b1_1 b1_2).getD false)
def w38e (N : Nat) : Ent' := entR w38in (fun d => w38p N (d.1) (d.2.1) (d.2.2.1) (d.2.2.2.1) (d.2.2.2.2.1) (d.2.2.2.2.2)) (fun d => w38r0 (w38y0 N (d.1) (d.2.1) (d.2.2.1) (d.2.2.2.1) (d.2.2.2.2.1) (d.2.2.2.2.2)))
theorem w38ok (N : Nat) : EOk Tryd.prog 38 (w38e N) := (w69gYok N N).2
def w92r0 (a0 : Int) (a1 : Bool) : Res := (.tup [.e (.i .i64) a0, .e .bo a1], [])
noncomputable def w92L (_ : Nat) : List (Nat × Ent') := []
noncomputable def w92c (N : Nat) : Cx := ⟨Tryd.prog, 25, w92L N, []⟩
noncomputable def w92b : Code := Tryd.f92.body.getD .skip
theorem w92cx (N : Nat) : CxOk (w92c N) := ctx_ok (by kernel_rfl) .nil .nil
def w92G [Alg] (_ : Nat)  (is0 : Bool) : O :=
 br is0
  (some (w92r0 ((1 : Int)) true))
  (some (w92r0 ((0 : Int)) true))
def w92 [Alg] (N : Nat) (is0 : Bool) : O := w92G N  is0
noncomputable def w92h [Alg] (_ : Nat) : Hint := .d
theorem w92hk (N : Nat) : HintOk (w92c N) Tryd.f92.ntmps (w92h N) w92b := hk_of _ _ trivial
theorem w92q [Alg] (N : Nat) (is0 : Bool) : w92G N  is0 = exec (w92c N) Tryd.f92.ntmps (w92h N) w92b ⟨argT 0 [.e .bo is0], [], 100⟩ (finX (w92c N) Tryd.f92 false) := by kernel_rfl
theorem w92does {N : Nat} (hc : CxOk (w92c N)) {is0 : Bool} {r : Res} (h : w92 N is0 = some r) : DoesR Tryd.prog 92 (([.e .bo is0] : List X).map X.D) (HA []) r :=
 fun_ok hc (f := 92) (fn := Tryd.f92) (code := w92b) (by kernel_rfl) (by kernel_rfl) (w92hk N) (Nat.le_of_ble_eq_true (by kernel_rfl)) (ow := false) ((w92q N is0).symm.trans (by exact h))
def w92un (r : Res) : Option (Int × Bool) := match r with
 | (.tup [x0, x1], []) => (match ue (.i .i64) x0, ue .bo x1 with | some a0, some a1 => some (a0, a1) | _, _ => none)
 | _ => none
theorem w92uo {r : Res} {d : Int × Bool} (h : w92un r = some d) : r = w92r0 (d.1) (d.2) := by
 unfold w92un at h
 split at h
 ·split at h
  ·rename_i h0 h1; cases h; rw [ue_some h0, ue_some h1]; rfl
  ·cases h
 ·cases h
def w92z (N : Nat) (is0 : Bool) : Option (Int × Bool) := (w92 N is0).bind w92un
theorem w92fin {N : Nat} (hc : CxOk (w92c N)) {is0 : Bool} {d : Int × Bool} (hd : w92z N is0 = some d) : Does Tryd.prog 92 (([.e .bo is0] : List X).map X.D) (HA []) (w92r0 (d.1) (d.2)).1.D (HA (w92r0 (d.1) (d.2)).2) := by
 obtain ⟨r, hr, hu⟩ := Option.bind_eq_some_iff.1 hd
 have := w92does hc hr
 rw [w92uo hu] at this
 exact this
def w92p (N : Nat) (is0 : Bool) : Bool := (w92z N is0).isSome
def w92y0 (N : Nat) (is0 : Bool) : Int := ((w92z N is0).getD (0, false)).1
def w92y1 (N : Nat) (is0 : Bool) : Bool := ((w92z N is0).getD (0, false)).2
def w92e (N : Nat) : Ent' := E1 .bo  (fun x0 => (w92p N x0, w92r0 (w92y0 N x0) (w92y1 N x0)))
theorem w92re {N : Nat} {is0 : Bool} {d : Int × Bool} (hd : w92z N is0 = some d) : w92r0 (w92y0 N is0) (w92y1 N is0) = w92r0 (d.1) (d.2) := by unfold w92y0 w92y1; rw [hd]; rfl
theorem w92ok (N : Nat) : EOk Tryd.prog 92 (w92e N) := EOk.e1 (fun x0 h => by
 have h : (w92z N x0).isSome = true := h
 obtain ⟨d, hd⟩ := Option.isSome_iff_exists.1 h
 have f := w92fin (w92cx N) hd
 rw [← w92re hd] at f
 exact f)
def w93r0 (a0 : Int) : Res := (.e (.i .i64) a0, [])
noncomputable def w93L (_ : Nat) : List (Nat × Ent') := []
noncomputable def w93c (N : Nat) : Cx := ⟨Tryd.prog, 25, w93L N, []⟩
noncomputable def w93b : Code := Tryd.f93.body.getD .skip
theorem w93cx (N : Nat) : CxOk (w93c N) := ctx_ok (by kernel_rfl) .nil .nil
def w93F0 [Alg] (_ : Nat)  (self : Int → Int → Int → O) (k0 : Int → O) (x0_0 x0_1 x0_2 : Int) : O :=
 br (decide ((0 : Int) < x0_1))
  (ck true <|
  br (decide (x0_1.tmod (2 : Int) = (1 : Int)))
   (ck true <|
   ck true <|
   ck true <|
   self ((IntKind.i64.wrap (x0_0 * x0_0)).tmod (9973 : Int)) (IntKind.i64.wrap (x0_1.tdiv (2 : Int))) ((IntKind.i64.wrap (x0_2 * x0_0)).tmod (9973 : Int)))
   (ck true <|
   ck true <|
   self ((IntKind.i64.wrap (x0_0 * x0_0)).tmod (9973 : Int)) (IntKind.i64.wrap (x0_1.tdiv (2 : Int))) x0_2))
  (k0 x0_2)
noncomputable def w93b0 : Code := atC [1, 1, 0, 0, 0] w93b
def w93m0 : Nm := ⟨[0, 1, 5], [], []⟩
def w93I0 (x : Int × Int × Int) : Sg := ⟨[(0, .e (.i .i64) x.1), (1, .e (.i .i64) x.2.1), (5, .e (.i .i64) x.2.2)], [], 100⟩
def w93u0 (σ : Sg) : Int × Int × Int := (lvT (.i .i64) 0 0 σ, lvT (.i .i64) 1 0 σ, lvT (.i .i64) 5 0 σ)
theorem w93ui0 : ∀ x, w93u0 (w93I0 x) = x := fun _ => by kernel_rfl
def w93X0_0 (y : Int) : Exit × Sg := ((.exit 0), ⟨[(5, .e (.i .i64) y)], [], 100⟩)
def w93v0_0 (_ : Exit) (σ : Sg) : Int := lvT (.i .i64) 5 0 σ
def w93w0 : List (Exit × Nm) := [((.exit 0), ⟨[5], [], []⟩)]
theorem w93o0 : Outs w93v0_0 (fun _ _ => ()) (fun _ _ => ()) w93X0_0 (noX 1) (noX 2) (exC (.exit 0)) (exC (.goto 1)) (exC (.goto 2)) := ⟨fun _ => by kernel_rfl, fun _ => by kernel_rfl, fun _ => by kernel_rfl, fun _ => by kernel_rfl, fun _ => by kernel_rfl, fun _ => by kernel_rfl, exNe_ok (by kernel_rfl), exNe_ok (by kernel_rfl), exNe_ok (by kernel_rfl)⟩
def w93l0 [Alg] (N : Nat) : Nat → (Int × Int × Int) → ((Int) → O) → ((Unit) → O) → ((Unit) → O) → O
 | 0, _, _, _, _ => none
 | n + 1, x, k0, k1, k2 => w93F0 N  (fun v0 v1 v2 => w93l0 N n (v0, v1, v2) k0 k1 k2) (fun y0 => k0 y0) x.1 x.2.1 x.2.2
def w93n0 [Alg] (N : Nat) (a0 a1 a2 : Int) (k0 : Int → O) : O := w93l0 N N (a0, a1, a2) (fun y => k0 y) (fun _ => none) (fun _ => none)
noncomputable def w93s0 [Alg] (N : Nat) (a0 a1 a2 : Int) (k0 : Int → O) : O := subL w93I0 w93u0 (w93l0 N N) (w93I0 (a0, a1, a2)) (fun y => k0 y) (fun _ => none) (fun _ => none)
theorem w93e0 [Alg] (N : Nat) : w93s0 N = w93n0 N := funext fun _ => funext fun _ => funext fun _ => funext fun _ => subL_I w93ui0 _ _ _ _
noncomputable def w93h0 [Alg] (_ : Nat) : Hint := .d
theorem w93hk0 (N : Nat) : HintOk (w93c N) Tryd.f93.ntmps (w93h0 N) w93b0 := hk_of _ _ trivial
theorem w93q0 [Alg] (N : Nat) (self : Sg → O) (K : Exit → Sg → O) (x : Int × Int × Int) : w93F0 N  (fun v0 v1 v2 => self (w93I0 (v0, v1, v2))) (fun y0 => K (w93X0_0 y0).1 (w93X0_0 y0).2) x.1 x.2.1 x.2.2 = exec (w93c N) Tryd.f93.ntmps (w93h0 N) w93b0 (w93I0 x) (roundX w93m0 w93w0 self K) := by kernel_rfl
theorem w93S0 (N : Nat) (hc : CxOk (w93c N)) : SubOk (w93c N) Tryd.f93.ntmps (.loop w93b0) w93X0_0 (noX 1) (noX 2) (subL w93I0 w93u0 (w93l0 N N)) :=
 sub_loop hc (w93hk0 N) w93o0 (n := N) (fun x K => loop_ind (w93l0 N) (fun _ _ _ _ => rfl) (fun n K ih x => by
  have h : w93F0 N  (fun v0 v1 v2 => w93l0 N n (v0, v1, v2) (fun y => K (w93X0_0 y).1 (w93X0_0 y).2) (fun y => K ((noX 1) y).1 ((noX 1) y).2) (fun y => K ((noX 2) y).1 ((noX 2) y).2)) (fun y0 => K (w93X0_0 y0).1 (w93X0_0 y0).2) x.1 x.2.1 x.2.2 = w93F0 N  (fun v0 v1 v2 => loopX (w93c N) Tryd.f93.ntmps (w93h0 N) w93b0 w93m0 w93w0 n (w93I0 (v0, v1, v2)) K) (fun y0 => K (w93X0_0 y0).1 (w93X0_0 y0).2) x.1 x.2.1 x.2.2 := by rw [ show (fun v0 v1 v2 => w93l0 N n (v0, v1, v2) (fun y => K (w93X0_0 y).1 (w93X0_0 y).2) (fun y => K ((noX 1) y).1 ((noX 1) y).2) (fun y => K ((noX 2) y).1 ((noX 2) y).2)) = (fun v0 v1 v2 => loopX (w93c N) Tryd.f93.ntmps (w93h0 N) w93b0 w93m0 w93w0 n (w93I0 (v0, v1, v2)) K) from funext fun _ => funext fun _ => funext fun _ => ih _]
  exact h.trans (w93q0 N (fun σ => loopX (w93c N) Tryd.f93.ntmps (w93h0 N) w93b0 w93m0 w93w0 n σ K) K x)) N x K)
def w93G [Alg] (_ : Nat) (in0 : Int → Int → Int → (Int → O) → O) (a0 b1 : Int) : O :=
 in0 a0 b1 ((1 : Int))
  (fun z1 =>
   some (w93r0 z1))
def w93 [Alg] (N : Nat) (a0 b1 : Int) : O := w93G N (w93n0 N) a0 b1
noncomputable def w93h [Alg] (N : Nat) : Hint := (.seq .d (.seq .d (.seq (.block (.sub w93m0 _ _ _ w93X0_0 (noX 1) (noX 2) (subL w93I0 w93u0 (w93l0 N N)))) .d)))
theorem w93hk (N : Nat) (hc : CxOk (w93c N)) : HintOk (w93c N) Tryd.f93.ntmps (w93h N) w93b := hk_of _ _ (And.intro trivial (And.intro trivial (And.intro (w93S0 N hc) trivial)))
theorem w93q [Alg] (N : Nat) (a0 b1 : Int) : w93G N (w93s0 N) a0 b1 = exec (w93c N) Tryd.f93.ntmps (w93h N) w93b ⟨argT 0 [.e (.i .i64) a0, .e (.i .i64) b1], [], 100⟩ (finX (w93c N) Tryd.f93 false) := by kernel_rfl
theorem w93does {N : Nat} (hc : CxOk (w93c N)) {a0 b1 : Int} {r : Res} (h : w93 N a0 b1 = some r) : DoesR Tryd.prog 93 (([.e (.i .i64) a0, .e (.i .i64) b1] : List X).map X.D) (HA []) r :=
 fun_ok hc (f := 93) (fn := Tryd.f93) (code := w93b) (by kernel_rfl) (by kernel_rfl) (w93hk N hc) (Nat.le_of_ble_eq_true (by kernel_rfl)) (ow := false) ((w93q N a0 b1).symm.trans (by rw [w93e0 N]; exact h))
def w93un (r : Res) : Option (Int) := match r with
 | (x0, []) => (match ue (.i .i64) x0 with | some a0 => some a0 | _ => none)
 | _ => none
theorem w93uo {r : Res} {d : Int} (h : w93un r = some d) : r = w93r0 (d) := by
 unfold w93un at h
 split at h
 ·split at h
  ·rename_i h0; cases h; rw [ue_some h0]; rfl
  ·cases h
 ·cases h
def w93z (N : Nat) (a0 b1 : Int) : Option (Int) := (w93 N a0 b1).bind w93un
theorem w93fin {N : Nat} (hc : CxOk (w93c N)) {a0 b1 d : Int} (hd : w93z N a0 b1 = some d) : Does Tryd.prog 93 (([.e (.i .i64) a0, .e (.i .i64) b1] : List X).map X.D) (HA []) (w93r0 (d)).1.D (HA (w93r0 (d)).2) := by
 obtain ⟨r, hr, hu⟩ := Option.bind_eq_some_iff.1 hd
 have := w93does hc hr
 rw [w93uo hu] at this
 exact this
def w93p (N : Nat) (a0 b1 : Int) : Bool := (w93z N a0 b1).isSome
def w93y0 (N : Nat) (a0 b1 : Int) : Int := ((w93z N a0 b1).getD 0)
def w93e (N : Nat) : Ent' := E2 (.i .i64) (.i .i64)  (fun x0 x1 => (w93p N x0 x1, w93r0 (w93y0 N x0 x1)))
theorem w93re {N : Nat} {a0 b1 d : Int} (hd : w93z N a0 b1 = some d) : w93r0 (w93y0 N a0 b1) = w93r0 (d) := by unfold w93y0; rw [hd]; rfl
theorem w93ok (N : Nat) : EOk Tryd.prog 93 (w93e N) := EOk.e2 (fun x0 x1 h => by
 have h : (w93z N x0 x1).isSome = true := h
 obtain ⟨d, hd⟩ := Option.isSome_iff_exists.1 h
 have f := w93fin (w93cx N) hd
 rw [← w93re hd] at f
 exact f)
def w64r0 (a0 : Int) (a1 : Bool) : Res := (.tup [.e (.i .i64) a0, .e .bo a1], [])
abbrev w64T := Nat × (Int → Int → (List Ex) → (List Int) → Option (Int × Bool))
noncomputable def w64L (N : w64T) : List (Nat × Ent') := [(64, E2 .ex (.sl (.i .i64))  (fun x0 x1 => ((N.2 (Ex.op x0) (Ex.num x0) (Ex.kids x0) x1).isSome, w64r0 (((N.2 (Ex.op x0) (Ex.num x0) (Ex.kids x0) x1).getD (0, false)).1) (((N.2 (Ex.op x0) (Ex.num x0) (Ex.kids x0) x1).getD (0, false)).2)))), (92, w92e N.1), (93, w93e N.1)]
noncomputable def w64c (N : w64T) : Cx := ⟨Tryd.prog, 25, w64L N, []⟩
noncomputable def w64b : Code := Tryd.f64.body.getD .skip
theorem w64cx (N : w64T) (hs : EOk Tryd.prog 64 (E2 .ex (.sl (.i .i64))  (fun x0 x1 => ((N.2 (Ex.op x0) (Ex.num x0) (Ex.kids x0) x1).isSome, w64r0 (((N.2 (Ex.op x0) (Ex.num x0) (Ex.kids x0) x1).getD (0, false)).1) (((N.2 (Ex.op x0) (Ex.num x0) (Ex.kids x0) x1).getD (0, false)).2))))) : CxOk (w64c N) := ctx_ok (by kernel_rfl) (.cons (by kernel_rfl) hs (.cons (by kernel_rfl) (w92ok N.1) (.cons (by kernel_rfl) (w93ok N.1) .nil))) .nil
def w64F0 [Alg] (N : w64T)  (self : Int → Int → Int → O) (k0 : Int → Bool → O) (k1 : (List Int) → Int → Int → (List Ex) → Int → Int → O) (x0_0 : (List Int)) (x0_1 : (List Ex)) (x0_2 x0_4 x0_5 : Int) (x0_6 : (List Ex)) (x0_3 x0_7 x0_8 : Int) : O :=
 br (decide (x0_3 < x0_2))
  (gx x0_1 x0_3 fun y3 =>
  ck ((N.2 y3.op y3.num y3.kids x0_0).isSome) <|
  br (!((N.2 y3.op y3.num y3.kids x0_0).getD ((0 : Int), false)).2)
   (k0 ((0 : Int)) false)
   (ck (decide ((0 : Int) ≤ x0_3 ∧ x0_3 < (2 : Int))) <|
   ck (decide ((0 : Nat) + x0_3.toNat * (1 : Nat) < [x0_7, x0_8].length)) <|
   self (IntKind.i64.wrap (x0_3 + (1 : Int))) (sel (((0 : Nat) + x0_3.toNat * (1 : Nat)).beq (0 : Nat)) ((N.2 y3.op y3.num y3.kids x0_0).getD ((0 : Int), false)).1 x0_7) (sel (((0 : Nat) + x0_3.toNat * (1 : Nat)).beq (1 : Nat)) ((N.2 y3.op y3.num y3.kids x0_0).getD ((0 : Int), false)).1 x0_8)))
  (k1 x0_0 x0_4 x0_5 x0_6 x0_7 x0_8)
noncomputable def w64b0 : Code := atC [1, 1, 0, 1, 0, 0] w64b
def w64m0 : Nm := ⟨[1, 2, 6, 16, 17, 18], [], []⟩
def w64I0 (x : (List Int) × (List Ex) × Int × Int × Int × Int × (List Ex) × Int × Int) : Sg := ⟨[(1, .e (.sl (.i .i64)) x.1), (2, .ref 0 0), (6, .ref 1 0), (16, .e (.sl .ex) x.2.1), (17, .e (.i .i64) x.2.2.1), (18, .e (.i .i64) x.2.2.2.1)], [(0, .box 25 [.e (.i .i64) x.2.2.2.2.1, .e (.i .i64) x.2.2.2.2.2.1, .e (.sl .ex) x.2.2.2.2.2.2.1]), (1, .box 44 [.e (.i .i64) x.2.2.2.2.2.2.2.1, .e (.i .i64) x.2.2.2.2.2.2.2.2])], 100⟩
def w64u0 (σ : Sg) : (List Int) × (List Ex) × Int × Int × Int × Int × (List Ex) × Int × Int := (lvT (.sl (.i .i64)) 1 0 σ, lvT (.sl .ex) 16 0 σ, lvT (.i .i64) 17 0 σ, lvT (.i .i64) 18 0 σ, lvH (.i .i64) 0 0 σ, lvH (.i .i64) 0 1 σ, lvH (.sl .ex) 0 2 σ, lvH (.i .i64) 1 0 σ, lvH (.i .i64) 1 1 σ)
theorem w64ui0 : ∀ x, w64u0 (w64I0 x) = x := fun _ => by kernel_rfl
def w64X0_0 (y : Int × Bool) : Exit × Sg := (.ret, ⟨[(4, .e (.i .i64) y.1), (5, .e .bo y.2)], [], 100⟩)
def w64v0_0 (_ : Exit) (σ : Sg) : Int × Bool := (lvT (.i .i64) 4 0 σ, lvT .bo 5 0 σ)
def w64X0_1 (y : (List Int) × Int × Int × (List Ex) × Int × Int) : Exit × Sg := ((.exit 0), ⟨[(1, .e (.sl (.i .i64)) y.1), (2, .ref 0 0), (6, .ref 1 0)], [(0, .box 25 [.e (.i .i64) y.2.1, .e (.i .i64) y.2.2.1, .e (.sl .ex) y.2.2.2.1]), (1, .box 44 [.e (.i .i64) y.2.2.2.2.1, .e (.i .i64) y.2.2.2.2.2])], 100⟩)
def w64v0_1 (_ : Exit) (σ : Sg) : (List Int) × Int × Int × (List Ex) × Int × Int := (lvT (.sl (.i .i64)) 1 0 σ, lvH (.i .i64) 0 0 σ, lvH (.i .i64) 0 1 σ, lvH (.sl .ex) 0 2 σ, lvH (.i .i64) 1 0 σ, lvH (.i .i64) 1 1 σ)
def w64w0 : List (Exit × Nm) := [(.ret, ⟨[4, 5], [], []⟩), ((.exit 0), ⟨[1, 2, 6], [], []⟩)]
theorem w64o0 : Outs w64v0_0 w64v0_1 (fun _ _ => ()) w64X0_0 w64X0_1 (noX 2) (exC .ret) (exC (.exit 0)) (exC (.goto 2)) := ⟨fun _ => by kernel_rfl, fun _ => by kernel_rfl, fun _ => by kernel_rfl, fun _ => by kernel_rfl, fun _ => by kernel_rfl, fun _ => by kernel_rfl, exNe_ok (by kernel_rfl), exNe_ok (by kernel_rfl), exNe_ok (by kernel_rfl)⟩
def w64l0 [Alg] (N : w64T) : Nat → ((List Int) × (List Ex) × Int × Int × Int × Int × (List Ex) × Int × Int) → ((Int × Bool) → O) → (((List Int) × Int × Int × (List Ex) × Int × Int) → O) → ((Unit) → O) → O
 | 0, _, _, _, _ => none
 | n + 1, x, k0, k1, k2 => w64F0 N  (fun v0 v1 v2 => w64l0 N n (x.1, x.2.1, x.2.2.1, v0, x.2.2.2.2.1, x.2.2.2.2.2.1, x.2.2.2.2.2.2.1, v1, v2) k0 k1 k2) (fun y0 y1 => k0 (y0, y1)) (fun y0 y1 y2 y3 y4 y5 => k1 (y0, y1, y2, y3, y4, y5)) x.1 x.2.1 x.2.2.1 x.2.2.2.2.1 x.2.2.2.2.2.1 x.2.2.2.2.2.2.1 x.2.2.2.1 x.2.2.2.2.2.2.2.1 x.2.2.2.2.2.2.2.2
def w64n0 [Alg] (N : w64T) (a0 : (List Int)) (a1 : (List Ex)) (a2 a3 a4 a5 : Int) (a6 : (List Ex)) (a7 a8 : Int) (k0 : Int → Bool → O) (k1 : (List Int) → Int → Int → (List Ex) → Int → Int → O) : O := w64l0 N N.1 (a0, a1, a2, a3, a4, a5, a6, a7, a8) (fun y => k0 y.1 y.2) (fun y => k1 y.1 y.2.1 y.2.2.1 y.2.2.2.1 y.2.2.2.2.1 y.2.2.2.2.2) (fun _ => none)
noncomputable def w64s0 [Alg] (N : w64T) (a0 : (List Int)) (a1 : (List Ex)) (a2 a3 a4 a5 : Int) (a6 : (List Ex)) (a7 a8 : Int) (k0 : Int → Bool → O) (k1 : (List Int) → Int → Int → (List Ex) → Int → Int → O) : O := subL w64I0 w64u0 (w64l0 N N.1) (w64I0 (a0, a1, a2, a3, a4, a5, a6, a7, a8)) (fun y => k0 y.1 y.2) (fun y => k1 y.1 y.2.1 y.2.2.1 y.2.2.2.1 y.2.2.2.2.1 y.2.2.2.2.2) (fun _ => none)
theorem w64e0 [Alg] (N : w64T) : w64s0 N = w64n0 N := funext fun _ => funext fun _ => funext fun _ => funext fun _ => funext fun _ => funext fun _ => funext fun _ => funext fun _ => funext fun _ => funext fun _ => funext fun _ => subL_I w64ui0 _ _ _ _
noncomputable def w64h0 [Alg] (_ : w64T) : Hint := (.seq .d (.seq .d (.seq (.block (.seq .d (.seq .d (.seq .d (.reg [2, 3] [] []))))) .d)))
theorem w64hk0 (N : w64T) : HintOk (w64c N) Tryd.f64.ntmps (w64h0 N) w64b0 := hk_of _ _ (And.intro trivial (And.intro trivial (And.intro (And.intro trivial (And.intro trivial (And.intro trivial trivial))) trivial)))
theorem w64q0 [Alg] (N : w64T) (self : Sg → O) (K : Exit → Sg → O) (x : (List Int) × (List Ex) × Int × Int × Int × Int × (List Ex) × Int × Int) : w64F0 N  (fun v0 v1 v2 => self (w64I0 (x.1, x.2.1, x.2.2.1, v0, x.2.2.2.2.1, x.2.2.2.2.2.1, x.2.2.2.2.2.2.1, v1, v2))) (fun y0 y1 => K (w64X0_0 (y0, y1)).1 (w64X0_0 (y0, y1)).2) (fun y0 y1 y2 y3 y4 y5 => K (w64X0_1 (y0, y1, y2, y3, y4, y5)).1 (w64X0_1 (y0, y1, y2, y3, y4, y5)).2) x.1 x.2.1 x.2.2.1 x.2.2.2.2.1 x.2.2.2.2.2.1 x.2.2.2.2.2.2.1 x.2.2.2.1 x.2.2.2.2.2.2.2.1 x.2.2.2.2.2.2.2.2 = exec (w64c N) Tryd.f64.ntmps (w64h0 N) w64b0 (w64I0 x) (roundX w64m0 w64w0 self K) := by kernel_rfl
theorem w64S0 (N : w64T) (hc : CxOk (w64c N)) : SubOk (w64c N) Tryd.f64.ntmps (.loop w64b0) w64X0_0 w64X0_1 (noX 2) (subL w64I0 w64u0 (w64l0 N N.1)) :=
 sub_loop hc (w64hk0 N) w64o0 (n := N.1) (fun x K => loop_ind (w64l0 N) (fun _ _ _ _ => rfl) (fun n K ih x => by
  have h : w64F0 N  (fun v0 v1 v2 => w64l0 N n (x.1, x.2.1, x.2.2.1, v0, x.2.2.2.2.1, x.2.2.2.2.2.1, x.2.2.2.2.2.2.1, v1, v2) (fun y => K (w64X0_0 y).1 (w64X0_0 y).2) (fun y => K (w64X0_1 y).1 (w64X0_1 y).2) (fun y => K ((noX 2) y).1 ((noX 2) y).2)) (fun y0 y1 => K (w64X0_0 (y0, y1)).1 (w64X0_0 (y0, y1)).2) (fun y0 y1 y2 y3 y4 y5 => K (w64X0_1 (y0, y1, y2, y3, y4, y5)).1 (w64X0_1 (y0, y1, y2, y3, y4, y5)).2) x.1 x.2.1 x.2.2.1 x.2.2.2.2.1 x.2.2.2.2.2.1 x.2.2.2.2.2.2.1 x.2.2.2.1 x.2.2.2.2.2.2.2.1 x.2.2.2.2.2.2.2.2 = w64F0 N  (fun v0 v1 v2 => loopX (w64c N) Tryd.f64.ntmps (w64h0 N) w64b0 w64m0 w64w0 n (w64I0 (x.1, x.2.1, x.2.2.1, v0, x.2.2.2.2.1, x.2.2.2.2.2.1, x.2.2.2.2.2.2.1, v1, v2)) K) (fun y0 y1 => K (w64X0_0 (y0, y1)).1 (w64X0_0 (y0, y1)).2) (fun y0 y1 y2 y3 y4 y5 => K (w64X0_1 (y0, y1, y2, y3, y4, y5)).1 (w64X0_1 (y0, y1, y2, y3, y4, y5)).2) x.1 x.2.1 x.2.2.1 x.2.2.2.2.1 x.2.2.2.2.2.1 x.2.2.2.2.2.2.1 x.2.2.2.1 x.2.2.2.2.2.2.2.1 x.2.2.2.2.2.2.2.2 := by rw [ show (fun v0 v1 v2 => w64l0 N n (x.1, x.2.1, x.2.2.1, v0, x.2.2.2.2.1, x.2.2.2.2.2.1, x.2.2.2.2.2.2.1, v1, v2) (fun y => K (w64X0_0 y).1 (w64X0_0 y).2) (fun y => K (w64X0_1 y).1 (w64X0_1 y).2) (fun y => K ((noX 2) y).1 ((noX 2) y).2)) = (fun v0 v1 v2 => loopX (w64c N) Tryd.f64.ntmps (w64h0 N) w64b0 w64m0 w64w0 n (w64I0 (x.1, x.2.1, x.2.2.1, v0, x.2.2.2.2.1, x.2.2.2.2.2.1, x.2.2.2.2.2.2.1, v1, v2)) K) from funext fun _ => funext fun _ => funext fun _ => ih _]
  exact h.trans (w64q0 N (fun σ => loopX (w64c N) Tryd.f64.ntmps (w64h0 N) w64b0 w64m0 w64w0 n σ K) K x)) N.1 x K)
def w64F1 [Alg] (_ : w64T)  (self : Int → O) (k0 : Int → Bool → O) (k1 : Unit → O) (x13_0 x13_1 : Int) : O :=
 br (decide (x13_1 < (4987 : Int)))
  (ck true <|
  br (decide ((IntKind.i64.wrap (x13_1 * x13_1)).tmod (9973 : Int) = x13_0))
   (k0 x13_1 true)
   (self (IntKind.i64.wrap (x13_1 + (1 : Int)))))
  (k1 ())
noncomputable def w64b1 : Code := atC [1, 1, 1, 1, 1, 0, 1, 0, 1, 1, 1, 1, 1, 1, 1, 1, 1, 1, 1, 1, 1, 1, 1, 1, 1, 0, 0, 1, 0, 0] w64b
def w64m1 : Nm := ⟨[11, 101], [], []⟩
def w64I1 (x : Int × Int) : Sg := ⟨[(11, .e (.i .i64) x.1), (101, .e (.i .i64) x.2)], [], 100⟩
def w64u1 (σ : Sg) : Int × Int := (lvT (.i .i64) 11 0 σ, lvT (.i .i64) 101 0 σ)
theorem w64ui1 : ∀ x, w64u1 (w64I1 x) = x := fun _ => by kernel_rfl
def w64X1_0 (y : Int × Bool) : Exit × Sg := (.ret, ⟨[(4, .e (.i .i64) y.1), (5, .e .bo y.2)], [], 100⟩)
def w64v1_0 (_ : Exit) (σ : Sg) : Int × Bool := (lvT (.i .i64) 4 0 σ, lvT .bo 5 0 σ)
def w64X1_1 (_ : Unit) : Exit × Sg := ((.exit 3), ⟨[], [], 100⟩)
def w64v1_1 (_ : Exit) (_ : Sg) : Unit := ()
def w64w1 : List (Exit × Nm) := [(.ret, ⟨[4, 5], [], []⟩), ((.exit 3), ⟨[], [], []⟩)]
theorem w64o1 : Outs w64v1_0 w64v1_1 (fun _ _ => ()) w64X1_0 w64X1_1 (noX 2) (exC .ret) (exC (.exit 3)) (exC (.goto 2)) := ⟨fun _ => by kernel_rfl, fun _ => by kernel_rfl, fun _ => by kernel_rfl, fun _ => by kernel_rfl, fun _ => by kernel_rfl, fun _ => by kernel_rfl, exNe_ok (by kernel_rfl), exNe_ok (by kernel_rfl), exNe_ok (by kernel_rfl)⟩
def w64l1 [Alg] (N : w64T) : Nat → (Int × Int) → ((Int × Bool) → O) → ((Unit) → O) → ((Unit) → O) → O
 | 0, _, _, _, _ => none
 | n + 1, x, k0, k1, k2 => w64F1 N  (fun v0 => w64l1 N n (x.1, v0) k0 k1 k2) (fun y0 y1 => k0 (y0, y1)) (fun (_ : Unit) => k1 ()) x.1 x.2
def w64n1 [Alg] (N : w64T) (a0 a1 : Int) (k0 : Int → Bool → O) (k1 : Unit → O) : O := w64l1 N N.1 (a0, a1) (fun y => k0 y.1 y.2) (fun y => k1 y) (fun _ => none)
noncomputable def w64s1 [Alg] (N : w64T) (a0 a1 : Int) (k0 : Int → Bool → O) (k1 : Unit → O) : O := subL w64I1 w64u1 (w64l1 N N.1) (w64I1 (a0, a1)) (fun y => k0 y.1 y.2) (fun y => k1 y) (fun _ => none)
theorem w64e1 [Alg] (N : w64T) : w64s1 N = w64n1 N := funext fun _ => funext fun _ => funext fun _ => funext fun _ => subL_I w64ui1 _ _ _ _
noncomputable def w64h1 [Alg] (_ : w64T) : Hint := .d
theorem w64hk1 (N : w64T) : HintOk (w64c N) Tryd.f64.ntmps (w64h1 N) w64b1 := hk_of _ _ trivial
theorem w64q1 [Alg] (N : w64T) (self : Sg → O) (K : Exit → Sg → O) (x : Int × Int) : w64F1 N  (fun v0 => self (w64I1 (x.1, v0))) (fun y0 y1 => K (w64X1_0 (y0, y1)).1 (w64X1_0 (y0, y1)).2) (fun (_ : Unit) => K (w64X1_1 ()).1 (w64X1_1 ()).2) x.1 x.2 = exec (w64c N) Tryd.f64.ntmps (w64h1 N) w64b1 (w64I1 x) (roundX w64m1 w64w1 self K) := by kernel_rfl
theorem w64S1 (N : w64T) (hc : CxOk (w64c N)) : SubOk (w64c N) Tryd.f64.ntmps (.loop w64b1) w64X1_0 w64X1_1 (noX 2) (subL w64I1 w64u1 (w64l1 N N.1)) :=
 sub_loop hc (w64hk1 N) w64o1 (n := N.1) (fun x K => loop_ind (w64l1 N) (fun _ _ _ _ => rfl) (fun n K ih x => by
  have h : w64F1 N  (fun v0 => w64l1 N n (x.1, v0) (fun y => K (w64X1_0 y).1 (w64X1_0 y).2) (fun y => K (w64X1_1 y).1 (w64X1_1 y).2) (fun y => K ((noX 2) y).1 ((noX 2) y).2)) (fun y0 y1 => K (w64X1_0 (y0, y1)).1 (w64X1_0 (y0, y1)).2) (fun (_ : Unit) => K (w64X1_1 ()).1 (w64X1_1 ()).2) x.1 x.2 = w64F1 N  (fun v0 => loopX (w64c N) Tryd.f64.ntmps (w64h1 N) w64b1 w64m1 w64w1 n (w64I1 (x.1, v0)) K) (fun y0 y1 => K (w64X1_0 (y0, y1)).1 (w64X1_0 (y0, y1)).2) (fun (_ : Unit) => K (w64X1_1 ()).1 (w64X1_1 ()).2) x.1 x.2 := by rw [ show (fun v0 => w64l1 N n (x.1, v0) (fun y => K (w64X1_0 y).1 (w64X1_0 y).2) (fun y => K (w64X1_1 y).1 (w64X1_1 y).2) (fun y => K ((noX 2) y).1 ((noX 2) y).2)) = (fun v0 => loopX (w64c N) Tryd.f64.ntmps (w64h1 N) w64b1 w64m1 w64w1 n (w64I1 (x.1, v0)) K) from funext fun _ => ih _]
  exact h.trans (w64q1 N (fun σ => loopX (w64c N) Tryd.f64.ntmps (w64h1 N) w64b1 w64m1 w64w1 n σ K) K x)) N.1 x K)
def w64G [Alg] (N : w64T) (in0 : (List Int) → (List Ex) → Int → Int → Int → Int → (List Ex) → Int → Int → (Int → Bool → O) → ((List Int) → Int → Int → (List Ex) → Int → Int → O) → O) (in1 : Int → Int → (Int → Bool → O) → (Unit → O) → O) (A B : Int) (C : (List Ex)) (vars1 : (List Int)) : O :=
 in0 vars1 C ((↑C.length : Int)) ((0 : Int)) A B C ((0 : Int)) ((0 : Int))
  (fun z4 z5 =>
   some (w64r0 z4 z5))
  (fun z6 z7 z8 _ z10 z11 =>
   br (decide (z7 = (0 : Int)))
    (ck true <|
    some (w64r0 (z8.tmod (9973 : Int)) true))
    (br (decide (z7 = (1 : Int)))
     (br (decide ((↑z6.length : Int) ≤ z8))
      (some (w64r0 ((0 : Int)) false))
      (gx z6 z8 fun y12 =>
      ck true <|
      ck true <|
      some (w64r0 ((IntKind.i64.wrap (y12.tmod (9973 : Int) + (9973 : Int))).tmod (9973 : Int)) true)))
     (br (decide (z7 = (2 : Int)))
      (ck true <|
      some (w64r0 ((IntKind.i64.wrap ((9973 : Int) - z10)).tmod (9973 : Int)) true))
      (br (decide (z7 = (3 : Int)))
       (ck true <|
       some (w64r0 ((IntKind.i64.wrap (z10 + z11)).tmod (9973 : Int)) true))
       (br (decide (z7 = (4 : Int)))
        (ck true <|
        some (w64r0 ((IntKind.i64.wrap (IntKind.i64.wrap (z10 + (9973 : Int)) - z11)).tmod (9973 : Int)) true))
        (br (decide (z7 = (5 : Int)))
         (ck true <|
         some (w64r0 ((IntKind.i64.wrap (z10 * z11)).tmod (9973 : Int)) true))
         (br (decide (z7 = (6 : Int)))
          (ck (w93p N.1 z11 (9971 : Int)) <|
          ck true <|
          some (w64r0 ((IntKind.i64.wrap (z10 * w93y0 N.1 z11 (9971 : Int))).tmod (9973 : Int)) (decide (z11 ≠ (0 : Int)))))
          (br (decide (z7 = (7 : Int)))
           (ck (w93p N.1 z10 z11) <|
           some (w64r0 (w93y0 N.1 z10 z11) true))
           (br (decide (z7 = (8 : Int)))
            (in1 z10 ((0 : Int))
             (fun z14 z15 =>
              some (w64r0 z14 z15))
             (fun (_ : Unit) =>
              some (w64r0 ((0 : Int)) false)))
            (br (decide (z7 = (9 : Int)))
             (ck (w92p N.1 (decide (z10 = z11))) <|
             some (w64r0 (w92y0 N.1 (decide (z10 = z11))) (w92y1 N.1 (decide (z10 = z11)))))
             (ck (w92p N.1 (decide (z10 < z11))) <|
             some (w64r0 (w92y0 N.1 (decide (z10 < z11))) (w92y1 N.1 (decide (z10 < z11)))))))))))))))
def w64 [Alg] (N : w64T) (A B : Int) (C : (List Ex)) (vars1 : (List Int)) : O := w64G N (w64n0 N) (w64n1 N) A B C vars1
noncomputable def w64h [Alg] (N : w64T) : Hint := (.seq .d (.seq .d (.seq (.seq .d (.block (.sub w64m0 _ _ _ w64X0_0 w64X0_1 (noX 2) (subL w64I0 w64u0 (w64l0 N N.1))))) (.seq .d (.seq .d (.seq (.seq .d (.block (.seq .d (.cond .d (.seq .d (.cond .d (.seq .d (.cond .d (.seq .d (.cond .d (.seq .d (.cond .d (.seq .d (.cond .d (.seq .d (.cond .d (.seq .d (.cond .d (.seq .d (.cond (.seq (.seq .d (.block (.sub w64m1 _ _ _ w64X1_0 w64X1_1 (noX 2) (subL w64I1 w64u1 (w64l1 N N.1))))) .d) .d)))))))))))))))))))) .d))))))
theorem w64hk (N : w64T) (hc : CxOk (w64c N)) : HintOk (w64c N) Tryd.f64.ntmps (w64h N) w64b := hk_of _ _ (And.intro trivial (And.intro trivial (And.intro (And.intro trivial (w64S0 N hc)) (And.intro trivial (And.intro trivial (And.intro (And.intro trivial (And.intro trivial (And.intro trivial (And.intro trivial (And.intro trivial (And.intro trivial (And.intro trivial (And.intro trivial (And.intro trivial (And.intro trivial (And.intro trivial (And.intro trivial (And.intro trivial (And.intro trivial (And.intro trivial (And.intro trivial (And.intro trivial (And.intro trivial (And.intro (And.intro (And.intro trivial (w64S1 N hc)) trivial) trivial))))))))))))))))))) trivial))))))
theorem w64q [Alg] (N : w64T) (A B : Int) (C : (List Ex)) (vars1 : (List Int)) : w64G N (w64s0 N) (w64s1 N) A B C vars1 = exec (w64c N) Tryd.f64.ntmps (w64h N) w64b ⟨argT 0 [.agg [.e (.i .i64) A, .e (.i .i64) B, .e (.sl .ex) C], .e (.sl (.i .i64)) vars1], [], 100⟩ (finX (w64c N) Tryd.f64 false) := by kernel_rfl
theorem w64does {N : w64T} (hc : CxOk (w64c N)) {A B : Int} {C : (List Ex)} {vars1 : (List Int)} {r : Res} (h : w64 N A B C vars1 = some r) : DoesR Tryd.prog 64 (([.agg [.e (.i .i64) A, .e (.i .i64) B, .e (.sl .ex) C], .e (.sl (.i .i64)) vars1] : List X).map X.D) (HA []) r :=
 fun_ok hc (f := 64) (fn := Tryd.f64) (code := w64b) (by kernel_rfl) (by kernel_rfl) (w64hk N hc) (Nat.le_of_ble_eq_true (by kernel_rfl)) (ow := false) ((w64q N A B C vars1).symm.trans (by rw [w64e0 N, w64e1 N]; exact h))
def w64un (r : Res) : Option (Int × Bool) := match r with
 | (.tup [x0, x1], []) => (match ue (.i .i64) x0, ue .bo x1 with | some a0, some a1 => some (a0, a1) | _, _ => none)
 | _ => none
theorem w64uo {r : Res} {d : Int × Bool} (h : w64un r = some d) : r = w64r0 (d.1) (d.2) := by
 unfold w64un at h
 split at h
 ·split at h
  ·rename_i h0 h1; cases h; rw [ue_some h0, ue_some h1]; rfl
  ·cases h
 ·cases h
def w64z (N : w64T) (A B : Int) (C : (List Ex)) (vars1 : (List Int)) : Option (Int × Bool) := (w64 N A B C vars1).bind w64un
theorem w64fin {N : w64T} (hc : CxOk (w64c N)) {A B : Int} {C : (List Ex)} {vars1 : (List Int)} {d : Int × Bool} (hd : w64z N A B C vars1 = some d) : Does Tryd.prog 64 (([.agg [.e (.i .i64) A, .e (.i .i64) B, .e (.sl .ex) C], .e (.sl (.i .i64)) vars1] : List X).map X.D) (HA []) (w64r0 (d.1) (d.2)).1.D (HA (w64r0 (d.1) (d.2)).2) := by
 obtain ⟨r, hr, hu⟩ := Option.bind_eq_some_iff.1 hd
 have := w64does hc hr
 rw [w64uo hu] at this
 exact this
def w64Y (N : Nat) : Nat → Int → Int → (List Ex) → (List Int) → Option (Int × Bool)
 | 0, _, _, _, _ => none
 | n + 1, A, B, C, vars1 => w64z (N, w64Y N n) A B C vars1
theorem w64Yok (N : Nat) : ∀ n, EOk Tryd.prog 64 (E2 .ex (.sl (.i .i64))  (fun x0 x1 => ((w64Y N n (Ex.op x0) (Ex.num x0) (Ex.kids x0) x1).isSome, w64r0 (((w64Y N n (Ex.op x0) (Ex.num x0) (Ex.kids x0) x1).getD (0, false)).1) (((w64Y N n (Ex.op x0) (Ex.num x0) (Ex.kids x0) x1).getD (0, false)).2))))
 | 0 => EOk.e2 (fun _ _ h => by cases h)
 | n + 1 => EOk.e2 (fun x0 x1 h => by
   obtain ⟨d, hd⟩ := Option.isSome_iff_exists.1 h
   have hd' : w64Y N (n + 1) (Ex.op x0) (Ex.num x0) (Ex.kids x0) x1 = some d := hd
   have e : w64r0 (((w64Y N (n + 1) (Ex.op x0) (Ex.num x0) (Ex.kids x0) x1).getD (0, false)).1) (((w64Y N (n + 1) (Ex.op x0) (Ex.num x0) (Ex.kids x0) x1).getD (0, false)).2) = w64r0 (d.1) (d.2) := by rw [hd']; rfl
   show Does _ _ _ _ (w64r0 (((w64Y N (n + 1) (Ex.op x0) (Ex.num x0) (Ex.kids x0) x1).getD (0, false)).1) (((w64Y N (n + 1) (Ex.op x0) (Ex.num x0) (Ex.kids x0) x1).getD (0, false)).2)).1.D (HA (w64r0 (((w64Y N (n + 1) (Ex.op x0) (Ex.num x0) (Ex.kids x0) x1).getD (0, false)).1) (((w64Y N (n + 1) (Ex.op x0) (Ex.num x0) (Ex.kids x0) x1).getD (0, false)).2)).2)
   rw [e]
   exact w64fin (N := (N, w64Y N n)) (w64cx (N, w64Y N n) (w64Yok N n)) hd')
def w64p (N : Nat) (A B : Int) (C : (List Ex)) (vars1 : (List Int)) : Bool := (w64Y N N A B C vars1).isSome
def w64y0 (N : Nat) (A B : Int) (C : (List Ex)) (vars1 : (List Int)) : Int := ((w64Y N N A B C vars1).getD (0, false)).1
def w64y1 (N : Nat) (A B : Int) (C : (List Ex)) (vars1 : (List Int)) : Bool := ((w64Y N N A B C vars1).getD (0, false)).2
def w64e (N : Nat) : Ent' := E2 .ex (.sl (.i .i64))  (fun x0 x1 => (w64p N (Ex.op x0) (Ex.num x0) (Ex.kids x0) x1, w64r0 (w64y0 N (Ex.op x0) (Ex.num x0) (Ex.kids x0) x1) (w64y1 N (Ex.op x0) (Ex.num x0) (Ex.kids x0) x1)))
theorem w64ok (N : Nat) : EOk Tryd.prog 64 (w64e N) := w64Yok N N
def w28r0 (a0 : Int) (a1 : Bool) : Res := (.tup [.e (.i .i64) a0, .e .bo a1], [])
noncomputable def w28L (N : Nat) : List (Nat × Ent') := [(17, w17e N), (64, w64e N)]
noncomputable def w28c (N : Nat) : Cx := ⟨Tryd.prog, 25, w28L N, []⟩
noncomputable def w28b : Code := Tryd.f28.body.getD .skip
theorem w28cx (N : Nat) : CxOk (w28c N) := ctx_ok (by kernel_rfl) (.cons (by kernel_rfl) (w17ok N) (.cons (by kernel_rfl) (w64ok N) .nil)) .nil
def w28G [Alg] (N : Nat)  (A B : Int) (C : (List Ex)) (vars1 : (List Int)) : O :=
 ck (w17p N A B C) <|
 br (decide (w17y0 N A B C ≠ (0 : Int)))
  (some (w28r0 ((0 : Int)) false))
  (ck (w64p N A B C vars1) <|
  br (!w64y1 N A B C vars1)
   (some (w28r0 ((0 : Int)) false))
   (some (w28r0 (w64y0 N A B C vars1) true)))
def w28 [Alg] (N : Nat) (A B : Int) (C : (List Ex)) (vars1 : (List Int)) : O := w28G N  A B C vars1
noncomputable def w28h [Alg] (_ : Nat) : Hint := .d
theorem w28hk (N : Nat) : HintOk (w28c N) Tryd.f28.ntmps (w28h N) w28b := hk_of _ _ trivial
theorem w28q [Alg] (N : Nat) (A B : Int) (C : (List Ex)) (vars1 : (List Int)) : w28G N  A B C vars1 = exec (w28c N) Tryd.f28.ntmps (w28h N) w28b ⟨argT 0 [.agg [.e (.i .i64) A, .e (.i .i64) B, .e (.sl .ex) C], .e (.sl (.i .i64)) vars1], [], 100⟩ (finX (w28c N) Tryd.f28 false) := by kernel_rfl
theorem w28does {N : Nat} (hc : CxOk (w28c N)) {A B : Int} {C : (List Ex)} {vars1 : (List Int)} {r : Res} (h : w28 N A B C vars1 = some r) : DoesR Tryd.prog 28 (([.agg [.e (.i .i64) A, .e (.i .i64) B, .e (.sl .ex) C], .e (.sl (.i .i64)) vars1] : List X).map X.D) (HA []) r :=
 fun_ok hc (f := 28) (fn := Tryd.f28) (code := w28b) (by kernel_rfl) (by kernel_rfl) (w28hk N) (Nat.le_of_ble_eq_true (by kernel_rfl)) (ow := false) ((w28q N A B C vars1).symm.trans (by exact h))
def w28un (r : Res) : Option (Int × Bool) := match r with
 | (.tup [x0, x1], []) => (match ue (.i .i64) x0, ue .bo x1 with | some a0, some a1 => some (a0, a1) | _, _ => none)
 | _ => none
theorem w28uo {r : Res} {d : Int × Bool} (h : w28un r = some d) : r = w28r0 (d.1) (d.2) := by
 unfold w28un at h
 split at h
 ·split at h
  ·rename_i h0 h1; cases h; rw [ue_some h0, ue_some h1]; rfl
  ·cases h
 ·cases h
def w28z (N : Nat) (A B : Int) (C : (List Ex)) (vars1 : (List Int)) : Option (Int × Bool) := (w28 N A B C vars1).bind w28un
theorem w28fin {N : Nat} (hc : CxOk (w28c N)) {A B : Int} {C : (List Ex)} {vars1 : (List Int)} {d : Int × Bool} (hd : w28z N A B C vars1 = some d) : Does Tryd.prog 28 (([.agg [.e (.i .i64) A, .e (.i .i64) B, .e (.sl .ex) C], .e (.sl (.i .i64)) vars1] : List X).map X.D) (HA []) (w28r0 (d.1) (d.2)).1.D (HA (w28r0 (d.1) (d.2)).2) := by
 obtain ⟨r, hr, hu⟩ := Option.bind_eq_some_iff.1 hd
 have := w28does hc hr
 rw [w28uo hu] at this
 exact this
def w28p (N : Nat) (A B : Int) (C : (List Ex)) (vars1 : (List Int)) : Bool := (w28z N A B C vars1).isSome
def w28y0 (N : Nat) (A B : Int) (C : (List Ex)) (vars1 : (List Int)) : Int := ((w28z N A B C vars1).getD (0, false)).1
def w28y1 (N : Nat) (A B : Int) (C : (List Ex)) (vars1 : (List Int)) : Bool := ((w28z N A B C vars1).getD (0, false)).2
def w28e (N : Nat) : Ent' := E2 .ex (.sl (.i .i64))  (fun x0 x1 => (w28p N (Ex.op x0) (Ex.num x0) (Ex.kids x0) x1, w28r0 (w28y0 N (Ex.op x0) (Ex.num x0) (Ex.kids x0) x1) (w28y1 N (Ex.op x0) (Ex.num x0) (Ex.kids x0) x1)))
theorem w28re {N : Nat} {A B : Int} {C : (List Ex)} {vars1 : (List Int)} {d : Int × Bool} (hd : w28z N A B C vars1 = some d) : w28r0 (w28y0 N A B C vars1) (w28y1 N A B C vars1) = w28r0 (d.1) (d.2) := by unfold w28y0 w28y1; rw [hd]; rfl
theorem w28ok (N : Nat) : EOk Tryd.prog 28 (w28e N) := EOk.e2 (fun x0 x1 h => by
 have h : (w28z N (Ex.op x0) (Ex.num x0) (Ex.kids x0) x1).isSome = true := h
 obtain ⟨d, hd⟩ := Option.isSome_iff_exists.1 h
 have f := w28fin (w28cx N) hd
 rw [← w28re hd] at f
 exact f)
def w66r0 (a0 a1 a2 a3 a4 a5 a6 a7 a8 a9 a10 a11 a12 a13 a14 a15 a16 a17 a18 a19 a20 a21 a22 a23 a24 a25 : Bool) : Res := (.tup [], [(50, .box 87 [.e .bo a0, .e .bo a1, .e .bo a2, .e .bo a3, .e .bo a4, .e .bo a5, .e .bo a6, .e .bo a7, .e .bo a8, .e .bo a9, .e .bo a10, .e .bo a11, .e .bo a12, .e .bo a13, .e .bo a14, .e .bo a15, .e .bo a16, .e .bo a17, .e .bo a18, .e .bo a19, .e .bo a20, .e .bo a21, .e .bo a22, .e .bo a23, .e .bo a24, .e .bo a25]), (51, .box 88 [.fn 66 [.ref 50 0, .ref 51 0]])])
def w66in (xs : List X) (H : XH) : Option (Int × Int × (List Ex) × Bool × Bool × Bool × Bool × Bool × Bool × Bool × Bool × Bool × Bool × Bool × Bool × Bool × Bool × Bool × Bool × Bool × Bool × Bool × Bool × Bool × Bool × Bool × Bool × Bool × Bool) := match xs, H with
 | [.agg [x0, x1, x2], .ref 50 0, .ref 51 0], [(50, .box 87 [x3, x4, x5, x6, x7, x8, x9, x10, x11, x12, x13, x14, x15, x16, x17, x18, x19, x20, x21, x22, x23, x24, x25, x26, x27, x28]), (51, .box 88 [.fn 66 [.ref 50 0, .ref 51 0]])] => (match ue (.i .i64) x0, ue (.i .i64) x1, ue (.sl .ex) x2, ue .bo x3, ue .bo x4, ue .bo x5, ue .bo x6, ue .bo x7, ue .bo x8, ue .bo x9, ue .bo x10, ue .bo x11, ue .bo x12, ue .bo x13, ue .bo x14, ue .bo x15, ue .bo x16, ue .bo x17, ue .bo x18, ue .bo x19, ue .bo x20, ue .bo x21, ue .bo x22, ue .bo x23, ue .bo x24, ue .bo x25, ue .bo x26, ue .bo x27, ue .bo x28 with | some a0, some a1, some a2, some a3, some a4, some a5, some a6, some a7, some a8, some a9, some a10, some a11, some a12, some a13, some a14, some a15, some a16, some a17, some a18, some a19, some a20, some a21, some a22, some a23, some a24, some a25, some a26, some a27, some a28 => some (a0, a1, a2, a3, a4, a5, a6, a7, a8, a9, a10, a11, a12, a13, a14, a15, a16, a17, a18, a19, a20, a21, a22, a23, a24, a25, a26, a27, a28) | _, _, _, _, _, _, _, _, _, _, _, _, _, _, _, _, _, _, _, _, _, _, _, _, _, _, _, _, _ => none)
 | _, _ => none
theorem w66io {xs : List X} {H : XH} {d : Int × Int × (List Ex) × Bool × Bool × Bool × Bool × Bool × Bool × Bool × Bool × Bool × Bool × Bool × Bool × Bool × Bool × Bool × Bool × Bool × Bool × Bool × Bool × Bool × Bool × Bool × Bool × Bool × Bool} (h : w66in xs H = some d) : xs = [.agg [.e (.i .i64) (d.1), .e (.i .i64) (d.2.1), .e (.sl .ex) (d.2.2.1)], .ref 50 0, .ref 51 0] ∧ H = [(50, .box 87 [.e .bo (d.2.2.2.1), .e .bo (d.2.2.2.2.1), .e .bo (d.2.2.2.2.2.1), .e .bo (d.2.2.2.2.2.2.1), .e .bo (d.2.2.2.2.2.2.2.1), .e .bo (d.2.2.2.2.2.2.2.2.1), .e .bo (d.2.2.2.2.2.2.2.2.2.1), .e .bo (d.2.2.2.2.2.2.2.2.2.2.1), .e .bo (d.2.2.2.2.2.2.2.2.2.2.2.1), .e .bo (d.2.2.2.2.2.2.2.2.2.2.2.2.1), .e .bo (d.2.2.2.2.2.2.2.2.2.2.2.2.2.1), .e .bo (d.2.2.2.2.2.2.2.2.2.2.2.2.2.2.1), .e .bo (d.2.2.2.2.2.2.2.2.2.2.2.2.2.2.2.1), .e .bo (d.2.2.2.2.2.2.2.2.2.2.2.2.2.2.2.2.1), .e .bo (d.2.2.2.2.2.2.2.2.2.2.2.2.2.2.2.2.2.1), .e .bo (d.2.2.2.2.2.2.2.2.2.2.2.2.2.2.2.2.2.2.1), .e .bo (d.2.2.2.2.2.2.2.2.2.2.2.2.2.2.2.2.2.2.2.1), .e .bo (d.2.2.2.2.2.2.2.2.2.2.2.2.2.2.2.2.2.2.2.2.1), .e .bo (d.2.2.2.2.2.2.2.2.2.2.2.2.2.2.2.2.2.2.2.2.2.1), .e .bo (d.2.2.2.2.2.2.2.2.2.2.2.2.2.2.2.2.2.2.2.2.2.2.1), .e .bo (d.2.2.2.2.2.2.2.2.2.2.2.2.2.2.2.2.2.2.2.2.2.2.2.1), .e .bo (d.2.2.2.2.2.2.2.2.2.2.2.2.2.2.2.2.2.2.2.2.2.2.2.2.1), .e .bo (d.2.2.2.2.2.2.2.2.2.2.2.2.2.2.2.2.2.2.2.2.2.2.2.2.2.1), .e .bo (d.2.2.2.2.2.2.2.2.2.2.2.2.2.2.2.2.2.2.2.2.2.2.2.2.2.2.1), .e .bo (d.2.2.2.2.2.2.2.2.2.2.2.2.2.2.2.2.2.2.2.2.2.2.2.2.2.2.2.1), .e .bo (d.2.2.2.2.2.2.2.2.2.2.2.2.2.2.2.2.2.2.2.2.2.2.2.2.2.2.2.2)]), (51, .box 88 [.fn 66 [.ref 50 0, .ref 51 0]])] := by
 unfold w66in at h
 split at h
 ·split at h
  ·rename_i h0 h1 h2 h3 h4 h5 h6 h7 h8 h9 h10 h11 h12 h13 h14 h15 h16 h17 h18 h19 h20 h21 h22 h23 h24 h25 h26 h27 h28; cases h; rw [ue_some h0, ue_some h1, ue_some h2, ue_some h3, ue_some h4, ue_some h5, ue_some h6, ue_some h7, ue_some h8, ue_some h9, ue_some h10, ue_some h11, ue_some h12, ue_some h13, ue_some h14, ue_some h15, ue_some h16, ue_some h17, ue_some h18, ue_some h19, ue_some h20, ue_some h21, ue_some h22, ue_some h23, ue_some h24, ue_some h25, ue_some h26, ue_some h27, ue_some h28]; exact ⟨rfl, rfl⟩
  ·cases h
 ·cases h
abbrev w66T := Nat × ((Int → Int → (List Ex) → Bool → Bool → Bool → Bool → Bool → Bool → Bool → Bool → Bool → Bool → Bool → Bool → Bool → Bool → Bool → Bool → Bool → Bool → Bool → Bool → Bool → Bool → Bool → Bool → Bool → Bool → Option (Bool × Bool × Bool × Bool × Bool × Bool × Bool × Bool × Bool × Bool × Bool × Bool × Bool × Bool × Bool × Bool × Bool × Bool × Bool × Bool × Bool × Bool × Bool × Bool × Bool × Bool)))
abbrev w66D : Bool × Bool × Bool × Bool × Bool × Bool × Bool × Bool × Bool × Bool × Bool × Bool × Bool × Bool × Bool × Bool × Bool × Bool × Bool × Bool × Bool × Bool × Bool × Bool × Bool × Bool := (false, false, false, false, false, false, false, false, false, false, false, false, false, false, false, false, false, false, false, false, false, false, false, false, false, false)
abbrev w66J := Int × Int × (List Ex) × Bool × Bool × Bool × Bool × Bool × Bool × Bool × Bool × Bool × Bool × Bool × Bool × Bool × Bool × Bool × Bool × Bool × Bool × Bool × Bool × Bool × Bool × Bool × Bool × Bool × Bool
abbrev w66C (N : w66T) (d : w66J) : Option (Bool × Bool × Bool × Bool × Bool × Bool × Bool × Bool × Bool × Bool × Bool × Bool × Bool × Bool × Bool × Bool × Bool × Bool × Bool × Bool × Bool × Bool × Bool × Bool × Bool × Bool) := N.2 (d.1) (d.2.1) (d.2.2.1) (d.2.2.2.1) (d.2.2.2.2.1) (d.2.2.2.2.2.1) (d.2.2.2.2.2.2.1) (d.2.2.2.2.2.2.2.1) (d.2.2.2.2.2.2.2.2.1) (d.2.2.2.2.2.2.2.2.2.1) (d.2.2.2.2.2.2.2.2.2.2.1) (d.2.2.2.2.2.2.2.2.2.2.2.1) (d.2.2.2.2.2.2.2.2.2.2.2.2.1) (d.2.2.2.2.2.2.2.2.2.2.2.2.2.1) (d.2.2.2.2.2.2.2.2.2.2.2.2.2.2.1) (d.2.2.2.2.2.2.2.2.2.2.2.2.2.2.2.1) (d.2.2.2.2.2.2.2.2.2.2.2.2.2.2.2.2.1) (d.2.2.2.2.2.2.2.2.2.2.2.2.2.2.2.2.2.1) (d.2.2.2.2.2.2.2.2.2.2.2.2.2.2.2.2.2.2.1) (d.2.2.2.2.2.2.2.2.2.2.2.2.2.2.2.2.2.2.2.1) (d.2.2.2.2.2.2.2.2.2.2.2.2.2.2.2.2.2.2.2.2.1) (d.2.2.2.2.2.2.2.2.2.2.2.2.2.2.2.2.2.2.2.2.2.1) (d.2.2.2.2.2.2.2.2.2.2.2.2.2.2.2.2.2.2.2.2.2.2.1) (d.2.2.2.2.2.2.2.2.2.2.2.2.2.2.2.2.2.2.2.2.2.2.2.1) (d.2.2.2.2.2.2.2.2.2.2.2.2.2.2.2.2.2.2.2.2.2.2.2.2.1) (d.2.2.2.2.2.2.2.2.2.2.2.2.2.2.2.2.2.2.2.2.2.2.2.2.2.1) (d.2.2.2.2.2.2.2.2.2.2.2.2.2.2.2.2.2.2.2.2.2.2.2.2.2.2.1) (d.2.2.2.2.2.2.2.2.2.2.2.2.2.2.2.2.2.2.2.2.2.2.2.2.2.2.2.1) (d.2.2.2.2.2.2.2.2.2.2.2.2.2.2.2.2.2.2.2.2.2.2.2.2.2.2.2.2)
def w66E (N : w66T) : Ent' := entR w66in (fun d => (w66C N d).isSome) (fun d => w66r0 (((w66C N d).getD w66D).1) (((w66C N d).getD w66D).2.1) (((w66C N d).getD w66D).2.2.1) (((w66C N d).getD w66D).2.2.2.1) (((w66C N d).getD w66D).2.2.2.2.1) (((w66C N d).getD w66D).2.2.2.2.2.1) (((w66C N d).getD w66D).2.2.2.2.2.2.1) (((w66C N d).getD w66D).2.2.2.2.2.2.2.1) (((w66C N d).getD w66D).2.2.2.2.2.2.2.2.1) (((w66C N d).getD w66D).2.2.2.2.2.2.2.2.2.1) (((w66C N d).getD w66D).2.2.2.2.2.2.2.2.2.2.1) (((w66C N d).getD w66D).2.2.2.2.2.2.2.2.2.2.2.1) (((w66C N d).getD w66D).2.2.2.2.2.2.2.2.2.2.2.2.1) (((w66C N d).getD w66D).2.2.2.2.2.2.2.2.2.2.2.2.2.1) (((w66C N d).getD w66D).2.2.2.2.2.2.2.2.2.2.2.2.2.2.1) (((w66C N d).getD w66D).2.2.2.2.2.2.2.2.2.2.2.2.2.2.2.1) (((w66C N d).getD w66D).2.2.2.2.2.2.2.2.2.2.2.2.2.2.2.2.1) (((w66C N d).getD w66D).2.2.2.2.2.2.2.2.2.2.2.2.2.2.2.2.2.1) (((w66C N d).getD w66D).2.2.2.2.2.2.2.2.2.2.2.2.2.2.2.2.2.2.1) (((w66C N d).getD w66D).2.2.2.2.2.2.2.2.2.2.2.2.2.2.2.2.2.2.2.1) (((w66C N d).getD w66D).2.2.2.2.2.2.2.2.2.2.2.2.2.2.2.2.2.2.2.2.1) (((w66C N d).getD w66D).2.2.2.2.2.2.2.2.2.2.2.2.2.2.2.2.2.2.2.2.2.1) (((w66C N d).getD w66D).2.2.2.2.2.2.2.2.2.2.2.2.2.2.2.2.2.2.2.2.2.2.1) (((w66C N d).getD w66D).2.2.2.2.2.2.2.2.2.2.2.2.2.2.2.2.2.2.2.2.2.2.2.1) (((w66C N d).getD w66D).2.2.2.2.2.2.2.2.2.2.2.2.2.2.2.2.2.2.2.2.2.2.2.2.1) (((w66C N d).getD w66D).2.2.2.2.2.2.2.2.2.2.2.2.2.2.2.2.2.2.2.2.2.2.2.2.2))
noncomputable def w66L (N : w66T) : List (Nat × Ent') := [(66, w66E N)]
noncomputable def w66c (N : w66T) : Cx := ⟨Tryd.prog, 25, w66L N, []⟩
noncomputable def w66b : Code := Tryd.f66.body.getD .skip
theorem w66cx (N : w66T) (hw66 : EOk Tryd.prog 66 (w66E N)) : CxOk (w66c N) := ctx_ok (by kernel_rfl) (.cons (by kernel_rfl) hw66 .nil) .nil
def w66F0 [Alg] (_N : w66T)   (k0 : Bool → Bool → Bool → Bool → Bool → Bool → Bool → Bool → Bool → Bool → Bool → Bool → Bool → Bool → Bool → Bool → Bool → Bool → Bool → Bool → Bool → Bool → Bool → Bool → Bool → Bool → Int → Int → (List Ex) → O) (x0_0 x0_1 x0_2 x0_3 x0_4 x0_5 x0_6 x0_7 x0_8 x0_9 x0_10 x0_11 x0_12 x0_13 x0_14 x0_15 x0_16 x0_17 x0_18 x0_19 x0_20 x0_21 x0_22 x0_23 x0_24 x0_25 : Bool) (x0_26 x0_27 : Int) (x0_28 : (List Ex)) : O :=
 br (decide (x0_26 = (1 : Int)) && decide ((0 : Int) ≤ x0_27) && decide (x0_27 < (26 : Int)) && decide ((↑x0_28.length : Int) = (0 : Int)))
  (ck (decide ((0 : Int) ≤ x0_27 ∧ x0_27 < (26 : Int))) <|
  ck (decide ((0 : Nat) + x0_27.toNat * (1 : Nat) < [x0_0, x0_1, x0_2, x0_3, x0_4, x0_5, x0_6, x0_7, x0_8, x0_9, x0_10, x0_11, x0_12, x0_13, x0_14, x0_15, x0_16, x0_17, x0_18, x0_19, x0_20, x0_21, x0_22, x0_23, x0_24, x0_25].length)) <|
  k0 (sel (((0 : Nat) + x0_27.toNat * (1 : Nat)).beq (0 : Nat)) true x0_0) (sel (((0 : Nat) + x0_27.toNat * (1 : Nat)).beq (1 : Nat)) true x0_1) (sel (((0 : Nat) + x0_27.toNat * (1 : Nat)).beq (2 : Nat)) true x0_2) (sel (((0 : Nat) + x0_27.toNat * (1 : Nat)).beq (3 : Nat)) true x0_3) (sel (((0 : Nat) + x0_27.toNat * (1 : Nat)).beq (4 : Nat)) true x0_4) (sel (((0 : Nat) + x0_27.toNat * (1 : Nat)).beq (5 : Nat)) true x0_5) (sel (((0 : Nat) + x0_27.toNat * (1 : Nat)).beq (6 : Nat)) true x0_6) (sel (((0 : Nat) + x0_27.toNat * (1 : Nat)).beq (7 : Nat)) true x0_7) (sel (((0 : Nat) + x0_27.toNat * (1 : Nat)).beq (8 : Nat)) true x0_8) (sel (((0 : Nat) + x0_27.toNat * (1 : Nat)).beq (9 : Nat)) true x0_9) (sel (((0 : Nat) + x0_27.toNat * (1 : Nat)).beq (10 : Nat)) true x0_10) (sel (((0 : Nat) + x0_27.toNat * (1 : Nat)).beq (11 : Nat)) true x0_11) (sel (((0 : Nat) + x0_27.toNat * (1 : Nat)).beq (12 : Nat)) true x0_12) (sel (((0 : Nat) + x0_27.toNat * (1 : Nat)).beq (13 : Nat)) true x0_13) (sel (((0 : Nat) + x0_27.toNat * (1 : Nat)).beq (14 : Nat)) true x0_14) (sel (((0 : Nat) + x0_27.toNat * (1 : Nat)).beq (15 : Nat)) true x0_15) (sel (((0 : Nat) + x0_27.toNat * (1 : Nat)).beq (16 : Nat)) true x0_16) (sel (((0 : Nat) + x0_27.toNat * (1 : Nat)).beq (17 : Nat)) true x0_17) (sel (((0 : Nat) + x0_27.toNat * (1 : Nat)).beq (18 : Nat)) true x0_18) (sel (((0 : Nat) + x0_27.toNat * (1 : Nat)).beq (19 : Nat)) true x0_19) (sel (((0 : Nat) + x0_27.toNat * (1 : Nat)).beq (20 : Nat)) true x0_20) (sel (((0 : Nat) + x0_27.toNat * (1 : Nat)).beq (21 : Nat)) true x0_21) (sel (((0 : Nat) + x0_27.toNat * (1 : Nat)).beq (22 : Nat)) true x0_22) (sel (((0 : Nat) + x0_27.toNat * (1 : Nat)).beq (23 : Nat)) true x0_23) (sel (((0 : Nat) + x0_27.toNat * (1 : Nat)).beq (24 : Nat)) true x0_24) (sel (((0 : Nat) + x0_27.toNat * (1 : Nat)).beq (25 : Nat)) true x0_25) x0_26 x0_27 x0_28)
  (k0 x0_0 x0_1 x0_2 x0_3 x0_4 x0_5 x0_6 x0_7 x0_8 x0_9 x0_10 x0_11 x0_12 x0_13 x0_14 x0_15 x0_16 x0_17 x0_18 x0_19 x0_20 x0_21 x0_22 x0_23 x0_24 x0_25 x0_26 x0_27 x0_28)
noncomputable def w66b0 : Code := atC [1, 0] w66b
def w66m0 : Nm := ⟨[1, 2, 3], [], []⟩
def w66I0 (x : Bool × Bool × Bool × Bool × Bool × Bool × Bool × Bool × Bool × Bool × Bool × Bool × Bool × Bool × Bool × Bool × Bool × Bool × Bool × Bool × Bool × Bool × Bool × Bool × Bool × Bool × Int × Int × (List Ex)) : Sg := ⟨[(1, .ref 50 0), (2, .ref 51 0), (3, .ref 0 0)], [(50, .box 87 [.e .bo x.1, .e .bo x.2.1, .e .bo x.2.2.1, .e .bo x.2.2.2.1, .e .bo x.2.2.2.2.1, .e .bo x.2.2.2.2.2.1, .e .bo x.2.2.2.2.2.2.1, .e .bo x.2.2.2.2.2.2.2.1, .e .bo x.2.2.2.2.2.2.2.2.1, .e .bo x.2.2.2.2.2.2.2.2.2.1, .e .bo x.2.2.2.2.2.2.2.2.2.2.1, .e .bo x.2.2.2.2.2.2.2.2.2.2.2.1, .e .bo x.2.2.2.2.2.2.2.2.2.2.2.2.1, .e .bo x.2.2.2.2.2.2.2.2.2.2.2.2.2.1, .e .bo x.2.2.2.2.2.2.2.2.2.2.2.2.2.2.1, .e .bo x.2.2.2.2.2.2.2.2.2.2.2.2.2.2.2.1, .e .bo x.2.2.2.2.2.2.2.2.2.2.2.2.2.2.2.2.1, .e .bo x.2.2.2.2.2.2.2.2.2.2.2.2.2.2.2.2.2.1, .e .bo x.2.2.2.2.2.2.2.2.2.2.2.2.2.2.2.2.2.2.1, .e .bo x.2.2.2.2.2.2.2.2.2.2.2.2.2.2.2.2.2.2.2.1, .e .bo x.2.2.2.2.2.2.2.2.2.2.2.2.2.2.2.2.2.2.2.2.1, .e .bo x.2.2.2.2.2.2.2.2.2.2.2.2.2.2.2.2.2.2.2.2.2.1, .e .bo x.2.2.2.2.2.2.2.2.2.2.2.2.2.2.2.2.2.2.2.2.2.2.1, .e .bo x.2.2.2.2.2.2.2.2.2.2.2.2.2.2.2.2.2.2.2.2.2.2.2.1, .e .bo x.2.2.2.2.2.2.2.2.2.2.2.2.2.2.2.2.2.2.2.2.2.2.2.2.1, .e .bo x.2.2.2.2.2.2.2.2.2.2.2.2.2.2.2.2.2.2.2.2.2.2.2.2.2.1]), (51, .box 88 [.fn 66 [.ref 50 0, .ref 51 0]]), (0, .box 25 [.e (.i .i64) x.2.2.2.2.2.2.2.2.2.2.2.2.2.2.2.2.2.2.2.2.2.2.2.2.2.2.1, .e (.i .i64) x.2.2.2.2.2.2.2.2.2.2.2.2.2.2.2.2.2.2.2.2.2.2.2.2.2.2.2.1, .e (.sl .ex) x.2.2.2.2.2.2.2.2.2.2.2.2.2.2.2.2.2.2.2.2.2.2.2.2.2.2.2.2])], 100⟩
def w66u0 (σ : Sg) : Bool × Bool × Bool × Bool × Bool × Bool × Bool × Bool × Bool × Bool × Bool × Bool × Bool × Bool × Bool × Bool × Bool × Bool × Bool × Bool × Bool × Bool × Bool × Bool × Bool × Bool × Int × Int × (List Ex) := (lvH .bo 50 0 σ, lvH .bo 50 1 σ, lvH .bo 50 2 σ, lvH .bo 50 3 σ, lvH .bo 50 4 σ, lvH .bo 50 5 σ, lvH .bo 50 6 σ, lvH .bo 50 7 σ, lvH .bo 50 8 σ, lvH .bo 50 9 σ, lvH .bo 50 10 σ, lvH .bo 50 11 σ, lvH .bo 50 12 σ, lvH .bo 50 13 σ, lvH .bo 50 14 σ, lvH .bo 50 15 σ, lvH .bo 50 16 σ, lvH .bo 50 17 σ, lvH .bo 50 18 σ, lvH .bo 50 19 σ, lvH .bo 50 20 σ, lvH .bo 50 21 σ, lvH .bo 50 22 σ, lvH .bo 50 23 σ, lvH .bo 50 24 σ, lvH .bo 50 25 σ, lvH (.i .i64) 0 0 σ, lvH (.i .i64) 0 1 σ, lvH (.sl .ex) 0 2 σ)
theorem w66ui0 : ∀ x, w66u0 (w66I0 x) = x := fun _ => by kernel_rfl
def w66X0_0 (y : Bool × Bool × Bool × Bool × Bool × Bool × Bool × Bool × Bool × Bool × Bool × Bool × Bool × Bool × Bool × Bool × Bool × Bool × Bool × Bool × Bool × Bool × Bool × Bool × Bool × Bool × Int × Int × (List Ex)) : Exit × Sg := (.normal, ⟨[(2, .ref 51 0), (3, .ref 0 0)], [(50, .box 87 [.e .bo y.1, .e .bo y.2.1, .e .bo y.2.2.1, .e .bo y.2.2.2.1, .e .bo y.2.2.2.2.1, .e .bo y.2.2.2.2.2.1, .e .bo y.2.2.2.2.2.2.1, .e .bo y.2.2.2.2.2.2.2.1, .e .bo y.2.2.2.2.2.2.2.2.1, .e .bo y.2.2.2.2.2.2.2.2.2.1, .e .bo y.2.2.2.2.2.2.2.2.2.2.1, .e .bo y.2.2.2.2.2.2.2.2.2.2.2.1, .e .bo y.2.2.2.2.2.2.2.2.2.2.2.2.1, .e .bo y.2.2.2.2.2.2.2.2.2.2.2.2.2.1, .e .bo y.2.2.2.2.2.2.2.2.2.2.2.2.2.2.1, .e .bo y.2.2.2.2.2.2.2.2.2.2.2.2.2.2.2.1, .e .bo y.2.2.2.2.2.2.2.2.2.2.2.2.2.2.2.2.1, .e .bo y.2.2.2.2.2.2.2.2.2.2.2.2.2.2.2.2.2.1, .e .bo y.2.2.2.2.2.2.2.2.2.2.2.2.2.2.2.2.2.2.1, .e .bo y.2.2.2.2.2.2.2.2.2.2.2.2.2.2.2.2.2.2.2.1, .e .bo y.2.2.2.2.2.2.2.2.2.2.2.2.2.2.2.2.2.2.2.2.1, .e .bo y.2.2.2.2.2.2.2.2.2.2.2.2.2.2.2.2.2.2.2.2.2.1, .e .bo y.2.2.2.2.2.2.2.2.2.2.2.2.2.2.2.2.2.2.2.2.2.2.1, .e .bo y.2.2.2.2.2.2.2.2.2.2.2.2.2.2.2.2.2.2.2.2.2.2.2.1, .e .bo y.2.2.2.2.2.2.2.2.2.2.2.2.2.2.2.2.2.2.2.2.2.2.2.2.1, .e .bo y.2.2.2.2.2.2.2.2.2.2.2.2.2.2.2.2.2.2.2.2.2.2.2.2.2.1]), (51, .box 88 [.fn 66 [.ref 50 0, .ref 51 0]]), (0, .box 25 [.e (.i .i64) y.2.2.2.2.2.2.2.2.2.2.2.2.2.2.2.2.2.2.2.2.2.2.2.2.2.2.1, .e (.i .i64) y.2.2.2.2.2.2.2.2.2.2.2.2.2.2.2.2.2.2.2.2.2.2.2.2.2.2.2.1, .e (.sl .ex) y.2.2.2.2.2.2.2.2.2.2.2.2.2.2.2.2.2.2.2.2.2.2.2.2.2.2.2.2])], 100⟩)
def w66v0_0 (_ : Exit) (σ : Sg) : Bool × Bool × Bool × Bool × Bool × Bool × Bool × Bool × Bool × Bool × Bool × Bool × Bool × Bool × Bool × Bool × Bool × Bool × Bool × Bool × Bool × Bool × Bool × Bool × Bool × Bool × Int × Int × (List Ex) := (lvH .bo 50 0 σ, lvH .bo 50 1 σ, lvH .bo 50 2 σ, lvH .bo 50 3 σ, lvH .bo 50 4 σ, lvH .bo 50 5 σ, lvH .bo 50 6 σ, lvH .bo 50 7 σ, lvH .bo 50 8 σ, lvH .bo 50 9 σ, lvH .bo 50 10 σ, lvH .bo 50 11 σ, lvH .bo 50 12 σ, lvH .bo 50 13 σ, lvH .bo 50 14 σ, lvH .bo 50 15 σ, lvH .bo 50 16 σ, lvH .bo 50 17 σ, lvH .bo 50 18 σ, lvH .bo 50 19 σ, lvH .bo 50 20 σ, lvH .bo 50 21 σ, lvH .bo 50 22 σ, lvH .bo 50 23 σ, lvH .bo 50 24 σ, lvH .bo 50 25 σ, lvH (.i .i64) 0 0 σ, lvH (.i .i64) 0 1 σ, lvH (.sl .ex) 0 2 σ)
def w66w0 : List (Exit × Nm) := [(.normal, ⟨[2, 3], [], []⟩)]
theorem w66o0 : Outs w66v0_0 (fun _ _ => ()) (fun _ _ => ()) w66X0_0 (noX 1) (noX 2) (exC .normal) (exC (.goto 1)) (exC (.goto 2)) := ⟨fun _ => by kernel_rfl, fun _ => by kernel_rfl, fun _ => by kernel_rfl, fun _ => by kernel_rfl, fun _ => by kernel_rfl, fun _ => by kernel_rfl, exNe_ok (by kernel_rfl), exNe_ok (by kernel_rfl), exNe_ok (by kernel_rfl)⟩
def w66l0 [Alg] (N : w66T) (_ : Nat) (x : Bool × Bool × Bool × Bool × Bool × Bool × Bool × Bool × Bool × Bool × Bool × Bool × Bool × Bool × Bool × Bool × Bool × Bool × Bool × Bool × Bool × Bool × Bool × Bool × Bool × Bool × Int × Int × (List Ex)) (k0 : (Bool × Bool × Bool × Bool × Bool × Bool × Bool × Bool × Bool × Bool × Bool × Bool × Bool × Bool × Bool × Bool × Bool × Bool × Bool × Bool × Bool × Bool × Bool × Bool × Bool × Bool × Int × Int × (List Ex)) → O) (_ : (Unit) → O) (_ : (Unit) → O) : O := w66F0 N   (fun y0 y1 y2 y3 y4 y5 y6 y7 y8 y9 y10 y11 y12 y13 y14 y15 y16 y17 y18 y19 y20 y21 y22 y23 y24 y25 y26 y27 y28 => k0 (y0, y1, y2, y3, y4, y5, y6, y7, y8, y9, y10, y11, y12, y13, y14, y15, y16, y17, y18, y19, y20, y21, y22, y23, y24, y25, y26, y27, y28)) x.1 x.2.1 x.2.2.1 x.2.2.2.1 x.2.2.2.2.1 x.2.2.2.2.2.1 x.2.2.2.2.2.2.1 x.2.2.2.2.2.2.2.1 x.2.2.2.2.2.2.2.2.1 x.2.2.2.2.2.2.2.2.2.1 x.2.2.2.2.2.2.2.2.2.2.1 x.2.2.2.2.2.2.2.2.2.2.2.1 x.2.2.2.2.2.2.2.2.2.2.2.2.1 x.2.2.2.2.2.2.2.2.2.2.2.2.2.1 x.2.2.2.2.2.2.2.2.2.2.2.2.2.2.1 x.2.2.2.2.2.2.2.2.2.2.2.2.2.2.2.1 x.2.2.2.2.2.2.2.2.2.2.2.2.2.2.2.2.1 x.2.2.2.2.2.2.2.2.2.2.2.2.2.2.2.2.2.1 x.2.2.2.2.2.2.2.2.2.2.2.2.2.2.2.2.2.2.1 x.2.2.2.2.2.2.2.2.2.2.2.2.2.2.2.2.2.2.2.1 x.2.2.2.2.2.2.2.2.2.2.2.2.2.2.2.2.2.2.2.2.1 x.2.2.2.2.2.2.2.2.2.2.2.2.2.2.2.2.2.2.2.2.2.1 x.2.2.2.2.2.2.2.2.2.2.2.2.2.2.2.2.2.2.2.2.2.2.1 x.2.2.2.2.2.2.2.2.2.2.2.2.2.2.2.2.2.2.2.2.2.2.2.1 x.2.2.2.2.2.2.2.2.2.2.2.2.2.2.2.2.2.2.2.2.2.2.2.2.1 x.2.2.2.2.2.2.2.2.2.2.2.2.2.2.2.2.2.2.2.2.2.2.2.2.2.1 x.2.2.2.2.2.2.2.2.2.2.2.2.2.2.2.2.2.2.2.2.2.2.2.2.2.2.1 x.2.2.2.2.2.2.2.2.2.2.2.2.2.2.2.2.2.2.2.2.2.2.2.2.2.2.2.1 x.2.2.2.2.2.2.2.2.2.2.2.2.2.2.2.2.2.2.2.2.2.2.2.2.2.2.2.2
def w66n0 [Alg] (N : w66T) (a0 a1 a2 a3 a4 a5 a6 a7 a8 a9 a10 a11 a12 a13 a14 a15 a16 a17 a18 a19 a20 a21 a22 a23 a24 a25 : Bool) (a26 a27 : Int) (a28 : (List Ex)) (k0 : Bool → Bool → Bool → Bool → Bool → Bool → Bool → Bool → Bool → Bool → Bool → Bool → Bool → Bool → Bool → Bool → Bool → Bool → Bool → Bool → Bool → Bool → Bool → Bool → Bool → Bool → Int → Int → (List Ex) → O) : O := w66l0 N N.1 (a0, a1, a2, a3, a4, a5, a6, a7, a8, a9, a10, a11, a12, a13, a14, a15, a16, a17, a18, a19, a20, a21, a22, a23, a24, a25, a26, a27, a28) (fun y => k0 y.1 y.2.1 y.2.2.1 y.2.2.2.1 y.2.2.2.2.1 y.2.2.2.2.2.1 y.2.2.2.2.2.2.1 y.2.2.2.2.2.2.2.1 y.2.2.2.2.2.2.2.2.1 y.2.2.2.2.2.2.2.2.2.1 y.2.2.2.2.2.2.2.2.2.2.1 y.2.2.2.2.2.2.2.2.2.2.2.1 y.2.2.2.2.2.2.2.2.2.2.2.2.1 y.2.2.2.2.2.2.2.2.2.2.2.2.2.1 y.2.2.2.2.2.2.2.2.2.2.2.2.2.2.1 y.2.2.2.2.2.2.2.2.2.2.2.2.2.2.2.1 y.2.2.2.2.2.2.2.2.2.2.2.2.2.2.2.2.1 y.2.2.2.2.2.2.2.2.2.2.2.2.2.2.2.2.2.1 y.2.2.2.2.2.2.2.2.2.2.2.2.2.2.2.2.2.2.1 y.2.2.2.2.2.2.2.2.2.2.2.2.2.2.2.2.2.2.2.1 y.2.2.2.2.2.2.2.2.2.2.2.2.2.2.2.2.2.2.2.2.1 y.2.2.2.2.2.2.2.2.2.2.2.2.2.2.2.2.2.2.2.2.2.1 y.2.2.2.2.2.2.2.2.2.2.2.2.2.2.2.2.2.2.2.2.2.2.1 y.2.2.2.2.2.2.2.2.2.2.2.2.2.2.2.2.2.2.2.2.2.2.2.1 y.2.2.2.2.2.2.2.2.2.2.2.2.2.2.2.2.2.2.2.2.2.2.2.2.1 y.2.2.2.2.2.2.2.2.2.2.2.2.2.2.2.2.2.2.2.2.2.2.2.2.2.1 y.2.2.2.2.2.2.2.2.2.2.2.2.2.2.2.2.2.2.2.2.2.2.2.2.2.2.1 y.2.2.2.2.2.2.2.2.2.2.2.2.2.2.2.2.2.2.2.2.2.2.2.2.2.2.2.1 y.2.2.2.2.2.2.2.2.2.2.2.2.2.2.2.2.2.2.2.2.2.2.2.2.2.2.2.2) (fun _ => none) (fun _ => none)
noncomputable def w66s0 [Alg] (N : w66T) (a0 a1 a2 a3 a4 a5 a6 a7 a8 a9 a10 a11 a12 a13 a14 a15 a16 a17 a18 a19 a20 a21 a22 a23 a24 a25 : Bool) (a26 a27 : Int) (a28 : (List Ex)) (k0 : Bool → Bool → Bool → Bool → Bool → Bool → Bool → Bool → Bool → Bool → Bool → Bool → Bool → Bool → Bool → Bool → Bool → Bool → Bool → Bool → Bool → Bool → Bool → Bool → Bool → Bool → Int → Int → (List Ex) → O) : O := subL w66I0 w66u0 (w66l0 N N.1) (w66I0 (a0, a1, a2, a3, a4, a5, a6, a7, a8, a9, a10, a11, a12, a13, a14, a15, a16, a17, a18, a19, a20, a21, a22, a23, a24, a25, a26, a27, a28)) (fun y => k0 y.1 y.2.1 y.2.2.1 y.2.2.2.1 y.2.2.2.2.1 y.2.2.2.2.2.1 y.2.2.2.2.2.2.1 y.2.2.2.2.2.2.2.1 y.2.2.2.2.2.2.2.2.1 y.2.2.2.2.2.2.2.2.2.1 y.2.2.2.2.2.2.2.2.2.2.1 y.2.2.2.2.2.2.2.2.2.2.2.1 y.2.2.2.2.2.2.2.2.2.2.2.2.1 y.2.2.2.2.2.2.2.2.2.2.2.2.2.1 y.2.2.2.2.2.2.2.2.2.2.2.2.2.2.1 y.2.2.2.2.2.2.2.2.2.2.2.2.2.2.2.1 y.2.2.2.2.2.2.2.2.2.2.2.2.2.2.2.2.1 y.2.2.2.2.2.2.2.2.2.2.2.2.2.2.2.2.2.1 y.2.2.2.2.2.2.2.2.2.2.2.2.2.2.2.2.2.2.1 y.2.2.2.2.2.2.2.2.2.2.2.2.2.2.2.2.2.2.2.1 y.2.2.2.2.2.2.2.2.2.2.2.2.2.2.2.2.2.2.2.2.1 y.2.2.2.2.2.2.2.2.2.2.2.2.2.2.2.2.2.2.2.2.2.1 y.2.2.2.2.2.2.2.2.2.2.2.2.2.2.2.2.2.2.2.2.2.2.1 y.2.2.2.2.2.2.2.2.2.2.2.2.2.2.2.2.2.2.2.2.2.2.2.1 y.2.2.2.2.2.2.2.2.2.2.2.2.2.2.2.2.2.2.2.2.2.2.2.2.1 y.2.2.2.2.2.2.2.2.2.2.2.2.2.2.2.2.2.2.2.2.2.2.2.2.2.1 y.2.2.2.2.2.2.2.2.2.2.2.2.2.2.2.2.2.2.2.2.2.2.2.2.2.2.1 y.2.2.2.2.2.2.2.2.2.2.2.2.2.2.2.2.2.2.2.2.2.2.2.2.2.2.2.1 y.2.2.2.2.2.2.2.2.2.2.2.2.2.2.2.2.2.2.2.2.2.2.2.2.2.2.2.2) (fun _ => none) (fun _ => none)
theorem w66e0 [Alg] (N : w66T) : w66s0 N = w66n0 N := funext fun _ => funext fun _ => funext fun _ => funext fun _ => funext fun _ => funext fun _ => funext fun _ => funext fun _ => funext fun _ => funext fun _ => funext fun _ => funext fun _ => funext fun _ => funext fun _ => funext fun _ => funext fun _ => funext fun _ => funext fun _ => funext fun _ => funext fun _ => funext fun _ => funext fun _ => funext fun _ => funext fun _ => funext fun _ => funext fun _ => funext fun _ => funext fun _ => funext fun _ => funext fun _ => subL_I w66ui0 _ _ _ _
noncomputable def w66h0 [Alg] (_ : w66T) : Hint := (.seq .d (.cond (.reg [2, 3] [] []) .d))
theorem w66hk0 (N : w66T) : HintOk (w66c N) Tryd.f66.ntmps (w66h0 N) w66b0 := hk_of _ _ (And.intro trivial (And.intro trivial trivial))
theorem w66q0 [Alg] (N : w66T) (K : Exit → Sg → O) (x : Bool × Bool × Bool × Bool × Bool × Bool × Bool × Bool × Bool × Bool × Bool × Bool × Bool × Bool × Bool × Bool × Bool × Bool × Bool × Bool × Bool × Bool × Bool × Bool × Bool × Bool × Int × Int × (List Ex)) : w66F0 N   (fun y0 y1 y2 y3 y4 y5 y6 y7 y8 y9 y10 y11 y12 y13 y14 y15 y16 y17 y18 y19 y20 y21 y22 y23 y24 y25 y26 y27 y28 => K (w66X0_0 (y0, y1, y2, y3, y4, y5, y6, y7, y8, y9, y10, y11, y12, y13, y14, y15, y16, y17, y18, y19, y20, y21, y22, y23, y24, y25, y26, y27, y28)).1 (w66X0_0 (y0, y1, y2, y3, y4, y5, y6, y7, y8, y9, y10, y11, y12, y13, y14, y15, y16, y17, y18, y19, y20, y21, y22, y23, y24, y25, y26, y27, y28)).2) x.1 x.2.1 x.2.2.1 x.2.2.2.1 x.2.2.2.2.1 x.2.2.2.2.2.1 x.2.2.2.2.2.2.1 x.2.2.2.2.2.2.2.1 x.2.2.2.2.2.2.2.2.1 x.2.2.2.2.2.2.2.2.2.1 x.2.2.2.2.2.2.2.2.2.2.1 x.2.2.2.2.2.2.2.2.2.2.2.1 x.2.2.2.2.2.2.2.2.2.2.2.2.1 x.2.2.2.2.2.2.2.2.2.2.2.2.2.1 x.2.2.2.2.2.2.2.2.2.2.2.2.2.2.1 x.2.2.2.2.2.2.2.2.2.2.2.2.2.2.2.1 x.2.2.2.2.2.2.2.2.2.2.2.2.2.2.2.2.1 x.2.2.2.2.2.2.2.2.2.2.2.2.2.2.2.2.2.1 x.2.2.2.2.2.2.2.2.2.2.2.2.2.2.2.2.2.2.1 x.2.2.2.2.2.2.2.2.2.2.2.2.2.2.2.2.2.2.2.1 x.2.2.2.2.2.2.2.2.2.2.2.2.2.2.2.2.2.2.2.2.1 x.2.2.2.2.2.2.2.2.2.2.2.2.2.2.2.2.2.2.2.2.2.1 x.2.2.2.2.2.2.2.2.2.2.2.2.2.2.2.2.2.2.2.2.2.2.1 x.2.2.2.2.2.2.2.2.2.2.2.2.2.2.2.2.2.2.2.2.2.2.2.1 x.2.2.2.2.2.2.2.2.2.2.2.2.2.2.2.2.2.2.2.2.2.2.2.2.1 x.2.2.2.2.2.2.2.2.2.2.2.2.2.2.2.2.2.2.2.2.2.2.2.2.2.1 x.2.2.2.2.2.2.2.2.2.2.2.2.2.2.2.2.2.2.2.2.2.2.2.2.2.2.1 x.2.2.2.2.2.2.2.2.2.2.2.2.2.2.2.2.2.2.2.2.2.2.2.2.2.2.2.1 x.2.2.2.2.2.2.2.2.2.2.2.2.2.2.2.2.2.2.2.2.2.2.2.2.2.2.2.2 = exec (w66c N) Tryd.f66.ntmps (w66h0 N) w66b0 (w66I0 x) (partX w66w0 K) := by kernel_rfl
theorem w66S0 (N : w66T) (hc : CxOk (w66c N)) : SubOk (w66c N) Tryd.f66.ntmps w66b0 w66X0_0 (noX 1) (noX 2) (subL w66I0 w66u0 (w66l0 N N.1)) :=
 sub_part hc (w66hk0 N) w66o0 (fun x K => by
  have h : w66F0 N   (fun y0 y1 y2 y3 y4 y5 y6 y7 y8 y9 y10 y11 y12 y13 y14 y15 y16 y17 y18 y19 y20 y21 y22 y23 y24 y25 y26 y27 y28 => K (w66X0_0 (y0, y1, y2, y3, y4, y5, y6, y7, y8, y9, y10, y11, y12, y13, y14, y15, y16, y17, y18, y19, y20, y21, y22, y23, y24, y25, y26, y27, y28)).1 (w66X0_0 (y0, y1, y2, y3, y4, y5, y6, y7, y8, y9, y10, y11, y12, y13, y14, y15, y16, y17, y18, y19, y20, y21, y22, y23, y24, y25, y26, y27, y28)).2) x.1 x.2.1 x.2.2.1 x.2.2.2.1 x.2.2.2.2.1 x.2.2.2.2.2.1 x.2.2.2.2.2.2.1 x.2.2.2.2.2.2.2.1 x.2.2.2.2.2.2.2.2.1 x.2.2.2.2.2.2.2.2.2.1 x.2.2.2.2.2.2.2.2.2.2.1 x.2.2.2.2.2.2.2.2.2.2.2.1 x.2.2.2.2.2.2.2.2.2.2.2.2.1 x.2.2.2.2.2.2.2.2.2.2.2.2.2.1 x.2.2.2.2.2.2.2.2.2.2.2.2.2.2.1 x.2.2.2.2.2.2.2.2.2.2.2.2.2.2.2.1 x.2.2.2.2.2.2.2.2.2.2.2.2.2.2.2.2.1 x.2.2.2.2.2.2.2.2.2.2.2.2.2.2.2.2.2.1 x.2.2.2.2.2.2.2.2.2.2.2.2.2.2.2.2.2.2.1 x.2.2.2.2.2.2.2.2.2.2.2.2.2.2.2.2.2.2.2.1 x.2.2.2.2.2.2.2.2.2.2.2.2.2.2.2.2.2.2.2.2.1 x.2.2.2.2.2.2.2.2.2.2.2.2.2.2.2.2.2.2.2.2.2.1 x.2.2.2.2.2.2.2.2.2.2.2.2.2.2.2.2.2.2.2.2.2.2.1 x.2.2.2.2.2.2.2.2.2.2.2.2.2.2.2.2.2.2.2.2.2.2.2.1 x.2.2.2.2.2.2.2.2.2.2.2.2.2.2.2.2.2.2.2.2.2.2.2.2.1 x.2.2.2.2.2.2.2.2.2.2.2.2.2.2.2.2.2.2.2.2.2.2.2.2.2.1 x.2.2.2.2.2.2.2.2.2.2.2.2.2.2.2.2.2.2.2.2.2.2.2.2.2.2.1 x.2.2.2.2.2.2.2.2.2.2.2.2.2.2.2.2.2.2.2.2.2.2.2.2.2.2.2.1 x.2.2.2.2.2.2.2.2.2.2.2.2.2.2.2.2.2.2.2.2.2.2.2.2.2.2.2.2 = w66F0 N   (fun y0 y1 y2 y3 y4 y5 y6 y7 y8 y9 y10 y11 y12 y13 y14 y15 y16 y17 y18 y19 y20 y21 y22 y23 y24 y25 y26 y27 y28 => K (w66X0_0 (y0, y1, y2, y3, y4, y5, y6, y7, y8, y9, y10, y11, y12, y13, y14, y15, y16, y17, y18, y19, y20, y21, y22, y23, y24, y25, y26, y27, y28)).1 (w66X0_0 (y0, y1, y2, y3, y4, y5, y6, y7, y8, y9, y10, y11, y12, y13, y14, y15, y16, y17, y18, y19, y20, y21, y22, y23, y24, y25, y26, y27, y28)).2) x.1 x.2.1 x.2.2.1 x.2.2.2.1 x.2.2.2.2.1 x.2.2.2.2.2.1 x.2.2.2.2.2.2.1 x.2.2.2.2.2.2.2.1 x.2.2.2.2.2.2.2.2.1 x.2.2.2.2.2.2.2.2.2.1 x.2.2.2.2.2.2.2.2.2.2.1 x.2.2.2.2.2.2.2.2.2.2.2.1 x.2.2.2.2.2.2.2.2.2.2.2.2.1 x.2.2.2.2.2.2.2.2.2.2.2.2.2.1 x.2.2.2.2.2.2.2.2.2.2.2.2.2.2.1 x.2.2.2.2.2.2.2.2.2.2.2.2.2.2.2.1 x.2.2.2.2.2.2.2.2.2.2.2.2.2.2.2.2.1 x.2.2.2.2.2.2.2.2.2.2.2.2.2.2.2.2.2.1 x.2.2.2.2.2.2.2.2.2.2.2.2.2.2.2.2.2.2.1 x.2.2.2.2.2.2.2.2.2.2.2.2.2.2.2.2.2.2.2.1 x.2.2.2.2.2.2.2.2.2.2.2.2.2.2.2.2.2.2.2.2.1 x.2.2.2.2.2.2.2.2.2.2.2.2.2.2.2.2.2.2.2.2.2.1 x.2.2.2.2.2.2.2.2.2.2.2.2.2.2.2.2.2.2.2.2.2.2.1 x.2.2.2.2.2.2.2.2.2.2.2.2.2.2.2.2.2.2.2.2.2.2.2.1 x.2.2.2.2.2.2.2.2.2.2.2.2.2.2.2.2.2.2.2.2.2.2.2.2.1 x.2.2.2.2.2.2.2.2.2.2.2.2.2.2.2.2.2.2.2.2.2.2.2.2.2.1 x.2.2.2.2.2.2.2.2.2.2.2.2.2.2.2.2.2.2.2.2.2.2.2.2.2.2.1 x.2.2.2.2.2.2.2.2.2.2.2.2.2.2.2.2.2.2.2.2.2.2.2.2.2.2.2.1 x.2.2.2.2.2.2.2.2.2.2.2.2.2.2.2.2.2.2.2.2.2.2.2.2.2.2.2.2 := by rfl
  exact h.trans (w66q0 N K x))
def w66F1 [Alg] (N : w66T)  (self : Int → Bool → Bool → Bool → Bool → Bool → Bool → Bool → Bool → Bool → Bool → Bool → Bool → Bool → Bool → Bool → Bool → Bool → Bool → Bool → Bool → Bool → Bool → Bool → Bool → Bool → Bool → O) (k0 : Bool → Bool → Bool → Bool → Bool → Bool → Bool → Bool → Bool → Bool → Bool → Bool → Bool → Bool → Bool → Bool → Bool → Bool → Bool → Bool → Bool → Bool → Bool → Bool → Bool → Bool → O) (x30_0 : (List Ex)) (x30_1 x30_2 : Int) (x30_3 x30_4 x30_5 x30_6 x30_7 x30_8 x30_9 x30_10 x30_11 x30_12 x30_13 x30_14 x30_15 x30_16 x30_17 x30_18 x30_19 x30_20 x30_21 x30_22 x30_23 x30_24 x30_25 x30_26 x30_27 x30_28 : Bool) : O :=
 br (decide (x30_2 < x30_1))
  (gx x30_0 x30_2 fun y33 =>
  ck ((N.2 y33.op y33.num y33.kids x30_3 x30_4 x30_5 x30_6 x30_7 x30_8 x30_9 x30_10 x30_11 x30_12 x30_13 x30_14 x30_15 x30_16 x30_17 x30_18 x30_19 x30_20 x30_21 x30_22 x30_23 x30_24 x30_25 x30_26 x30_27 x30_28).isSome) <|
  self (IntKind.i64.wrap (x30_2 + (1 : Int))) (((N.2 y33.op y33.num y33.kids x30_3 x30_4 x30_5 x30_6 x30_7 x30_8 x30_9 x30_10 x30_11 x30_12 x30_13 x30_14 x30_15 x30_16 x30_17 x30_18 x30_19 x30_20 x30_21 x30_22 x30_23 x30_24 x30_25 x30_26 x30_27 x30_28).getD w66D).1) (((N.2 y33.op y33.num y33.kids x30_3 x30_4 x30_5 x30_6 x30_7 x30_8 x30_9 x30_10 x30_11 x30_12 x30_13 x30_14 x30_15 x30_16 x30_17 x30_18 x30_19 x30_20 x30_21 x30_22 x30_23 x30_24 x30_25 x30_26 x30_27 x30_28).getD w66D).2.1) (((N.2 y33.op y33.num y33.kids x30_3 x30_4 x30_5 x30_6 x30_7 x30_8 x30_9 x30_10 x30_11 x30_12 x30_13 x30_14 x30_15 x30_16 x30_17 x30_18 x30_19 x30_20 x30_21 x30_22 x30_23 x30_24 x30_25 x30_26 x30_27 x30_28).getD w66D).2.2.1) (((N.2 y33.op y33.num y33.kids x30_3 x30_4 x30_5 x30_6 x30_7 x30_8 x30_9 x30_10 x30_11 x30_12 x30_13 x30_14 x30_15 x30_16 x30_17 x30_18 x30_19 x30_20 x30_21 x30_22 x30_23 x30_24 x30_25 x30_26 x30_27 x30_28).getD w66D).2.2.2.1) (((N.2 y33.op y33.num y33.kids x30_3 x30_4 x30_5 x30_6 x30_7 x30_8 x30_9 x30_10 x30_11 x30_12 x30_13 x30_14 x30_15 x30_16 x30_17 x30_18 x30_19 x30_20 x30_21 x30_22 x30_23 x30_24 x30_25 x30_26 x30_27 x30_28).getD w66D).2.2.2.2.1) (((N.2 y33.op y33.num y33.kids x30_3 x30_4 x30_5 x30_6 x30_7 x30_8 x30_9 x30_10 x30_11 x30_12 x30_13 x30_14 x30_15 x30_16 x30_17 x30_18 x30_19 x30_20 x30_21 x30_22 x30_23 x30_24 x30_25 x30_26 x30_27 x30_28).getD w66D).2.2.2.2.2.1) (((N.2 y33.op y33.num y33.kids x30_3 x30_4 x30_5 x30_6 x30_7 x30_8 x30_9 x30_10 x30_11 x30_12 x30_13 x30_14 x30_15 x30_16 x30_17 x30_18 x30_19 x30_20 x30_21 x30_22 x30_23 x30_24 x30_25 x30_26 x30_27 x30_28).getD w66D).2.2.2.2.2.2.1) (((N.2 y33.op y33.num y33.kids x30_3 x30_4 x30_5 x30_6 x30_7 x30_8 x30_9 x30_10 x30_11 x30_12 x30_13 x30_14 x30_15 x30_16 x30_17 x30_18 x30_19 x30_20 x30_21 x30_22 x30_23 x30_24 x30_25 x30_26 x30_27 x30_28).getD w66D).2.2.2.2.2.2.2.1) (((N.2 y33.op y33.num y33.kids x30_3 x30_4 x30_5 x30_6 x30_7 x30_8 x30_9 x30_10 x30_11 x30_12 x30_13 x30_14 x30_15 x30_16 x30_17 x30_18 x30_19 x30_20 x30_21 x30_22 x30_23 x30_24 x30_25 x30_26 x30_27 x30_28).getD w66D).2.2.2.2.2.2.2.2.1) (((N.2 y33.op y33.num y33.kids x30_3 x30_4 x30_5 x30_6 x30_7 x30_8 x30_9 x30_10 x30_11 x30_12 x30_13 x30_14 x30_15 x30_16 x30_17 x30_18 x30_19 x30_20 x30_21 x30_22 x30_23 x30_24 x30_25 x30_26 x30_27 x30_28).getD w66D).2.2.2.2.2.2.2.2.2.1) (((N.2 y33.op y33.num y33.kids x30_3 x30_4 x30_5 x30_6 x30_7 x30_8 x30_9 x30_10 x30_11 x30_12 x30_13 x30_14 x30_15 x30_16 x30_17 x30_18 x30_19 x30_20 x30_21 x30_22 x30_23 x30_24 x30_25 x30_26 x30_27 x30_28).getD w66D).2.2.2.2.2.2.2.2.2.2.1) (((N.2 y33.op y33.num y33.kids x30_3 x30_4 x30_5 x30_6 x30_7 x30_8 x30_9 x30_10 x30_11 x30_12 x30_13 x30_14 x30_15 x30_16 x30_17 x30_18 x30_19 x30_20 x30_21 x30_22 x30_23 x30_24 x30_25 x30_26 x30_27 x30_28).getD w66D).2.2.2.2.2.2.2.2.2.2.2.1) (((N.2 y33.op y33.num y33.kids x30_3 x30_4 x30_5 x30_6 x30_7 x30_8 x30_9 x30_10 x30_11 x30_12 x30_13 x30_14 x30_15 x30_16 x30_17 x30_18 x30_19 x30_20 x30_21 x30_22 x30_23 x30_24 x30_25 x30_26 x30_27 x30_28).getD w66D).2.2.2.2.2.2.2.2.2.2.2.2.1) (((N.2 y33.op y33.num y33.kids x30_3 x30_4 x30_5 x30_6 x30_7 x30_8 x30_9 x30_10 x30_11 x30_12 x30_13 x30_14 x30_15 x30_16 x30_17 x30_18 x30_19 x30_20 x30_21 x30_22 x30_23 x30_24 x30_25 x30_26 x30_27 x30_28).getD w66D).2.2.2.2.2.2.2.2.2.2.2.2.2.1) (((N.2 y33.op y33.num y33.kids x30_3 x30_4 x30_5 x30_6 x30_7 x30_8 x30_9 x30_10 x30_11 x30_12 x30_13 x30_14 x30_15 x30_16 x30_17 x30_18 x30_19 x30_20 x30_21 x30_22 x30_23 x30_24 x30_25 x30_26 x30_27 x30_28).getD w66D).2.2.2.2.2.2.2.2.2.2.2.2.2.2.1) (((N.2 y33.op y33.num y33.kids x30_3 x30_4 x30_5 x30_6 x30_7 x30_8 x30_9 x30_10 x30_11 x30_12 x30_13 x30_14 x30_15 x30_16 x30_17 x30_18 x30_19 x30_20 x30_21 x30_22 x30_23 x30_24 x30_25 x30_26 x30_27 x30_28).getD w66D).2.2.2.2.2.2.2.2.2.2.2.2.2.2.2.1) (((N.2 y33.op y33.num y33.kids x30_3 x30_4 x30_5 x30_6 x30_7 x30_8 x30_9 x30_10 x30_11 x30_12 x30_13 x30_14 x30_15 x30_16 x30_17 x30_18 x30_19 x30_20 x30_21 x30_22 x30_23 x30_24 x30_25 x30_26 x30_27 x30_28).getD w66D).2.2.2.2.2.2.2.2.2.2.2.2.2.2.2.2.1) (((N.2 y33.op y33.num y33.kids x30_3 x30_4 x30_5 x30_6 x30_7 x30_8 x30_9 x30_10 x30_11 x30_12 x30_13 x30_14 x30_15 x30_16 x30_17 x30_18 x30_19 x30_20 x30_21 x30_22 x30_23 x30_24 x30_25 x30_26 x30_27 x30_28).getD w66D).2.2.2.2.2.2.2.2.2.2.2.2.2.2.2.2.2.1) (((N.2 y33.op y33.num y33.kids x30_3 x30_4 x30_5 x30_6 x30_7 x30_8 x30_9 x30_10 x30_11 x30_12 x30_13 x30_14 x30_15 x30_16 x30_17 x30_18 x30_19 x30_20 x30_21 x30_22 x30_23 x30_24 x30_25 x30_26 x30_27 x30_28).getD w66D).2.2.2.2.2.2.2.2.2.2.2.2.2.2.2.2.2.2.1) (((N.2 y33.op y33.num y33.kids x30_3 x30_4 x30_5 x30_6 x30_7 x30_8 x30_9 x30_10 x30_11 x30_12 x30_13 x30_14 x30_15 x30_16 x30_17 x30_18 x30_19 x30_20 x30_21 x30_22 x30_23 x30_24 x30_25 x30_26 x30_27 x30_28).getD w66D).2.2.2.2.2.2.2.2.2.2.2.2.2.2.2.2.2.2.2.1) (((N.2 y33.op y33.num y33.kids x30_3 x30_4 x30_5 x30_6 x30_7 x30_8 x30_9 x30_10 x30_11 x30_12 x30_13 x30_14 x30_15 x30_16 x30_17 x30_18 x30_19 x30_20 x30_21 x30_22 x30_23 x30_24 x30_25 x30_26 x30_27 x30_28).getD w66D).2.2.2.2.2.2.2.2.2.2.2.2.2.2.2.2.2.2.2.2.1) (((N.2 y33.op y33.num y33.kids x30_3 x30_4 x30_5 x30_6 x30_7 x30_8 x30_9 x30_10 x30_11 x30_12 x30_13 x30_14 x30_15 x30_16 x30_17 x30_18 x30_19 x30_20 x30_21 x30_22 x30_23 x30_24 x30_25 x30_26 x30_27 x30_28).getD w66D).2.2.2.2.2.2.2.2.2.2.2.2.2.2.2.2.2.2.2.2.2.1) (((N.2 y33.op y33.num y33.kids x30_3 x30_4 x30_5 x30_6 x30_7 x30_8 x30_9 x30_10 x30_11 x30_12 x30_13 x30_14 x30_15 x30_16 x30_17 x30_18 x30_19 x30_20 x30_21 x30_22 x30_23 x30_24 x30_25 x30_26 x30_27 x30_28).getD w66D).2.2.2.2.2.2.2.2.2.2.2.2.2.2.2.2.2.2.2.2.2.2.1) (((N.2 y33.op y33.num y33.kids x30_3 x30_4 x30_5 x30_6 x30_7 x30_8 x30_9 x30_10 x30_11 x30_12 x30_13 x30_14 x30_15 x30_16 x30_17 x30_18 x30_19 x30_20 x30_21 x30_22 x30_23 x30_24 x30_25 x30_26 x30_27 x30_28).getD w66D).2.2.2.2.2.2.2.2.2.2.2.2.2.2.2.2.2.2.2.2.2.2.2.1) (((N.2 y33.op y33.num y33.kids x30_3 x30_4 x30_5 x30_6 x30_7 x30_8 x30_9 x30_10 x30_11 x30_12 x30_13 x30_14 x30_15 x30_16 x30_17 x30_18 x30_19 x30_20 x30_21 x30_22 x30_23 x30_24 x30_25 x30_26 x30_27 x30_28).getD w66D).2.2.2.2.2.2.2.2.2.2.2.2.2.2.2.2.2.2.2.2.2.2.2.2.1) (((N.2 y33.op y33.num y33.kids x30_3 x30_4 x30_5 x30_6 x30_7 x30_8 x30_9 x30_10 x30_11 x30_12 x30_13 x30_14 x30_15 x30_16 x30_17 x30_18 x30_19 x30_20 x30_21 x30_22 x30_23 x30_24 x30_25 x30_26 x30_27 x30_28).getD w66D).2.2.2.2.2.2.2.2.2.2.2.2.2.2.2.2.2.2.2.2.2.2.2.2.2))
  (k0 x30_3 x30_4 x30_5 x30_6 x30_7 x30_8 x30_9 x30_10 x30_11 x30_12 x30_13 x30_14 x30_15 x30_16 x30_17 x30_18 x30_19 x30_20 x30_21 x30_22 x30_23 x30_24 x30_25 x30_26 x30_27 x30_28)
noncomputable def w66b1 : Code := atC [1, 1, 1, 0, 0] w66b
def w66m1 : Nm := ⟨[2, 29, 30, 31], [], []⟩
def w66I1 (x : (List Ex) × Int × Int × Bool × Bool × Bool × Bool × Bool × Bool × Bool × Bool × Bool × Bool × Bool × Bool × Bool × Bool × Bool × Bool × Bool × Bool × Bool × Bool × Bool × Bool × Bool × Bool × Bool × Bool) : Sg := ⟨[(2, .ref 51 0), (29, .e (.sl .ex) x.1), (30, .e (.i .i64) x.2.1), (31, .e (.i .i64) x.2.2.1)], [(50, .box 87 [.e .bo x.2.2.2.1, .e .bo x.2.2.2.2.1, .e .bo x.2.2.2.2.2.1, .e .bo x.2.2.2.2.2.2.1, .e .bo x.2.2.2.2.2.2.2.1, .e .bo x.2.2.2.2.2.2.2.2.1, .e .bo x.2.2.2.2.2.2.2.2.2.1, .e .bo x.2.2.2.2.2.2.2.2.2.2.1, .e .bo x.2.2.2.2.2.2.2.2.2.2.2.1, .e .bo x.2.2.2.2.2.2.2.2.2.2.2.2.1, .e .bo x.2.2.2.2.2.2.2.2.2.2.2.2.2.1, .e .bo x.2.2.2.2.2.2.2.2.2.2.2.2.2.2.1, .e .bo x.2.2.2.2.2.2.2.2.2.2.2.2.2.2.2.1, .e .bo x.2.2.2.2.2.2.2.2.2.2.2.2.2.2.2.2.1, .e .bo x.2.2.2.2.2.2.2.2.2.2.2.2.2.2.2.2.2.1, .e .bo x.2.2.2.2.2.2.2.2.2.2.2.2.2.2.2.2.2.2.1, .e .bo x.2.2.2.2.2.2.2.2.2.2.2.2.2.2.2.2.2.2.2.1, .e .bo x.2.2.2.2.2.2.2.2.2.2.2.2.2.2.2.2.2.2.2.2.1, .e .bo x.2.2.2.2.2.2.2.2.2.2.2.2.2.2.2.2.2.2.2.2.2.1, .e .bo x.2.2.2.2.2.2.2.2.2.2.2.2.2.2.2.2.2.2.2.2.2.2.1, .e .bo x.2.2.2.2.2.2.2.2.2.2.2.2.2.2.2.2.2.2.2.2.2.2.2.1, .e .bo x.2.2.2.2.2.2.2.2.2.2.2.2.2.2.2.2.2.2.2.2.2.2.2.2.1, .e .bo x.2.2.2.2.2.2.2.2.2.2.2.2.2.2.2.2.2.2.2.2.2.2.2.2.2.1, .e .bo x.2.2.2.2.2.2.2.2.2.2.2.2.2.2.2.2.2.2.2.2.2.2.2.2.2.2.1, .e .bo x.2.2.2.2.2.2.2.2.2.2.2.2.2.2.2.2.2.2.2.2.2.2.2.2.2.2.2.1, .e .bo x.2.2.2.2.2.2.2.2.2.2.2.2.2.2.2.2.2.2.2.2.2.2.2.2.2.2.2.2]), (51, .box 88 [.fn 66 [.ref 50 0, .ref 51 0]])], 100⟩
def w66u1 (σ : Sg) : (List Ex) × Int × Int × Bool × Bool × Bool × Bool × Bool × Bool × Bool × Bool × Bool × Bool × Bool × Bool × Bool × Bool × Bool × Bool × Bool × Bool × Bool × Bool × Bool × Bool × Bool × Bool × Bool × Bool := (lvT (.sl .ex) 29 0 σ, lvT (.i .i64) 30 0 σ, lvT (.i .i64) 31 0 σ, lvH .bo 50 0 σ, lvH .bo 50 1 σ, lvH .bo 50 2 σ, lvH .bo 50 3 σ, lvH .bo 50 4 σ, lvH .bo 50 5 σ, lvH .bo 50 6 σ, lvH .bo 50 7 σ, lvH .bo 50 8 σ, lvH .bo 50 9 σ, lvH .bo 50 10 σ, lvH .bo 50 11 σ, lvH .bo 50 12 σ, lvH .bo 50 13 σ, lvH .bo 50 14 σ, lvH .bo 50 15 σ, lvH .bo 50 16 σ, lvH .bo 50 17 σ, lvH .bo 50 18 σ, lvH .bo 50 19 σ, lvH .bo 50 20 σ, lvH .bo 50 21 σ, lvH .bo 50 22 σ, lvH .bo 50 23 σ, lvH .bo 50 24 σ, lvH .bo 50 25 σ)
theorem w66ui1 : ∀ x, w66u1 (w66I1 x) = x := fun _ => by kernel_rfl
def w66X1_0 (y : Bool × Bool × Bool × Bool × Bool × Bool × Bool × Bool × Bool × Bool × Bool × Bool × Bool × Bool × Bool × Bool × Bool × Bool × Bool × Bool × Bool × Bool × Bool × Bool × Bool × Bool) : Exit × Sg := ((.exit 0), ⟨[], [(50, .box 87 [.e .bo y.1, .e .bo y.2.1, .e .bo y.2.2.1, .e .bo y.2.2.2.1, .e .bo y.2.2.2.2.1, .e .bo y.2.2.2.2.2.1, .e .bo y.2.2.2.2.2.2.1, .e .bo y.2.2.2.2.2.2.2.1, .e .bo y.2.2.2.2.2.2.2.2.1, .e .bo y.2.2.2.2.2.2.2.2.2.1, .e .bo y.2.2.2.2.2.2.2.2.2.2.1, .e .bo y.2.2.2.2.2.2.2.2.2.2.2.1, .e .bo y.2.2.2.2.2.2.2.2.2.2.2.2.1, .e .bo y.2.2.2.2.2.2.2.2.2.2.2.2.2.1, .e .bo y.2.2.2.2.2.2.2.2.2.2.2.2.2.2.1, .e .bo y.2.2.2.2.2.2.2.2.2.2.2.2.2.2.2.1, .e .bo y.2.2.2.2.2.2.2.2.2.2.2.2.2.2.2.2.1, .e .bo y.2.2.2.2.2.2.2.2.2.2.2.2.2.2.2.2.2.1, .e .bo y.2.2.2.2.2.2.2.2.2.2.2.2.2.2.2.2.2.2.1, .e .bo y.2.2.2.2.2.2.2.2.2.2.2.2.2.2.2.2.2.2.2.1, .e .bo y.2.2.2.2.2.2.2.2.2.2.2.2.2.2.2.2.2.2.2.2.1, .e .bo y.2.2.2.2.2.2.2.2.2.2.2.2.2.2.2.2.2.2.2.2.2.1, .e .bo y.2.2.2.2.2.2.2.2.2.2.2.2.2.2.2.2.2.2.2.2.2.2.1, .e .bo y.2.2.2.2.2.2.2.2.2.2.2.2.2.2.2.2.2.2.2.2.2.2.2.1, .e .bo y.2.2.2.2.2.2.2.2.2.2.2.2.2.2.2.2.2.2.2.2.2.2.2.2.1, .e .bo y.2.2.2.2.2.2.2.2.2.2.2.2.2.2.2.2.2.2.2.2.2.2.2.2.2]), (51, .box 88 [.fn 66 [.ref 50 0, .ref 51 0]])], 100⟩)
def w66v1_0 (_ : Exit) (σ : Sg) : Bool × Bool × Bool × Bool × Bool × Bool × Bool × Bool × Bool × Bool × Bool × Bool × Bool × Bool × Bool × Bool × Bool × Bool × Bool × Bool × Bool × Bool × Bool × Bool × Bool × Bool := (lvH .bo 50 0 σ, lvH .bo 50 1 σ, lvH .bo 50 2 σ, lvH .bo 50 3 σ, lvH .bo 50 4 σ, lvH .bo 50 5 σ, lvH .bo 50 6 σ, lvH .bo 50 7 σ, lvH .bo 50 8 σ, lvH .bo 50 9 σ, lvH .bo 50 10 σ, lvH .bo 50 11 σ, lvH .bo 50 12 σ, lvH .bo 50 13 σ, lvH .bo 50 14 σ, lvH .bo 50 15 σ, lvH .bo 50 16 σ, lvH .bo 50 17 σ, lvH .bo 50 18 σ, lvH .bo 50 19 σ, lvH .bo 50 20 σ, lvH .bo 50 21 σ, lvH .bo 50 22 σ, lvH .bo 50 23 σ, lvH .bo 50 24 σ, lvH .bo 50 25 σ)
def w66w1 : List (Exit × Nm) := [((.exit 0), ⟨[], [], []⟩)]
theorem w66o1 : Outs w66v1_0 (fun _ _ => ()) (fun _ _ => ()) w66X1_0 (noX 1) (noX 2) (exC (.exit 0)) (exC (.goto 1)) (exC (.goto 2)) := ⟨fun _ => by kernel_rfl, fun _ => by kernel_rfl, fun _ => by kernel_rfl, fun _ => by kernel_rfl, fun _ => by kernel_rfl, fun _ => by kernel_rfl, exNe_ok (by kernel_rfl), exNe_ok (by kernel_rfl), exNe_ok (by kernel_rfl)⟩
def w66l1 [Alg] (N : w66T) : Nat → ((List Ex) × Int × Int × Bool × Bool × Bool × Bool × Bool × Bool × Bool × Bool × Bool × Bool × Bool × Bool × Bool × Bool × Bool × Bool × Bool × Bool × Bool × Bool × Bool × Bool × Bool × Bool × Bool × Bool) → ((Bool × Bool × Bool × Bool × Bool × Bool × Bool × Bool × Bool × Bool × Bool × Bool × Bool × Bool × Bool × Bool × Bool × Bool × Bool × Bool × Bool × Bool × Bool × Bool × Bool × Bool) → O) → ((Unit) → O) → ((Unit) → O) → O
 | 0, _, _, _, _ => none
 | n + 1, x, k0, k1, k2 => w66F1 N  (fun v0 v1 v2 v3 v4 v5 v6 v7 v8 v9 v10 v11 v12 v13 v14 v15 v16 v17 v18 v19 v20 v21 v22 v23 v24 v25 v26 => w66l1 N n (x.1, x.2.1, v0, v1, v2, v3, v4, v5, v6, v7, v8, v9, v10, v11, v12, v13, v14, v15, v16, v17, v18, v19, v20, v21, v22, v23, v24, v25, v26) k0 k1 k2) (fun y0 y1 y2 y3 y4 y5 y6 y7 y8 y9 y10 y11 y12 y13 y14 y15 y16 y17 y18 y19 y20 y21 y22 y23 y24 y25 => k0 (y0, y1, y2, y3, y4, y5, y6, y7, y8, y9, y10, y11, y12, y13, y14, y15, y16, y17, y18, y19, y20, y21, y22, y23, y24, y25)) x.1 x.2.1 x.2.2.1 x.2.2.2.1 x.2.2.2.2.1 x.2.2.2.2.2.1 x.2.2.2.2.2.2.1 x.2.2.2.2.2.2.2.1 x.2.2.2.2.2.2.2.2.1 x.2.2.2.2.2.2.2.2.2.1 x.2.2.2.2.2.2.2.2.2.2.1 x.2.2.2.2.2.2.2.2.2.2.2.1 x.2.2.2.2.2.2.2.2.2.2.2.2.1 x.2.2.2.2.2.2.2.2.2.2.2.2.2.1 x.2.2.2.2.2.2.2.2.2.2.2.2.2.2.1 x.2.2.2.2.2.2.2.2.2.2.2.2.2.2.2.1 x.2.2.2.2.2.2.2.2.2.2.2.2.2.2.2.2.1 x.2.2.2.2.2.2.2.2.2.2.2.2.2.2.2.2.2.1 x.2.2.2.2.2.2.2.2.2.2.2.2.2.2.2.2.2.2.1 x.2.2.2.2.2.2.2.2.2.2.2.2.2.2.2.2.2.2.2.1 x.2.2.2.2.2.2.2.2.2.2.2.2.2.2.2.2.2.2.2.2.1 x.2.2.2.2.2.2.2.2.2.2.2.2.2.2.2.2.2.2.2.2.2.1 x.2.2.2.2.2.2.2.2.2.2.2.2.2.2.2.2.2.2.2.2.2.2.1 x.2.2.2.2.2.2.2.2.2.2.2.2.2.2.2.2.2.2.2.2.2.2.2.1 x.2.2.2.2.2.2.2.2.2.2.2.2.2.2.2.2.2.2.2.2.2.2.2.2.1 x.2.2.2.2.2.2.2.2.2.2.2.2.2.2.2.2.2.2.2.2.2.2.2.2.2.1 x.2.2.2.2.2.2.2.2.2.2.2.2.2.2.2.2.2.2.2.2.2.2.2.2.2.2.1 x.2.2.2.2.2.2.2.2.2.2.2.2.2.2.2.2.2.2.2.2.2.2.2.2.2.2.2.1 x.2.2.2.2.2.2.2.2.2.2.2.2.2.2.2.2.2.2.2.2.2.2.2.2.2.2.2.2
def w66n1 [Alg] (N : w66T) (a0 : (List Ex)) (a1 a2 : Int) (a3 a4 a5 a6 a7 a8 a9 a10 a11 a12 a13 a14 a15 a16 a17 a18 a19 a20 a21 a22 a23 a24 a25 a26 a27 a28 : Bool) (k0 : Bool → Bool → Bool → Bool → Bool → Bool → Bool → Bool → Bool → Bool → Bool → Bool → Bool → Bool → Bool → Bool → Bool → Bool → Bool → Bool → Bool → Bool → Bool → Bool → Bool → Bool → O) : O := w66l1 N N.1 (a0, a1, a2, a3, a4, a5, a6, a7, a8, a9, a10, a11, a12, a13, a14, a15, a16, a17, a18, a19, a20, a21, a22, a23, a24, a25, a26, a27, a28) (fun y => k0 y.1 y.2.1 y.2.2.1 y.2.2.2.1 y.2.2.2.2.1 y.2.2.2.2.2.1 y.2.2.2.2.2.2.1 y.2.2.2.2.2.2.2.1 y.2.2.2.2.2.2.2.2.1 y.2.2.2.2.2.2.2.2.2.1 y.2.2.2.2.2.2.2.2.2.2.1 y.2.2.2.2.2.2.2.2.2.2.2.1 y.2.2.2.2.2.2.2.2.2.2.2.2.1 y.2.2.2.2.2.2.2.2.2.2.2.2.2.1 y.2.2.2.2.2.2.2.2.2.2.2.2.2.2.1 y.2.2.2.2.2.2.2.2.2.2.2.2.2.2.2.1 y.2.2.2.2.2.2.2.2.2.2.2.2.2.2.2.2.1 y.2.2.2.2.2.2.2.2.2.2.2.2.2.2.2.2.2.1 y.2.2.2.2.2.2.2.2.2.2.2.2.2.2.2.2.2.2.1 y.2.2.2.2.2.2.2.2.2.2.2.2.2.2.2.2.2.2.2.1 y.2.2.2.2.2.2.2.2.2.2.2.2.2.2.2.2.2.2.2.2.1 y.2.2.2.2.2.2.2.2.2.2.2.2.2.2.2.2.2.2.2.2.2.1 y.2.2.2.2.2.2.2.2.2.2.2.2.2.2.2.2.2.2.2.2.2.2.1 y.2.2.2.2.2.2.2.2.2.2.2.2.2.2.2.2.2.2.2.2.2.2.2.1 y.2.2.2.2.2.2.2.2.2.2.2.2.2.2.2.2.2.2.2.2.2.2.2.2.1 y.2.2.2.2.2.2.2.2.2.2.2.2.2.2.2.2.2.2.2.2.2.2.2.2.2) (fun _ => none) (fun _ => none)
noncomputable def w66s1 [Alg] (N : w66T) (a0 : (List Ex)) (a1 a2 : Int) (a3 a4 a5 a6 a7 a8 a9 a10 a11 a12 a13 a14 a15 a16 a17 a18 a19 a20 a21 a22 a23 a24 a25 a26 a27 a28 : Bool) (k0 : Bool → Bool → Bool → Bool → Bool → Bool → Bool → Bool → Bool → Bool → Bool → Bool → Bool → Bool → Bool → Bool → Bool → Bool → Bool → Bool → Bool → Bool → Bool → Bool → Bool → Bool → O) : O := subL w66I1 w66u1 (w66l1 N N.1) (w66I1 (a0, a1, a2, a3, a4, a5, a6, a7, a8, a9, a10, a11, a12, a13, a14, a15, a16, a17, a18, a19, a20, a21, a22, a23, a24, a25, a26, a27, a28)) (fun y => k0 y.1 y.2.1 y.2.2.1 y.2.2.2.1 y.2.2.2.2.1 y.2.2.2.2.2.1 y.2.2.2.2.2.2.1 y.2.2.2.2.2.2.2.1 y.2.2.2.2.2.2.2.2.1 y.2.2.2.2.2.2.2.2.2.1 y.2.2.2.2.2.2.2.2.2.2.1 y.2.2.2.2.2.2.2.2.2.2.2.1 y.2.2.2.2.2.2.2.2.2.2.2.2.1 y.2.2.2.2.2.2.2.2.2.2.2.2.2.1 y.2.2.2.2.2.2.2.2.2.2.2.2.2.2.1 y.2.2.2.2.2.2.2.2.2.2.2.2.2.2.2.1 y.2.2.2.2.2.2.2.2.2.2.2.2.2.2.2.2.1 y.2.2.2.2.2.2.2.2.2.2.2.2.2.2.2.2.2.1 y.2.2.2.2.2.2.2.2.2.2.2.2.2.2.2.2.2.2.1 y.2.2.2.2.2.2.2.2.2.2.2.2.2.2.2.2.2.2.2.1 y.2.2.2.2.2.2.2.2.2.2.2.2.2.2.2.2.2.2.2.2.1 y.2.2.2.2.2.2.2.2.2.2.2.2.2.2.2.2.2.2.2.2.2.1 y.2.2.2.2.2.2.2.2.2.2.2.2.2.2.2.2.2.2.2.2.2.2.1 y.2.2.2.2.2.2.2.2.2.2.2.2.2.2.2.2.2.2.2.2.2.2.2.1 y.2.2.2.2.2.2.2.2.2.2.2.2.2.2.2.2.2.2.2.2.2.2.2.2.1 y.2.2.2.2.2.2.2.2.2.2.2.2.2.2.2.2.2.2.2.2.2.2.2.2.2) (fun _ => none) (fun _ => none)
theorem w66e1 [Alg] (N : w66T) : w66s1 N = w66n1 N := funext fun _ => funext fun _ => funext fun _ => funext fun _ => funext fun _ => funext fun _ => funext fun _ => funext fun _ => funext fun _ => funext fun _ => funext fun _ => funext fun _ => funext fun _ => funext fun _ => funext fun _ => funext fun _ => funext fun _ => funext fun _ => funext fun _ => funext fun _ => funext fun _ => funext fun _ => funext fun _ => funext fun _ => funext fun _ => funext fun _ => funext fun _ => funext fun _ => funext fun _ => funext fun _ => subL_I w66ui1 _ _ _ _
noncomputable def w66h1 [Alg] (_ : w66T) : Hint := .d
theorem w66hk1 (N : w66T) : HintOk (w66c N) Tryd.f66.ntmps (w66h1 N) w66b1 := hk_of _ _ trivial
theorem w66q1 [Alg] (N : w66T) (self : Sg → O) (K : Exit → Sg → O) (x : (List Ex) × Int × Int × Bool × Bool × Bool × Bool × Bool × Bool × Bool × Bool × Bool × Bool × Bool × Bool × Bool × Bool × Bool × Bool × Bool × Bool × Bool × Bool × Bool × Bool × Bool × Bool × Bool × Bool) : w66F1 N  (fun v0 v1 v2 v3 v4 v5 v6 v7 v8 v9 v10 v11 v12 v13 v14 v15 v16 v17 v18 v19 v20 v21 v22 v23 v24 v25 v26 => self (w66I1 (x.1, x.2.1, v0, v1, v2, v3, v4, v5, v6, v7, v8, v9, v10, v11, v12, v13, v14, v15, v16, v17, v18, v19, v20, v21, v22, v23, v24, v25, v26))) (fun y0 y1 y2 y3 y4 y5 y6 y7 y8 y9 y10 y11 y12 y13 y14 y15 y16 y17 y18 y19 y20 y21 y22 y23 y24 y25 => K (w66X1_0 (y0, y1, y2, y3, y4, y5, y6, y7, y8, y9, y10, y11, y12, y13, y14, y15, y16, y17, y18, y19, y20, y21, y22, y23, y24, y25)).1 (w66X1_0 (y0, y1, y2, y3, y4, y5, y6, y7, y8, y9, y10, y11, y12, y13, y14, y15, y16, y17, y18, y19, y20, y21, y22, y23, y24, y25)).2) x.1 x.2.1 x.2.2.1 x.2.2.2.1 x.2.2.2.2.1 x.2.2.2.2.2.1 x.2.2.2.2.2.2.1 x.2.2.2.2.2.2.2.1 x.2.2.2.2.2.2.2.2.1 x.2.2.2.2.2.2.2.2.2.1 x.2.2.2.2.2.2.2.2.2.2.1 x.2.2.2.2.2.2.2.2.2.2.2.1 x.2.2.2.2.2.2.2.2.2.2.2.2.1 x.2.2.2.2.2.2.2.2.2.2.2.2.2.1 x.2.2.2.2.2.2.2.2.2.2.2.2.2.2.1 x.2.2.2.2.2.2.2.2.2.2.2.2.2.2.2.1 x.2.2.2.2.2.2.2.2.2.2.2.2.2.2.2.2.1 x.2.2.2.2.2.2.2.2.2.2.2.2.2.2.2.2.2.1 x.2.2.2.2.2.2.2.2.2.2.2.2.2.2.2.2.2.2.1 x.2.2.2.2.2.2.2.2.2.2.2.2.2.2.2.2.2.2.2.1 x.2.2.2.2.2.2.2.2.2.2.2.2.2.2.2.2.2.2.2.2.1 x.2.2.2.2.2.2.2.2.2.2.2.2.2.2.2.2.2.2.2.2.2.1 x.2.2.2.2.2.2.2.2.2.2.2.2.2.2.2.2.2.2.2.2.2.2.1 x.2.2.2.2.2.2.2.2.2.2.2.2.2.2.2.2.2.2.2.2.2.2.2.1 x.2.2.2.2.2.2.2.2.2.2.2.2.2.2.2.2.2.2.2.2.2.2.2.2.1 x.2.2.2.2.2.2.2.2.2.2.2.2.2.2.2.2.2.2.2.2.2.2.2.2.2.1 x.2.2.2.2.2.2.2.2.2.2.2.2.2.2.2.2.2.2.2.2.2.2.2.2.2.2.1 x.2.2.2.2.2.2.2.2.2.2.2.2.2.2.2.2.2.2.2.2.2.2.2.2.2.2.2.1 x.2.2.2.2.2.2.2.2.2.2.2.2.2.2.2.2.2.2.2.2.2.2.2.2.2.2.2.2 = exec (w66c N) Tryd.f66.ntmps (w66h1 N) w66b1 (w66I1 x) (roundX w66m1 w66w1 self K) := by kernel_rfl
theorem w66S1 (N : w66T) (hc : CxOk (w66c N)) : SubOk (w66c N) Tryd.f66.ntmps (.loop w66b1) w66X1_0 (noX 1) (noX 2) (subL w66I1 w66u1 (w66l1 N N.1)) :=
 sub_loop hc (w66hk1 N) w66o1 (n := N.1) (fun x K => loop_ind (w66l1 N) (fun _ _ _ _ => rfl) (fun n K ih x => by
  have h : w66F1 N  (fun v0 v1 v2 v3 v4 v5 v6 v7 v8 v9 v10 v11 v12 v13 v14 v15 v16 v17 v18 v19 v20 v21 v22 v23 v24 v25 v26 => w66l1 N n (x.1, x.2.1, v0, v1, v2, v3, v4, v5, v6, v7, v8, v9, v10, v11, v12, v13, v14, v15, v16, v17, v18, v19, v20, v21, v22, v23, v24, v25, v26) (fun y => K (w66X1_0 y).1 (w66X1_0 y).2) (fun y => K ((noX 1) y).1 ((noX 1) y).2) (fun y => K ((noX 2) y).1 ((noX 2) y).2)) (fun y0 y1 y2 y3 y4 y5 y6 y7 y8 y9 y10 y11 y12 y13 y14 y15 y16 y17 y18 y19 y20 y21 y22 y23 y24 y25 => K (w66X1_0 (y0, y1, y2, y3, y4, y5, y6, y7, y8, y9, y10, y11, y12, y13, y14, y15, y16, y17, y18, y19, y20, y21, y22, y23, y24, y25)).1 (w66X1_0 (y0, y1, y2, y3, y4, y5, y6, y7, y8, y9, y10, y11, y12, y13, y14, y15, y16, y17, y18, y19, y20, y21, y22, y23, y24, y25)).2) x.1 x.2.1 x.2.2.1 x.2.2.2.1 x.2.2.2.2.1 x.2.2.2.2.2.1 x.2.2.2.2.2.2.1 x.2.2.2.2.2.2.2.1 x.2.2.2.2.2.2.2.2.1 x.2.2.2.2.2.2.2.2.2.1 x.2.2.2.2.2.2.2.2.2.2.1 x.2.2.2.2.2.2.2.2.2.2.2.1 x.2.2.2.2.2.2.2.2.2.2.2.2.1 x.2.2.2.2.2.2.2.2.2.2.2.2.2.1 x.2.2.2.2.2.2.2.2.2.2.2.2.2.2.1 x.2.2.2.2.2.2.2.2.2.2.2.2.2.2.2.1 x.2.2.2.2.2.2.2.2.2.2.2.2.2.2.2.2.1 x.2.2.2.2.2.2.2.2.2.2.2.2.2.2.2.2.2.1 x.2.2.2.2.2.2.2.2.2.2.2.2.2.2.2.2.2.2.1 x.2.2.2.2.2.2.2.2.2.2.2.2.2.2.2.2.2.2.2.1 x.2.2.2.2.2.2.2.2.2.2.2.2.2.2.2.2.2.2.2.2.1 x.2.2.2.2.2.2.2.2.2.2.2.2.2.2.2.2.2.2.2.2.2.1 x.2.2.2.2.2.2.2.2.2.2.2.2.2.2.2.2.2.2.2.2.2.2.1 x.2.2.2.2.2.2.2.2.2.2.2.2.2.2.2.2.2.2.2.2.2.2.2.1 x.2.2.2.2.2.2.2.2.2.2.2.2.2.2.2.2.2.2.2.2.2.2.2.2.1 x.2.2.2.2.2.2.2.2.2.2.2.2.2.2.2.2.2.2.2.2.2.2.2.2.2.1 x.2.2.2.2.2.2.2.2.2.2.2.2.2.2.2.2.2.2.2.2.2.2.2.2.2.2.1 x.2.2.2.2.2.2.2.2.2.2.2.2.2.2.2.2.2.2.2.2.2.2.2.2.2.2.2.1 x.2.2.2.2.2.2.2.2.2.2.2.2.2.2.2.2.2.2.2.2.2.2.2.2.2.2.2.2 = w66F1 N  (fun v0 v1 v2 v3 v4 v5 v6 v7 v8 v9 v10 v11 v12 v13 v14 v15 v16 v17 v18 v19 v20 v21 v22 v23 v24 v25 v26 => loopX (w66c N) Tryd.f66.ntmps (w66h1 N) w66b1 w66m1 w66w1 n (w66I1 (x.1, x.2.1, v0, v1, v2, v3, v4, v5, v6, v7, v8, v9, v10, v11, v12, v13, v14, v15, v16, v17, v18, v19, v20, v21, v22, v23, v24, v25, v26)) K) (fun y0 y1 y2 y3 y4 y5 y6 y7 y8 y9 y10 y11 y12 y13 y14 y15 y16 y17 y18 y19 y20 y21 y22 y23 y24 y25 => K (w66X1_0 (y0, y1, y2, y3, y4, y5, y6, y7, y8, y9, y10, y11, y12, y13, y14, y15, y16, y17, y18, y19, y20, y21, y22, y23, y24, y25)).1 (w66X1_0 (y0, y1, y2, y3, y4, y5, y6, y7, y8, y9, y10, y11, y12, y13, y14, y15, y16, y17, y18, y19, y20, y21, y22, y23, y24, y25)).2) x.1 x.2.1 x.2.2.1 x.2.2.2.1 x.2.2.2.2.1 x.2.2.2.2.2.1 x.2.2.2.2.2.2.1 x.2.2.2.2.2.2.2.1 x.2.2.2.2.2.2.2.2.1 x.2.2.2.2.2.2.2.2.2.1 x.2.2.2.2.2.2.2.2.2.2.1 x.2.2.2.2.2.2.2.2.2.2.2.1 x.2.2.2.2.2.2.2.2.2.2.2.2.1 x.2.2.2.2.2.2.2.2.2.2.2.2.2.1 x.2.2.2.2.2.2.2.2.2.2.2.2.2.2.1 x.2.2.2.2.2.2.2.2.2.2.2.2.2.2.2.1 x.2.2.2.2.2.2.2.2.2.2.2.2.2.2.2.2.1 x.2.2.2.2.2.2.2.2.2.2.2.2.2.2.2.2.2.1 x.2.2.2.2.2.2.2.2.2.2.2.2.2.2.2.2.2.2.1 x.2.2.2.2.2.2.2.2.2.2.2.2.2.2.2.2.2.2.2.1 x.2.2.2.2.2.2.2.2.2.2.2.2.2.2.2.2.2.2.2.2.1 x.2.2.2.2.2.2.2.2.2.2.2.2.2.2.2.2.2.2.2.2.2.1 x.2.2.2.2.2.2.2.2.2.2.2.2.2.2.2.2.2.2.2.2.2.2.1 x.2.2.2.2.2.2.2.2.2.2.2.2.2.2.2.2.2.2.2.2.2.2.2.1 x.2.2.2.2.2.2.2.2.2.2.2.2.2.2.2.2.2.2.2.2.2.2.2.2.1 x.2.2.2.2.2.2.2.2.2.2.2.2.2.2.2.2.2.2.2.2.2.2.2.2.2.1 x.2.2.2.2.2.2.2.2.2.2.2.2.2.2.2.2.2.2.2.2.2.2.2.2.2.2.1 x.2.2.2.2.2.2.2.2.2.2.2.2.2.2.2.2.2.2.2.2.2.2.2.2.2.2.2.1 x.2.2.2.2.2.2.2.2.2.2.2.2.2.2.2.2.2.2.2.2.2.2.2.2.2.2.2.2 := by rw [ show (fun v0 v1 v2 v3 v4 v5 v6 v7 v8 v9 v10 v11 v12 v13 v14 v15 v16 v17 v18 v19 v20 v21 v22 v23 v24 v25 v26 => w66l1 N n (x.1, x.2.1, v0, v1, v2, v3, v4, v5, v6, v7, v8, v9, v10, v11, v12, v13, v14, v15, v16, v17, v18, v19, v20, v21, v22, v23, v24, v25, v26) (fun y => K (w66X1_0 y).1 (w66X1_0 y).2) (fun y => K ((noX 1) y).1 ((noX 1) y).2) (fun y => K ((noX 2) y).1 ((noX 2) y).2)) = (fun v0 v1 v2 v3 v4 v5 v6 v7 v8 v9 v10 v11 v12 v13 v14 v15 v16 v17 v18 v19 v20 v21 v22 v23 v24 v25 v26 => loopX (w66c N) Tryd.f66.ntmps (w66h1 N) w66b1 w66m1 w66w1 n (w66I1 (x.1, x.2.1, v0, v1, v2, v3, v4, v5, v6, v7, v8, v9, v10, v11, v12, v13, v14, v15, v16, v17, v18, v19, v20, v21, v22, v23, v24, v25, v26)) K) from funext fun _ => funext fun _ => funext fun _ => funext fun _ => funext fun _ => funext fun _ => funext fun _ => funext fun _ => funext fun _ => funext fun _ => funext fun _ => funext fun _ => funext fun _ => funext fun _ => funext fun _ => funext fun _ => funext fun _ => funext fun _ => funext fun _ => funext fun _ => funext fun _ => funext fun _ => funext fun _ => funext fun _ => funext fun _ => funext fun _ => funext fun _ => ih _]
  exact h.trans (w66q1 N (fun σ => loopX (w66c N) Tryd.f66.ntmps (w66h1 N) w66b1 w66m1 w66w1 n σ K) K x)) N.1 x K)
def w66G [Alg] (_ : w66T) (in0 : Bool → Bool → Bool → Bool → Bool → Bool → Bool → Bool → Bool → Bool → Bool → Bool → Bool → Bool → Bool → Bool → Bool → Bool → Bool → Bool → Bool → Bool → Bool → Bool → Bool → Bool → Int → Int → (List Ex) → (Bool → Bool → Bool → Bool → Bool → Bool → Bool → Bool → Bool → Bool → Bool → Bool → Bool → Bool → Bool → Bool → Bool → Bool → Bool → Bool → Bool → Bool → Bool → Bool → Bool → Bool → Int → Int → (List Ex) → O) → O) (in1 : (List Ex) → Int → Int → Bool → Bool → Bool → Bool → Bool → Bool → Bool → Bool → Bool → Bool → Bool → Bool → Bool → Bool → Bool → Bool → Bool → Bool → Bool → Bool → Bool → Bool → Bool → Bool → Bool → Bool → (Bool → Bool → Bool → Bool → Bool → Bool → Bool → Bool → Bool → Bool → Bool → Bool → Bool → Bool → Bool → Bool → Bool → Bool → Bool → Bool → Bool → Bool → Bool → Bool → Bool → Bool → O) → O) (A B : Int) (C : (List Ex)) (g0 g1 g2 g3 g4 g5 g6 g7 g8 g9 g10 g11 g12 g13 g14 g15 g16 g17 g18 g19 g20 g21 g22 g23 g24 g25 : Bool) : O :=
 in0 g0 g1 g2 g3 g4 g5 g6 g7 g8 g9 g10 g11 g12 g13 g14 g15 g16 g17 g18 g19 g20 g21 g22 g23 g24 g25 A B C
  (fun z1 z2 z3 z4 z5 z6 z7 z8 z9 z10 z11 z12 z13 z14 z15 z16 z17 z18 z19 z20 z21 z22 z23 z24 z25 z26 _ _ z29 =>
   in1 z29 ((↑z29.length : Int)) ((0 : Int)) z1 z2 z3 z4 z5 z6 z7 z8 z9 z10 z11 z12 z13 z14 z15 z16 z17 z18 z19 z20 z21 z22 z23 z24 z25 z26
    (fun z34 z35 z36 z37 z38 z39 z40 z41 z42 z43 z44 z45 z46 z47 z48 z49 z50 z51 z52 z53 z54 z55 z56 z57 z58 z59 =>
     some (w66r0 z34 z35 z36 z37 z38 z39 z40 z41 z42 z43 z44 z45 z46 z47 z48 z49 z50 z51 z52 z53 z54 z55 z56 z57 z58 z59)))
def w66 [Alg] (N : w66T) (A B : Int) (C : (List Ex)) (g0 g1 g2 g3 g4 g5 g6 g7 g8 g9 g10 g11 g12 g13 g14 g15 g16 g17 g18 g19 g20 g21 g22 g23 g24 g25 : Bool) : O := w66G N (w66n0 N) (w66n1 N) A B C g0 g1 g2 g3 g4 g5 g6 g7 g8 g9 g10 g11 g12 g13 g14 g15 g16 g17 g18 g19 g20 g21 g22 g23 g24 g25
noncomputable def w66h [Alg] (N : w66T) : Hint := (.seq .d (.seq (.sub w66m0 _ _ _ w66X0_0 (noX 1) (noX 2) (subL w66I0 w66u0 (w66l0 N N.1))) (.seq .d (.block (.sub w66m1 _ _ _ w66X1_0 (noX 1) (noX 2) (subL w66I1 w66u1 (w66l1 N N.1)))))))
theorem w66hk (N : w66T) (hc : CxOk (w66c N)) : HintOk (w66c N) Tryd.f66.ntmps (w66h N) w66b := hk_of _ _ (And.intro trivial (And.intro (w66S0 N hc) (And.intro trivial (w66S1 N hc))))
theorem w66q [Alg] (N : w66T) (A B : Int) (C : (List Ex)) (g0 g1 g2 g3 g4 g5 g6 g7 g8 g9 g10 g11 g12 g13 g14 g15 g16 g17 g18 g19 g20 g21 g22 g23 g24 g25 : Bool) : w66G N (w66s0 N) (w66s1 N) A B C g0 g1 g2 g3 g4 g5 g6 g7 g8 g9 g10 g11 g12 g13 g14 g15 g16 g17 g18 g19 g20 g21 g22 g23 g24 g25 = exec (w66c N) Tryd.f66.ntmps (w66h N) w66b ⟨argT 0 [.agg [.e (.i .i64) A, .e (.i .i64) B, .e (.sl .ex) C], .ref 50 0, .ref 51 0], [(50, .box 87 [.e .bo g0, .e .bo g1, .e .bo g2, .e .bo g3, .e .bo g4, .e .bo g5, .e .bo g6, .e .bo g7, .e .bo g8, .e .bo g9, .e .bo g10, .e .bo g11, .e .bo g12, .e .bo g13, .e .bo g14, .e .bo g15, .e .bo g16, .e .bo g17, .e .bo g18, .e .bo g19, .e .bo g20, .e .bo g21, .e .bo g22, .e .bo g23, .e .bo g24, .e .bo g25]), (51, .box 88 [.fn 66 [.ref 50 0, .ref 51 0]])], 100⟩ (finX (w66c N) Tryd.f66 true) := by kernel_rfl
theorem w66does {N : w66T} (hc : CxOk (w66c N)) {A B : Int} {C : (List Ex)} {g0 g1 g2 g3 g4 g5 g6 g7 g8 g9 g10 g11 g12 g13 g14 g15 g16 g17 g18 g19 g20 g21 g22 g23 g24 g25 : Bool} {r : Res} (h : w66 N A B C g0 g1 g2 g3 g4 g5 g6 g7 g8 g9 g10 g11 g12 g13 g14 g15 g16 g17 g18 g19 g20 g21 g22 g23 g24 g25 = some r) : DoesR Tryd.prog 66 (([.agg [.e (.i .i64) A, .e (.i .i64) B, .e (.sl .ex) C], .ref 50 0, .ref 51 0] : List X).map X.D) (HA [(50, .box 87 [.e .bo g0, .e .bo g1, .e .bo g2, .e .bo g3, .e .bo g4, .e .bo g5, .e .bo g6, .e .bo g7, .e .bo g8, .e .bo g9, .e .bo g10, .e .bo g11, .e .bo g12, .e .bo g13, .e .bo g14, .e .bo g15, .e .bo g16, .e .bo g17, .e .bo g18, .e .bo g19, .e .bo g20, .e .bo g21, .e .bo g22, .e .bo g23, .e .bo g24, .e .bo g25]), (51, .box 88 [.fn 66 [.ref 50 0, .ref 51 0]])]) r :=
 fun_ok hc (f := 66) (fn := Tryd.f66) (code := w66b) (by kernel_rfl) (by kernel_rfl) (w66hk N hc) (Nat.le_of_ble_eq_true (by kernel_rfl)) (ow := true) ((w66q N A B C g0 g1 g2 g3 g4 g5 g6 g7 g8 g9 g10 g11 g12 g13 g14 g15 g16 g17 g18 g19 g20 g21 g22 g23 g24 g25).symm.trans (by rw [w66e0 N, w66e1 N]; exact h))
def w66un (r : Res) : Option (Bool × Bool × Bool × Bool × Bool × Bool × Bool × Bool × Bool × Bool × Bool × Bool × Bool × Bool × Bool × Bool × Bool × Bool × Bool × Bool × Bool × Bool × Bool × Bool × Bool × Bool) := match r with
 | (.tup [], [(50, .box 87 [x0, x1, x2, x3, x4, x5, x6, x7, x8, x9, x10, x11, x12, x13, x14, x15, x16, x17, x18, x19, x20, x21, x22, x23, x24, x25]), (51, .box 88 [.fn 66 [.ref 50 0, .ref 51 0]])]) => (match ue .bo x0, ue .bo x1, ue .bo x2, ue .bo x3, ue .bo x4, ue .bo x5, ue .bo x6, ue .bo x7, ue .bo x8, ue .bo x9, ue .bo x10, ue .bo x11, ue .bo x12, ue .bo x13, ue .bo x14, ue .bo x15, ue .bo x16, ue .bo x17, ue .bo x18, ue .bo x19, ue .bo x20, ue .bo x21, ue .bo x22, ue .bo x23, ue .bo x24, ue .bo x25 with | some a0, some a1, some a2, some a3, some a4, some a5, some a6, some a7, some a8, some a9, some a10, some a11, some a12, some a13, some a14, some a15, some a16, some a17, some a18, some a19, some a20, some a21, some a22, some a23, some a24, some a25 => some (a0, a1, a2, a3, a4, a5, a6, a7, a8, a9, a10, a11, a12, a13, a14, a15, a16, a17, a18, a19, a20, a21, a22, a23, a24, a25) | _, _, _, _, _, _, _, _, _, _, _, _, _, _, _, _, _, _, _, _, _, _, _, _, _, _ => none)
 | _ => none
theorem w66uo {r : Res} {d : Bool × Bool × Bool × Bool × Bool × Bool × Bool × Bool × Bool × Bool × Bool × Bool × Bool × Bool × Bool × Bool × Bool × Bool × Bool × Bool × Bool × Bool × Bool × Bool × Bool × Bool} (h : w66un r = some d) : r = w66r0 (d.1) (d.2.1) (d.2.2.1) (d.2.2.2.1) (d.2.2.2.2.1) (d.2.2.2.2.2.1) (d.2.2.2.2.2.2.1) (d.2.2.2.2.2.2.2.1) (d.2.2.2.2.2.2.2.2.1) (d.2.2.2.2.2.2.2.2.2.1) (d.2.2.2.2.2.2.2.2.2.2.1) (d.2.2.2.2.2.2.2.2.2.2.2.1) (d.2.2.2.2.2.2.2.2.2.2.2.2.1) (d.2.2.2.2.2.2.2.2.2.2.2.2.2.1) (d.2.2.2.2.2.2.2.2.2.2.2.2.2.2.1) (d.2.2.2.2.2.2.2.2.2.2.2.2.2.2.2.1) (d.2.2.2.2.2.2.2.2.2.2.2.2.2.2.2.2.1) (d.2.2.2.2.2.2.2.2.2.2.2.2.2.2.2.2.2.1) (d.2.2.2.2.2.2.2.2.2.2.2.2.2.2.2.2.2.2.1) (d.2.2.2.2.2.2.2.2.2.2.2.2.2.2.2.2.2.2.2.1) (d.2.2.2.2.2.2.2.2.2.2.2.2.2.2.2.2.2.2.2.2.1) (d.2.2.2.2.2.2.2.2.2.2.2.2.2.2.2.2.2.2.2.2.2.1) (d.2.2.2.2.2.2.2.2.2.2.2.2.2.2.2.2.2.2.2.2.2.2.1) (d.2.2.2.2.2.2.2.2.2.2.2.2.2.2.2.2.2.2.2.2.2.2.2.1) (d.2.2.2.2.2.2.2.2.2.2.2.2.2.2.2.2.2.2.2.2.2.2.2.2.1) (d.2.2.2.2.2.2.2.2.2.2.2.2.2.2.2.2.2.2.2.2.2.2.2.2.2) := by
 unfold w66un at h
 split at h
 ·split at h
  ·rename_i h0 h1 h2 h3 h4 h5 h6 h7 h8 h9 h10 h11 h12 h13 h14 h15 h16 h17 h18 h19 h20 h21 h22 h23 h24 h25; cases h; rw [ue_some h0, ue_some h1, ue_some h2, ue_some h3, ue_some h4, ue_some h5, ue_some h6, ue_some h7, ue_some h8, ue_some h9, ue_some h10, ue_some h11, ue_some h12, ue_some h13, ue_some h14, ue_some h15, ue_some h16, ue_some h17, ue_some h18, ue_some h19, ue_some h20, ue_some h21, ue_some h22, ue_some h23, ue_some h24, ue_some h25]; rfl
  ·cases h
 ·cases h
def w66z (N : w66T) (A B : Int) (C : (List Ex)) (g0 g1 g2 g3 g4 g5 g6 g7 g8 g9 g10 g11 g12 g13 g14 g15 g16 g17 g18 g19 g20 g21 g22 g23 g24 g25 : Bool) : Option (Bool × Bool × Bool × Bool × Bool × Bool × Bool × Bool × Bool × Bool × Bool × Bool × Bool × Bool × Bool × Bool × Bool × Bool × Bool × Bool × Bool × Bool × Bool × Bool × Bool × Bool) := (w66 N A B C g0 g1 g2 g3 g4 g5 g6 g7 g8 g9 g10 g11 g12 g13 g14 g15 g16 g17 g18 g19 g20 g21 g22 g23 g24 g25).bind w66un
theorem w66fin {N : w66T} (hc : CxOk (w66c N)) {A B : Int} {C : (List Ex)} {g0 g1 g2 g3 g4 g5 g6 g7 g8 g9 g10 g11 g12 g13 g14 g15 g16 g17 g18 g19 g20 g21 g22 g23 g24 g25 : Bool} {d : Bool × Bool × Bool × Bool × Bool × Bool × Bool × Bool × Bool × Bool × Bool × Bool × Bool × Bool × Bool × Bool × Bool × Bool × Bool × Bool × Bool × Bool × Bool × Bool × Bool × Bool} (hd : w66z N A B C g0 g1 g2 g3 g4 g5 g6 g7 g8 g9 g10 g11 g12 g13 g14 g15 g16 g17 g18 g19 g20 g21 g22 g23 g24 g25 = some d) : Does Tryd.prog 66 (([.agg [.e (.i .i64) A, .e (.i .i64) B, .e (.sl .ex) C], .ref 50 0, .ref 51 0] : List X).map X.D) (HA [(50, .box 87 [.e .bo g0, .e .bo g1, .e .bo g2, .e .bo g3, .e .bo g4, .e .bo g5, .e .bo g6, .e .bo g7, .e .bo g8, .e .bo g9, .e .bo g10, .e .bo g11, .e .bo g12, .e .bo g13, .e .bo g14, .e .bo g15, .e .bo g16, .e .bo g17, .e .bo g18, .e .bo g19, .e .bo g20, .e .bo g21, .e .bo g22, .e .bo g23, .e .bo g24, .e .bo g25]), (51, .box 88 [.fn 66 [.ref 50 0, .ref 51 0]])]) (w66r0 (d.1) (d.2.1) (d.2.2.1) (d.2.2.2.1) (d.2.2.2.2.1) (d.2.2.2.2.2.1) (d.2.2.2.2.2.2.1) (d.2.2.2.2.2.2.2.1) (d.2.2.2.2.2.2.2.2.1) (d.2.2.2.2.2.2.2.2.2.1) (d.2.2.2.2.2.2.2.2.2.2.1) (d.2.2.2.2.2.2.2.2.2.2.2.1) (d.2.2.2.2.2.2.2.2.2.2.2.2.1) (d.2.2.2.2.2.2.2.2.2.2.2.2.2.1) (d.2.2.2.2.2.2.2.2.2.2.2.2.2.2.1) (d.2.2.2.2.2.2.2.2.2.2.2.2.2.2.2.1) (d.2.2.2.2.2.2.2.2.2.2.2.2.2.2.2.2.1) (d.2.2.2.2.2.2.2.2.2.2.2.2.2.2.2.2.2.1) (d.2.2.2.2.2.2.2.2.2.2.2.2.2.2.2.2.2.2.1) (d.2.2.2.2.2.2.2.2.2.2.2.2.2.2.2.2.2.2.2.1) (d.2.2.2.2.2.2.2.2.2.2.2.2.2.2.2.2.2.2.2.2.1) (d.2.2.2.2.2.2.2.2.2.2.2.2.2.2.2.2.2.2.2.2.2.1) (d.2.2.2.2.2.2.2.2.2.2.2.2.2.2.2.2.2.2.2.2.2.2.1) (d.2.2.2.2.2.2.2.2.2.2.2.2.2.2.2.2.2.2.2.2.2.2.2.1) (d.2.2.2.2.2.2.2.2.2.2.2.2.2.2.2.2.2.2.2.2.2.2.2.2.1) (d.2.2.2.2.2.2.2.2.2.2.2.2.2.2.2.2.2.2.2.2.2.2.2.2.2)).1.D (HA (w66r0 (d.1) (d.2.1) (d.2.2.1) (d.2.2.2.1) (d.2.2.2.2.1) (d.2.2.2.2.2.1) (d.2.2.2.2.2.2.1) (d.2.2.2.2.2.2.2.1) (d.2.2.2.2.2.2.2.2.1) (d.2.2.2.2.2.2.2.2.2.1) (d.2.2.2.2.2.2.2.2.2.2.1) (d.2.2.2.2.2.2.2.2.2.2.2.1) (d.2.2.2.2.2.2.2.2.2.2.2.2.1) (d.2.2.2.2.2.2.2.2.2.2.2.2.2.1) (d.2.2.2.2.2.2.2.2.2.2.2.2.2.2.1) (d.2.2.2.2.2.2.2.2.2.2.2.2.2.2.2.1) (d.2.2.2.2.2.2.2.2.2.2.2.2.2.2.2.2.1) (d.2.2.2.2.2.2.2.2.2.2.2.2.2.2.2.2.2.1) (d.2.2.2.2.2.2.2.2.2.2.2.2.2.2.2.2.2.2.1) (d.2.2.2.2.2.2.2.2.2.2.2.2.2.2.2.2.2.2.2.1) (d.2.2.2.2.2.2.2.2.2.2.2.2.2.2.2.2.2.2.2.2.1) (d.2.2.2.2.2.2.2.2.2.2.2.2.2.2.2.2.2.2.2.2.2.1) (d.2.2.2.2.2.2.2.2.2.2.2.2.2.2.2.2.2.2.2.2.2.2.1) (d.2.2.2.2.2.2.2.2.2.2.2.2.2.2.2.2.2.2.2.2.2.2.2.1) (d.2.2.2.2.2.2.2.2.2.2.2.2.2.2.2.2.2.2.2.2.2.2.2.2.1) (d.2.2.2.2.2.2.2.2.2.2.2.2.2.2.2.2.2.2.2.2.2.2.2.2.2)).2) := by
 obtain ⟨r, hr, hu⟩ := Option.bind_eq_some_iff.1 hd
 have := w66does hc hr
 rw [w66uo hu] at this
 exact this
def w66gY (N : Nat) : Nat → (Int → Int → (List Ex) → Bool → Bool → Bool → Bool → Bool → Bool → Bool → Bool → Bool → Bool → Bool → Bool → Bool → Bool → Bool → Bool → Bool → Bool → Bool → Bool → Bool → Bool → Bool → Bool → Bool → Bool → Option (Bool × Bool × Bool × Bool × Bool × Bool × Bool × Bool × Bool × Bool × Bool × Bool × Bool × Bool × Bool × Bool × Bool × Bool × Bool × Bool × Bool × Bool × Bool × Bool × Bool × Bool))
 | 0 => fun _ _ _ _ _ _ _ _ _ _ _ _ _ _ _ _ _ _ _ _ _ _ _ _ _ _ _ _ _ => none
 | n + 1 => fun A B C g0 g1 g2 g3 g4 g5 g6 g7 g8 g9 g10 g11 g12 g13 g14 g15 g16 g17 g18 g19 g20 g21 g22 g23 g24 g25 => w66z (N, w66gY N n) A B C g0 g1 g2 g3 g4 g5 g6 g7 g8 g9 g10 g11 g12 g13 g14 g15 g16 g17 g18 g19 g20 g21 g22 g23 g24 g25
theorem w66gYok (N : Nat) : ∀ n, EOk Tryd.prog 66 (w66E (N, w66gY N n))
 | 0 => entR_ok w66io (fun _ h => by cases h)
 | n + 1 =>
   have ih := w66gYok N n
   entR_ok w66io (fun d h => norStep (zz := w66z (N, w66gY N n) (d.1) (d.2.1) (d.2.2.1) (d.2.2.2.1) (d.2.2.2.2.1) (d.2.2.2.2.2.1) (d.2.2.2.2.2.2.1) (d.2.2.2.2.2.2.2.1) (d.2.2.2.2.2.2.2.2.1) (d.2.2.2.2.2.2.2.2.2.1) (d.2.2.2.2.2.2.2.2.2.2.1) (d.2.2.2.2.2.2.2.2.2.2.2.1) (d.2.2.2.2.2.2.2.2.2.2.2.2.1) (d.2.2.2.2.2.2.2.2.2.2.2.2.2.1) (d.2.2.2.2.2.2.2.2.2.2.2.2.2.2.1) (d.2.2.2.2.2.2.2.2.2.2.2.2.2.2.2.1) (d.2.2.2.2.2.2.2.2.2.2.2.2.2.2.2.2.1) (d.2.2.2.2.2.2.2.2.2.2.2.2.2.2.2.2.2.1) (d.2.2.2.2.2.2.2.2.2.2.2.2.2.2.2.2.2.2.1) (d.2.2.2.2.2.2.2.2.2.2.2.2.2.2.2.2.2.2.2.1) (d.2.2.2.2.2.2.2.2.2.2.2.2.2.2.2.2.2.2.2.2.1) (d.2.2.2.2.2.2.2.2.2.2.2.2.2.2.2.2.2.2.2.2.2.1) (d.2.2.2.2.2.2.2.2.2.2.2.2.2.2.2.2.2.2.2.2.2.2.1) (d.2.2.2.2.2.2.2.2.2.2.2.2.2.2.2.2.2.2.2.2.2.2.2.1) (d.2.2.2.2.2.2.2.2.2.2.2.2.2.2.2.2.2.2.2.2.2.2.2.2.1) (d.2.2.2.2.2.2.2.2.2.2.2.2.2.2.2.2.2.2.2.2.2.2.2.2.2.1) (d.2.2.2.2.2.2.2.2.2.2.2.2.2.2.2.2.2.2.2.2.2.2.2.2.2.2.1) (d.2.2.2.2.2.2.2.2.2.2.2.2.2.2.2.2.2.2.2.2.2.2.2.2.2.2.2.1) (d.2.2.2.2.2.2.2.2.2.2.2.2.2.2.2.2.2.2.2.2.2.2.2.2.2.2.2.2)) (R := fun y => w66r0 (y.1) (y.2.1) (y.2.2.1) (y.2.2.2.1) (y.2.2.2.2.1) (y.2.2.2.2.2.1) (y.2.2.2.2.2.2.1) (y.2.2.2.2.2.2.2.1) (y.2.2.2.2.2.2.2.2.1) (y.2.2.2.2.2.2.2.2.2.1) (y.2.2.2.2.2.2.2.2.2.2.1) (y.2.2.2.2.2.2.2.2.2.2.2.1) (y.2.2.2.2.2.2.2.2.2.2.2.2.1) (y.2.2.2.2.2.2.2.2.2.2.2.2.2.1) (y.2.2.2.2.2.2.2.2.2.2.2.2.2.2.1) (y.2.2.2.2.2.2.2.2.2.2.2.2.2.2.2.1) (y.2.2.2.2.2.2.2.2.2.2.2.2.2.2.2.2.1) (y.2.2.2.2.2.2.2.2.2.2.2.2.2.2.2.2.2.1) (y.2.2.2.2.2.2.2.2.2.2.2.2.2.2.2.2.2.2.1) (y.2.2.2.2.2.2.2.2.2.2.2.2.2.2.2.2.2.2.2.1) (y.2.2.2.2.2.2.2.2.2.2.2.2.2.2.2.2.2.2.2.2.1) (y.2.2.2.2.2.2.2.2.2.2.2.2.2.2.2.2.2.2.2.2.2.1) (y.2.2.2.2.2.2.2.2.2.2.2.2.2.2.2.2.2.2.2.2.2.2.1) (y.2.2.2.2.2.2.2.2.2.2.2.2.2.2.2.2.2.2.2.2.2.2.2.1) (y.2.2.2.2.2.2.2.2.2.2.2.2.2.2.2.2.2.2.2.2.2.2.2.2.1) (y.2.2.2.2.2.2.2.2.2.2.2.2.2.2.2.2.2.2.2.2.2.2.2.2.2)) (d0 := w66D) (fun _ hy => w66fin (w66cx (N, w66gY N n) ih) hy) h)
def w66p (N : Nat) (A B : Int) (C : (List Ex)) (g0 g1 g2 g3 g4 g5 g6 g7 g8 g9 g10 g11 g12 g13 g14 g15 g16 g17 g18 g19 g20 g21 g22 g23 g24 g25 : Bool) : Bool := ((w66gY N N) A B C g0 g1 g2 g3 g4 g5 g6 g7 g8 g9 g10 g11 g12 g13 g14 g15 g16 g17 g18 g19 g20 g21 g22 g23 g24 g25).isSome
def w66y0 (N : Nat) (A B : Int) (C : (List Ex)) (g0 g1 g2 g3 g4 g5 g6 g7 g8 g9 g10 g11 g12 g13 g14 g15 g16 g17 g18 g19 g20 g21 g22 g23 g24 g25 : Bool) : Bool := (((w66gY N N) A B C g0 g1 g2 g3 g4 g5 g6 g7 g8 g9 g10 g11 g12 g13 g14 g15 g16 g17 g18 g19 g20 g21 g22 g23 g24 g25).getD w66D).1
def w66y1 (N : Nat) (A B : Int) (C : (List Ex)) (g0 g1 g2 g3 g4 g5 g6 g7 g8 g9 g10 g11 g12 g13 g14 g15 g16 g17 g18 g19 g20 g21 g22 g23 g24 g25 : Bool) : Bool := (((w66gY N N) A B C g0 g1 g2 g3 g4 g5 g6 g7 g8 g9 g10 g11 g12 g13 g14 g15 g16 g17 g18 g19 g20 g21 g22 g23 g24 g25).getD w66D).2.1
def w66y2 (N : Nat) (A B : Int) (C : (List Ex)) (g0 g1 g2 g3 g4 g5 g6 g7 g8 g9 g10 g11 g12 g13 g14 g15 g16 g17 g18 g19 g20 g21 g22 g23 g24 g25 : Bool) : Bool := (((w66gY N N) A B C g0 g1 g2 g3 g4 g5 g6 g7 g8 g9 g10 g11 g12 g13 g14 g15 g16 g17 g18 g19 g20 g21 g22 g23 g24 g25).getD w66D).2.2.1
def w66y3 (N : Nat) (A B : Int) (C : (List Ex)) (g0 g1 g2 g3 g4 g5 g6 g7 g8 g9 g10 g11 g12 g13 g14 g15 g16 g17 g18 g19 g20 g21 g22 g23 g24 g25 : Bool) : Bool := (((w66gY N N) A B C g0 g1 g2 g3 g4 g5 g6 g7 g8 g9 g10 g11 g12 g13 g14 g15 g16 g17 g18 g19 g20 g21 g22 g23 g24 g25).getD w66D).2.2.2.1
def w66y4 (N : Nat) (A B : Int) (C : (List Ex)) (g0 g1 g2 g3 g4 g5 g6 g7 g8 g9 g10 g11 g12 g13 g14 g15 g16 g17 g18 g19 g20 g21 g22 g23 g24 g25 : Bool) : Bool := (((w66gY N N) A B C g0 g1 g2 g3 g4 g5 g6 g7 g8 g9 g10 g11 g12 g13 g14 g15 g16 g17 g18 g19 g20 g21 g22 g23 g24 g25).getD w66D).2.2.2.2.1
def w66y5 (N : Nat) (A B : Int) (C : (List Ex)) (g0 g1 g2 g3 g4 g5 g6 g7 g8 g9 g10 g11 g12 g13 g14 g15 g16 g17 g18 g19 g20 g21 g22 g23 g24 g25 : Bool) : Bool := (((w66gY N N) A B C g0 g1 g2 g3 g4 g5 g6 g7 g8 g9 g10 g11 g12 g13 g14 g15 g16 g17 g18 g19 g20 g21 g22 g23 g24 g25).getD w66D).2.2.2.2.2.1
def w66y6 (N : Nat) (A B : Int) (C : (List Ex)) (g0 g1 g2 g3 g4 g5 g6 g7 g8 g9 g10 g11 g12 g13 g14 g15 g16 g17 g18 g19 g20 g21 g22 g23 g24 g25 : Bool) : Bool := (((w66gY N N) A B C g0 g1 g2 g3 g4 g5 g6 g7 g8 g9 g10 g11 g12 g13 g14 g15 g16 g17 g18 g19 g20 g21 g22 g23 g24 g25).getD w66D).2.2.2.2.2.2.1
def w66y7 (N : Nat) (A B : Int) (C : (List Ex)) (g0 g1 g2 g3 g4 g5 g6 g7 g8 g9 g10 g11 g12 g13 g14 g15 g16 g17 g18 g19 g20 g21 g22 g23 g24 g25 : Bool) : Bool := (((w66gY N N) A B C g0 g1 g2 g3 g4 g5 g6 g7 g8 g9 g10 g11 g12 g13 g14 g15 g16 g17 g18 g19 g20 g21 g22 g23 g24 g25).getD w66D).2.2.2.2.2.2.2.1
def w66y8 (N : Nat) (A B : Int) (C : (List Ex)) (g0 g1 g2 g3 g4 g5 g6 g7 g8 g9 g10 g11 g12 g13 g14 g15 g16 g17 g18 g19 g20 g21 g22 g23 g24 g25 : Bool) : Bool := (((w66gY N N) A B C g0 g1 g2 g3 g4 g5 g6 g7 g8 g9 g10 g11 g12 g13 g14 g15 g16 g17 g18 g19 g20 g21 g22 g23 g24 g25).getD w66D).2.2.2.2.2.2.2.2.1
def w66y9 (N : Nat) (A B : Int) (C : (List Ex)) (g0 g1 g2 g3 g4 g5 g6 g7 g8 g9 g10 g11 g12 g13 g14 g15 g16 g17 g18 g19 g20 g21 g22 g23 g24 g25 : Bool) : Bool := (((w66gY N N) A B C g0 g1 g2 g3 g4 g5 g6 g7 g8 g9 g10 g11 g12 g13 g14 g15 g16 g17 g18 g19 g20 g21 g22 g23 g24 g25).getD w66D).2.2.2.2.2.2.2.2.2.1
def w66y10 (N : Nat) (A B : Int) (C : (List Ex)) (g0 g1 g2 g3 g4 g5 g6 g7 g8 g9 g10 g11 g12 g13 g14 g15 g16 g17 g18 g19 g20 g21 g22 g23 g24 g25 : Bool) : Bool := (((w66gY N N) A B C g0 g1 g2 g3 g4 g5 g6 g7 g8 g9 g10 g11 g12 g13 g14 g15 g16 g17 g18 g19 g20 g21 g22 g23 g24 g25).getD w66D).2.2.2.2.2.2.2.2.2.2.1
def w66y11 (N : Nat) (A B : Int) (C : (List Ex)) (g0 g1 g2 g3 g4 g5 g6 g7 g8 g9 g10 g11 g12 g13 g14 g15 g16 g17 g18 g19 g20 g21 g22 g23 g24 g25 : Bool) : Bool := (((w66gY N N) A B C g0 g1 g2 g3 g4 g5 g6 g7 g8 g9 g10 g11 g12 g13 g14 g15 g16 g17 g18 g19 g20 g21 g22 g23 g24 g25).getD w66D).2.2.2.2.2.2.2.2.2.2.2.1
def w66y12 (N : Nat) (A B : Int) (C : (List Ex)) (g0 g1 g2 g3 g4 g5 g6 g7 g8 g9 g10 g11 g12 g13 g14 g15 g16 g17 g18 g19 g20 g21 g22 g23 g24 g25 : Bool) : Bool := (((w66gY N N) A B C g0 g1 g2 g3 g4 g5 g6 g7 g8 g9 g10 g11 g12 g13 g14 g15 g16 g17 g18 g19 g20 g21 g22 g23 g24 g25).getD w66D).2.2.2.2.2.2.2.2.2.2.2.2.1
def w66y13 (N : Nat) (A B : Int) (C : (List Ex)) (g0 g1 g2 g3 g4 g5 g6 g7 g8 g9 g10 g11 g12 g13 g14 g15 g16 g17 g18 g19 g20 g21 g22 g23 g24 g25 : Bool) : Bool := (((w66gY N N) A B C g0 g1 g2 g3 g4 g5 g6 g7 g8 g9 g10 g11 g12 g13 g14 g15 g16 g17 g18 g19 g20 g21 g22 g23 g24 g25).getD w66D).2.2.2.2.2.2.2.2.2.2.2.2.2.1
def w66y14 (N : Nat) (A B : Int) (C : (List Ex)) (g0 g1 g2 g3 g4 g5 g6 g7 g8 g9 g10 g11 g12 g13 g14 g15 g16 g17 g18 g19 g20 g21 g22 g23 g24 g25 : Bool) : Bool := (((w66gY N N) A B C g0 g1 g2 g3 g4 g5 g6 g7 g8 g9 g10 g11 g12 g13 g14 g15 g16 g17 g18 g19 g20 g21 g22 g23 g24 g25).getD w66D).2.2.2.2.2.2.2.2.2.2.2.2.2.2.1
def w66y15 (N : Nat) (A B : Int) (C : (List Ex)) (g0 g1 g2 g3 g4 g5 g6 g7 g8 g9 g10 g11 g12 g13 g14 g15 g16 g17 g18 g19 g20 g21 g22 g23 g24 g25 : Bool) : Bool := (((w66gY N N) A B C g0 g1 g2 g3 g4 g5 g6 g7 g8 g9 g10 g11 g12 g13 g14 g15 g16 g17 g18 g19 g20 g21 g22 g23 g24 g25).getD w66D).2.2.2.2.2.2.2.2.2.2.2.2.2.2.2.1
def w66y16 (N : Nat) (A B : Int) (C : (List Ex)) (g0 g1 g2 g3 g4 g5 g6 g7 g8 g9 g10 g11 g12 g13 g14 g15 g16 g17 g18 g19 g20 g21 g22 g23 g24 g25 : Bool) : Bool := (((w66gY N N) A B C g0 g1 g2 g3 g4 g5 g6 g7 g8 g9 g10 g11 g12 g13 g14 g15 g16 g17 g18 g19 g20 g21 g22 g23 g24 g25).getD w66D).2.2.2.2.2.2.2.2.2.2.2.2.2.2.2.2.1
def w66y17 (N : Nat) (A B : Int) (C : (List Ex)) (g0 g1 g2 g3 g4 g5 g6 g7 g8 g9 g10 g11 g12 g13 g14 g15 g16 g17 g18 g19 g20 g21 g22 g23 g24 g25 : Bool) : Bool := (((w66gY N N) A B C g0 g1 g2 g3 g4 g5 g6 g7 g8 g9 g10 g11 g12 g13 g14 g15 g16 g17 g18 g19 g20 g21 g22 g23 g24 g25).getD w66D).2.2.2.2.2.2.2.2.2.2.2.2.2.2.2.2.2.1
def w66y18 (N : Nat) (A B : Int) (C : (List Ex)) (g0 g1 g2 g3 g4 g5 g6 g7 g8 g9 g10 g11 g12 g13 g14 g15 g16 g17 g18 g19 g20 g21 g22 g23 g24 g25 : Bool) : Bool := (((w66gY N N) A B C g0 g1 g2 g3 g4 g5 g6 g7 g8 g9 g10 g11 g12 g13 g14 g15 g16 g17 g18 g19 g20 g21 g22 g23 g24 g25).getD w66D).2.2.2.2.2.2.2.2.2.2.2.2.2.2.2.2.2.2.1
def w66y19 (N : Nat) (A B : Int) (C : (List Ex)) (g0 g1 g2 g3 g4 g5 g6 g7 g8 g9 g10 g11 g12 g13 g14 g15 g16 g17 g18 g19 g20 g21 g22 g23 g24 g25 : Bool) : Bool := (((w66gY N N) A B C g0 g1 g2 g3 g4 g5 g6 g7 g8 g9 g10 g11 g12 g13 g14 g15 g16 g17 g18 g19 g20 g21 g22 g23 g24 g25).getD w66D).2.2.2.2.2.2.2.2.2.2.2.2.2.2.2.2.2.2.2.1
def w66y20 (N : Nat) (A B : Int) (C : (List Ex)) (g0 g1 g2 g3 g4 g5 g6 g7 g8 g9 g10 g11 g12 g13 g14 g15 g16 g17 g18 g19 g20 g21 g22 g23 g24 g25 : Bool) : Bool := (((w66gY N N) A B C g0 g1 g2 g3 g4 g5 g6 g7 g8 g9 g10 g11 g12 g13 g14 g15 g16 g17 g18 g19 g20 g21 g22 g23 g24 g25).getD w66D).2.2.2.2.2.2.2.2.2.2.2.2.2.2.2.2.2.2.2.2.1
def w66y21 (N : Nat) (A B : Int) (C : (List Ex)) (g0 g1 g2 g3 g4 g5 g6 g7 g8 g9 g10 g11 g12 g13 g14 g15 g16 g17 g18 g19 g20 g21 g22 g23 g24 g25 : Bool) : Bool := (((w66gY N N) A B C g0 g1 g2 g3 g4 g5 g6 g7 g8 g9 g10 g11 g12 g13 g14 g15 g16 g17 g18 g19 g20 g21 g22 g23 g24 g25).getD w66D).2.2.2.2.2.2.2.2.2.2.2.2.2.2.2.2.2.2.2.2.2.1
def w66y22 (N : Nat) (A B : Int) (C : (List Ex)) (g0 g1 g2 g3 g4 g5 g6 g7 g8 g9 g10 g11 g12 g13 g14 g15 g16 g17 g18 g19 g20 g21 g22 g23 g24 g25 : Bool) : Bool := (((w66gY N N) A B C g0 g1 g2 g3 g4 g5 g6 g7 g8 g9 g10 g11 g12 g13 g14 g15 g16 g17 g18 g19 g20 g21 g22 g23 g24 g25).getD w66D).2.2.2.2.2.2.2.2.2.2.2.2.2.2.2.2.2.2.2.2.2.2.1
def w66y23 (N : Nat) (A B : Int) (C : (List Ex)) (g0 g1 g2 g3 g4 g5 g6 g7 g8 g9 g10 g11 g12 g13 g14 g15 g16 g17 g18 g19 g20 g21 g22 g23 g24 g25 : Bool) : Bool := (((w66gY N N) A B C g0 g1 g2 g3 g4 g5 g6 g7 g8 g9 g10 g11 g12 g13 g14 g15 g16 g17 g18 g19 g20 g21 g22 g23 g24 g25).getD w66D).2.2.2.2.2.2.2.2.2.2.2.2.2.2.2.2.2.2.2.2.2.2.2.1
def w66y24 (N : Nat) (A B : Int) (C : (List Ex)) (g0 g1 g2 g3 g4 g5 g6 g7 g8 g9 g10 g11 g12 g13 g14 g15 g16 g17 g18 g19 g20 g21 g22 g23 g24 g25 : Bool) : Bool := (((w66gY N N) A B C g0 g1 g2 g3 g4 g5 g6 g7 g8 g9 g10 g11 g12 g13 g14 g15 g16 g17 g18 g19 g20 g21 g22 g23 g24 g25).getD w66D).2.2.2.2.2.2.2.2.2.2.2.2.2.2.2.2.2.2.2.2.2.2.2.2.1
def w66y25 (N : Nat) (A B : Int) (C : (List Ex)) (g0 g1 g2 g3 g4 g5 g6 g7 g8 g9 g10 g11 g12 g13 g14 g15 g16 g17 g18 g19 g20 g21 g22 g23 g24 g25 : Bool) : Bool := (((w66gY N N) A B C g0 g1 g2 g3 g4 g5 g6 g7 g8 g9 g10 g11 g12 g13 g14 g15 g16 g17 g18 g19 g20 g21 g22 g23 g24 g25).getD w66D).2.2.2.2.2.2.2.2.2.2.2.2.2.2.2.2.2.2.2.2.2.2.2.2.2
abbrev w66K (f : Nat → Int → Int → (List Ex) → Bool → Bool → Bool → Bool → Bool → Bool → Bool → Bool → Bool → Bool → Bool → Bool → Bool → Bool → Bool → Bool → Bool → Bool → Bool → Bool → Bool → Bool → Bool → Bool → Bool → Bool → Bool) (N : Nat) (d : w66J) : Bool := f N (d.1) (d.2.1) (d.2.2.1) (d.2.2.2.1) (d.2.2.2.2.1) (d.2.2.2.2.2.1) (d.2.2.2.2.2.2.1) (d.2.2.2.2.2.2.2.1) (d.2.2.2.2.2.2.2.2.1) (d.2.2.2.2.2.2.2.2.2.1) (d.2.2.2.2.2.2.2.2.2.2.1) (d.2.2.2.2.2.2.2.2.2.2.2.1) (d.2.2.2.2.2.2.2.2.2.2.2.2.1) (d.2.2.2.2.2.2.2.2.2.2.2.2.2.1) (d.2.2.2.2.2.2.2.2.2.2.2.2.2.2.1) (d.2.2.2.2.2.2.2.2.2.2.2.2.2.2.2.1) (d.2.2.2.2.2.2.2.2.2.2.2.2.2.2.2.2.1) (d.2.2.2.2.2.2.2.2.2.2.2.2.2.2.2.2.2.1) (d.2.2.2.2.2.2.2.2.2.2.2.2.2.2.2.2.2.2.1) (d.2.2.2.2.2.2.2.2.2.2.2.2.2.2.2.2.2.2.2.1) (d.2.2.2.2.2.2.2.2.2.2.2.2.2.2.2.2.2.2.2.2.1) (d.2.2.2.2.2.2.2.2.2.2.2.2.2.2.2.2.2.2.2.2.2.1) (d.2.2.2.2.2.2.2.2.2.2.2.2.2.2.2.2.2.2.2.2.2.2.1) (d.2.2.2.2.2.2.2.2.2.2.2.2.2.2.2.2.2.2.2.2.2.2.2.1) (d.2.2.2.2.2.2.2.2.2.2.2.2.2.2.2.2.2.2.2.2.2.2.2.2.1) (d.2.2.2.2.2.2.2.2.2.2.2.2.2.2.2.2.2.2.2.2.2.2.2.2.2.1) (d.2.2.2.2.2.2.2.2.2.2.2.2.2.2.2.2.2.2.2.2.2.2.2.2.2.2.1) (d.2.2.2.2.2.2.2.2.2.2.2.2.2.2.2.2.2.2.2.2.2.2.2.2.2.2.2.1) (d.2.2.2.2.2.2.2.2.2.2.2.2.2.2.2.2.2.2.2.2.2.2.2.2.2.2.2.2)
def w66e (N : Nat) : Ent' := entR w66in (fun d => w66K w66p N d) (fun d => w66r0 (w66K w66y0 N d) (w66K w66y1 N d) (w66K w66y2 N d) (w66K w66y3 N d) (w66K w66y4 N d) (w66K w66y5 N d) (w66K w66y6 N d) (w66K w66y7 N d) (w66K w66y8 N d) (w66K w66y9 N d) (w66K w66y10 N d) (w66K w66y11 N d) (w66K w66y12 N d) (w66K w66y13 N d) (w66K w66y14 N d) (w66K w66y15 N d) (w66K w66y16 N d) (w66K w66y17 N d) (w66K w66y18 N d) (w66K w66y19 N d) (w66K w66y20 N d) (w66K w66y21 N d) (w66K w66y22 N d) (w66K w66y23 N d) (w66K w66y24 N d) (w66K w66y25 N d))
theorem w66ok (N : Nat) : EOk Tryd.prog 66 (w66e N) := w66gYok N N
def w30r0 (a0 : (List Int)) : Res := (.e (.sl (.i .i64)) a0, [])
noncomputable def w30L (N : Nat) : List (Nat × Ent') := [(66, w66e N)]
noncomputable def w30c (N : Nat) : Cx := ⟨Tryd.prog, 25, w30L N, []⟩
noncomputable def w30b : Code := Tryd.f30.body.getD .skip
theorem w30cx (N : Nat) : CxOk (w30c N) := ctx_ok (by kernel_rfl) (.cons (by kernel_rfl) (w66ok N) .nil) .nil
def w30F0 [Alg] (_ : Nat)  (self : Int → (List Int) → O) (k0 : (List Int) → O) (x0_0 x0_1 x0_2 x0_3 x0_4 x0_5 x0_6 x0_7 x0_8 x0_9 x0_10 x0_11 x0_12 x0_13 x0_14 x0_15 x0_16 x0_17 x0_18 x0_19 x0_20 x0_21 x0_22 x0_23 x0_24 x0_25 : Bool) (x0_26 : Int) (x0_27 : (List Int)) : O :=
 br (decide (x0_26 < (26 : Int)))
  (gx [x0_0, x0_1, x0_2, x0_3, x0_4, x0_5, x0_6, x0_7, x0_8, x0_9, x0_10, x0_11, x0_12, x0_13, x0_14, x0_15, x0_16, x0_17, x0_18, x0_19, x0_20, x0_21, x0_22, x0_23, x0_24, x0_25] x0_26 fun y4 =>
  br y4
   (ck (lim (x0_27 ++ [x0_26]).length (8 : Nat)) <|
   self (IntKind.i64.wrap (x0_26 + (1 : Int))) (x0_27 ++ [x0_26]))
   (self (IntKind.i64.wrap (x0_26 + (1 : Int))) x0_27))
  (k0 x0_27)
noncomputable def w30b0 : Code := atC [1, 1, 1, 1, 1, 1, 0, 1, 0, 0] w30b
def w30m0 : Nm := ⟨[5, 12, 13], [], [.nilR 5 (.row 3 (.i .i64) [] true)]⟩
def w30I0 (x : Bool × Bool × Bool × Bool × Bool × Bool × Bool × Bool × Bool × Bool × Bool × Bool × Bool × Bool × Bool × Bool × Bool × Bool × Bool × Bool × Bool × Bool × Bool × Bool × Bool × Bool × Int × (List Int)) : Sg := ⟨[(5, .own 0), (12, .agg [.e .bo x.1, .e .bo x.2.1, .e .bo x.2.2.1, .e .bo x.2.2.2.1, .e .bo x.2.2.2.2.1, .e .bo x.2.2.2.2.2.1, .e .bo x.2.2.2.2.2.2.1, .e .bo x.2.2.2.2.2.2.2.1, .e .bo x.2.2.2.2.2.2.2.2.1, .e .bo x.2.2.2.2.2.2.2.2.2.1, .e .bo x.2.2.2.2.2.2.2.2.2.2.1, .e .bo x.2.2.2.2.2.2.2.2.2.2.2.1, .e .bo x.2.2.2.2.2.2.2.2.2.2.2.2.1, .e .bo x.2.2.2.2.2.2.2.2.2.2.2.2.2.1, .e .bo x.2.2.2.2.2.2.2.2.2.2.2.2.2.2.1, .e .bo x.2.2.2.2.2.2.2.2.2.2.2.2.2.2.2.1, .e .bo x.2.2.2.2.2.2.2.2.2.2.2.2.2.2.2.2.1, .e .bo x.2.2.2.2.2.2.2.2.2.2.2.2.2.2.2.2.2.1, .e .bo x.2.2.2.2.2.2.2.2.2.2.2.2.2.2.2.2.2.2.1, .e .bo x.2.2.2.2.2.2.2.2.2.2.2.2.2.2.2.2.2.2.2.1, .e .bo x.2.2.2.2.2.2.2.2.2.2.2.2.2.2.2.2.2.2.2.2.1, .e .bo x.2.2.2.2.2.2.2.2.2.2.2.2.2.2.2.2.2.2.2.2.2.1, .e .bo x.2.2.2.2.2.2.2.2.2.2.2.2.2.2.2.2.2.2.2.2.2.2.1, .e .bo x.2.2.2.2.2.2.2.2.2.2.2.2.2.2.2.2.2.2.2.2.2.2.2.1, .e .bo x.2.2.2.2.2.2.2.2.2.2.2.2.2.2.2.2.2.2.2.2.2.2.2.2.1, .e .bo x.2.2.2.2.2.2.2.2.2.2.2.2.2.2.2.2.2.2.2.2.2.2.2.2.2.1]), (13, .e (.i .i64) x.2.2.2.2.2.2.2.2.2.2.2.2.2.2.2.2.2.2.2.2.2.2.2.2.2.2.1)], [(0, .row 3 (.i .i64) x.2.2.2.2.2.2.2.2.2.2.2.2.2.2.2.2.2.2.2.2.2.2.2.2.2.2.2 true)], 100⟩
def w30u0 (σ : Sg) : Bool × Bool × Bool × Bool × Bool × Bool × Bool × Bool × Bool × Bool × Bool × Bool × Bool × Bool × Bool × Bool × Bool × Bool × Bool × Bool × Bool × Bool × Bool × Bool × Bool × Bool × Int × (List Int) := (lvT .bo 12 0 σ, lvT .bo 12 1 σ, lvT .bo 12 2 σ, lvT .bo 12 3 σ, lvT .bo 12 4 σ, lvT .bo 12 5 σ, lvT .bo 12 6 σ, lvT .bo 12 7 σ, lvT .bo 12 8 σ, lvT .bo 12 9 σ, lvT .bo 12 10 σ, lvT .bo 12 11 σ, lvT .bo 12 12 σ, lvT .bo 12 13 σ, lvT .bo 12 14 σ, lvT .bo 12 15 σ, lvT .bo 12 16 σ, lvT .bo 12 17 σ, lvT .bo 12 18 σ, lvT .bo 12 19 σ, lvT .bo 12 20 σ, lvT .bo 12 21 σ, lvT .bo 12 22 σ, lvT .bo 12 23 σ, lvT .bo 12 24 σ, lvT .bo 12 25 σ, lvT (.i .i64) 13 0 σ, lvR (.i .i64) 0 σ)
theorem w30ui0 : ∀ x, w30u0 (w30I0 x) = x := fun _ => by kernel_rfl
def w30X0_0 (y : (List Int)) : Exit × Sg := ((.exit 0), ⟨[(5, .own 0)], [(0, .row 3 (.i .i64) y true)], 100⟩)
def w30v0_0 (_ : Exit) (σ : Sg) : (List Int) := lvR (.i .i64) 0 σ
def w30w0 : List (Exit × Nm) := [((.exit 0), ⟨[5], [], []⟩)]
theorem w30o0 : Outs w30v0_0 (fun _ _ => ()) (fun _ _ => ()) w30X0_0 (noX 1) (noX 2) (exC (.exit 0)) (exC (.goto 1)) (exC (.goto 2)) := ⟨fun _ => by kernel_rfl, fun _ => by kernel_rfl, fun _ => by kernel_rfl, fun _ => by kernel_rfl, fun _ => by kernel_rfl, fun _ => by kernel_rfl, exNe_ok (by kernel_rfl), exNe_ok (by kernel_rfl), exNe_ok (by kernel_rfl)⟩
def w30l0 [Alg] (N : Nat) : Nat → (Bool × Bool × Bool × Bool × Bool × Bool × Bool × Bool × Bool × Bool × Bool × Bool × Bool × Bool × Bool × Bool × Bool × Bool × Bool × Bool × Bool × Bool × Bool × Bool × Bool × Bool × Int × (List Int)) → (((List Int)) → O) → ((Unit) → O) → ((Unit) → O) → O
 | 0, _, _, _, _ => none
 | n + 1, x, k0, k1, k2 => w30F0 N  (fun v0 v1 => w30l0 N n (x.1, x.2.1, x.2.2.1, x.2.2.2.1, x.2.2.2.2.1, x.2.2.2.2.2.1, x.2.2.2.2.2.2.1, x.2.2.2.2.2.2.2.1, x.2.2.2.2.2.2.2.2.1, x.2.2.2.2.2.2.2.2.2.1, x.2.2.2.2.2.2.2.2.2.2.1, x.2.2.2.2.2.2.2.2.2.2.2.1, x.2.2.2.2.2.2.2.2.2.2.2.2.1, x.2.2.2.2.2.2.2.2.2.2.2.2.2.1, x.2.2.2.2.2.2.2.2.2.2.2.2.2.2.1, x.2.2.2.2.2.2.2.2.2.2.2.2.2.2.2.1, x.2.2.2.2.2.2.2.2.2.2.2.2.2.2.2.2.1, x.2.2.2.2.2.2.2.2.2.2.2.2.2.2.2.2.2.1, x.2.2.2.2.2.2.2.2.2.2.2.2.2.2.2.2.2.2.1, x.2.2.2.2.2.2.2.2.2.2.2.2.2.2.2.2.2.2.2.1, x.2.2.2.2.2.2.2.2.2.2.2.2.2.2.2.2.2.2.2.2.1, x.2.2.2.2.2.2.2.2.2.2.2.2.2.2.2.2.2.2.2.2.2.1, x.2.2.2.2.2.2.2.2.2.2.2.2.2.2.2.2.2.2.2.2.2.2.1, x.2.2.2.2.2.2.2.2.2.2.2.2.2.2.2.2.2.2.2.2.2.2.2.1, x.2.2.2.2.2.2.2.2.2.2.2.2.2.2.2.2.2.2.2.2.2.2.2.2.1, x.2.2.2.2.2.2.2.2.2.2.2.2.2.2.2.2.2.2.2.2.2.2.2.2.2.1, v0, v1) k0 k1 k2) (fun y0 => k0 y0) x.1 x.2.1 x.2.2.1 x.2.2.2.1 x.2.2.2.2.1 x.2.2.2.2.2.1 x.2.2.2.2.2.2.1 x.2.2.2.2.2.2.2.1 x.2.2.2.2.2.2.2.2.1 x.2.2.2.2.2.2.2.2.2.1 x.2.2.2.2.2.2.2.2.2.2.1 x.2.2.2.2.2.2.2.2.2.2.2.1 x.2.2.2.2.2.2.2.2.2.2.2.2.1 x.2.2.2.2.2.2.2.2.2.2.2.2.2.1 x.2.2.2.2.2.2.2.2.2.2.2.2.2.2.1 x.2.2.2.2.2.2.2.2.2.2.2.2.2.2.2.1 x.2.2.2.2.2.2.2.2.2.2.2.2.2.2.2.2.1 x.2.2.2.2.2.2.2.2.2.2.2.2.2.2.2.2.2.1 x.2.2.2.2.2.2.2.2.2.2.2.2.2.2.2.2.2.2.1 x.2.2.2.2.2.2.2.2.2.2.2.2.2.2.2.2.2.2.2.1 x.2.2.2.2.2.2.2.2.2.2.2.2.2.2.2.2.2.2.2.2.1 x.2.2.2.2.2.2.2.2.2.2.2.2.2.2.2.2.2.2.2.2.2.1 x.2.2.2.2.2.2.2.2.2.2.2.2.2.2.2.2.2.2.2.2.2.2.1 x.2.2.2.2.2.2.2.2.2.2.2.2.2.2.2.2.2.2.2.2.2.2.2.1 x.2.2.2.2.2.2.2.2.2.2.2.2.2.2.2.2.2.2.2.2.2.2.2.2.1 x.2.2.2.2.2.2.2.2.2.2.2.2.2.2.2.2.2.2.2.2.2.2.2.2.2.1 x.2.2.2.2.2.2.2.2.2.2.2.2.2.2.2.2.2.2.2.2.2.2.2.2.2.2.1 x.2.2.2.2.2.2.2.2.2.2.2.2.2.2.2.2.2.2.2.2.2.2.2.2.2.2.2
def w30n0 [Alg] (N : Nat) (a0 a1 a2 a3 a4 a5 a6 a7 a8 a9 a10 a11 a12 a13 a14 a15 a16 a17 a18 a19 a20 a21 a22 a23 a24 a25 : Bool) (a26 : Int) (a27 : (List Int)) (k0 : (List Int) → O) : O := w30l0 N N (a0, a1, a2, a3, a4, a5, a6, a7, a8, a9, a10, a11, a12, a13, a14, a15, a16, a17, a18, a19, a20, a21, a22, a23, a24, a25, a26, a27) (fun y => k0 y) (fun _ => none) (fun _ => none)
noncomputable def w30s0 [Alg] (N : Nat) (a0 a1 a2 a3 a4 a5 a6 a7 a8 a9 a10 a11 a12 a13 a14 a15 a16 a17 a18 a19 a20 a21 a22 a23 a24 a25 : Bool) (a26 : Int) (a27 : (List Int)) (k0 : (List Int) → O) : O := subL w30I0 w30u0 (w30l0 N N) (w30I0 (a0, a1, a2, a3, a4, a5, a6, a7, a8, a9, a10, a11, a12, a13, a14, a15, a16, a17, a18, a19, a20, a21, a22, a23, a24, a25, a26, a27)) (fun y => k0 y) (fun _ => none) (fun _ => none)
theorem w30e0 [Alg] (N : Nat) : w30s0 N = w30n0 N := funext fun _ => funext fun _ => funext fun _ => funext fun _ => funext fun _ => funext fun _ => funext fun _ => funext fun _ => funext fun _ => funext fun _ => funext fun _ => funext fun _ => funext fun _ => funext fun _ => funext fun _ => funext fun _ => funext fun _ => funext fun _ => funext fun _ => funext fun _ => funext fun _ => funext fun _ => funext fun _ => funext fun _ => funext fun _ => funext fun _ => funext fun _ => funext fun _ => funext fun _ => subL_I w30ui0 _ _ _ _
noncomputable def w30h0 [Alg] (_ : Nat) : Hint := .d
theorem w30hk0 (N : Nat) : HintOk (w30c N) Tryd.f30.ntmps (w30h0 N) w30b0 := hk_of _ _ trivial
theorem w30q0 [Alg] (N : Nat) (self : Sg → O) (K : Exit → Sg → O) (x : Bool × Bool × Bool × Bool × Bool × Bool × Bool × Bool × Bool × Bool × Bool × Bool × Bool × Bool × Bool × Bool × Bool × Bool × Bool × Bool × Bool × Bool × Bool × Bool × Bool × Bool × Int × (List Int)) : w30F0 N  (fun v0 v1 => self (w30I0 (x.1, x.2.1, x.2.2.1, x.2.2.2.1, x.2.2.2.2.1, x.2.2.2.2.2.1, x.2.2.2.2.2.2.1, x.2.2.2.2.2.2.2.1, x.2.2.2.2.2.2.2.2.1, x.2.2.2.2.2.2.2.2.2.1, x.2.2.2.2.2.2.2.2.2.2.1, x.2.2.2.2.2.2.2.2.2.2.2.1, x.2.2.2.2.2.2.2.2.2.2.2.2.1, x.2.2.2.2.2.2.2.2.2.2.2.2.2.1, x.2.2.2.2.2.2.2.2.2.2.2.2.2.2.1, x.2.2.2.2.2.2.2.2.2.2.2.2.2.2.2.1, x.2.2.2.2.2.2.2.2.2.2.2.2.2.2.2.2.1, x.2.2.2.2.2.2.2.2.2.2.2.2.2.2.2.2.2.1, x.2.2.2.2.2.2.2.2.2.2.2.2.2.2.2.2.2.2.1, x.2.2.2.2.2.2.2.2.2.2.2.2.2.2.2.2.2.2.2.1, x.2.2.2.2.2.2.2.2.2.2.2.2.2.2.2.2.2.2.2.2.1, x.2.2.2.2.2.2.2.2.2.2.2.2.2.2.2.2.2.2.2.2.2.1, x.2.2.2.2.2.2.2.2.2.2.2.2.2.2.2.2.2.2.2.2.2.2.1, x.2.2.2.2.2.2.2.2.2.2.2.2.2.2.2.2.2.2.2.2.2.2.2.1, x.2.2.2.2.2.2.2.2.2.2.2.2.2.2.2.2.2.2.2.2.2.2.2.2.1, x.2.2.2.2.2.2.2.2.2.2.2.2.2.2.2.2.2.2.2.2.2.2.2.2.2.1, v0, v1))) (fun y0 => K (w30X0_0 y0).1 (w30X0_0 y0).2) x.1 x.2.1 x.2.2.1 x.2.2.2.1 x.2.2.2.2.1 x.2.2.2.2.2.1 x.2.2.2.2.2.2.1 x.2.2.2.2.2.2.2.1 x.2.2.2.2.2.2.2.2.1 x.2.2.2.2.2.2.2.2.2.1 x.2.2.2.2.2.2.2.2.2.2.1 x.2.2.2.2.2.2.2.2.2.2.2.1 x.2.2.2.2.2.2.2.2.2.2.2.2.1 x.2.2.2.2.2.2.2.2.2.2.2.2.2.1 x.2.2.2.2.2.2.2.2.2.2.2.2.2.2.1 x.2.2.2.2.2.2.2.2.2.2.2.2.2.2.2.1 x.2.2.2.2.2.2.2.2.2.2.2.2.2.2.2.2.1 x.2.2.2.2.2.2.2.2.2.2.2.2.2.2.2.2.2.1 x.2.2.2.2.2.2.2.2.2.2.2.2.2.2.2.2.2.2.1 x.2.2.2.2.2.2.2.2.2.2.2.2.2.2.2.2.2.2.2.1 x.2.2.2.2.2.2.2.2.2.2.2.2.2.2.2.2.2.2.2.2.1 x.2.2.2.2.2.2.2.2.2.2.2.2.2.2.2.2.2.2.2.2.2.1 x.2.2.2.2.2.2.2.2.2.2.2.2.2.2.2.2.2.2.2.2.2.2.1 x.2.2.2.2.2.2.2.2.2.2.2.2.2.2.2.2.2.2.2.2.2.2.2.1 x.2.2.2.2.2.2.2.2.2.2.2.2.2.2.2.2.2.2.2.2.2.2.2.2.1 x.2.2.2.2.2.2.2.2.2.2.2.2.2.2.2.2.2.2.2.2.2.2.2.2.2.1 x.2.2.2.2.2.2.2.2.2.2.2.2.2.2.2.2.2.2.2.2.2.2.2.2.2.2.1 x.2.2.2.2.2.2.2.2.2.2.2.2.2.2.2.2.2.2.2.2.2.2.2.2.2.2.2 = exec (w30c N) Tryd.f30.ntmps (w30h0 N) w30b0 (w30I0 x) (roundX w30m0 w30w0 self K) := by kernel_rfl
theorem w30S0 (N : Nat) (hc : CxOk (w30c N)) : SubOk (w30c N) Tryd.f30.ntmps (.loop w30b0) w30X0_0 (noX 1) (noX 2) (subL w30I0 w30u0 (w30l0 N N)) :=
 sub_loop hc (w30hk0 N) w30o0 (n := N) (fun x K => loop_ind (w30l0 N) (fun _ _ _ _ => rfl) (fun n K ih x => by
  have h : w30F0 N  (fun v0 v1 => w30l0 N n (x.1, x.2.1, x.2.2.1, x.2.2.2.1, x.2.2.2.2.1, x.2.2.2.2.2.1, x.2.2.2.2.2.2.1, x.2.2.2.2.2.2.2.1, x.2.2.2.2.2.2.2.2.1, x.2.2.2.2.2.2.2.2.2.1, x.2.2.2.2.2.2.2.2.2.2.1, x.2.2.2.2.2.2.2.2.2.2.2.1, x.2.2.2.2.2.2.2.2.2.2.2.2.1, x.2.2.2.2.2.2.2.2.2.2.2.2.2.1, x.2.2.2.2.2.2.2.2.2.2.2.2.2.2.1, x.2.2.2.2.2.2.2.2.2.2.2.2.2.2.2.1, x.2.2.2.2.2.2.2.2.2.2.2.2.2.2.2.2.1, x.2.2.2.2.2.2.2.2.2.2.2.2.2.2.2.2.2.1, x.2.2.2.2.2.2.2.2.2.2.2.2.2.2.2.2.2.2.1, x.2.2.2.2.2.2.2.2.2.2.2.2.2.2.2.2.2.2.2.1, x.2.2.2.2.2.2.2.2.2.2.2.2.2.2.2.2.2.2.2.2.1, x.2.2.2.2.2.2.2.2.2.2.2.2.2.2.2.2.2.2.2.2.2.1, x.2.2.2.2.2.2.2.2.2.2.2.2.2.2.2.2.2.2.2.2.2.2.1, x.2.2.2.2.2.2.2.2.2.2.2.2.2.2.2.2.2.2.2.2.2.2.2.1, x.2.2.2.2.2.2.2.2.2.2.2.2.2.2.2.2.2.2.2.2.2.2.2.2.1, x.2.2.2.2.2.2.2.2.2.2.2.2.2.2.2.2.2.2.2.2.2.2.2.2.2.1, v0, v1) (fun y => K (w30X0_0 y).1 (w30X0_0 y).2) (fun y => K ((noX 1) y).1 ((noX 1) y).2) (fun y => K ((noX 2) y).1 ((noX 2) y).2)) (fun y0 => K (w30X0_0 y0).1 (w30X0_0 y0).2) x.1 x.2.1 x.2.2.1 x.2.2.2.1 x.2.2.2.2.1 x.2.2.2.2.2.1 x.2.2.2.2.2.2.1 x.2.2.2.2.2.2.2.1 x.2.2.2.2.2.2.2.2.1 x.2.2.2.2.2.2.2.2.2.1 x.2.2.2.2.2.2.2.2.2.2.1 x.2.2.2.2.2.2.2.2.2.2.2.1 x.2.2.2.2.2.2.2.2.2.2.2.2.1 x.2.2.2.2.2.2.2.2.2.2.2.2.2.1 x.2.2.2.2.2.2.2.2.2.2.2.2.2.2.1 x.2.2.2.2.2.2.2.2.2.2.2.2.2.2.2.1 x.2.2.2.2.2.2.2.2.2.2.2.2.2.2.2.2.1 x.2.2.2.2.2.2.2.2.2.2.2.2.2.2.2.2.2.1 x.2.2.2.2.2.2.2.2.2.2.2.2.2.2.2.2.2.2.1 x.2.2.2.2.2.2.2.2.2.2.2.2.2.2.2.2.2.2.2.1 x.2.2.2.2.2.2.2.2.2.2.2.2.2.2.2.2.2.2.2.2.1 x.2.2.2.2.2.2.2.2.2.2.2.2.2.2.2.2.2.2.2.2.2.1 x.2.2.2.2.2.2.2.2.2.2.2.2.2.2.2.2.2.2.2.2.2.2.1 x.2.2.2.2.2.2.2.2.2.2.2.2.2.2.2.2.2.2.2.2.2.2.2.1 x.2.2.2.2.2.2.2.2.2.2.2.2.2.2.2.2.2.2.2.2.2.2.2.2.1 x.2.2.2.2.2.2.2.2.2.2.2.2.2.2.2.2.2.2.2.2.2.2.2.2.2.1 x.2.2.2.2.2.2.2.2.2.2.2.2.2.2.2.2.2.2.2.2.2.2.2.2.2.2.1 x.2.2.2.2.2.2.2.2.2.2.2.2.2.2.2.2.2.2.2.2.2.2.2.2.2.2.2 = w30F0 N  (fun v0 v1 => loopX (w30c N) Tryd.f30.ntmps (w30h0 N) w30b0 w30m0 w30w0 n (w30I0 (x.1, x.2.1, x.2.2.1, x.2.2.2.1, x.2.2.2.2.1, x.2.2.2.2.2.1, x.2.2.2.2.2.2.1, x.2.2.2.2.2.2.2.1, x.2.2.2.2.2.2.2.2.1, x.2.2.2.2.2.2.2.2.2.1, x.2.2.2.2.2.2.2.2.2.2.1, x.2.2.2.2.2.2.2.2.2.2.2.1, x.2.2.2.2.2.2.2.2.2.2.2.2.1, x.2.2.2.2.2.2.2.2.2.2.2.2.2.1, x.2.2.2.2.2.2.2.2.2.2.2.2.2.2.1, x.2.2.2.2.2.2.2.2.2.2.2.2.2.2.2.1, x.2.2.2.2.2.2.2.2.2.2.2.2.2.2.2.2.1, x.2.2.2.2.2.2.2.2.2.2.2.2.2.2.2.2.2.1, x.2.2.2.2.2.2.2.2.2.2.2.2.2.2.2.2.2.2.1, x.2.2.2.2.2.2.2.2.2.2.2.2.2.2.2.2.2.2.2.1, x.2.2.2.2.2.2.2.2.2.2.2.2.2.2.2.2.2.2.2.2.1, x.2.2.2.2.2.2.2.2.2.2.2.2.2.2.2.2.2.2.2.2.2.1, x.2.2.2.2.2.2.2.2.2.2.2.2.2.2.2.2.2.2.2.2.2.2.1, x.2.2.2.2.2.2.2.2.2.2.2.2.2.2.2.2.2.2.2.2.2.2.2.1, x.2.2.2.2.2.2.2.2.2.2.2.2.2.2.2.2.2.2.2.2.2.2.2.2.1, x.2.2.2.2.2.2.2.2.2.2.2.2.2.2.2.2.2.2.2.2.2.2.2.2.2.1, v0, v1)) K) (fun y0 => K (w30X0_0 y0).1 (w30X0_0 y0).2) x.1 x.2.1 x.2.2.1 x.2.2.2.1 x.2.2.2.2.1 x.2.2.2.2.2.1 x.2.2.2.2.2.2.1 x.2.2.2.2.2.2.2.1 x.2.2.2.2.2.2.2.2.1 x.2.2.2.2.2.2.2.2.2.1 x.2.2.2.2.2.2.2.2.2.2.1 x.2.2.2.2.2.2.2.2.2.2.2.1 x.2.2.2.2.2.2.2.2.2.2.2.2.1 x.2.2.2.2.2.2.2.2.2.2.2.2.2.1 x.2.2.2.2.2.2.2.2.2.2.2.2.2.2.1 x.2.2.2.2.2.2.2.2.2.2.2.2.2.2.2.1 x.2.2.2.2.2.2.2.2.2.2.2.2.2.2.2.2.1 x.2.2.2.2.2.2.2.2.2.2.2.2.2.2.2.2.2.1 x.2.2.2.2.2.2.2.2.2.2.2.2.2.2.2.2.2.2.1 x.2.2.2.2.2.2.2.2.2.2.2.2.2.2.2.2.2.2.2.1 x.2.2.2.2.2.2.2.2.2.2.2.2.2.2.2.2.2.2.2.2.1 x.2.2.2.2.2.2.2.2.2.2.2.2.2.2.2.2.2.2.2.2.2.1 x.2.2.2.2.2.2.2.2.2.2.2.2.2.2.2.2.2.2.2.2.2.2.1 x.2.2.2.2.2.2.2.2.2.2.2.2.2.2.2.2.2.2.2.2.2.2.2.1 x.2.2.2.2.2.2.2.2.2.2.2.2.2.2.2.2.2.2.2.2.2.2.2.2.1 x.2.2.2.2.2.2.2.2.2.2.2.2.2.2.2.2.2.2.2.2.2.2.2.2.2.1 x.2.2.2.2.2.2.2.2.2.2.2.2.2.2.2.2.2.2.2.2.2.2.2.2.2.2.1 x.2.2.2.2.2.2.2.2.2.2.2.2.2.2.2.2.2.2.2.2.2.2.2.2.2.2.2 := by rw [ show (fun v0 v1 => w30l0 N n (x.1, x.2.1, x.2.2.1, x.2.2.2.1, x.2.2.2.2.1, x.2.2.2.2.2.1, x.2.2.2.2.2.2.1, x.2.2.2.2.2.2.2.1, x.2.2.2.2.2.2.2.2.1, x.2.2.2.2.2.2.2.2.2.1, x.2.2.2.2.2.2.2.2.2.2.1, x.2.2.2.2.2.2.2.2.2.2.2.1, x.2.2.2.2.2.2.2.2.2.2.2.2.1, x.2.2.2.2.2.2.2.2.2.2.2.2.2.1, x.2.2.2.2.2.2.2.2.2.2.2.2.2.2.1, x.2.2.2.2.2.2.2.2.2.2.2.2.2.2.2.1, x.2.2.2.2.2.2.2.2.2.2.2.2.2.2.2.2.1, x.2.2.2.2.2.2.2.2.2.2.2.2.2.2.2.2.2.1, x.2.2.2.2.2.2.2.2.2.2.2.2.2.2.2.2.2.2.1, x.2.2.2.2.2.2.2.2.2.2.2.2.2.2.2.2.2.2.2.1, x.2.2.2.2.2.2.2.2.2.2.2.2.2.2.2.2.2.2.2.2.1, x.2.2.2.2.2.2.2.2.2.2.2.2.2.2.2.2.2.2.2.2.2.1, x.2.2.2.2.2.2.2.2.2.2.2.2.2.2.2.2.2.2.2.2.2.2.1, x.2.2.2.2.2.2.2.2.2.2.2.2.2.2.2.2.2.2.2.2.2.2.2.1, x.2.2.2.2.2.2.2.2.2.2.2.2.2.2.2.2.2.2.2.2.2.2.2.2.1, x.2.2.2.2.2.2.2.2.2.2.2.2.2.2.2.2.2.2.2.2.2.2.2.2.2.1, v0, v1) (fun y => K (w30X0_0 y).1 (w30X0_0 y).2) (fun y => K ((noX 1) y).1 ((noX 1) y).2) (fun y => K ((noX 2) y).1 ((noX 2) y).2)) = (fun v0 v1 => loopX (w30c N) Tryd.f30.ntmps (w30h0 N) w30b0 w30m0 w30w0 n (w30I0 (x.1, x.2.1, x.2.2.1, x.2.2.2.1, x.2.2.2.2.1, x.2.2.2.2.2.1, x.2.2.2.2.2.2.1, x.2.2.2.2.2.2.2.1, x.2.2.2.2.2.2.2.2.1, x.2.2.2.2.2.2.2.2.2.1, x.2.2.2.2.2.2.2.2.2.2.1, x.2.2.2.2.2.2.2.2.2.2.2.1, x.2.2.2.2.2.2.2.2.2.2.2.2.1, x.2.2.2.2.2.2.2.2.2.2.2.2.2.1, x.2.2.2.2.2.2.2.2.2.2.2.2.2.2.1, x.2.2.2.2.2.2.2.2.2.2.2.2.2.2.2.1, x.2.2.2.2.2.2.2.2.2.2.2.2.2.2.2.2.1, x.2.2.2.2.2.2.2.2.2.2.2.2.2.2.2.2.2.1, x.2.2.2.2.2.2.2.2.2.2.2.2.2.2.2.2.2.2.1, x.2.2.2.2.2.2.2.2.2.2.2.2.2.2.2.2.2.2.2.1, x.2.2.2.2.2.2.2.2.2.2.2.2.2.2.2.2.2.2.2.2.1, x.2.2.2.2.2.2.2.2.2.2.2.2.2.2.2.2.2.2.2.2.2.1, x.2.2.2.2.2.2.2.2.2.2.2.2.2.2.2.2.2.2.2.2.2.2.1, x.2.2.2.2.2.2.2.2.2.2.2.2.2.2.2.2.2.2.2.2.2.2.2.1, x.2.2.2.2.2.2.2.2.2.2.2.2.2.2.2.2.2.2.2.2.2.2.2.2.1, x.2.2.2.2.2.2.2.2.2.2.2.2.2.2.2.2.2.2.2.2.2.2.2.2.2.1, v0, v1)) K) from funext fun _ => funext fun _ => ih _]
  exact h.trans (w30q0 N (fun σ => loopX (w30c N) Tryd.f30.ntmps (w30h0 N) w30b0 w30m0 w30w0 n σ K) K x)) N x K)
def w30G [Alg] (N : Nat) (in0 : Bool → Bool → Bool → Bool → Bool → Bool → Bool → Bool → Bool → Bool → Bool → Bool → Bool → Bool → Bool → Bool → Bool → Bool → Bool → Bool → Bool → Bool → Bool → Bool → Bool → Bool → Int → (List Int) → ((List Int) → O) → O) (A B : Int) (C : (List Ex)) : O :=
 ck (w66p N A B C false false false false false false false false false false false false false false false false false false false false false false false false false false) <|
 in0 (w66y0 N A B C false false false false false false false false false false false false false false false false false false false false false false false false false false) (w66y1 N A B C false false false false false false false false false false false false false false false false false false false false false false false false false false) (w66y2 N A B C false false false false false false false false false false false false false false false false false false false false false false false false false false) (w66y3 N A B C false false false false false false false false false false false false false false false false false false false false false false false false false false) (w66y4 N A B C false false false false false false false false false false false false false false false false false false false false false false false false false false) (w66y5 N A B C false false false false false false false false false false false false false false false false false false false false false false false false false false) (w66y6 N A B C false false false false false false false false false false false false false false false false false false false false false false false false false false) (w66y7 N A B C false false false false false false false false false false false false false false false false false false false false false false false false false false) (w66y8 N A B C false false false false false false false false false false false false false false false false false false false false false false false false false false) (w66y9 N A B C false false false false false false false false false false false false false false false false false false false false false false false false false false) (w66y10 N A B C false false false false false false false false false false false false false false false false false false false false false false false false false false) (w66y11 N A B C false false false false false false false false false false false false false false false false false false false false false false false false false false) (w66y12 N A B C false false false false false false false false false false false false false false false false false false false false false false false false false false) (w66y13 N A B C false false false false false false false false false false false false false false false false false false false false false false false false false false) (w66y14 N A B C false false false false false false false false false false false false false false false false false false false false false false false false false false) (w66y15 N A B C false false false false false false false false false false false false false false false false false false false false false false false false false false) (w66y16 N A B C false false false false false false false false false false false false false false false false false false false false false false false false false false) (w66y17 N A B C false false false false false false false false false false false false false false false false false false false false false false false false false false) (w66y18 N A B C false false false false false false false false false false false false false false false false false false false false false false false false false false) (w66y19 N A B C false false false false false false false false false false false false false false false false false false false false false false false false false false) (w66y20 N A B C false false false false false false false false false false false false false false false false false false false false false false false false false false) (w66y21 N A B C false false false false false false false false false false false false false false false false false false false false false false false false false false) (w66y22 N A B C false false false false false false false false false false false false false false false false false false false false false false false false false false) (w66y23 N A B C false false false false false false false false false false false false false false false false false false false false false false false false false false) (w66y24 N A B C false false false false false false false false false false false false false false false false false false false false false false false false false false) (w66y25 N A B C false false false false false false false false false false false false false false false false false false false false false false false false false false) ((0 : Int)) []
  (fun z5 =>
   some (w30r0 z5))
def w30 [Alg] (N : Nat) (A B : Int) (C : (List Ex)) : O := w30G N (w30n0 N) A B C
noncomputable def w30h [Alg] (N : Nat) : Hint := (.seq .d (.seq .d (.seq .d (.seq .d (.seq .d (.seq .d (.seq (.seq .d (.block (.sub w30m0 _ _ _ w30X0_0 (noX 1) (noX 2) (subL w30I0 w30u0 (w30l0 N N))))) .d)))))))
theorem w30hk (N : Nat) (hc : CxOk (w30c N)) : HintOk (w30c N) Tryd.f30.ntmps (w30h N) w30b := hk_of _ _ (And.intro trivial (And.intro trivial (And.intro trivial (And.intro trivial (And.intro trivial (And.intro trivial (And.intro (And.intro trivial (w30S0 N hc)) trivial)))))))
theorem w30q [Alg] (N : Nat) (A B : Int) (C : (List Ex)) : w30G N (w30s0 N) A B C = exec (w30c N) Tryd.f30.ntmps (w30h N) w30b ⟨argT 0 [.agg [.e (.i .i64) A, .e (.i .i64) B, .e (.sl .ex) C]], [], 100⟩ (finX (w30c N) Tryd.f30 false) := by kernel_rfl
theorem w30does {N : Nat} (hc : CxOk (w30c N)) {A B : Int} {C : (List Ex)} {r : Res} (h : w30 N A B C = some r) : DoesR Tryd.prog 30 (([.agg [.e (.i .i64) A, .e (.i .i64) B, .e (.sl .ex) C]] : List X).map X.D) (HA []) r :=
 fun_ok hc (f := 30) (fn := Tryd.f30) (code := w30b) (by kernel_rfl) (by kernel_rfl) (w30hk N hc) (Nat.le_of_ble_eq_true (by kernel_rfl)) (ow := false) ((w30q N A B C).symm.trans (by rw [w30e0 N]; exact h))
def w30un (r : Res) : Option ((List Int)) := match r with
 | (x0, []) => (match ue (.sl (.i .i64)) x0 with | some a0 => some a0 | _ => none)
 | _ => none
theorem w30uo {r : Res} {d : (List Int)} (h : w30un r = some d) : r = w30r0 (d) := by
 unfold w30un at h
 split at h
 ·split at h
  ·rename_i h0; cases h; rw [ue_some h0]; rfl
  ·cases h
 ·cases h
def w30z (N : Nat) (A B : Int) (C : (List Ex)) : Option ((List Int)) := (w30 N A B C).bind w30un
theorem w30fin {N : Nat} (hc : CxOk (w30c N)) {A B : Int} {C : (List Ex)} {d : (List Int)} (hd : w30z N A B C = some d) : Does Tryd.prog 30 (([.agg [.e (.i .i64) A, .e (.i .i64) B, .e (.sl .ex) C]] : List X).map X.D) (HA []) (w30r0 (d)).1.D (HA (w30r0 (d)).2) := by
 obtain ⟨r, hr, hu⟩ := Option.bind_eq_some_iff.1 hd
 have := w30does hc hr
 rw [w30uo hu] at this
 exact this
def w30p (N : Nat) (A B : Int) (C : (List Ex)) : Bool := (w30z N A B C).isSome
def w30y0 (N : Nat) (A B : Int) (C : (List Ex)) : (List Int) := ((w30z N A B C).getD [])
def w30e (N : Nat) : Ent' := E1 .ex  (fun x0 => (w30p N (Ex.op x0) (Ex.num x0) (Ex.kids x0), w30r0 (w30y0 N (Ex.op x0) (Ex.num x0) (Ex.kids x0))))
theorem w30re {N : Nat} {A B : Int} {C : (List Ex)} {d : (List Int)} (hd : w30z N A B C = some d) : w30r0 (w30y0 N A B C) = w30r0 (d) := by unfold w30y0; rw [hd]; rfl
theorem w30ok (N : Nat) : EOk Tryd.prog 30 (w30e N) := EOk.e1 (fun x0 h => by
 have h : (w30z N (Ex.op x0) (Ex.num x0) (Ex.kids x0)).isSome = true := h
 obtain ⟨d, hd⟩ := Option.isSome_iff_exists.1 h
 have f := w30fin (w30cx N) hd
 rw [← w30re hd] at f
 exact f)
end
end Go.Proofs
