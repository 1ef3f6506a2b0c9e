/- RulesLeast in plain words. Conditions are in the theorems. -/
import Derived.Test.YtipllfcmdnellaaDoorF4
import Derived.Test.YtipllfcmdnellaaDoorG8
/- Small laws (printed). -/
namespace Go.Proofs
open Go Go.Ax Go.Ax.Alg
theorem v17_p {N : Nat} {n0 : Int} {d : (List Bool)} (h : v17z N n0 = some d) : v17p N n0 = true := by unfold v17p; rw [h]; rfl
theorem v17_y0 {N : Nat} {n0 : Int} {d : (List Bool)} (h : v17z N n0 = some d) : v17y0 N n0 = d := by unfold v17y0; rw [h]; rfl
end Go.Proofs
/- The reference: the least remedy. -/
namespace Go.Proofs
open Go Go.Ax Go.Ax.Alg
theorem w19_loop0 (H : List Bool) (hH : H.length = 16) (l : List Rl) (hl : l.length < 150) (hr : ∀ r ∈ l, VR r) (s2 s4 s5 s6 : Int) (k0 : List Rl × List Bool × Int × Int × Int × Int × Int × Int × Int → O) (k1 k2 : Unit → O) : ∀ (n i : Nat) (a0 a1 a2 : Int), l.length - i < n → i ≤ l.length →
    w19l0 200 n (l, H, s2, i, s4, s5, s6, a0, a1, a2) k0 k1 k2 = k0 (l, H, s2, s4, s5, s6, (l.drop i).foldl (upL H 0) a0, (l.drop i).foldl (upL H 1) a1, (l.drop i).foldl (upL H 2) a2)
 | 0, i, _, _, _, h, _ => by omega
 | n + 1, i, a0, a1, a2, h, hi => by
   show w19F0 200 _ _ l H s2 s4 s5 s6 i a0 a1 a2 = _
   unfold w19F0
   by_cases hlt : i < l.length
   ·have hg : l[i]? = some l[i] := List.getElem?_eq_getElem hlt
    have hm := hr _ (List.mem_of_getElem? hg)
    rw [decide_eq_true (show (i : Int) < (l.length : Int) by omega), br_t, gx_at hg, drop_at hg, nxt (by omega)]
    have ih := fun a0 a1 a2 => w19_loop0 H hH l hl hr s2 s4 s5 s6 k0 k1 k2 n (i + 1) a0 a1 a2 (by omega) (by omega)
    generalize l[i] = r at hm hg
    have h8 := hm.l
    have h33 := w33_eq (r := r) (by omega) hm.t hH
    rw [ck_of (w33_p h33), w33_y0 h33]
    simp only [List.foldl_cons]
    have hd : r.2.1 = 0 ∨ r.2.1 = 1 ∨ r.2.1 = 2 := by have := hm.d0; have := hm.d3; omega
    cases hb : appB r H with
    | false =>
      rw [br_f]
      unfold upL
      simp only [hb, Bool.false_and]
      exact ih a0 a1 a2
    | true =>
      have eL : ∀ d' x, upL H d' x r = if decide (r.2.1 = d') then max x r.2.2 else x := fun d' x => by unfold upL; rw [hb, Bool.true_and]
      simp only [eL]
      have hdk : ∀ x : O, ck (decide (0 ≤ r.2.1 ∧ r.2.1 < 3)) x = x := fun x => ck_of (decide_eq_true ⟨hm.d0, hm.d3⟩) x
      rw [br_t, gx_at hg, gx_at hg, hdk]
      have hx : gx [a0, a1, a2] (((0 : Nat) + r.2.1.toNat * (1 : Nat) : Nat) : Int) = fun (k : Int → O) => k (if r.2.1 = 0 then a0 else if r.2.1 = 1 then a1 else a2) := by
       rcases hd with e | e | e <;> rw [e] <;> rfl
      rw [hx]
      simp only []
      rw [gx_at hg, hdk]
      rcases hd with e | e | e
      ·rw [e]; exact ih _ _ _
      ·rw [e]; exact ih _ _ _
      ·rw [e]; exact ih _ _ _
   ·rw [decide_eq_false (show ¬ (i : Int) < (l.length : Int) by omega), br_f, List.drop_eq_nil_of_le (by omega)]
    rfl
def at3 (a0 a1 a2 d : Int) : Int := if d = 0 then a0 else if d = 1 then a1 else a2
def breaks (H : List Bool) (a0 a1 a2 : Int) (r : Rl) : Bool := decide (r.2.2 < 0) && appB r H && decide (-1 - r.2.2 < at3 a0 a1 a2 r.2.1)
theorem w19_loop1 (H : List Bool) (hH : H.length = 16) (l : List Rl) (hl : l.length < 150) (hr : ∀ r ∈ l, VR r) (s2 s4 s5 s6 a0 a1 a2 : Int) (k0 : Int × Int × Int × Int → O) (k1 : Int × Int × Int × Int × Int × Int × Int → O) (k2 : Unit → O) : ∀ (n i : Nat), l.length - i < n → i ≤ l.length →
    w19l1 200 n (l, H, s2, i, s4, s5, s6, a0, a1, a2) k0 k1 k2 = if (l.drop i).any (breaks H a0 a1 a2) then k0 (18, 0, 0, 0) else k1 (s2, s4, s5, s6, a0, a1, a2)
 | 0, i, h, _ => by omega
 | n + 1, i, h, hi => by
   show w19F1 200 _ _ _ l H s2 s4 s5 s6 a0 a1 a2 i = _
   unfold w19F1
   by_cases hlt : i < l.length
   ·have hg : l[i]? = some l[i] := List.getElem?_eq_getElem hlt
    have hm := hr _ (List.mem_of_getElem? hg)
    rw [decide_eq_true (show (i : Int) < (l.length : Int) by omega), br_t, gx_at hg, drop_at hg, nxt (by omega), List.any_cons]
    have ih := w19_loop1 H hH l hl hr s2 s4 s5 s6 a0 a1 a2 k0 k1 k2 n (i + 1) (by omega) (by omega)
    generalize l[i] = r at hm hg
    have h8 := hm.l
    have h33 := w33_eq (r := r) (by omega) hm.t hH
    have hd : r.2.1 = 0 ∨ r.2.1 = 1 ∨ r.2.1 = 2 := by have := hm.d0; have := hm.d3; omega
    by_cases hn : r.2.2 < 0
    ·have en := decide_eq_true hn
     rw [en, gc_t, gx_at hg, w33_p h33, w33_y0 h33, Bool.or_true, ck_t, Bool.true_and]
     cases hb : appB r H with
     | false =>
       have eb : breaks H a0 a1 a2 r = false := by unfold breaks; rw [hb, Bool.and_false, Bool.false_and]
       rw [eb, Bool.false_or]
       exact ih
     | true =>
       have ew : IntKind.i64.wrap (-1 - r.2.2) = -1 - r.2.2 := by have := hm.a0; have := hm.a1; exact wr (by omega) (by omega)
       have eb : breaks H a0 a1 a2 r = decide (-1 - r.2.2 < at3 a0 a1 a2 r.2.1) := by unfold breaks; rw [hb, en]; rfl
       rw [gc_t, gx_at hg, br_t, ck_of (by rw [decide_eq_true ⟨hm.d0, hm.d3⟩]; rfl), br_t, gc_t, eb]
       have hx : gx [a0, a1, a2] (((0 : Nat) + r.2.1.toNat * (1 : Nat) : Nat) : Int) = fun (k : Int → O) => k (at3 a0 a1 a2 r.2.1) := by
        rcases hd with e | e | e <;> rw [e] <;> rfl
       rw [hx]
       simp only []
       rw [gc_t, gx_at hg, br_t, ew, Bool.true_and]
       cases hq : decide (-1 - r.2.2 < at3 a0 a1 a2 r.2.1) with
       | true => rfl
       | false => exact ih
    ·have en := decide_eq_false hn
     have eb : breaks H a0 a1 a2 r = false := by unfold breaks; rw [en]; rfl
     rw [eb, Bool.false_or, en]
     exact ih
   ·rw [decide_eq_false (show ¬ (i : Int) < (l.length : Int) by omega), br_f, List.drop_eq_nil_of_le (by omega)]
    rfl
theorem w19n0_eq {H : List Bool} (hH : H.length = 16) {l : List Rl} (hl : l.length < 150) (hr : ∀ r ∈ l, VR r) (s2 s4 s5 s6 : Int) (K : List Rl → List Bool → Int → Int → Int → Int → Int → Int → Int → O) : w19n0 200 l H s2 0 s4 s5 s6 0 0 0 K = K l H s2 s4 s5 s6 (lz l H 0) (lz l H 1) (lz l H 2) := by
 unfold w19n0
 have := w19_loop0 H hH l hl hr s2 s4 s5 s6 (fun y => K y.1 y.2.1 y.2.2.1 y.2.2.2.1 y.2.2.2.2.1 y.2.2.2.2.2.1 y.2.2.2.2.2.2.1 y.2.2.2.2.2.2.2.1 y.2.2.2.2.2.2.2.2) (fun _ => none) (fun _ => none) 200 0 0 0 0 (by omega) (by omega)
 rw [List.drop_zero] at this
 exact this
theorem w19n1_eq {H : List Bool} (hH : H.length = 16) {l : List Rl} (hl : l.length < 150) (hr : ∀ r ∈ l, VR r) (s2 s4 s5 s6 a0 a1 a2 : Int) (K0 : Int → Int → Int → Int → O) (K1 : Int → Int → Int → Int → Int → Int → Int → O) : w19n1 200 l H s2 0 s4 s5 s6 a0 a1 a2 K0 K1 = if l.any (breaks H a0 a1 a2) then K0 18 0 0 0 else K1 s2 s4 s5 s6 a0 a1 a2 := by
 unfold w19n1
 have := w19_loop1 H hH l hl hr s2 s4 s5 s6 a0 a1 a2 (fun y => K0 y.1 y.2.1 y.2.2.1 y.2.2.2) (fun y => K1 y.1 y.2.1 y.2.2.1 y.2.2.2.1 y.2.2.2.2.1 y.2.2.2.2.2.1 y.2.2.2.2.2.2) (fun _ => none) 200 0 (by omega) (by omega)
 rw [List.drop_zero] at this
 exact this
theorem at3_lz (l : List Rl) (H : List Bool) {d : Int} (h0 : 0 ≤ d) (h3 : d < 3) : at3 (lz l H 0) (lz l H 1) (lz l H 2) d = lz l H d := by
 rcases (show d = 0 ∨ d = 1 ∨ d = 2 by omega) with rfl | rfl | rfl <;> rfl
theorem lz_le {l : List Rl} (hr : ∀ r ∈ l, VR r) (H : List Bool) (d : Int) : lz l H d ≤ 9999 := by
 rcases lz_at H d l with h | ⟨r, h1, _, _, h4⟩
 ·omega
 ·have := (hr r h1).a1; omega
theorem bad_iff {l : List Rl} (hr : ∀ r ∈ l, VR r) (H : List Bool) : l.any (breaks H (lz l H 0) (lz l H 1) (lz l H 2)) = true ↔ badZ l H := by
 constructor
 ·intro h
  obtain ⟨r, h1, h2⟩ := List.any_eq_true.1 h
  unfold breaks at h2
  simp only [Bool.and_eq_true, decide_eq_true_eq] at h2
  obtain ⟨⟨h3, h4⟩, h5⟩ := h2
  have hv := hr r h1
  rw [at3_lz l H hv.d0 hv.d3] at h5
  have := mz_ge H l r h1 h4 h3
  exact bad_at hv.d0 hv.d3 (by omega)
 ·intro h
  have key : ∀ d, mz l H d < lz l H d → l.any (breaks H (lz l H 0) (lz l H 1) (lz l H 2)) = true := fun d hd => by
   have := lz_le hr H d
   rcases mz_at H d l with h | ⟨r, h1, h2, h3, h4, h5⟩
   ·omega
   ·refine List.any_eq_true.2 ⟨r, h1, ?_⟩
    have hv := hr r h1
    unfold breaks
    rw [at3_lz l H hv.d0 hv.d3]
    simp only [Bool.and_eq_true, decide_eq_true_eq]
    exact ⟨⟨h4, h2⟩, by rw [h3]; omega⟩
  rcases h with h | h | h
  ·exact key 0 h
  ·exact key 1 h
  ·exact key 2 h
theorem w19_ur (a b c d : Int) : (some (w19r0 a b c d) : O).bind w19un = some (a, b, c, d) := rfl
/-- Least as in the reference. -/
theorem least_same {l : List Rl} (hl : l.length < 150) (hr : ∀ r ∈ l, r.1.length < 150) (H : List Bool) : ∃ a b c e : Int, w16z 200 l H = some (a, b, c, e) ∧ w19z 200 l H = some (a, b, c, e) := by
 have h29 := w29_eq l hl hr
 have h25 := w25_eq l hl hr
 by_cases hc : checkZ l = 0
 ·have hg := good_of_check hc
  have hv : ∀ r ∈ l, VR r := fun r h => VR.of (hg.2 r h)
  rw [hc] at h29 h25
  by_cases hH : H.length = 16
  ·have h16 := w16_eq hg.1 hg.2 hH
   suffices key : w19z 200 l H = some (leastZ l H) by
    generalize leastZ l H = q at h16 key
    obtain ⟨a, b, c, e⟩ := q
    exact ⟨a, b, c, e, h16, key⟩
   unfold w19z w19 w19G
   rw [ck_of (w25_p h25), w25_y0 h25, show decide ((0 : Int) ≠ 0) = false from rfl, br_f, decide_eq_false (show ¬ ((H.length : Int) ≠ 16) by omega), br_f, w19n0_eq hH hl hv, w19n1_eq hH hl hv]
   unfold leastZ
   by_cases hb : badZ l H
   ·rw [(bad_iff hv H).2 hb, if_pos hb, if_pos rfl]; exact w19_ur _ _ _ _
   ·rw [eq_false_of_ne_true (fun h => hb ((bad_iff hv H).1 h)), if_neg hb, if_neg (by decide)]; exact w19_ur _ _ _ _
  ·refine ⟨0, 0, 0, 1, ?_, ?_⟩
   ·unfold w16z w16 w16G
    rw [ck_of (w29_p h29), w29_y0 h29, show decide ((0 : Int) ≠ 0) = false from rfl, br_f, decide_eq_true (show ((H.length : Int) ≠ 16) by omega), br_t]
    exact w16_ur _ _ _ _
   ·unfold w19z w19 w19G
    rw [ck_of (w25_p h25), w25_y0 h25, show decide ((0 : Int) ≠ 0) = false from rfl, br_f, decide_eq_true (show ((H.length : Int) ≠ 16) by omega), br_t]
    exact w19_ur _ _ _ _
 ·refine ⟨0, 0, 0, checkZ l, ?_, ?_⟩
  ·unfold w16z w16 w16G
   rw [ck_of (w29_p h29), w29_y0 h29, decide_eq_true hc, br_t]
   exact w16_ur _ _ _ _
  ·unfold w19z w19 w19G
   rw [ck_of (w25_p h25), w25_y0 h25, decide_eq_true hc, br_t]
   exact w19_ur _ _ _ _
theorem w21_eq (a0 a1 a2 b0 b1 b2 : Int) : w21z 200 a0 a1 a2 b0 b1 b2 = some (worseZ a0 a1 a2 b0 b1 b2) := by
 unfold w21z w21 w21G worseZ
 have : (decide (a0 < b0) || decide (a1 < b1) || decide (a2 < b2)) = decide (a0 < b0 ∨ a1 < b1 ∨ a2 < b2) := by
  rw [Bool.eq_iff_iff]
  simp only [Bool.or_eq_true, decide_eq_true_eq]
  omega
 rw [this]
 rfl
end Go.Proofs
/- The law of least remedies: Least and Worse as in the reference. -/
namespace Go.Proofs
open Go Go.Ax Go.Ax.Alg
theorem v17_loop (m : Int) (k0 : List Bool → O) (k1 k2 : Unit → O) : ∀ (n i : Nat) (l : List Bool), 16 - i < n → i ≤ 16 → l.length = i → ∃ h : List Bool, h.length = 16 ∧ v17l0 200 n (m, i, l) k0 k1 k2 = k0 h
 | 0, i, _, h, _, _ => by omega
 | n + 1, i, l, h, hi, hl => by
   show ∃ h : List Bool, h.length = 16 ∧ v17F0 200 _ _ m i l = k0 h
   unfold v17F0
   by_cases hlt : i < 16
   ·rw [decide_eq_true (show (i : Int) < 16 by omega), br_t, ck_of (decide_eq_true (u64_pos _)), ck_t, ck_of (lim_of (by simp; omega) (by simp; omega)), nxt (by omega)]
    exact v17_loop m k0 k1 k2 n (i + 1) _ (by omega) (by omega) (by simp; omega)
   ·rw [decide_eq_false (show ¬ (i : Int) < 16 by omega), br_f]
    exact ⟨l, by omega, rfl⟩
theorem v17_ex (m : Int) : ∃ h : List Bool, h.length = 16 ∧ v17z 200 m = some h := by
 unfold v17z v17 v17G
 obtain ⟨h, hh, e⟩ := v17_loop m (fun z => some (v17r0 z)) (fun _ => none) (fun _ => none) 200 0 [] (by omega) (by omega) rfl
 exact ⟨h, hh, (congrArg (fun z : O => z.bind v17un) e).trans rfl⟩
theorem w5_in {A : List (List Rl)} {F : List (List Bool)} (hF : F.length < 50) {i : Nat} {l : List Rl} (hi : A[i]? = some l) (hl : Rough 99 l) (c : Bool) (s2 : Int) (s3 : Bool) (f0 f1 f2 : Int) (k0 : Bool → O) (k1 : Bool × Int × Int × Bool × Int × Int × Int × Bool × Int × Int × Int × List (List Rl) × List (List Bool) → O) (k2 : Unit → O) : ∀ (n k : Nat), F.length - k < n → k ≤ F.length →
    w5l0 200 n (c, i, s2, s3, k, f0, f1, f2, A, F) k0 k1 k2 = k1 (c, i, s2, s3, F.length, F.length, F.length, decide ((F.length : Int) < (F.length : Int)), f0, f1, f2, A, F)
 | 0, k, h, _ => by omega
 | n + 1, k, h, hk => by
   show w5F0 200 _ _ _ c i s2 s3 f0 f1 f2 A F k = _
   unfold w5F0
   by_cases hlt : k < F.length
   ·have hg : F[k]? = some F[k] := List.getElem?_eq_getElem hlt
    have ih := w5_in hF hi hl c s2 s3 f0 f1 f2 k0 k1 k2 n (k + 1) (by omega) (by omega)
    generalize F[k] = H at hg
    have h40 := hl.1
    have e12 := w12_eq (l := l) (by omega)
    obtain ⟨a0, a1, a2, e, e16, e19⟩ := least_same (l := l) (by omega) (fun r hr => by have := hl.2 r hr; omega) H
    have e20 := w20_eq a0 a1 a2 f0 f1 f2
    have e21 := w21_eq a0 a1 a2 f0 f1 f2
    have e20' := w20_eq f0 f1 f2 a0 a1 a2
    have e21' := w21_eq f0 f1 f2 a0 a1 a2
    rw [decide_eq_true (show (k : Int) < (F.length : Int) by omega), br_t, gx_at hi, ck_of (w12_p e12), w12_y0 e12, gx_at hg, ck_of (w16_p e16), gx_at hi, gx_at hg, ck_of (w19_p e19), w16_y0 e16, w16_y1 e16, w16_y2 e16, w16_y3 e16, w19_y0 e19, w19_y1 e19, w19_y2 e19, w19_y3 e19, w20_p e20, w20_y0 e20, w21_p e21, w21_y0 e21, w20_p e20', w20_y0 e20', w21_p e21', w21_y0 e21', nxt (by omega)]
    rw [Bool.or_true, ck_t, Bool.or_true, ck_t, ck_t, ck_t]
    simp only [decide_true, ne_eq, not_true_eq_false, decide_false, beq_self_eq_true, Bool.and_self, Bool.not_true, Bool.or_self, br_f]
    exact ih
   ·have : k = F.length := by omega
    subst this
    rw [decide_eq_false (show ¬ (F.length : Int) < (F.length : Int) by omega), br_f]
theorem w5_ur (x : Bool) : (some (w5r0 x) : O).bind w5un = some x := rfl
theorem w5_out {L M : List Rl} {F : List (List Bool)} (hF : F.length < 50) (hL : Rough 99 L) (hM : Rough 99 M) (c : Bool) (f0 f1 f2 : Int) (k0 k1 : Bool → O) (k2 : Unit → O) : w5l1 200 200 (c, 0, f0, f1, f2, [L, M], F) k0 k1 k2 = k1 c := by
 have step : ∀ (n i : Nat) (l : List Rl), i < 2 → ([L, M] : List (List Rl))[i]? = some l → Rough 99 l → w5l1 200 (n + 1) (c, (i : Nat), f0, f1, f2, [L, M], F) k0 k1 k2 = w5l1 200 n (c, ((i + 1 : Nat) : Int), f0, f1, f2, [L, M], F) k0 k1 k2 := fun n i l hi hg hl => by
  show w5F1 200 (w5n0 200) (fun v0 v1 v2 v3 v4 v5 v6 => w5l1 200 n (v0, v1, v2, v3, v4, v5, v6) k0 k1 k2) (fun y0 => k0 y0) (fun y0 => k1 y0) c i f0 f1 f2 [L, M] F = _
  unfold w5F1
  rw [decide_eq_true (show (i : Int) < 2 by omega), br_t]
  refine (w5_in hF hg hl c i true f0 f1 f2 _ _ _ 200 0 (by omega) (by omega)).trans ?_
  show w5l1 200 n (c, IntKind.i64.wrap ((i : Int) + 1), f0, f1, f2, [L, M], F) k0 k1 k2 = _
  rw [nxt (by omega)]
 refine (step 199 0 L (by omega) rfl hL).trans ((step 198 1 M (by omega) rfl hM).trans ?_)
 rfl
theorem rough_of {l : List Rl} (h : Good 6 l) : Rough 10 l := ⟨by have := h.1; omega, fun r hr => by have := (VR.of (h.2 r hr)).l; omega⟩
theorem law5 {l : List Int} (hl : ∀ x ∈ l, I64 x) {a b c : Int} (ha : I64 a) (hb : I64 b) (hc : I64 c) (m : Int) (raw : List Bool) (f0 f1 f2 : Int) : w5z 200 l a b c m raw f0 f1 f2 = some true := by
 unfold w5z w5 w5G
 obtain ⟨L, hL, e9⟩ := w9_ex hl
 have h0 := rough_of hL
 obtain ⟨M, h1, e1⟩ := w10_ex h0 (by omega) (by omega) ha hb hc
 obtain ⟨H, hH, eH⟩ := v17_ex m
 obtain ⟨K, hK, eK⟩ := v17_ex c
 rw [ck_of (w9_p e9), w9_y0 e9, ck_of (w10_p e1), w10_y0 e1, ck_of (v17_p eH), ck_of (v17_p eK), ck_of (v17_p eH), v17_y0 eH, v17_y0 eK]
 rw [ck_of (show slcOk H.length (some 1) none = true from decide_eq_true ⟨by omega, by omega⟩), ck_of (v17_p eH), ck_of (lim_of (by simp; omega) (by simp; omega))]
 refine (congrArg (fun z : O => z.bind w5un) (w5_out (by simp) (h0.up (by omega)) (h1.up (by omega)) false f0 f1 f2 (fun z => some (w5r0 z)) (fun _ => ck true <| some (w5r0 true)) (fun _ => none))).trans ?_
 rw [ck_t]
 exact w5_ur true
end Go.Proofs
