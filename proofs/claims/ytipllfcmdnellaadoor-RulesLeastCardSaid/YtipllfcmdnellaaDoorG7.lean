/- The reference in plain words. Conditions are in the theorems. -/
import Derived.Test.YtipllfcmdnellaaDoorF4
import Derived.Test.YtipllfcmdnellaaDoorG6
/- Small laws (printed). -/
namespace Go.Proofs
open Go Go.Ax Go.Ax.Alg
theorem w10_p {N : Nat} {l0 : (List ((List Int) × (Int × Int)))} {at1 : Int} {how2 : Int} {by3 : Int} {d : (List ((List Int) × (Int × Int)))} (h : w10z N l0 at1 how2 by3 = some d) : w10p N l0 at1 how2 by3 = true := by unfold w10p; rw [h]; rfl
theorem w10_y0 {N : Nat} {l0 : (List ((List Int) × (Int × Int)))} {at1 : Int} {how2 : Int} {by3 : Int} {d : (List ((List Int) × (Int × Int)))} (h : w10z N l0 at1 how2 by3 = some d) : w10y0 N l0 at1 how2 by3 = d := by unfold w10y0; rw [h]; rfl
theorem w43_p {N : Nat} {t0 : Int} {d : Int} (h : w43z N t0 = some d) : w43p N t0 = true := by unfold w43p; rw [h]; rfl
theorem w43_y0 {N : Nat} {t0 : Int} {d : Int} (h : w43z N t0 = some d) : w43y0 N t0 = d := by unfold w43y0; rw [h]; rfl
theorem w25_p {N : Nat} {l0 : (List ((List Int) × (Int × Int)))} {d : Int} (h : w25z N l0 = some d) : w25p N l0 = true := by unfold w25p; rw [h]; rfl
theorem w25_y0 {N : Nat} {l0 : (List ((List Int) × (Int × Int)))} {d : Int} (h : w25z N l0 = some d) : w25y0 N l0 = d := by unfold w25y0; rw [h]; rfl
theorem w33_p {N : Nat} {r0_0 : (List Int)} {r0_1 : Int} {r0_2 : Int} {have1 : (List Bool)} {d : Bool} (h : w33z N r0_0 r0_1 r0_2 have1 = some d) : w33p N r0_0 r0_1 r0_2 have1 = true := by unfold w33p; rw [h]; rfl
theorem w33_y0 {N : Nat} {r0_0 : (List Int)} {r0_1 : Int} {r0_2 : Int} {have1 : (List Bool)} {d : Bool} (h : w33z N r0_0 r0_1 r0_2 have1 = some d) : w33y0 N r0_0 r0_1 r0_2 have1 = d := by unfold w33y0; rw [h]; rfl
theorem w19_p {N : Nat} {l0 : (List ((List Int) × (Int × Int)))} {have1 : (List Bool)} {d : Int × Int × Int × Int} (h : w19z N l0 have1 = some d) : w19p N l0 have1 = true := by unfold w19p; rw [h]; rfl
theorem w19_y0 {N : Nat} {l0 : (List ((List Int) × (Int × Int)))} {have1 : (List Bool)} {d : Int × Int × Int × Int} (h : w19z N l0 have1 = some d) : w19y0 N l0 have1 = d.1 := by unfold w19y0; rw [h]; rfl
theorem w19_y1 {N : Nat} {l0 : (List ((List Int) × (Int × Int)))} {have1 : (List Bool)} {d : Int × Int × Int × Int} (h : w19z N l0 have1 = some d) : w19y1 N l0 have1 = d.2.1 := by unfold w19y1; rw [h]; rfl
theorem w19_y2 {N : Nat} {l0 : (List ((List Int) × (Int × Int)))} {have1 : (List Bool)} {d : Int × Int × Int × Int} (h : w19z N l0 have1 = some d) : w19y2 N l0 have1 = d.2.2.1 := by unfold w19y2; rw [h]; rfl
theorem w19_y3 {N : Nat} {l0 : (List ((List Int) × (Int × Int)))} {have1 : (List Bool)} {d : Int × Int × Int × Int} (h : w19z N l0 have1 = some d) : w19y3 N l0 have1 = d.2.2.2 := by unfold w19y3; rw [h]; rfl
theorem w21_p {N : Nat} {remedy0_0 : Int} {remedy0_1 : Int} {remedy0_2 : Int} {fault1_0 : Int} {fault1_1 : Int} {fault1_2 : Int} {d : Bool} (h : w21z N remedy0_0 remedy0_1 remedy0_2 fault1_0 fault1_1 fault1_2 = some d) : w21p N remedy0_0 remedy0_1 remedy0_2 fault1_0 fault1_1 fault1_2 = true := by unfold w21p; rw [h]; rfl
theorem w21_y0 {N : Nat} {remedy0_0 : Int} {remedy0_1 : Int} {remedy0_2 : Int} {fault1_0 : Int} {fault1_1 : Int} {fault1_2 : Int} {d : Bool} (h : w21z N remedy0_0 remedy0_1 remedy0_2 fault1_0 fault1_1 fault1_2 = some d) : w21y0 N remedy0_0 remedy0_1 remedy0_2 fault1_0 fault1_1 fault1_2 = d := by unfold w21y0; rw [h]; rfl
end Go.Proofs
/- The reference: which rules apply, and two rules that contradict each other. -/
namespace Go.Proofs
open Go Go.Ax Go.Ax.Alg
theorem w43_eq {t : Int} (h : -100 ≤ t) (h2 : t ≤ 100) : w43z 200 t = some (num t) := by
 unfold w43z w43 w43G num
 rw [wr (by omega) (by omega)]
 rfl
theorem w33_loop (l : List Int) (hl : l.length < 150) (ht : termOk l) {H : List Bool} (hH : H.length = 16) (c : Bool) (u v : Int) (k0 k1 : Bool → O) (k2 : Unit → O) : ∀ (n i : Nat), l.length - i < n → i ≤ l.length →
    w33l0 200 n (H, c, i, l, u, v) k0 k1 k2 = if (l.drop i).all (holdT H) then k1 c else k0 false
 | 0, i, h, _ => by omega
 | n + 1, i, h, hi => by
   show w33F0 200 _ _ _ H c l u v i = _
   unfold w33F0
   by_cases hlt : i < l.length
   ·have hg : l[i]? = some l[i] := List.getElem?_eq_getElem hlt
    have hm := ht _ (List.mem_of_getElem? hg)
    rw [decide_eq_true (show (i : Int) < (l.length : Int) by omega), br_t, gx_at hg, drop_at hg, nxt (by omega), List.all_cons]
    generalize l[i] = t at hm
    have h43 := w43_eq (t := t) (by omega) (by omega)
    have hn := num_le hm
    have hg2 : H[(num t - 1).toNat]? = some (H.getD (num t - 1).toNat false) := by
     rw [List.getD_eq_getElem?_getD, List.getElem?_eq_getElem (by omega)]; rfl
    rw [ck_of (w43_p h43), w43_y0 h43, wr (by omega) (by omega), gx_of (by omega) hg2]
    have hx : w33l0 200 n (H, c, (i + 1 : Nat), l, u, v) k0 k1 k2 = if (l.drop (i + 1)).all (holdT H) then k1 c else k0 false := w33_loop l hl ht hH c u v k0 k1 k2 n (i + 1) (by omega) (by omega)
    cases hb : holdT H t with
    | false =>
      have hb' : (H.getD (num t - 1).toNat false == decide (0 < t)) = false := hb
      rw [hb']
      rfl
    | true =>
      have hb' : (H.getD (num t - 1).toNat false == decide (0 < t)) = true := hb
      rw [hb']
      exact hx
   ·rw [decide_eq_false (show ¬ (i : Int) < (l.length : Int) by omega), br_f, List.drop_eq_nil_of_le (by omega)]
    rfl
theorem w33_eq {r : Rl} (hl : r.1.length < 150) (ht : termOk r.1) {H : List Bool} (hH : H.length = 16) : w33z 200 r.1 r.2.1 r.2.2 H = some (appB r H) := by
 unfold w33z w33 w33G
 refine (congrArg (fun z : O => z.bind w33un) (w33_loop r.1 hl ht hH false r.2.1 r.2.2 (fun z => some (w33r0 z)) (fun _ => some (w33r0 true)) (fun _ => none) 200 0 (by omega) (by omega))).trans ?_
 rw [List.drop_zero]
 unfold appB
 cases r.1.all (holdT H) <;> rfl
end Go.Proofs
/- The reference: which rules are valid. -/
namespace Go.Proofs
open Go Go.Ax Go.Ax.Alg
/-- The number that the last feature has. -/
def lastN (l : List Int) (i : Nat) : Int := match i with | 0 => 0 | j + 1 => num (l.getD j 0)
theorem num_nn (t : Int) : 0 ≤ num t := by unfold num; omega
theorem w25_step {l : List Int} (hl : l.length < 150) (i : Nat) (hp : ∀ j t, j < i → l[j]? = some t → -16 ≤ t ∧ t ≤ 16) (R : O → Prop) (self : Int → O) (k0 : Int → O) (k1 : (List ((List Int) × (Int × Int))) → Int → Int → Int → (List ((List Int) × (Int × Int))) → Int → Bool → (List ((List Int) × (Int × Int))) → Int → ((List Int) × (Int × Int)) → (List Int) → Int → Int → (List Int) → Int → Bool → Bool → Bool → Bool → Bool → Bool → Bool → Bool → Bool → Int → Int → (List Int) → Int → Bool → (List Int) → Int → Int → O) (v0 : (List ((List Int) × (Int × Int)))) (v1 : Int) (v2 : Int) (v3 : Int) (v4 : (List ((List Int) × (Int × Int)))) (v5 : Int) (v6 : Bool) (v7 : (List ((List Int) × (Int × Int)))) (v8 : Int) (v9 : ((List Int) × (Int × Int))) (v10 : (List Int)) (v11 : Int) (v12 : Int) (v13 : (List Int)) (v14 : Int) (v15 : Bool) (v16 : Bool) (v17 : Bool) (v18 : Bool) (v19 : Bool) (v20 : Bool) (v21 : Bool) (v22 : Bool) (v23 : Bool) (v24 : Int) (v25 : (List Int)) (v26 : Int) (v27 : Int)
    (h24 : v24 = (i : Int)) (h25 : v25 = l)
    (hs : ∀ t, l[i]? = some t → -16 ≤ t → t ≤ 16 → ¬ num t ≤ lastN l i → R (self ((i + 1 : Nat) : Int))) (hk : ∀ t, l[i]? = some t → ¬ (-16 ≤ t ∧ t ≤ 16 ∧ ¬ num t ≤ lastN l i) → R (k0 1)) (hn : l.length ≤ i → R (k1 v0 v1 v2 v3 v4 v5 v6 v7 v8 v9 v10 v11 v12 v13 v14 v15 v16 v17 v18 v19 v20 v21 v22 v23 v24 v24 v25 ((↑v25.length : Int)) (decide (v24 < (↑v25.length : Int))) v25 v26 v27)) : R (w25F0 200 self k0 k1 v0 v1 v2 v3 v4 v5 v6 v7 v8 v9 v10 v11 v12 v13 v14 v15 v16 v17 v18 v19 v20 v21 v22 v23 v25 v26 v27 v24) := by
 unfold w25F0
 by_cases hlt : i < l.length
 ·have hg : l[i]? = some l[i] := List.getElem?_eq_getElem hlt
  rw [h24, h25, decide_eq_true (show (i : Int) < (l.length : Int) by omega), br_t, gx_at hg, nxt (by omega)]
  generalize l[i] = t at hg
  cases hb : (decide (t = 0) || decide (t < -16) || decide (16 < t)) with
  | true =>
    rw [br_t]
    refine hk t hg fun h => ?_
    simp only [Bool.or_eq_true, decide_eq_true_eq] at hb
    have : t = 0 := by omega
    subst this
    refine h.2.2 ?_
    show num 0 ≤ lastN l i
    have : (0 : Int) ≤ lastN l i := by
     unfold lastN
     split
     ·omega
     ·exact num_nn _
    exact this
  | false =>
    rw [br_f]
    simp only [Bool.or_eq_false_iff, decide_eq_false_iff_not] at hb
    have ht : -16 ≤ t ∧ t ≤ 16 := by omega
    have h43 := w43_eq (t := t) (by omega) (by omega)
    have hnt : 1 ≤ num t := by unfold num; omega
    cases i with
    | zero =>
      have e : decide ((0 : Int) < ((0 : Nat) : Int)) = false := rfl
      rw [e]
      have : R (self ((0 + 1 : Nat) : Int)) := hs t hg ht.1 ht.2 (by show ¬ num t ≤ 0; omega)
      exact this
    | succ j =>
      have hj : l[j]? = some l[j] := List.getElem?_eq_getElem (by omega)
      have hpj := hp j _ (by omega) hj
      have hlast : lastN l (j + 1) = num l[j] := by
       show num (l.getD j 0) = _
       rw [List.getD_eq_getElem?_getD, hj]; rfl
      have e : decide ((0 : Int) < ((j + 1 : Nat) : Int)) = true := decide_eq_true (by omega)
      have ew : max (IntKind.i64.wrap (((j + 1 : Nat) : Int) - 1)) 0 = (j : Int) := by
       rw [wr (by omega) (by omega)]; omega
      rw [hlast] at hs hk
      generalize l[j] = p at hpj hj hs hk
      have h43' := w43_eq (t := p) (by omega) (by omega)
      rw [e, ck_of (by rw [w43_p h43]; rfl), ew, gc_t, gx_at hj, ck_of (by rw [w43_p h43']; rfl), w43_y0 h43, w43_y0 h43', Bool.true_and]
      by_cases hc : num t ≤ num p
      ·rw [decide_eq_true hc, br_t]
       exact hk t hg (fun h => h.2.2 hc)
      ·rw [decide_eq_false hc, br_f]
       exact hs t hg ht.1 ht.2 hc
 ·have hh := hn (by omega)
  rw [h25, h24] at hh ⊢
  rw [decide_eq_false (show ¬ (i : Int) < (l.length : Int) by omega), br_f]
  rw [decide_eq_false (show ¬ (i : Int) < (l.length : Int) by omega)] at hh
  exact hh
abbrev S25 := ((List ((List Int) × (Int × Int))) × Int × Int × Int × (List ((List Int) × (Int × Int))) × Int × Bool × (List ((List Int) × (Int × Int))) × Int × ((List Int) × (Int × Int)) × (List Int) × Int × Int × (List Int) × Int × Bool × Bool × Bool × Bool × Bool × Bool × Bool × Bool × Bool × Int × (List Int) × Int × Int)
abbrev Y25 := ((List ((List Int) × (Int × Int))) × Int × Int × Int × (List ((List Int) × (Int × Int))) × Int × Bool × (List ((List Int) × (Int × Int))) × Int × ((List Int) × (Int × Int)) × (List Int) × Int × Int × (List Int) × Int × Bool × Bool × Bool × Bool × Bool × Bool × Bool × Bool × Bool × Int × Int × (List Int) × Int × Bool × (List Int) × Int × Int)
theorem terms_at (l : List Int) (i : Nat) {t : Int} (h : l[i]? = some t) : termsB (lastN l i) (l.drop i) = (!(decide (t < -16) || decide (16 < t) || decide (num t ≤ lastN l i)) && termsB (lastN l (i + 1)) (l.drop (i + 1))) := by
 rw [drop_at h]
 have : lastN l (i + 1) = num t := by show num (l.getD i 0) = _; rw [List.getD_eq_getElem?_getD, h]; rfl
 rw [this]
 rfl
theorem w25_in {l : List Int} (hl : l.length < 150) (k0 : Int → O) (k1 : Y25 → O) (k2 : Unit → O) (R : O → Prop) : ∀ (n i : Nat) (x : S25), l.length - i < n → i ≤ l.length → x.2.2.2.2.2.2.2.2.2.2.2.2.2.2.2.2.2.2.2.2.2.2.2.2.1 = (i : Int) → x.2.2.2.2.2.2.2.2.2.2.2.2.2.2.2.2.2.2.2.2.2.2.2.2.2.1 = l → (∀ j t, j < i → l[j]? = some t → -16 ≤ t ∧ t ≤ 16) →
    (termsB (lastN l i) (l.drop i) = false → R (k0 1)) → (termsB (lastN l i) (l.drop i) = true → ∀ y : Y25, y.1 = x.1 → y.2.1 = x.2.1 → y.2.2.1 = x.2.2.1 → R (k1 y)) → R (w25l0 200 n x k0 k1 k2)
 | 0, i, x, h, _, _, _, _, _, _ => by omega
 | n + 1, i, x, h, hi, e24, e25, hp, hk, hn => by
   refine w25_step hl i hp R (fun v0 => w25l0 200 n (x.1, x.2.1, x.2.2.1, x.2.2.2.1, x.2.2.2.2.1, x.2.2.2.2.2.1, x.2.2.2.2.2.2.1, x.2.2.2.2.2.2.2.1, x.2.2.2.2.2.2.2.2.1, x.2.2.2.2.2.2.2.2.2.1, x.2.2.2.2.2.2.2.2.2.2.1, x.2.2.2.2.2.2.2.2.2.2.2.1, x.2.2.2.2.2.2.2.2.2.2.2.2.1, x.2.2.2.2.2.2.2.2.2.2.2.2.2.1, x.2.2.2.2.2.2.2.2.2.2.2.2.2.2.1, x.2.2.2.2.2.2.2.2.2.2.2.2.2.2.2.1, x.2.2.2.2.2.2.2.2.2.2.2.2.2.2.2.2.1, x.2.2.2.2.2.2.2.2.2.2.2.2.2.2.2.2.2.1, x.2.2.2.2.2.2.2.2.2.2.2.2.2.2.2.2.2.2.1, x.2.2.2.2.2.2.2.2.2.2.2.2.2.2.2.2.2.2.2.1, x.2.2.2.2.2.2.2.2.2.2.2.2.2.2.2.2.2.2.2.2.1, x.2.2.2.2.2.2.2.2.2.2.2.2.2.2.2.2.2.2.2.2.2.1, x.2.2.2.2.2.2.2.2.2.2.2.2.2.2.2.2.2.2.2.2.2.2.1, x.2.2.2.2.2.2.2.2.2.2.2.2.2.2.2.2.2.2.2.2.2.2.2.1, v0, x.2.2.2.2.2.2.2.2.2.2.2.2.2.2.2.2.2.2.2.2.2.2.2.2.2.1, x.2.2.2.2.2.2.2.2.2.2.2.2.2.2.2.2.2.2.2.2.2.2.2.2.2.2.1, x.2.2.2.2.2.2.2.2.2.2.2.2.2.2.2.2.2.2.2.2.2.2.2.2.2.2.2) k0 k1 k2) (fun y0 => k0 y0) (fun y0 y1 y2 y3 y4 y5 y6 y7 y8 y9 y10 y11 y12 y13 y14 y15 y16 y17 y18 y19 y20 y21 y22 y23 y24 y25 y26 y27 y28 y29 y30 y31 => k1 (y0, y1, y2, y3, y4, y5, y6, y7, y8, y9, y10, y11, y12, y13, y14, y15, y16, y17, y18, y19, y20, y21, y22, y23, y24, y25, y26, y27, y28, y29, y30, y31)) x.1 x.2.1 x.2.2.1 x.2.2.2.1 x.2.2.2.2.1 x.2.2.2.2.2.1 x.2.2.2.2.2.2.1 x.2.2.2.2.2.2.2.1 x.2.2.2.2.2.2.2.2.1 x.2.2.2.2.2.2.2.2.2.1 x.2.2.2.2.2.2.2.2.2.2.1 x.2.2.2.2.2.2.2.2.2.2.2.1 x.2.2.2.2.2.2.2.2.2.2.2.2.1 x.2.2.2.2.2.2.2.2.2.2.2.2.2.1 x.2.2.2.2.2.2.2.2.2.2.2.2.2.2.1 x.2.2.2.2.2.2.2.2.2.2.2.2.2.2.2.1 x.2.2.2.2.2.2.2.2.2.2.2.2.2.2.2.2.1 x.2.2.2.2.2.2.2.2.2.2.2.2.2.2.2.2.2.1 x.2.2.2.2.2.2.2.2.2.2.2.2.2.2.2.2.2.2.1 x.2.2.2.2.2.2.2.2.2.2.2.2.2.2.2.2.2.2.2.1 x.2.2.2.2.2.2.2.2.2.2.2.2.2.2.2.2.2.2.2.2.1 x.2.2.2.2.2.2.2.2.2.2.2.2.2.2.2.2.2.2.2.2.2.1 x.2.2.2.2.2.2.2.2.2.2.2.2.2.2.2.2.2.2.2.2.2.2.1 x.2.2.2.2.2.2.2.2.2.2.2.2.2.2.2.2.2.2.2.2.2.2.2.1 x.2.2.2.2.2.2.2.2.2.2.2.2.2.2.2.2.2.2.2.2.2.2.2.2.1 x.2.2.2.2.2.2.2.2.2.2.2.2.2.2.2.2.2.2.2.2.2.2.2.2.2.1 x.2.2.2.2.2.2.2.2.2.2.2.2.2.2.2.2.2.2.2.2.2.2.2.2.2.2.1 x.2.2.2.2.2.2.2.2.2.2.2.2.2.2.2.2.2.2.2.2.2.2.2.2.2.2.2 e24 e25 (fun t ht h1 h2 h3 => ?_) (fun t ht h1 => ?_) (fun hle => ?_)
   ·have hlt := (List.getElem?_eq_some_iff.1 ht).1
    have e := terms_at l i ht
    have hb : (!(decide (t < -16) || decide (16 < t) || decide (num t ≤ lastN l i))) = true := by
     rw [decide_eq_false (show ¬ t < -16 by omega), decide_eq_false (show ¬ 16 < t by omega), decide_eq_false h3]; rfl
    rw [hb, Bool.true_and] at e
    rw [e] at hk hn
    refine w25_in hl k0 k1 k2 R n (i + 1) _ (by omega) (by omega) rfl e25 (fun j t' hj ht' => ?_) hk hn
    by_cases hji : j = i
    ·subst hji
     rw [ht] at ht'
     cases ht'
     exact ⟨h1, h2⟩
    ·exact hp j t' (by omega) ht'
   ·refine hk ?_
    rw [terms_at l i ht]
    have hb : (!(decide (t < -16) || decide (16 < t) || decide (num t ≤ lastN l i))) = false := by
     rw [Bool.not_eq_false']
     simp only [Bool.or_eq_true, decide_eq_true_eq]
     omega
    rw [hb, Bool.false_and]
   ·refine hn ?_ _ rfl rfl rfl
    rw [List.drop_eq_nil_of_le hle]
    rfl
theorem w25_loop (l : List Rl) (hl : l.length < 150) (hr : ∀ r ∈ l, r.1.length < 150) (k0 k1 : Int → O) (k2 : Unit → O) : ∀ (n i : Nat), l.length - i < n → i ≤ l.length →
    w25l1 200 n (l, 0, i) k0 k1 k2 = if (l.drop i).all validB then k1 0 else k0 1
 | 0, i, h, _ => by omega
 | n + 1, i, h, hi => by
   show w25F1 200 (w25n0 200) (fun v0 v1 v2 => w25l1 200 n (v0, v1, v2) k0 k1 k2) (fun y0 => k0 y0) (fun y0 => k1 y0) l 0 i = _
   unfold w25F1
   by_cases hlt : i < l.length
   ·have hg : l[i]? = some l[i] := List.getElem?_eq_getElem hlt
    have hm := hr _ (List.mem_of_getElem? hg)
    rw [decide_eq_true (show (i : Int) < (l.length : Int) by omega), br_t, gx_at hg, drop_at hg, List.all_cons]
    generalize l[i] = r at hm
    have hx := w25_loop l hl hr k0 k1 k2 n (i + 1) (by omega) (by omega)
    have hv : validB r = (termsB 0 r.1 && !(decide (8 < (r.1.length : Int)) || decide (r.2.1 < 0) || decide (2 < r.2.1) || decide (r.2.2 < -10000) || decide (9999 < r.2.2))) := by
     unfold validB
     congr 1
     rw [Bool.eq_iff_iff]
     simp only [Bool.and_eq_true, decide_eq_true_eq, Bool.not_eq_true', Bool.or_eq_false_iff, decide_eq_false_iff_not]
     omega
    rw [hv]
    cases hb : (decide (8 < (r.1.length : Int)) || decide (r.2.1 < 0) || decide (2 < r.2.1) || decide (r.2.2 < -10000) || decide (9999 < r.2.2)) with
    | true =>
      rw [br_t, Bool.not_true, Bool.and_false, Bool.false_and]
      rfl
    | false =>
      rw [br_f, Bool.not_false, Bool.and_true]
      refine w25_in hm _ _ _ (fun z => z = _) 200 0 _ (by omega) (by omega) rfl rfl (fun j t h => by omega) (fun ht => ?_) (fun ht y e0 e1 e2 => ?_)
      ·rw [List.drop_zero] at ht
       have ht : termsB 0 r.1 = false := ht
       rw [ht, Bool.false_and]
       rfl
      ·rw [List.drop_zero] at ht
       have ht : termsB 0 r.1 = true := ht
       rw [ht, Bool.true_and]
       simp only []
       rw [e0, e1, e2]
       simp only []
       rw [nxt (by omega)]
       exact hx
   ·rw [decide_eq_false (show ¬ (i : Int) < (l.length : Int) by omega), br_f, List.drop_eq_nil_of_le (by omega)]
    rfl
theorem w25_ur (a : Int) : (some (w25r0 a) : O).bind w25un = some a := rfl
theorem w25_eq (l : List Rl) (hl : l.length < 150) (hr : ∀ r ∈ l, r.1.length < 150) : w25z 200 l = some (checkZ l) := by
 unfold w25z w25 w25G checkZ
 by_cases h32 : 32 < l.length
 ·rw [decide_eq_true (show (32 : Int) < (l.length : Int) by omega), br_t, if_pos h32]; exact w25_ur 4
 ·rw [decide_eq_false (show ¬ (32 : Int) < (l.length : Int) by omega), br_f, if_neg h32]
  refine (congrArg (fun z : O => z.bind w25un) (w25_loop l hl hr (fun z => some (w25r0 z)) (fun _ => some (w25r0 0)) (fun _ => none) 200 0 (by omega) (by omega))).trans ?_
  rw [List.drop_zero]
  cases l.all validB <;> rfl
end Go.Proofs
/- The reference: the first two rules that contradict each other. -/
namespace Go.Proofs
open Go Go.Ax Go.Ax.Alg
abbrev S13 := ((List ((List Int) × (Int × Int))) × Bool × Int × Int × Int × (List ((List Int) × (Int × Int))) × Int × Bool × Int × Int × Int × Int × Int)
abbrev Y13 := ((List ((List Int) × (Int × Int))) × Bool × Int × Int × Int × (List ((List Int) × (Int × Int))) × Int × Bool × Int × Int × Int × Int × (List ((List Int) × (Int × Int))) × Int × Bool × Int × Int)
theorem good_of_check {l : List Rl} (h : checkZ l = 0) : Good 32 l := by
 unfold checkZ at h
 split at h
 ·cases h
 ·split at h
  ·rename_i h1 h2
   exact ⟨by omega, fun r hr => List.all_eq_true.1 h2 r hr⟩
  ·cases h
end Go.Proofs
