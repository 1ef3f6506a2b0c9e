/- What the functions of rules reckon. Conditions are in the theorems. -/
import Derived.Test.YtipllfcmdnellaaDoorE7
import Derived.IntWalk
import Derived.Test.YtipllfcmdnellaaDoorF3
/- Small laws for what a run leaves to be shown. -/
namespace Go.Proofs
open Go Go.Ax Go.Ax.Alg
theorem br_t (x y : O) : br true x y = x := rfl
theorem br_f (x y : O) : br false x y = y := rfl
theorem ck_t (x : O) : ck true x = x := rfl
theorem ck_of {b : Bool} (h : b = true) (x : O) : ck b x = x := by rw [h]; rfl
theorem gx_of {α : Type} {l : List α} {n : Int} {y : α} (h0 : 0 ≤ n) (h : l[n.toNat]? = some y) (k : α → O) : gx l n k = k y := by
 show gx0 l n k = _
 unfold gx0
 rw [if_neg (by omega), h]
theorem gx_at {α : Type} {l : List α} {i : Nat} {y : α} (h : l[i]? = some y) (k : α → O) : gx l (i : Int) k = k y := gx_of (by omega) (by rw [Int.toNat_natCast]; exact h) k
theorem gn_of {α : Type} {l : List α} {n : Nat} {y : α} (h : l[n]? = some y) (k : α → O) : gn l n k = k y := by
 show gn0 l n k = _
 unfold gn0
 rw [h]
theorem gc_t {α : Type} (z : α) (l : List α) (n : Int) (k : α → O) : gc true z l n k = gx l n k := rfl
theorem wr {x : Int} (h1 : -9223372036854775808 ≤ x) (h2 : x ≤ 9223372036854775807) : IntKind.i64.wrap x = x := IntWalk.i64_in x ⟨h1, h2⟩
def I64 (x : Int) : Prop := -9223372036854775808 ≤ x ∧ x ≤ 9223372036854775807
theorem drop_at {α : Type} {l : List α} {i : Nat} {y : α} (h : l[i]? = some y) : l.drop i = y :: l.drop (i + 1) := by
 obtain ⟨hi, rfl⟩ := List.getElem?_eq_some_iff.1 h
 exact List.drop_eq_getElem_cons hi
end Go.Proofs
/- small laws -/
namespace Go.Proofs
open Go Go.Ax Go.Ax.Alg

theorem w36_p {N : Nat} {t0 : Int} {d : Int} (h : w36z N t0 = some d) : w36p N t0 = true := by unfold w36p; rw [h]; rfl
theorem w36_y0 {N : Nat} {t0 : Int} {d : Int} (h : w36z N t0 = some d) : w36y0 N t0 = d := by unfold w36y0; rw [h]; rfl
theorem w47_p {N : Nat} {r0_0 : (List Int)} {r0_1 : Int} {r0_2 : Int} {d : Bool} (h : w47z N r0_0 r0_1 r0_2 = some d) : w47p N r0_0 r0_1 r0_2 = true := by unfold w47p; rw [h]; rfl
theorem w47_y0 {N : Nat} {r0_0 : (List Int)} {r0_1 : Int} {r0_2 : Int} {d : Bool} (h : w47z N r0_0 r0_1 r0_2 = some d) : w47y0 N r0_0 r0_1 r0_2 = d := by unfold w47y0; rw [h]; rfl
theorem w46_p {N : Nat} {r0_0 : (List Int)} {r0_1 : Int} {r0_2 : Int} {d : Bool} (h : w46z N r0_0 r0_1 r0_2 = some d) : w46p N r0_0 r0_1 r0_2 = true := by unfold w46p; rw [h]; rfl
theorem w46_y0 {N : Nat} {r0_0 : (List Int)} {r0_1 : Int} {r0_2 : Int} {d : Bool} (h : w46z N r0_0 r0_1 r0_2 = some d) : w46y0 N r0_0 r0_1 r0_2 = d := by unfold w46y0; rw [h]; rfl
theorem w50_p {N : Nat} {t0 : Int} {h50_0 : (List Bool)} {d : Bool × (List Bool)} (h : w50z N t0 h50_0 = some d) : w50p N t0 h50_0 = true := by unfold w50p; rw [h]; rfl
theorem w50_y0 {N : Nat} {t0 : Int} {h50_0 : (List Bool)} {d : Bool × (List Bool)} (h : w50z N t0 h50_0 = some d) : w50y0 N t0 h50_0 = d.1 := by unfold w50y0; rw [h]; rfl
theorem w50_y1 {N : Nat} {t0 : Int} {h50_0 : (List Bool)} {d : Bool × (List Bool)} (h : w50z N t0 h50_0 = some d) : w50y1 N t0 h50_0 = d.2 := by unfold w50y1; rw [h]; rfl
theorem w61_p {N : Nat} {s0 : (List Int)} {h50_0 : (List Bool)} {d : Int × (List Bool)} (h : w61z N s0 h50_0 = some d) : w61p N s0 h50_0 = true := by unfold w61p; rw [h]; rfl
theorem w61_y0 {N : Nat} {s0 : (List Int)} {h50_0 : (List Bool)} {d : Int × (List Bool)} (h : w61z N s0 h50_0 = some d) : w61y0 N s0 h50_0 = d.1 := by unfold w61y0; rw [h]; rfl
theorem w61_y1 {N : Nat} {s0 : (List Int)} {h50_0 : (List Bool)} {d : Int × (List Bool)} (h : w61z N s0 h50_0 = some d) : w61y1 N s0 h50_0 = d.2 := by unfold w61y1; rw [h]; rfl
theorem w49_p {N : Nat} {s0 : (List Int)} {h50_0 : (List Bool)} {d : Bool × (List Bool)} (h : w49z N s0 h50_0 = some d) : w49p N s0 h50_0 = true := by unfold w49p; rw [h]; rfl
theorem w49_y0 {N : Nat} {s0 : (List Int)} {h50_0 : (List Bool)} {d : Bool × (List Bool)} (h : w49z N s0 h50_0 = some d) : w49y0 N s0 h50_0 = d.1 := by unfold w49y0; rw [h]; rfl
theorem w32_p {N : Nat} {r0_0 : (List Int)} {r0_1 : Int} {r0_2 : Int} {have1 : (List Bool)} {d : Bool} (h : w32z N r0_0 r0_1 r0_2 have1 = some d) : w32p N r0_0 r0_1 r0_2 have1 = true := by unfold w32p; rw [h]; rfl
theorem w32_y0 {N : Nat} {r0_0 : (List Int)} {r0_1 : Int} {r0_2 : Int} {have1 : (List Bool)} {d : Bool} (h : w32z N r0_0 r0_1 r0_2 have1 = some d) : w32y0 N r0_0 r0_1 r0_2 have1 = d := by unfold w32y0; rw [h]; rfl
theorem w59_p {N : Nat} {s0 : (List ((List Int) × (Int × Int)))} {d : Int} (h : w59z N s0 = some d) : w59p N s0 = true := by unfold w59p; rw [h]; rfl
theorem w59_y0 {N : Nat} {s0 : (List ((List Int) × (Int × Int)))} {d : Int} (h : w59z N s0 = some d) : w59y0 N s0 = d := by unfold w59y0; rw [h]; rfl
theorem w45_p {N : Nat} {s0 : (List ((List Int) × (Int × Int)))} {d : Bool} (h : w45z N s0 = some d) : w45p N s0 = true := by unfold w45p; rw [h]; rfl
theorem w45_y0 {N : Nat} {s0 : (List ((List Int) × (Int × Int)))} {d : Bool} (h : w45z N s0 = some d) : w45y0 N s0 = d := by unfold w45y0; rw [h]; rfl
theorem w29_p {N : Nat} {l0 : (List ((List Int) × (Int × Int)))} {d : Int} (h : w29z N l0 = some d) : w29p N l0 = true := by unfold w29p; rw [h]; rfl
theorem w29_y0 {N : Nat} {l0 : (List ((List Int) × (Int × Int)))} {d : Int} (h : w29z N l0 = some d) : w29y0 N l0 = d := by unfold w29y0; rw [h]; rfl
theorem w16_p {N : Nat} {l0 : (List ((List Int) × (Int × Int)))} {have1 : (List Bool)} {d : Int × Int × Int × Int} (h : w16z N l0 have1 = some d) : w16p N l0 have1 = true := by unfold w16p; rw [h]; rfl
theorem w16_y0 {N : Nat} {l0 : (List ((List Int) × (Int × Int)))} {have1 : (List Bool)} {d : Int × Int × Int × Int} (h : w16z N l0 have1 = some d) : w16y0 N l0 have1 = d.1 := by unfold w16y0; rw [h]; rfl
theorem w16_y1 {N : Nat} {l0 : (List ((List Int) × (Int × Int)))} {have1 : (List Bool)} {d : Int × Int × Int × Int} (h : w16z N l0 have1 = some d) : w16y1 N l0 have1 = d.2.1 := by unfold w16y1; rw [h]; rfl
theorem w16_y2 {N : Nat} {l0 : (List ((List Int) × (Int × Int)))} {have1 : (List Bool)} {d : Int × Int × Int × Int} (h : w16z N l0 have1 = some d) : w16y2 N l0 have1 = d.2.2.1 := by unfold w16y2; rw [h]; rfl
theorem w16_y3 {N : Nat} {l0 : (List ((List Int) × (Int × Int)))} {have1 : (List Bool)} {d : Int × Int × Int × Int} (h : w16z N l0 have1 = some d) : w16y3 N l0 have1 = d.2.2.2 := by unfold w16y3; rw [h]; rfl
theorem w20_p {N : Nat} {remedy0_0 : Int} {remedy0_1 : Int} {remedy0_2 : Int} {fault1_0 : Int} {fault1_1 : Int} {fault1_2 : Int} {d : Bool} (h : w20z N remedy0_0 remedy0_1 remedy0_2 fault1_0 fault1_1 fault1_2 = some d) : w20p N remedy0_0 remedy0_1 remedy0_2 fault1_0 fault1_1 fault1_2 = true := by unfold w20p; rw [h]; rfl
theorem w20_y0 {N : Nat} {remedy0_0 : Int} {remedy0_1 : Int} {remedy0_2 : Int} {fault1_0 : Int} {fault1_1 : Int} {fault1_2 : Int} {d : Bool} (h : w20z N remedy0_0 remedy0_1 remedy0_2 fault1_0 fault1_1 fault1_2 = some d) : w20y0 N remedy0_0 remedy0_1 remedy0_2 fault1_0 fault1_1 fault1_2 = d := by unfold w20y0; rw [h]; rfl
theorem w18_p {N : Nat} {n0 : Int} {most1 : Int} {d : Int} (h : w18z N n0 most1 = some d) : w18p N n0 most1 = true := by unfold w18p; rw [h]; rfl
theorem w18_y0 {N : Nat} {n0 : Int} {most1 : Int} {d : Int} (h : w18z N n0 most1 = some d) : w18y0 N n0 most1 = d := by unfold w18y0; rw [h]; rfl
theorem w28_p {N : Nat} {l0 : (List Int)} {i1 : Int} {most2 : Int} {d : Int} (h : w28z N l0 i1 most2 = some d) : w28p N l0 i1 most2 = true := by unfold w28p; rw [h]; rfl
theorem w28_y0 {N : Nat} {l0 : (List Int)} {i1 : Int} {most2 : Int} {d : Int} (h : w28z N l0 i1 most2 = some d) : w28y0 N l0 i1 most2 = d := by unfold w28y0; rw [h]; rfl
theorem w9_p {N : Nat} {l0 : (List Int)} {d : (List ((List Int) × (Int × Int)))} (h : w9z N l0 = some d) : w9p N l0 = true := by unfold w9p; rw [h]; rfl
theorem w9_y0 {N : Nat} {l0 : (List Int)} {d : (List ((List Int) × (Int × Int)))} (h : w9z N l0 = some d) : w9y0 N l0 = d := by unfold w9y0; rw [h]; rfl
theorem w12_p {N : Nat} {l0 : (List ((List Int) × (Int × Int)))} {d : (List ((List Int) × (Int × Int)))} (h : w12z N l0 = some d) : w12p N l0 = true := by unfold w12p; rw [h]; rfl
theorem w12_y0 {N : Nat} {l0 : (List ((List Int) × (Int × Int)))} {d : (List ((List Int) × (Int × Int)))} (h : w12z N l0 = some d) : w12y0 N l0 = d := by unfold w12y0; rw [h]; rfl
end Go.Proofs
/- Which rules are valid, and which apply. -/
namespace Go.Proofs
open Go Go.Ax Go.Ax.Alg
abbrev Rl := List Int × (Int × Int)
theorem lim_of {n b : Nat} (h : n * b ≤ 140737488355328) (h2 : n ≤ 140737488355327) : lim n b = true := decide_eq_true ⟨h, h2⟩
theorem nxt {i : Nat} (h : i < 1000000) : IntKind.i64.wrap ((i : Int) + 1) = ((i + 1 : Nat) : Int) := by rw [wr (by omega) (by omega)]; omega
def num (t : Int) : Int := max t (-t)
theorem w36_eq {N : Nat} {t : Int} (h : -100 ≤ t) (h2 : t ≤ 100) : w36z N t = some (num t) := by
 unfold w36z w36 w36G num
 rw [wr (by omega) (by omega)]
 rfl
def termsB : Int → List Int → Bool
 | _, [] => true
 | last, t :: r => !(decide (t < -16) || decide (16 < t) || decide (num t ≤ last)) && termsB (num t) r
def validB (r : Rl) : Bool := termsB 0 r.1 && (decide ((r.1.length : Int) ≤ 8) && decide (0 ≤ r.2.1) && decide (r.2.1 < 3) && decide (-10000 ≤ r.2.2) && decide (r.2.2 ≤ 9999))
theorem w47_loop (l : List Int) (hl : l.length < 150) (b : Bool) (c : List Int) (x y : Int) (k0 : Bool → O) (k1 : Bool × List Int × Int × Int → O) (k2 : Unit → O) : ∀ (n i : Nat) (last : Int), l.length - i < n → i ≤ l.length →
    w47l0 200 n (b, last, l, l.length, i, c, x, y) k0 k1 k2 = if termsB last (l.drop i) then k1 (b, c, x, y) else k0 false
 | 0, i, _, h, _ => by omega
 | n + 1, i, last, h, hi => by
   show w47F0 200 _ _ _ b l l.length c x y last i = _
   unfold w47F0
   by_cases hlt : i < l.length
   ·have hg : l[i]? = some l[i] := List.getElem?_eq_getElem hlt
    rw [decide_eq_true (show (i : Int) < (l.length : Int) by omega), br_t, gx_at hg, drop_at hg, nxt (by omega)]
    generalize l[i] = t
    show _ = if (!(decide (t < -16) || decide (16 < t) || decide (num t ≤ last)) && termsB (num t) (l.drop (i + 1))) then _ else _
    cases hb : (decide (t < -16) || decide (16 < t)) with
    | true => rfl
    | false =>
      have ht : -16 ≤ t ∧ t ≤ 16 := by simp at hb; omega
      have h36 := w36_eq (N := 200) (t := t) (by omega) (by omega)
      rw [ck_of (show (!!false || w36p 200 t) = true from w36_p h36), ck_of (w36_p h36), w36_y0 h36]
      cases hc : decide (num t ≤ last) with
      | true => rfl
      | false => exact w47_loop l hl b c x y k0 k1 k2 n (i + 1) (num t) (by omega) (by omega)
   ·rw [decide_eq_false (show ¬ (i : Int) < (l.length : Int) by omega), br_f, List.drop_eq_nil_of_le (by omega)]
    rfl
theorem w47_eq (r : Rl) (hl : r.1.length < 150) : w47z 200 r.1 r.2.1 r.2.2 = some (validB r) := by
 unfold w47z w47 w47G
 refine (congrArg (fun z : O => z.bind w47un) (w47_loop r.1 hl false r.1 r.2.1 r.2.2 (fun z4 => some (w47r0 z4)) (fun y => some (w47r0 (decide ((↑y.2.1.length : Int) ≤ 8) && decide (0 ≤ y.2.2.1) && decide (y.2.2.1 < 3) && decide (-10000 ≤ y.2.2.2) && decide (y.2.2.2 ≤ 9999)))) (fun _ => none) 200 0 0 (by omega) (by omega))).trans ?_
 rw [List.drop_zero]
 unfold validB
 cases termsB 0 r.1 <;> rfl
theorem w46_eq (r : Rl) (hl : r.1.length < 150) : w46z 200 r.1 r.2.1 r.2.2 = some (!validB r) := by
 unfold w46z w46 w46G
 have h := w47_eq r hl
 rw [ck_of (w47_p h), w47_y0 h]
 rfl
theorem w59_loop (l : List Rl) (hl : l.length < 150) (hr : ∀ r ∈ l, r.1.length < 150) (z : Int) (k0 k1 : Int → O) (k2 : Unit → O) : ∀ (n i : Nat), l.length - i < n → i ≤ l.length →
    w59l0 200 n (l, z, l.length, i) k0 k1 k2 = match (l.drop i).findIdx? (fun r => !validB r) with | none => k1 z | some j => k0 ((i + j : Nat) : Int)
 | 0, i, h, _ => by omega
 | n + 1, i, h, hi => by
   show w59F0 200 _ _ _ l z l.length i = _
   unfold w59F0
   by_cases hlt : i < l.length
   ·have hg : l[i]? = some l[i] := List.getElem?_eq_getElem hlt
    have hm := hr _ (List.mem_of_getElem? hg)
    rw [decide_eq_true (show (i : Int) < (l.length : Int) by omega), br_t, gx_at hg, drop_at hg, nxt (by omega), List.findIdx?_cons]
    generalize l[i] = r at hm
    have h46 := w46_eq r hm
    rw [ck_of (w46_p h46), w46_y0 h46]
    cases hb : validB r with
    | false => rfl
    | true =>
      refine (w59_loop l hl hr z k0 k1 k2 n (i + 1) (by omega) (by omega)).trans ?_
      show _ = match (Option.map (fun i => i + 1) (List.findIdx? (fun r => !validB r) (l.drop (i + 1)))) with | none => k1 z | some j => k0 ((i + j : Nat) : Int)
      cases (l.drop (i + 1)).findIdx? (fun r => !validB r) with
      | none => rfl
      | some j =>
        show k0 ((i + 1 + j : Nat) : Int) = k0 ((i + (j + 1) : Nat) : Int)
        rw [show i + 1 + j = i + (j + 1) by omega]
   ·rw [decide_eq_false (show ¬ (i : Int) < (l.length : Int) by omega), br_f, List.drop_eq_nil_of_le (by omega)]
    rfl
def checkZ (l : List Rl) : Int := if 32 < l.length then 4 else if l.all validB then 0 else 1
theorem w59_eq (l : List Rl) (hl : l.length < 150) (hr : ∀ r ∈ l, r.1.length < 150) : w59z 200 l = some (match l.findIdx? (fun r => !validB r) with | none => -1 | some j => (j : Int)) := by
 unfold w59z w59 w59G
 refine (congrArg (fun z : O => z.bind w59un) (w59_loop l hl hr 0 (fun z4 => some (w59r0 z4)) (fun _ => some (w59r0 (-1))) (fun _ => none) 200 0 (by omega) (by omega))).trans ?_
 rw [List.drop_zero]
 cases l.findIdx? (fun r => !validB r) with
 | none => rfl
 | some j =>
   show (some (w59r0 ((0 + j : Nat) : Int)) : O).bind w59un = some (j : Int)
   rw [Nat.zero_add]; rfl
theorem w45_eq (l : List Rl) (hl : l.length < 150) (hr : ∀ r ∈ l, r.1.length < 150) : w45z 200 l = some (!l.all validB) := by
 unfold w45z w45 w45G
 have h := w59_eq l hl hr
 rw [ck_of (w59_p h), w59_y0 h]
 have e : decide ((0 : Int) ≤ match l.findIdx? (fun r => !validB r) with | none => -1 | some j => (j : Int)) = !l.all validB := by
  cases h : l.findIdx? (fun r => !validB r) with
  | none =>
    have := List.findIdx?_eq_none_iff.1 h
    have h2 : l.all validB = true := List.all_eq_true.2 fun x hx => by have := this x hx; simp at this; exact this
    rw [h2]; rfl
  | some j =>
    obtain ⟨hj, h1, _⟩ := List.findIdx?_eq_some_iff_getElem.1 h
    have h2 : l.all validB = false := by
     cases hq : l.all validB with
     | false => rfl
     | true => rw [List.all_eq_true.1 hq _ (List.getElem_mem hj)] at h1; exact absurd h1 (by decide)
    rw [h2]
    exact decide_eq_true (show (0 : Int) ≤ (j : Int) by omega)
 rw [e]
 rfl
theorem w29_eq (l : List Rl) (hl : l.length < 150) (hr : ∀ r ∈ l, r.1.length < 150) : w29z 200 l = some (checkZ l) := by
 unfold w29z w29 w29G checkZ
 have h := w45_eq l hl hr
 by_cases h32 : 32 < l.length
 ·rw [decide_eq_true (show (32 : Int) < (l.length : Int) by omega), br_t, if_pos h32]; rfl
 ·rw [decide_eq_false (show ¬ (32 : Int) < (l.length : Int) by omega), br_f, if_neg h32, ck_of (w45_p h), w45_y0 h]
  cases l.all validB <;> rfl
end Go.Proofs
/- Which rules apply, and what two rules have in common. -/
namespace Go.Proofs
open Go Go.Ax Go.Ax.Alg
def termOk (l : List Int) : Prop := ∀ t ∈ l, -16 ≤ t ∧ t ≤ 16 ∧ 1 ≤ num t
def holdT (H : List Bool) (t : Int) : Bool := H.getD (num t - 1).toNat false == decide (0 < t)
def appB (r : Rl) (H : List Bool) : Bool := r.1.all (holdT H)
theorem num_le {t : Int} (h : -16 ≤ t ∧ t ≤ 16 ∧ 1 ≤ num t) : 1 ≤ num t ∧ num t ≤ 16 := by unfold num at *; omega
theorem w50_eq {t : Int} {H : List Bool} (hH : H.length = 16) (h : -16 ≤ t ∧ t ≤ 16 ∧ 1 ≤ num t) : w50z 200 t H = some (!holdT H t, H) := by
 unfold w50z w50 w50G
 have h36 := w36_eq (N := 200) (t := t) (by omega) (by omega)
 have hn := num_le h
 rw [ck_of (w36_p h36), w36_y0 h36, wr (by omega) (by omega)]
 have hg : H[(num t - 1).toNat]? = some (H.getD (num t - 1).toNat false) := by
  rw [List.getD_eq_getElem?_getD, List.getElem?_eq_getElem (by omega)]; rfl
 rw [gx_of (by omega) hg]
 rfl
theorem w61_loop (l : List Int) (hl : l.length < 150) (ht : termOk l) {H : List Bool} (hH : H.length = 16) (z : Int) (k0 k1 : Int × List Bool → O) (k2 : Unit → O) : ∀ (n i : Nat), l.length - i < n → i ≤ l.length →
    w61l0 200 n (l, z, l.length, i, H) k0 k1 k2 = match (l.drop i).findIdx? (fun t => !holdT H t) with | none => k1 (z, H) | some j => k0 (((i + j : Nat) : Int), H)
 | 0, i, h, _ => by omega
 | n + 1, i, h, hi => by
   show w61F0 200 _ _ _ l z l.length i H = _
   unfold w61F0
   by_cases hlt : i < l.length
   ·have hg : l[i]? = some l[i] := List.getElem?_eq_getElem hlt
    have hm := ht _ (List.mem_of_getElem? hg)
    rw [decide_eq_true (show (i : Int) < (l.length : Int) by omega), br_t, gx_at hg, drop_at hg, nxt (by omega), List.findIdx?_cons]
    generalize l[i] = r at hm
    have h50 := w50_eq hH hm
    rw [ck_of (w50_p h50), w50_y0 h50, w50_y1 h50]
    cases hb : holdT H r with
    | false => rfl
    | true =>
      refine (w61_loop l hl ht hH z k0 k1 k2 n (i + 1) (by omega) (by omega)).trans ?_
      show _ = match (Option.map (fun i => i + 1) (List.findIdx? (fun r => !holdT H r) (l.drop (i + 1)))) with | none => k1 (z, H) | some j => k0 (((i + j : Nat) : Int), H)
      cases (l.drop (i + 1)).findIdx? (fun r => !holdT H r) with
      | none => rfl
      | some j =>
        show k0 (((i + 1 + j : Nat) : Int), H) = k0 (((i + (j + 1) : Nat) : Int), H)
        rw [show i + 1 + j = i + (j + 1) by omega]
   ·rw [decide_eq_false (show ¬ (i : Int) < (l.length : Int) by omega), br_f, List.drop_eq_nil_of_le (by omega)]
    rfl
theorem w61_eq {l : List Int} (hl : l.length < 150) (ht : termOk l) {H : List Bool} (hH : H.length = 16) : w61z 200 l H = some ((match l.findIdx? (fun t => !holdT H t) with | none => -1 | some j => (j : Int)), H) := by
 unfold w61z w61 w61G
 refine (congrArg (fun z : O => z.bind w61un) (w61_loop l hl ht hH 0 (fun y => some (w61r0 y.1 y.2)) (fun y => some (w61r0 (-1) y.2)) (fun _ => none) 200 0 (by omega) (by omega))).trans ?_
 rw [List.drop_zero]
 cases l.findIdx? (fun t => !holdT H t) with
 | none => rfl
 | some j =>
   show (some (w61r0 ((0 + j : Nat) : Int) H) : O).bind w61un = some ((j : Int), H)
   rw [Nat.zero_add]; rfl
theorem w49_eq {l : List Int} (hl : l.length < 150) (ht : termOk l) {H : List Bool} (hH : H.length = 16) : w49z 200 l H = some (!l.all (holdT H), H) := by
 unfold w49z w49 w49G
 have h := w61_eq hl ht hH
 rw [ck_of (w61_p h), w61_y0 h, w61_y1 h]
 have e : decide ((0 : Int) ≤ match l.findIdx? (fun t => !holdT H t) with | none => -1 | some j => (j : Int)) = !l.all (holdT H) := by
  cases h : l.findIdx? (fun t => !holdT H t) with
  | none =>
    have := List.findIdx?_eq_none_iff.1 h
    have h2 : l.all (holdT H) = true := List.all_eq_true.2 fun x hx => by have := this x hx; simp at this; exact this
    rw [h2]; rfl
  | some j =>
    obtain ⟨hj, h1, _⟩ := List.findIdx?_eq_some_iff_getElem.1 h
    have h2 : l.all (holdT H) = false := by
     cases hq : l.all (holdT H) with
     | false => rfl
     | true => rw [List.all_eq_true.1 hq _ (List.getElem_mem hj)] at h1; exact absurd h1 (by decide)
    rw [h2]
    exact decide_eq_true (show (0 : Int) ≤ (j : Int) by omega)
 show (some (w49r0 (decide ((0 : Int) ≤ match l.findIdx? (fun t => !holdT H t) with | none => -1 | some j => (j : Int))) H) : O).bind w49un = _
 rw [e]
 rfl
theorem w32_eq {r : Rl} (hl : r.1.length < 150) (ht : termOk r.1) {H : List Bool} (hH : H.length = 16) : w32z 200 r.1 r.2.1 r.2.2 H = some (appB r H) := by
 unfold w32z w32 w32G appB
 have h := w49_eq hl ht hH
 rw [ck_of (w49_p h), w49_y0 h]
 cases r.1.all (holdT H) <;> rfl
theorem terms_ok : ∀ (l : List Int) (last : Int), 0 ≤ last → termsB last l = true → termOk l ∧ ∀ t ∈ l, last < num t
 | [], _, _, _ => by constructor <;> intro x h <;> cases h
 | t :: r, last, h0, h => by
   have h' : (!(decide (t < -16) || decide (16 < t) || decide (num t ≤ last)) && termsB (num t) r) = true := h
   simp at h'
   obtain ⟨⟨⟨h1, h2⟩, h3⟩, h4⟩ := h'
   obtain ⟨h5, h6⟩ := terms_ok r (num t) (by omega) h4
   refine ⟨fun x hx => ?_, fun x hx => ?_⟩
   ·rcases List.mem_cons.1 hx with hx | hx
    ·rw [hx]; exact ⟨h1, h2, by omega⟩
    ·exact h5 x hx
   ·rcases List.mem_cons.1 hx with hx | hx
    ·rw [hx]; exact h3
    ·have := h6 x hx; omega
theorem terms_once : ∀ (l : List Int) (last : Int), 0 ≤ last → termsB last l = true → ∀ s ∈ l, ∀ t ∈ l, num s = num t → s = t
 | [], _, _, _ => fun _ h => by cases h
 | t :: r, last, h0, h => by
   have h' : (!(decide (t < -16) || decide (16 < t) || decide (num t ≤ last)) && termsB (num t) r) = true := h
   simp at h'
   obtain ⟨⟨⟨h1, h2⟩, h3⟩, h4⟩ := h'
   have h6 := (terms_ok r (num t) (by omega) h4).2
   intro x hx y hy e
   rcases List.mem_cons.1 hx with hx | hx <;> rcases List.mem_cons.1 hy with hy | hy
   ·rw [hx, hy]
   ·have := h6 y hy; rw [hx] at e; omega
   ·have := h6 x hx; rw [hy] at e; omega
   ·exact terms_once r (num t) (by omega) h4 x hx y hy e
structure VR (r : Rl) : Prop where
 t : termOk r.1
 o : ∀ s ∈ r.1, ∀ t ∈ r.1, num s = num t → s = t
 l : r.1.length ≤ 8
 d0 : 0 ≤ r.2.1
 d3 : r.2.1 < 3
 a0 : -10000 ≤ r.2.2
 a1 : r.2.2 ≤ 9999
theorem VR.of {r : Rl} (h : validB r = true) : VR r := by
 unfold validB at h
 simp only [Bool.and_eq_true, decide_eq_true_eq] at h
 obtain ⟨h1, ⟨⟨⟨h2, h3⟩, h4⟩, h5⟩, h6⟩ := h
 exact ⟨(terms_ok _ 0 (by omega) h1).1, terms_once _ 0 (by omega) h1, by omega, h3, h4, h5, h6⟩
end Go.Proofs
/- Features, and what two rules have in common. -/
namespace Go.Proofs
open Go Go.Ax Go.Ax.Alg
theorem u64_pos (x : Int) : 0 ≤ IntKind.u64.wrap x := by
 show 0 ≤ x % _
 exact Int.emod_nonneg _ (by decide)
end Go.Proofs
/- The remedy that rules demand. -/
namespace Go.Proofs
open Go Go.Ax Go.Ax.Alg
def upL (H : List Bool) (d : Int) (a : Int) (r : Rl) : Int := if appB r H && decide (r.2.1 = d) then max a r.2.2 else a
def upM (H : List Bool) (d : Int) (b : Int) (r : Rl) : Int := if appB r H && decide (r.2.1 = d) && decide (r.2.2 < 0) then min b (-1 - r.2.2) else b
theorem w16_loop0 (H : List Bool) (hH : H.length = 16) (l : List Rl) (hl : l.length < 150) (hr : ∀ r ∈ l, VR r) (z e0 e1 e2 : Int) (k0 : Int × Int × Int × Int × Int × Int × Int × Int × Int × Int → O) (k1 k2 : Unit → O) : ∀ (n i : Nat) (a0 a1 a2 b0 b1 b2 : Int), l.length - i < n → i ≤ l.length →
    w16l0 200 n (H, z, l, l.length, i, e0, e1, e2, a0, a1, a2, b0, b1, b2) k0 k1 k2 = k0 (z, e0, e1, e2, (l.drop i).foldl (upL H 0) a0, (l.drop i).foldl (upL H 1) a1, (l.drop i).foldl (upL H 2) a2, (l.drop i).foldl (upM H 0) b0, (l.drop i).foldl (upM H 1) b1, (l.drop i).foldl (upM H 2) b2)
 | 0, i, _, _, _, _, _, _, h, _ => by omega
 | n + 1, i, a0, a1, a2, b0, b1, b2, h, hi => by
   show w16F0 200 _ _ H z l l.length e0 e1 e2 i a0 a1 a2 b0 b1 b2 = _
   unfold w16F0
   by_cases hlt : i < l.length
   ·have hg : l[i]? = some l[i] := List.getElem?_eq_getElem hlt
    have hm := hr _ (List.mem_of_getElem? hg)
    rw [decide_eq_true (show (i : Int) < (l.length : Int) by omega), br_t, gx_at hg, drop_at hg, nxt (by omega)]
    generalize l[i] = r at hm
    have h8 := hm.l
    have h32 := w32_eq (r := r) (by omega) hm.t hH
    have ih := fun a0 a1 a2 b0 b1 b2 => w16_loop0 H hH l hl hr z e0 e1 e2 k0 k1 k2 n (i + 1) a0 a1 a2 b0 b1 b2 (by omega) (by omega)
    rw [ck_of (w32_p h32), w32_y0 h32]
    simp only [List.foldl_cons]
    obtain ⟨t, d, a⟩ := r
    have hd : d = 0 ∨ d = 1 ∨ d = 2 := by have := hm.d0; have := hm.d3; simp only [] at *; omega
    cases hb : appB (t, d, a) H with
    | false =>
      rw [show (!false) = true from rfl, br_t]
      unfold upL upM
      simp only [hb, Bool.false_and]
      exact ih a0 a1 a2 b0 b1 b2
    | true =>
      have hw : IntKind.i64.wrap (-1 - a) = -1 - a := by have := hm.a0; have := hm.a1; simp only [] at *; exact wr (by omega) (by omega)
      have eL : ∀ d' x, upL H d' x (t, d, a) = if decide (d = d') then max x a else x := fun d' x => by unfold upL; rw [hb, Bool.true_and]
      have eM : ∀ d' x, upM H d' x (t, d, a) = if decide (d = d') && decide (a < 0) then min x (-1 - a) else x := fun d' x => by unfold upM; rw [hb, Bool.true_and]
      simp only [eL, eM, hw]
      rw [show (!true) = false from rfl, br_f]
      rcases hd with rfl | rfl | rfl
      ·by_cases ha : a < 0
       ·rw [decide_eq_true ha]; exact ih _ _ _ _ _ _
       ·rw [decide_eq_false ha]; exact ih _ _ _ _ _ _
      ·by_cases ha : a < 0
       ·rw [decide_eq_true ha]; exact ih _ _ _ _ _ _
       ·rw [decide_eq_false ha]; exact ih _ _ _ _ _ _
      ·by_cases ha : a < 0
       ·rw [decide_eq_true ha]; exact ih _ _ _ _ _ _
       ·rw [decide_eq_false ha]; exact ih _ _ _ _ _ _
   ·rw [decide_eq_false (show ¬ (i : Int) < (l.length : Int) by omega), br_f, List.drop_eq_nil_of_le (by omega)]
    rfl
theorem w16_loop1 (z e0 e1 e2 a0 a1 a2 b0 b1 b2 : Int) (k0 : Int × Int × Int × Int → O) (k1 : Int × Int × Int × Int × Int × Int × Int → O) (k2 : Unit → O) :
    w16l1 200 200 (z, 0, e0, e1, e2, a0, a1, a2, b0, b1, b2) k0 k1 k2 = if b0 < a0 ∨ b1 < a1 ∨ b2 < a2 then k0 (18, 0, 0, 0) else k1 (z, e0, e1, e2, a0, a1, a2) := by
 show br (decide (b0 < a0)) (k0 (18, 0, 0, 0)) (br (decide (b1 < a1)) (k0 (18, 0, 0, 0)) (br (decide (b2 < a2)) (k0 (18, 0, 0, 0)) (k1 (z, e0, e1, e2, a0, a1, a2)))) = _
 by_cases h0 : b0 < a0
 ·rw [decide_eq_true h0, br_t, if_pos (Or.inl h0)]
 ·by_cases h1 : b1 < a1
  ·rw [decide_eq_false h0, br_f, decide_eq_true h1, br_t, if_pos (Or.inr (Or.inl h1))]
  ·by_cases h2 : b2 < a2
   ·rw [decide_eq_false h0, br_f, decide_eq_false h1, br_f, decide_eq_true h2, br_t, if_pos (Or.inr (Or.inr h2))]
   ·rw [decide_eq_false h0, br_f, decide_eq_false h1, br_f, decide_eq_false h2, br_f, if_neg (by omega)]
def lz (l : List Rl) (H : List Bool) (d : Int) : Int := l.foldl (upL H d) 0
def mz (l : List Rl) (H : List Bool) (d : Int) : Int := l.foldl (upM H d) 9999
def badZ (l : List Rl) (H : List Bool) : Prop := mz l H 0 < lz l H 0 ∨ mz l H 1 < lz l H 1 ∨ mz l H 2 < lz l H 2
instance (l : List Rl) (H : List Bool) : Decidable (badZ l H) := by unfold badZ; infer_instance
def leastZ (l : List Rl) (H : List Bool) : Int × Int × Int × Int := if badZ l H then (0, 0, 0, 18) else (lz l H 0, lz l H 1, lz l H 2, 0)
theorem w16_ur (a b c d : Int) : (some (w16r0 a b c d) : O).bind w16un = some (a, b, c, d) := rfl
theorem check_ok {l : List Rl} (hl : l.length ≤ 32) (hv : ∀ r ∈ l, validB r = true) : checkZ l = 0 := by
 unfold checkZ
 rw [if_neg (by omega), if_pos (List.all_eq_true.2 hv)]
theorem w16_eq {l : List Rl} (hl : l.length ≤ 32) (hv : ∀ r ∈ l, validB r = true) {H : List Bool} (hH : H.length = 16) : w16z 200 l H = some (leastZ l H) := by
 unfold w16z w16 w16G leastZ
 have hr : ∀ r ∈ l, VR r := fun r h => VR.of (hv r h)
 have h29 := w29_eq l (by omega) (fun r h => by have := (hr r h).l; omega)
 rw [check_ok hl hv] at h29
 rw [ck_of (w29_p h29), w29_y0 h29, show decide ((0 : Int) ≠ 0) = false from rfl, br_f, decide_eq_false (show ¬ ((H.length : Int) ≠ 16) by omega), br_f]
 refine (congrArg (fun z : O => z.bind w16un) (w16_loop0 H hH l (by omega) hr 0 0 0 0 _ _ _ 200 0 0 0 0 9999 9999 9999 (by omega) (by omega))).trans ?_
 refine (congrArg (fun z : O => z.bind w16un) (w16_loop1 0 0 0 0 _ _ _ _ _ _ _ _ _)).trans ?_
 rw [List.drop_zero]
 show ((if badZ l H then some (w16r0 0 0 0 18) else some (w16r0 (lz l H 0) (lz l H 1) (lz l H 2) 0) : O)).bind w16un = _
 by_cases hb : badZ l H
 ·rw [if_pos hb, if_pos hb]; rfl
 ·rw [if_neg hb, if_neg hb]; rfl
def worseZ (a0 a1 a2 b0 b1 b2 : Int) : Bool := decide (a0 < b0 ∨ a1 < b1 ∨ a2 < b2)
theorem w20_eq (a0 a1 a2 b0 b1 b2 : Int) : w20z 200 a0 a1 a2 b0 b1 b2 = some (worseZ a0 a1 a2 b0 b1 b2) := by
 unfold w20z w20 w20G worseZ
 show (br (decide (a0 < b0)) (some (w20r0 true)) (br (decide (a1 < b1)) (some (w20r0 true)) (br (decide (a2 < b2)) (some (w20r0 true)) (some (w20r0 false))))).bind w20un = _
 by_cases h0 : a0 < b0
 ·rw [decide_eq_true h0, br_t, decide_eq_true (Or.inl h0)]; rfl
 ·by_cases h1 : a1 < b1
  ·rw [decide_eq_false h0, br_f, decide_eq_true h1, br_t, decide_eq_true (Or.inr (Or.inl h1))]; rfl
  ·by_cases h2 : a2 < b2
   ·rw [decide_eq_false h0, br_f, decide_eq_false h1, br_f, decide_eq_true h2, br_t, decide_eq_true (Or.inr (Or.inr h2))]; rfl
   ·rw [decide_eq_false h0, br_f, decide_eq_false h1, br_f, decide_eq_false h2, br_f, decide_eq_false (by omega)]; rfl
end Go.Proofs
