/- Whether pages are the same. Conditions are in the theorems. -/
import Derived.Test.YtpmhkjnnolpknaaDoorGa
/- Whether rows are equal. -/
namespace Go.Proofs
open Go Go.Ax Go.Ax.Alg
theorem w53_ur (x : Bool) : (some (w53r0 x) : O).bind w53un = some x := rfl
theorem w53_loop (a b : List UInt8) (hab : a.length = b.length) (hs : a.length < 1000) (x2 : Bool) (k0 k1 : Bool → O) (k2 : Unit → O) : ∀ (n i : Nat), a.length - i < n → i ≤ a.length →
    w53l0 100 n (a, b, x2, a.length, i) k0 k1 k2 = if a.drop i = b.drop i then k1 x2 else k0 false
  | 0, i, h, _ => by omega
  | n + 1, i, h, hi => by
    show w53F0 100 _ _ _ a b x2 a.length i = _
    unfold w53F0
    by_cases hlt : i < a.length
    · have hg : a[i]? = some a[i] := List.getElem?_eq_getElem hlt
      have hg' : b[i]? = some (b[i]'(by omega)) := List.getElem?_eq_getElem (by omega)
      have e : IntKind.i64.wrap ((i : Int) + 1) = ((i + 1 : Nat) : Int) := by rw [wr (by omega) (by omega)]; omega
      rw [decide_eq_true (show (i : Int) < (a.length : Int) by omega), br_t, gx_at hg, gx_at hg', drop_at hg, drop_at hg']
      by_cases hc : a[i] = b[i]'(by omega)
      · rw [decide_eq_false (by simpa using hc), br_f, e, hc]
        refine (w53_loop a b hab hs x2 k0 k1 k2 n (i + 1) (by omega) (by omega)).trans ?_
        simp only [List.cons.injEq, true_and]
      · rw [decide_eq_true (by simpa using hc), br_t, if_neg (fun h => hc (List.cons.inj h).1)]
    · rw [decide_eq_false (show ¬ (i : Int) < (a.length : Int) by omega), br_f, List.drop_eq_nil_of_le (by omega), List.drop_eq_nil_of_le (by omega), if_pos rfl]
theorem w53_eq {a b : List UInt8} (ha : a.length < 90) : w53z 100 a b = some (decide (a = b)) := by
  unfold w53z w53 w53G
  by_cases hl : a.length = b.length
  · rw [show decide ((a.length : Int) ≠ (b.length : Int)) = false by simp; omega, br_f]
    have h := w53_loop a b hl (by omega) false (fun z7 => some (w53r0 z7)) (fun _ => some (w53r0 true)) (fun _ => none) 100 0 (by omega) (by omega)
    rw [List.drop_zero, List.drop_zero] at h
    refine (congrArg (fun z : O => z.bind w53un) h).trans ?_
    by_cases hab : a = b
    · rw [if_pos hab, decide_eq_true hab]; exact w53_ur _
    · rw [if_neg hab, decide_eq_false hab]; exact w53_ur _
  · rw [show decide ((a.length : Int) ≠ (b.length : Int)) = true by simp; omega, br_t, decide_eq_false (fun h => hl (by rw [h]))]
    exact w53_ur _
theorem w51_ur (x : Bool) : (some (w51r0 x) : O).bind w51un = some x := rfl
theorem w51_loop (a b : List (List UInt8)) (hab : a.length = b.length) (hs : a.length < 1000) (ha : ∀ l ∈ a, l.length < 90) (x1 : Bool) (k0 k1 : Bool → O) (k2 : Unit → O) : ∀ (n i : Nat), a.length - i < n → i ≤ a.length →
    w51l0 100 n (b, x1, a, a.length, i) k0 k1 k2 = if a.drop i = b.drop i then k1 x1 else k0 false
  | 0, i, h, _ => by omega
  | n + 1, i, h, hi => by
    show w51F0 100 _ _ _ b x1 a a.length i = _
    unfold w51F0
    by_cases hlt : i < a.length
    · have hg : a[i]? = some a[i] := List.getElem?_eq_getElem hlt
      have hg' : b[i]? = some (b[i]'(by omega)) := List.getElem?_eq_getElem (by omega)
      have e : IntKind.i64.wrap ((i : Int) + 1) = ((i + 1 : Nat) : Int) := by rw [wr (by omega) (by omega)]; omega
      have h53 := w53_eq (b := b[i]'(by omega)) (ha a[i] (List.getElem_mem hlt))
      rw [decide_eq_true (show (i : Int) < (a.length : Int) by omega), br_t, gx_at hg, gx_at hg', ck_of (w53_p h53), w53_y0 h53, drop_at hg, drop_at hg']
      by_cases hc : a[i] = b[i]'(by omega)
      · rw [decide_eq_true hc, Bool.not_true, br_f, e, hc]
        refine (w51_loop a b hab hs ha x1 k0 k1 k2 n (i + 1) (by omega) (by omega)).trans ?_
        simp only [List.cons.injEq, true_and]
      · rw [decide_eq_false hc, Bool.not_false, br_t, if_neg (fun h => hc (List.cons.inj h).1)]
    · rw [decide_eq_false (show ¬ (i : Int) < (a.length : Int) by omega), br_f, List.drop_eq_nil_of_le (by omega), List.drop_eq_nil_of_le (by omega), if_pos rfl]
theorem w51_eq {a b : List (List UInt8)} (hn : a.length < 90) (ha : ∀ l ∈ a, l.length < 90) : w51z 100 a b = some (decide (a = b)) := by
  unfold w51z w51 w51G
  by_cases hl : a.length = b.length
  · rw [show decide ((a.length : Int) ≠ (b.length : Int)) = false by simp; omega, br_f]
    have h := w51_loop a b hl (by omega) ha false (fun z7 => some (w51r0 z7)) (fun _ => some (w51r0 true)) (fun _ => none) 100 0 (by omega) (by omega)
    rw [List.drop_zero, List.drop_zero] at h
    refine (congrArg (fun z : O => z.bind w51un) h).trans ?_
    by_cases hab : a = b
    · rw [if_pos hab, decide_eq_true hab]; exact w51_ur _
    · rw [if_neg hab, decide_eq_false hab]; exact w51_ur _
  · rw [show decide ((a.length : Int) ≠ (b.length : Int)) = true by simp; omega, br_t, decide_eq_false (fun h => hl (by rw [h]))]
    exact w51_ur _
end Go.Proofs
/- Whether a page fits, and whether calculations are equal. -/
namespace Go.Proofs
open Go Go.Ax Go.Ax.Alg
theorem w19_ur (x : Bool) : (some (w19r0 x) : O).bind w19un = some x := rfl
theorem w19_loop2 (a b : List Int) (hab : a.length = b.length) (hs : a.length < 1000) (x2 : Bool) (k0 k1 : Bool → O) (k2 : Unit → O) : ∀ (n i : Nat), a.length - i < n → i ≤ a.length →
    w19l0 100 n (a, b, x2, i) k0 k1 k2 = if a.drop i = b.drop i then k1 x2 else k0 false
  | 0, i, h, _ => by omega
  | n + 1, i, h, hi => by
    show w19F0 100 _ _ _ a b x2 i = _
    unfold w19F0
    by_cases hlt : i < a.length
    · have hg : a[i]? = some a[i] := List.getElem?_eq_getElem hlt
      have hg' : b[i]? = some (b[i]'(by omega)) := List.getElem?_eq_getElem (by omega)
      have e : IntKind.i64.wrap ((i : Int) + 1) = ((i + 1 : Nat) : Int) := by rw [wr (by omega) (by omega)]; omega
      rw [decide_eq_true (show (i : Int) < (a.length : Int) by omega), br_t, gx_at hg, gx_at hg', drop_at hg, drop_at hg']
      by_cases hc : a[i] = b[i]'(by omega)
      · rw [decide_eq_false (by simpa using hc), br_f, e, hc]
        refine (w19_loop2 a b hab hs x2 k0 k1 k2 n (i + 1) (by omega) (by omega)).trans ?_
        simp only [List.cons.injEq, true_and]
      · rw [decide_eq_true (by simpa using hc), br_t, if_neg (fun h => hc (List.cons.inj h).1)]
    · rw [decide_eq_false (show ¬ (i : Int) < (a.length : Int) by omega), br_f, List.drop_eq_nil_of_le (by omega), List.drop_eq_nil_of_le (by omega), if_pos rfl]
theorem w19_eq2 {a b : List Int} (ha : a.length < 90) : w19z 100 a b = some (decide (a = b)) := by
  unfold w19z w19 w19G
  by_cases hl : a.length = b.length
  · rw [show decide ((a.length : Int) ≠ (b.length : Int)) = false by simp; omega, br_f]
    have h := w19_loop2 a b hl (by omega) false (fun z7 => some (w19r0 z7)) (fun _ => some (w19r0 true)) (fun _ => none) 100 0 (by omega) (by omega)
    rw [List.drop_zero, List.drop_zero] at h
    refine (congrArg (fun z : O => z.bind w19un) h).trans ?_
    by_cases hab : a = b
    · rw [if_pos hab, decide_eq_true hab]; exact w19_ur _
    · rw [if_neg hab, decide_eq_false hab]; exact w19_ur _
  · rw [show decide ((a.length : Int) ≠ (b.length : Int)) = true by simp; omega, br_t, decide_eq_false (fun h => hl (by rw [h]))]
    exact w19_ur _
theorem w30_ur (x : Bool) : (some (w30r0 x) : O).bind w30un = some x := rfl
theorem w30_eq {op op' : Int} {a b : List Int} (ha : a.length < 90) : w30z 100 op a op' b = some (decide (op = op' ∧ a = b)) := by
  unfold w30z w30 w30G
  have h19 := w19_eq2 (b := b) ha
  rw [w19_p h19, w19_y0 h19, Bool.or_true, ck_t, w30_ur, Bool.decide_and]
end Go.Proofs
/- Pages without blanks at the ends of lines and without blank lines at the end. -/
namespace Go.Proofs
open Go Go.Ax Go.Ax.Alg
/-- How long a line is without the blanks at its end. -/
def trimN (l : List UInt8) : Nat → Nat
  | 0 => 0
  | n + 1 => if l[n]? = some 0 then trimN l n else n + 1
def trimL (l : List UInt8) : List UInt8 := l.take (trimN l l.length)
theorem trimN_le (l : List UInt8) : ∀ n, trimN l n ≤ n
  | 0 => Nat.le_refl _
  | n + 1 => by
    unfold trimN
    split
    · have := trimN_le l n; omega
    · exact Nat.le_refl _
/-- A page without blank lines at its end. -/
def dropE (p : List (List UInt8)) : Nat → Nat
  | 0 => 0
  | n + 1 => if p[n]? = some [] then dropE p n else n + 1
def plainZ (p : List (List UInt8)) : List (List UInt8) := (p.map trimL).take (dropE (p.map trimL) p.length)
theorem valF_trim (l : List UInt8) : ∀ n, n ≤ l.length → valF (l.take (trimN l n)) 0 0 = valF (l.take n) 0 0
  | 0, _ => rfl
  | n + 1, h => by
    unfold trimN
    split
    · rename_i h0
      rw [valF_trim l n (by omega), List.take_add_one, h0, valF_app]
      cases valF (l.take n) 0 0 with
      | none => rfl
      | some r => rfl
    · rfl
theorem valZ_trim (l : List UInt8) : valZ (trimL l) = valZ l := by
  have h := valF_trim l l.length (Nat.le_refl _)
  rw [List.take_length] at h
  unfold valZ trimL
  rw [h]
theorem w52_in (l : List UInt8) (hs : l.length < 1000) (x0 : List (List UInt8)) (x1 x2 : Int) (x3 : Bool) (x8 : Int) (x10 : List (List UInt8)) (k0 : List (List UInt8) × Int × Int × Bool × List UInt8 × List UInt8 × List UInt8 × List UInt8 × Int × Int × Int × Bool × Bool × Bool × List (List UInt8) → O) (k1 k2 : Unit → O) : ∀ (n m : Nat), m < n → m ≤ l.length →
    w52l0 100 n (x0, x1, x2, x3, l, l, l, l, x8, m, x10) k0 k1 k2 = k0 (x0, x1, x2, x3, l, l, l, l, x8, trimN l m, trimN l m, decide (0 < (trimN l m : Int)), decide (0 < (trimN l m : Int)), false, x10)
  | 0, m, h, _ => by omega
  | n + 1, 0, _, _ => by
    show w52F0 100 _ _ x0 x1 x2 x3 l l l l x8 x10 ((0 : Nat) : Int) = _
    unfold w52F0
    rw [show decide (0 < ((0 : Nat) : Int)) = false from rfl, gc_f, Bool.false_and, br_f]
    rfl
  | n + 1, m + 1, h, hm => by
    show w52F0 100 _ _ x0 x1 x2 x3 l l l l x8 x10 ((m + 1 : Nat) : Int) = _
    unfold w52F0
    have hg : l[m]? = some l[m] := List.getElem?_eq_getElem (by omega)
    have e : IntKind.i64.wrap (((m + 1 : Nat) : Int) - 1) = (m : Int) := by rw [wr (by omega) (by omega)]; omega
    rw [decide_eq_true (show 0 < ((m + 1 : Nat) : Int) by omega), gc_t, e, gx_at hg, Bool.true_and]
    unfold trimN
    by_cases h0 : l[m] = 0
    · rw [decide_eq_true h0, br_t, if_pos (by rw [hg, h0])]
      exact w52_in l hs x0 x1 x2 x3 x8 x10 k0 k1 k2 n m (by omega) (by omega)
    · rw [decide_eq_false h0, br_f, if_neg (by rw [hg]; simpa using h0), decide_eq_true (show 0 < ((m + 1 : Nat) : Int) by omega)]
theorem trim_slc (l : List UInt8) : slc l none (some (trimN l l.length : Int)) = trimL l := by
  show l.take ((trimN l l.length : Int)).toNat = _
  rw [Int.toNat_natCast]
  rfl
theorem w52_lines (p : List (List UInt8)) (hn : p.length < 90) (hl : ∀ l ∈ p, l.length < 90) (k0 : List (List UInt8) → O) (k1 k2 : Unit → O) : ∀ (n i : Nat), p.length - i < n → i ≤ p.length →
    w52l1 100 n (p, p.length, i, (p.take i).map trimL) k0 k1 k2 = k0 (p.map trimL)
  | 0, i, h, _ => by omega
  | n + 1, i, h, hi => by
    show w52F1 100 _ _ _ p p.length i ((p.take i).map trimL) = _
    unfold w52F1
    by_cases hlt : i < p.length
    · have hg : p[i]? = some p[i] := List.getElem?_eq_getElem hlt
      have hx := hl p[i] (List.getElem_mem hlt)
      have e : IntKind.i64.wrap ((i : Int) + 1) = ((i + 1 : Nat) : Int) := by rw [wr (by omega) (by omega)]; omega
      have ht := trimN_le p[i] p[i].length
      rw [decide_eq_true (show (i : Int) < (p.length : Int) by omega), br_t, gx_at hg]
      refine (w52_in p[i] (by omega) p p.length i _ p[i].length ((p.take i).map trimL) _ _ _ 100 p[i].length (by omega) (Nat.le_refl _)).trans ?_
      simp only []
      rw [trim_slc, ck_of (show slcOk p[i].length none (some (trimN p[i] p[i].length : Int)) = true from decide_eq_true ⟨by omega, by omega⟩), ck_of (lim_of (by simp; omega) (by simp; omega)), e]
      have ih := w52_lines p hn hl k0 k1 k2 n (i + 1) (by omega) (by omega)
      rw [List.take_add_one, hg] at ih
      simp only [Option.toList, List.map_append, List.map_cons, List.map_nil] at ih
      exact ih
    · rw [decide_eq_false (show ¬ (i : Int) < (p.length : Int) by omega), br_f, show i = p.length by omega, List.take_length]
theorem w52_end (q : List (List UInt8)) (hq : q.length < 90) (k0 : List (List UInt8) → O) (k1 k2 : Unit → O) : ∀ (n m : Nat), m < n → m ≤ q.length → w52l2 100 n (q.take m) k0 k1 k2 = k0 (q.take (dropE q m))
  | 0, m, h, _ => by omega
  | n + 1, 0, _, _ => by
    show w52F2 100 _ _ (q.take 0) = _
    unfold w52F2
    rw [List.take_zero, show decide (0 < (([] : List (List UInt8)).length : Int)) = false from rfl, gc_f, Bool.false_and, br_f]
    rfl
  | n + 1, m + 1, h, hm => by
    show w52F2 100 _ _ (q.take (m + 1)) = _
    unfold w52F2
    have hlen : (q.take (m + 1)).length = m + 1 := by rw [List.length_take]; omega
    have hg : (q.take (m + 1))[m]? = some (q[m]'(by omega)) := by rw [List.getElem?_take, if_pos (by omega)]; exact List.getElem?_eq_getElem (by omega)
    have hg' : q[m]? = some (q[m]'(by omega)) := List.getElem?_eq_getElem (by omega)
    have e : IntKind.i64.wrap (((m + 1 : Nat) : Int) - 1) = (m : Int) := by rw [wr (by omega) (by omega)]; omega
    rw [hlen, decide_eq_true (show 0 < ((m + 1 : Nat) : Int) by omega), gc_t, e, gx_at hg, Bool.true_and]
    have hs : slc (q.take (m + 1)) none (some (m : Int)) = q.take m := by
      show (q.take (m + 1)).take ((m : Int)).toNat = _
      rw [Int.toNat_natCast, List.take_take, Nat.min_eq_left (by omega)]
    unfold dropE
    by_cases h0 : q[m]'(by omega) = []
    · rw [decide_eq_true (show (((q[m]'(by omega)).length : Nat) : Int) = 0 by rw [h0]; rfl), br_t, if_pos (by rw [hg', h0]), ck_of (show slcOk (m + 1) none (some (m : Int)) = true from decide_eq_true ⟨by omega, by omega⟩), hs]
      exact w52_end q hq k0 k1 k2 n m (by omega) (by omega)
    · rw [decide_eq_false (show ¬ (((q[m]'(by omega)).length : Nat) : Int) = 0 by intro hh; exact h0 (List.length_eq_zero_iff.1 (by omega))), br_f, if_neg (by rw [hg']; simpa using h0)]
theorem w52_ur (x : List (List UInt8)) : (some (w52r0 x) : O).bind w52un = some x := rfl
theorem w52_eq {p : List (List UInt8)} (hn : p.length < 90) (hl : ∀ l ∈ p, l.length < 90) : w52z 100 p = some (plainZ p) := by
  unfold w52z w52 w52G
  refine (congrArg (fun z : O => z.bind w52un) (w52_lines p hn hl _ _ _ 100 0 (by omega) (by omega))).trans ?_
  have h := w52_end (p.map trimL) (by simpa using hn) (fun y => some (w52r0 y)) (fun _ => none) (fun _ => none) 100 p.length (by omega) (by simp)
  rw [List.take_of_length_le (by simp)] at h
  exact (congrArg (fun z : O => z.bind w52un) h).trans (w52_ur _)
end Go.Proofs
/- Whether two pages are the same apart from blanks at the ends. -/
namespace Go.Proofs
open Go Go.Ax Go.Ax.Alg
theorem plain_small {p : List (List UInt8)} (h : Small p) : Small (plainZ p) := by
  unfold plainZ
  refine ⟨by rw [List.length_take]; have := h.1; simp; omega, fun l hl => ?_⟩
  obtain ⟨x, hx, rfl⟩ := List.mem_map.1 (List.mem_of_mem_take hl)
  have := h.2 x hx
  unfold trimL
  rw [List.length_take]
  omega
theorem w32_ur (x : Bool) : (some (w32r0 x) : O).bind w32un = some x := rfl
theorem w32_eq {a b : List (List UInt8)} (ha : Small a) (hb : Small b) : w32z 100 a b = some (decide (plainZ a = plainZ b)) := by
  unfold w32z w32 w32G
  have h1 := w52_eq ha.1 ha.2
  have h2 := w52_eq hb.1 hb.2
  have hs := plain_small ha
  have h3 := w51_eq (b := plainZ b) hs.1 hs.2
  rw [ck_of (w52_p h1), ck_of (w52_p h2), w52_y0 h1, w52_y0 h2, ck_of (w51_p h3), w51_y0 h3]
  exact w32_ur _
end Go.Proofs
