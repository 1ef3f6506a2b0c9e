/- What is read of lines. Conditions are in the theorems. -/
import Derived.Test.YtpmhkjnnolpknaaDoorG9
import Derived.Test.YtpmhkjnnolpknaaDoorG1
import Derived.Test.YtpmhkjnnolpknaaDoorFb
/- SpatialColumns, in plain words. -/
namespace Go.Proofs
open Go Go.Ax Go.Ax.Alg
end Go.Proofs
/- SpatialColumns, in plain words: the columns of an addition. -/
namespace Go.Proofs
open Go Go.Ax Go.Ax.Alg
end Go.Proofs
/- What is known of the functions that read, once their outcome is. -/
namespace Go.Proofs
open Go Go.Ax Go.Ax.Alg
theorem w53_p {N : Nat} {s10 : (List UInt8)} {s21 : (List UInt8)} {d : Bool} (h : w53z N s10 s21 = some d) : w53p N s10 s21 = true := by unfold w53p; rw [h]; rfl
theorem w53_y0 {N : Nat} {s10 : (List UInt8)} {s21 : (List UInt8)} {d : Bool} (h : w53z N s10 s21 = some d) : w53y0 N s10 s21 = d := by unfold w53y0; rw [h]; rfl
theorem w52_p {N : Nat} {p0 : (List (List UInt8))} {d : (List (List UInt8))} (h : w52z N p0 = some d) : w52p N p0 = true := by unfold w52p; rw [h]; rfl
theorem w52_y0 {N : Nat} {p0 : (List (List UInt8))} {d : (List (List UInt8))} (h : w52z N p0 = some d) : w52y0 N p0 = d := by unfold w52y0; rw [h]; rfl
theorem w51_p {N : Nat} {s10 : (List (List UInt8))} {s21 : (List (List UInt8))} {d : Bool} (h : w51z N s10 s21 = some d) : w51p N s10 s21 = true := by unfold w51p; rw [h]; rfl
theorem w51_y0 {N : Nat} {s10 : (List (List UInt8))} {s21 : (List (List UInt8))} {d : Bool} (h : w51z N s10 s21 = some d) : w51y0 N s10 s21 = d := by unfold w51y0; rw [h]; rfl
theorem w32_p {N : Nat} {a0 : (List (List UInt8))} {b1 : (List (List UInt8))} {d : Bool} (h : w32z N a0 b1 = some d) : w32p N a0 b1 = true := by unfold w32p; rw [h]; rfl
theorem w32_y0 {N : Nat} {a0 : (List (List UInt8))} {b1 : (List (List UInt8))} {d : Bool} (h : w32z N a0 b1 = some d) : w32y0 N a0 b1 = d := by unfold w32y0; rw [h]; rfl
theorem w72_p {N : Nat} {s0 : (List UInt8)} {v1 : UInt8} {d : Int} (h : w72z N s0 v1 = some d) : w72p N s0 v1 = true := by unfold w72p; rw [h]; rfl
theorem w72_y0 {N : Nat} {s0 : (List UInt8)} {v1 : UInt8} {d : Int} (h : w72z N s0 v1 = some d) : w72y0 N s0 v1 = d := by unfold w72y0; rw [h]; rfl
theorem w89_p {N : Nat} {l0 : (List UInt8)} {d : Int × Bool} (h : w89z N l0 = some d) : w89p N l0 = true := by unfold w89p; rw [h]; rfl
theorem w89_y0 {N : Nat} {l0 : (List UInt8)} {d : Int × Bool} (h : w89z N l0 = some d) : w89y0 N l0 = d.1 := by unfold w89y0; rw [h]; rfl
theorem w89_y1 {N : Nat} {l0 : (List UInt8)} {d : Int × Bool} (h : w89z N l0 = some d) : w89y1 N l0 = d.2 := by unfold w89y1; rw [h]; rfl
theorem w73_p {N : Nat} {l0 : (List (List UInt8))} {d : (List Int) × Bool} (h : w73z N l0 = some d) : w73p N l0 = true := by unfold w73p; rw [h]; rfl
theorem w73_y0 {N : Nat} {l0 : (List (List UInt8))} {d : (List Int) × Bool} (h : w73z N l0 = some d) : w73y0 N l0 = d.1 := by unfold w73y0; rw [h]; rfl
theorem w73_y1 {N : Nat} {l0 : (List (List UInt8))} {d : (List Int) × Bool} (h : w73z N l0 = some d) : w73y1 N l0 = d.2 := by unfold w73y1; rw [h]; rfl
theorem w48_p {N : Nat} {p0 : (List (List UInt8))} {d : Int × (List Int) × Bool} (h : w48z N p0 = some d) : w48p N p0 = true := by unfold w48p; rw [h]; rfl
theorem w48_y0 {N : Nat} {p0 : (List (List UInt8))} {d : Int × (List Int) × Bool} (h : w48z N p0 = some d) : w48y0 N p0 = d.1 := by unfold w48y0; rw [h]; rfl
theorem w48_y1 {N : Nat} {p0 : (List (List UInt8))} {d : Int × (List Int) × Bool} (h : w48z N p0 = some d) : w48y1 N p0 = d.2.1 := by unfold w48y1; rw [h]; rfl
theorem w48_y2 {N : Nat} {p0 : (List (List UInt8))} {d : Int × (List Int) × Bool} (h : w48z N p0 = some d) : w48y2 N p0 = d.2.2 := by unfold w48y2; rw [h]; rfl
theorem w28_p {N : Nat} {p0 : (List (List UInt8))} {d : Int × (List Int) × Int} (h : w28z N p0 = some d) : w28p N p0 = true := by unfold w28p; rw [h]; rfl
theorem w28_y0 {N : Nat} {p0 : (List (List UInt8))} {d : Int × (List Int) × Int} (h : w28z N p0 = some d) : w28y0 N p0 = d.1 := by unfold w28y0; rw [h]; rfl
theorem w28_y1 {N : Nat} {p0 : (List (List UInt8))} {d : Int × (List Int) × Int} (h : w28z N p0 = some d) : w28y1 N p0 = d.2.1 := by unfold w28y1; rw [h]; rfl
theorem w28_y2 {N : Nat} {p0 : (List (List UInt8))} {d : Int × (List Int) × Int} (h : w28z N p0 = some d) : w28y2 N p0 = d.2.2 := by unfold w28y2; rw [h]; rfl
theorem w48n0_eq (N : Nat) (a0 : (List (List UInt8))) (a1 : Bool) (a2 : (List (List UInt8))) (a3 : Int) (a4 : Int) (a5 : Bool) (a6 : Int) (a7 : (List UInt8)) (a8 : (List UInt8)) (a9 : Int) (a10 : (List UInt8)) (a11 : (List UInt8)) (a12 : Int) (a13 : Bool) (a14 : (List UInt8)) (a15 : UInt8) (a16 : UInt8) (a17 : Int) (a18 : Bool) (a19 : Int) (a20 : Bool) (a21 : Int) (a22 : Bool) (a23 : Int) (a24 : Bool) (a25 : Bool) (a26 : Bool) (a27 : Int) (a28 : Int) (a29 : Int) (a30 : Int) (a31 : Int) (k0 : (List (List UInt8)) → Bool → (List (List UInt8)) → Int → Int → Bool → Int → (List UInt8) → (List UInt8) → Int → (List UInt8) → (List UInt8) → Int → Bool → (List UInt8) → UInt8 → UInt8 → Int → Bool → Int → Bool → Int → Bool → Int → Bool → Bool → Bool → Int → Int → Bool → Int → Int → Int → Int → O) : w48n0 N a0 a1 a2 a3 a4 a5 a6 a7 a8 a9 a10 a11 a12 a13 a14 a15 a16 a17 a18 a19 a20 a21 a22 a23 a24 a25 a26 a27 a28 a29 a30 a31 k0 = w48F0 N  k0 a0 a1 a2 a3 a4 a5 a6 a7 a8 a9 a10 a11 a12 a13 a14 a15 a16 a17 a18 a19 a20 a21 a22 a23 a24 a25 a26 a27 a28 a29 a30 a31 := rfl
end Go.Proofs
/- Numbers that lines write: what is read of them. -/
namespace Go.Proofs
open Go Go.Ax Go.Ax.Alg
/-- The digit of a cell. -/
def cdig (c : UInt8) : Option Nat := digs10.findIdx? fun y => decide (c = y)
/-- The number that cells write apart from blanks, behind a number of so many digits. -/
def valF : List UInt8 → Int → Nat → Option (Int × Nat)
  | [], n, m => some (n, m)
  | c :: l, n, m => if c = 0 then valF l n m else match cdig c with
    | none => none
    | some d => if m = 6 then none else valF l (10 * n + d) (m + 1)
theorem valF_app : ∀ (a b : List UInt8) (n : Int) (m : Nat), valF (a ++ b) n m = (valF a n m).bind fun r => valF b r.1 r.2
  | [], b, n, m => rfl
  | c :: a, b, n, m => by
    show (if c = 0 then valF (a ++ b) n m else match cdig c with | none => none | some d => if m = 6 then none else valF (a ++ b) (10 * n + d) (m + 1)) = (if c = 0 then valF a n m else match cdig c with | none => none | some d => if m = 6 then none else valF a (10 * n + d) (m + 1)).bind fun r => valF b r.1 r.2
    split
    · exact valF_app a b n m
    · split
      · rfl
      · split
        · rfl
        · exact valF_app a b _ _
theorem valF_blank (k : Nat) (n : Int) (m : Nat) : valF (List.replicate k 0) n m = some (n, m) := by
  induction k with
  | zero => rfl
  | succ k ih => rw [List.replicate_succ]; show (if (0 : UInt8) = 0 then valF (List.replicate k 0) n m else _) = _; rw [if_pos rfl, ih]
theorem cdig_dig {d : Nat} (h : d < 10) : cellB (UInt8.ofNat (48 + d)) ≠ 0 ∧ cdig (cellB (UInt8.ofNat (48 + d))) = some d := by
  rcases (show d = 0 ∨ d = 1 ∨ d = 2 ∨ d = 3 ∨ d = 4 ∨ d = 5 ∨ d = 6 ∨ d = 7 ∨ d = 8 ∨ d = 9 by omega) with h | h | h | h | h | h | h | h | h | h <;> subst h <;> decide +kernel
theorem valF_one {d : Nat} (h : d < 10) (n : Int) {m : Nat} (hm : m < 6) : valF [cellB (UInt8.ofNat (48 + d))] n m = some (10 * n + d, m + 1) := by
  obtain ⟨h1, h2⟩ := cdig_dig h
  show (if cellB (UInt8.ofNat (48 + d)) = 0 then some (n, m) else match cdig (cellB (UInt8.ofNat (48 + d))) with | none => none | some d => if m = 6 then none else some (10 * n + d, m + 1)) = _
  rw [if_neg h1, h2]
  show (if m = 6 then none else some (10 * n + (d : Int), m + 1)) = _
  rw [if_neg (by omega)]
theorem valF_dec (u : Nat) : lenN u ≤ 6 → valF (dcells u) 0 0 = some ((u : Int), lenN u) := by
  induction u using Nat.strongRecOn with
  | _ u ih =>
    intro h
    by_cases hu : u < 10
    · rw [dcells_small hu, lenN_small hu, valF_one hu 0 (by omega)]
      simp
    · have hl := lenN_big hu
      rw [dcells_big hu, valF_app, ih (u / 10) (by omega) (by omega), Option.bind_some, hl]
      simp only []
      rw [valF_one (by omega) _ (by omega)]
      congr 2
      omega
theorem valF_line {w x left : Nat} (h : left + lenN x ≤ w) (h6 : lenN x ≤ 6) : valF (lineZ w x left) 0 0 = some ((x : Int), lenN x) := by
  rw [lineZ_eq h, valF_app, valF_app, valF_blank, Option.bind_some]
  simp only []
  rw [valF_dec x h6, Option.bind_some]
  exact valF_blank _ _ _
end Go.Proofs
/- The readers' small functions: which digit a cell is, what number a line writes. -/
namespace Go.Proofs
open Go Go.Ax Go.Ax.Alg
theorem w72_loop (N : Nat) (s : List UInt8) (v : UInt8) (hs : s.length < 4611686018427387904) (x2 : Int) (k0 k1 : Int → O) (k2 : Unit → O) : ∀ (n i : Nat), s.length - i < n → i ≤ s.length →
    w72l0 N n (s, v, x2, s.length, i) k0 k1 k2 = match (s.drop i).findIdx? fun y => decide (v = y) with | some j => k0 ((i + j : Nat) : Int) | none => k1 x2
  | 0, i, h, _ => by omega
  | n + 1, i, h, hi => by
    show w72F0 N _ _ _ s v x2 s.length i = _
    unfold w72F0
    by_cases hlt : i < s.length
    · have hg : s[i]? = some s[i] := List.getElem?_eq_getElem hlt
      have e : IntKind.i64.wrap ((i : Int) + 1) = ((i + 1 : Nat) : Int) := by rw [wr (by omega) (by omega)]; omega
      have hd : decide ((i : Int) < (s.length : Int)) = true := decide_eq_true (by omega)
      rw [hd, br_t, gx_at hg, drop_at hg, List.findIdx?_cons]
      by_cases hb : v = s[i]
      · rw [decide_eq_true hb, br_t]; rfl
      · rw [decide_eq_false hb, br_f, e]
        have := w72_loop N s v hs x2 k0 k1 k2 n (i + 1) (by omega) (by omega)
        simp only [this]
        cases List.findIdx? (fun y => decide (v = y)) (List.drop (i + 1) s) with
        | none => rfl
        | some j => simp only [Bool.false_eq_true, if_false, Option.map_some]; rw [show i + 1 + j = i + (j + 1) by omega]
    · have hd : decide ((i : Int) < (s.length : Int)) = false := decide_eq_false (by omega)
      rw [hd, br_f, List.drop_eq_nil_of_le (by omega)]
      rfl
theorem w72_eq {N : Nat} {s : List UInt8} {v : UInt8} (hs : s.length < 4611686018427387904) (hN : s.length < N) : w72z N s v = some (match s.findIdx? fun y => decide (v = y) with | some j => (j : Int) | none => -1) := by
  have h := w72_loop N s v hs 0 (fun z4 => some (w72r0 z4)) (fun _ => some (w72r0 (-1))) (fun _ => none) N 0 (by omega) (by omega)
  unfold w72z
  rw [show w72 N s v = w72l0 N N (s, v, 0, s.length, (0 : Nat)) (fun z4 => some (w72r0 z4)) (fun _ => some (w72r0 (-1))) (fun _ => none) from rfl, h, List.drop_zero]
  cases List.findIdx? (fun y => decide (v = y)) s with
  | none => rfl
  | some j => simp only [Nat.zero_add]; rfl
def known10 : UInt8 × UInt8 × UInt8 × UInt8 × UInt8 × UInt8 × UInt8 × UInt8 × UInt8 × UInt8 := (26, 1, 3, 9, 25, 17, 11, 27, 19, 10)
theorem cdig_lt {c : UInt8} {d : Nat} (h : cdig c = some d) : d < 10 := (List.findIdx?_eq_some_iff_getElem.1 h).1
theorem w89_loop (l : List UInt8) (hs : l.length < 1000) (x0 : Int) (x1 : Bool) (k0 : Int × Bool → O) (k1 : Int × Bool × Int × Int → O) (k2 : Unit → O) : ∀ (n i : Nat) (acc : Int) (many : Nat), l.length - i < n → i ≤ l.length → many ≤ 6 → 0 ≤ acc → acc < ((10 ^ many : Nat) : Int) →
    w89l0 100 n (x0, x1, acc, many, known10, l, l.length, i) k0 k1 k2 = match valF (l.drop i) acc many with | none => k0 (0, false) | some r => k1 (x0, x1, r.1, (r.2 : Int))
  | 0, i, _, _, h, _, _, _, _ => by omega
  | n + 1, i, acc, many, h, hi, hm, h0, h1 => by
    show w89F0 100 _ _ _ x0 x1 known10 l l.length acc many i = _
    unfold w89F0
    by_cases hlt : i < l.length
    · have hg : l[i]? = some l[i] := List.getElem?_eq_getElem hlt
      have e : IntKind.i64.wrap ((i : Int) + 1) = ((i + 1 : Nat) : Int) := by rw [wr (by omega) (by omega)]; omega
      rw [decide_eq_true (show (i : Int) < (l.length : Int) by omega), br_t, gx_at hg, drop_at hg, e]
      show br (decide (l[i] = 0)) _ (ck (w72p 100 digs10 l[i]) <| br (decide (w72y0 100 digs10 l[i] < 0) || decide ((many : Int) = 6)) _ _) = match (if l[i] = 0 then valF (l.drop (i + 1)) acc many else match cdig l[i] with | none => none | some d => if many = 6 then none else valF (l.drop (i + 1)) (10 * acc + d) (many + 1)) with | none => k0 (0, false) | some r => k1 (x0, x1, r.1, (r.2 : Int))
      by_cases hz : l[i] = 0
      · rw [decide_eq_true hz, br_t, if_pos hz]
        exact w89_loop l hs x0 x1 k0 k1 k2 n (i + 1) acc many (by omega) (by omega) hm h0 h1
      · have h72 : w72z 100 digs10 l[i] = some (match cdig l[i] with | some j => (j : Int) | none => -1) := w72_eq (by decide) (by decide)
        have hy0 := w72_y0 h72
        rw [decide_eq_false hz, br_f, if_neg hz, ck_of (w72_p h72), w72_y0 h72]
        cases hc : cdig l[i] with
        | none =>
          simp only []
          rw [show (decide ((-1 : Int) < 0) || decide ((many : Int) = 6)) = true from rfl, br_t]
        | some d =>
          simp only []
          have hd := cdig_lt hc
          by_cases h6 : many = 6
          · rw [show (decide ((d : Int) < 0) || decide ((many : Int) = 6)) = true by simp; omega, br_t, if_pos h6]
          · rw [show (decide ((d : Int) < 0) || decide ((many : Int) = 6)) = false by simp; omega, br_f, if_neg h6]
            have hp : 10 ^ many ≤ 10 ^ 6 := Nat.pow_le_pow_right (by omega) (by omega)
            have hps : 10 ^ (many + 1) = 10 ^ many * 10 := Nat.pow_succ 10 many
            have em : IntKind.i64.wrap ((many : Int) + 1) = ((many + 1 : Nat) : Int) := by rw [wr (by omega) (by omega)]; omega
            generalize hu : 10 ^ many = u at *
            have ea : IntKind.i64.wrap (IntKind.i64.wrap (10 * acc) + (d : Int)) = 10 * acc + d := by rw [wr (x := 10 * acc) (by omega) (by omega), wr (by omega) (by omega)]
            have hy : w72y0 100 digs10 l[i] = (d : Int) := by rw [hy0, hc]
            show w89l0 100 n (x0, x1, IntKind.i64.wrap (IntKind.i64.wrap (10 * acc) + w72y0 100 digs10 l[i]), IntKind.i64.wrap ((many : Int) + 1), known10, l, l.length, ((i + 1 : Nat) : Int)) k0 k1 k2 = _
            rw [hy, ea, em]
            exact w89_loop l hs x0 x1 k0 k1 k2 n (i + 1) (10 * acc + d) (many + 1) (by omega) (by omega) (by omega) (by omega) (by rw [hps]; omega)
    · rw [decide_eq_false (show ¬ (i : Int) < (l.length : Int) by omega), br_f, List.drop_eq_nil_of_le (by omega)]
      rfl
end Go.Proofs
/- The numbers of lines. -/
namespace Go.Proofs
open Go Go.Ax Go.Ax.Alg
theorem w89_ur (x : Int) (y : Bool) : (some (w89r0 x y) : O).bind w89un = some (x, y) := rfl
theorem w73_ur (x : List Int) (y : Bool) : (some (w73r0 x y) : O).bind w73un = some (x, y) := rfl
def valZ (l : List UInt8) : Int × Bool := match valF l 0 0 with | none => (0, false) | some r => (r.1, decide (0 < (r.2 : Int)))
theorem w89_eq {l : List UInt8} (hl : l.length < 90) : w89z 100 l = some (valZ l) := by
  unfold w89z w89 w89G valZ
  have h81 := w81_eq
  rw [ck_of (w81_p h81), w81_y0 h81, w81_y1 h81, w81_y2 h81, w81_y3 h81, w81_y4 h81, w81_y5 h81, w81_y6 h81, w81_y7 h81, w81_y8 h81, w81_y9 h81]
  have h := w89_loop l (by omega) 0 false (fun y => some (w89r0 y.1 y.2)) (fun y => some (w89r0 y.2.2.1 (decide (0 < y.2.2.2)))) (fun _ => none) 100 0 0 0 (by omega) (by omega) (by omega) (by omega) (by decide)
  rw [List.drop_zero] at h
  refine (congrArg (fun z : O => z.bind w89un) h).trans ?_
  cases valF l 0 0 with
  | none => exact w89_ur _ _
  | some r => exact w89_ur _ _
/-- The numbers of lines, as long as all write one. -/
def valsF : List (List UInt8) → Option (List Int)
  | [] => some []
  | l :: r => if (valZ l).2 then (valsF r).map ((valZ l).1 :: ·) else none
theorem w73_loop (p : List (List UInt8)) (hp : p.length < 1000) (hl : ∀ l ∈ p, l.length < 90) (x0 : Bool) (k0 : Bool → O) (k1 : Bool × List Int → O) (k2 : Unit → O) : ∀ (n i : Nat) (acc : List Int), p.length - i < n → i ≤ p.length → acc.length ≤ i →
    w73l0 100 n (x0, p, p.length, i, acc) k0 k1 k2 = match valsF (p.drop i) with | none => k0 false | some r => k1 (x0, acc ++ r)
  | 0, i, _, h, _, _ => by omega
  | n + 1, i, acc, h, hi, ha => by
    show w73F0 100 _ _ _ x0 p p.length i acc = _
    unfold w73F0
    by_cases hlt : i < p.length
    · have hg : p[i]? = some p[i] := List.getElem?_eq_getElem hlt
      have e : IntKind.i64.wrap ((i : Int) + 1) = ((i + 1 : Nat) : Int) := by rw [wr (by omega) (by omega)]; omega
      have h89 := w89_eq (hl p[i] (List.getElem_mem hlt))
      rw [decide_eq_true (show (i : Int) < (p.length : Int) by omega), br_t, gx_at hg, ck_of (w89_p h89), w89_y1 h89, w89_y0 h89, drop_at hg]
      show _ = match (if (valZ p[i]).2 then (valsF (p.drop (i + 1))).map ((valZ p[i]).1 :: ·) else none) with | none => k0 false | some r => k1 (x0, acc ++ r)
      cases hv : (valZ p[i]).2 with
      | false => rw [Bool.not_false, br_t]; rfl
      | true =>
        rw [Bool.not_true, br_f, ck_of (lim_of (by simp; omega) (by simp; omega)), e]
        refine (w73_loop p hp hl x0 k0 k1 k2 n (i + 1) (acc ++ [(valZ p[i]).1]) (by omega) (by omega) (by simp; omega)).trans ?_
        rw [if_pos rfl]
        cases valsF (List.drop (i + 1) p) with
        | none => rfl
        | some r => simp only [Option.map_some, List.append_assoc, List.cons_append, List.nil_append]
    · rw [decide_eq_false (show ¬ (i : Int) < (p.length : Int) by omega), br_f, List.drop_eq_nil_of_le (by omega)]
      show _ = k1 (x0, acc ++ [])
      rw [List.append_nil]
theorem w73_eq {p : List (List UInt8)} (hp : p.length < 90) (hl : ∀ l ∈ p, l.length < 90) : w73z 100 p = some (match valsF p with | none => ([], false) | some r => (r, true)) := by
  unfold w73z w73 w73G
  have h := w73_loop p (by omega) hl false (fun y => some (w73r0 [] y)) (fun y => some (w73r0 y.2 true)) (fun _ => none) 100 0 [] (by omega) (by omega) (by simp)
  rw [List.drop_zero] at h
  refine (congrArg (fun z : O => z.bind w73un) h).trans ?_
  cases valsF p with
  | none => exact w73_ur _ _
  | some r => exact w73_ur _ _
end Go.Proofs
