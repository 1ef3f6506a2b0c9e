/- What is guessed of a page. Conditions are in the theorems. -/
import Derived.Test.YtpmhkjnnolpknaaDoorGb
/- Which calculation a page may be the layout of. -/
namespace Go.Proofs
open Go Go.Ax Go.Ax.Alg
def opOf (c : UInt8) : Option Int := if 44 = c then some 3 else if 36 = c then some 4 else if 33 = c then some 5 else none
def frOf (op : Int) : Int := if op = 5 then 0 else 1
def withZ (op : Int) (l : List (List UInt8)) : Int × List Int × Bool := match valsF l with | none => (op, [], false) | some r => (op, r, true)
def scanL (p : List (List UInt8)) : List (List UInt8) → Nat → Int × List Int × Bool
  | [], _ => (0, [], false)
  | l :: r, i => match l with
    | [] => scanL p r (i + 1)
    | c :: t => match opOf c with
      | none => scanL p r (i + 1)
      | some op => if (i : Int) < frOf op then (0, [], false) else withZ op ((p.take i).drop (frOf op).toNat ++ [t])
def guessZ (p : List (List UInt8)) : Int × List Int × Bool :=
  if p.length < 2 then (0, [], false) else match (p.getD 1 []).findIdx? fun y => decide ((63 : UInt8) = y) with
  | some j => withZ 6 [(p.getD 1 []).drop (j + 1), (p.getD 1 []).take j]
  | none => scanL p p 0
theorem scan_op {p r : List (List UInt8)} {c : UInt8} {t : List UInt8} {i : Nat} {op : Int} (h : opOf c = some op) : scanL p ((c :: t) :: r) i = if (i : Int) < frOf op then (0, [], false) else withZ op ((p.take i).drop (frOf op).toNat ++ [t]) := by
  show (match opOf c with | none => scanL p r (i + 1) | some op => if (i : Int) < frOf op then (0, [], false) else withZ op ((p.take i).drop (frOf op).toNat ++ [t])) = _
  rw [h]
theorem scan_no {p r : List (List UInt8)} {c : UInt8} {t : List UInt8} {i : Nat} (h : opOf c = none) : scanL p ((c :: t) :: r) i = scanL p r (i + 1) := by
  show (match opOf c with | none => scanL p r (i + 1) | some op => if (i : Int) < frOf op then (0, [], false) else withZ op ((p.take i).drop (frOf op).toNat ++ [t])) = _
  rw [h]
theorem w48_ur (x : Int) (y : List Int) (z : Bool) : (some (w48r0 x y z) : O).bind w48un = some (x, y, z) := rfl
theorem guess_end {p : List (List UInt8)} (hp : Small p) {i : Nat} (hi : i < p.length) {l t : List UInt8} {c : UInt8} (hc : l = c :: t) (hl : p[i]? = some l) {fr : Int} (hfr : fr = 0 ∨ fr = 1) (op : Int) (k0 : Bool → Int → List Int → O) :
    br (decide ((i : Int) < fr)) (k0 false 0 []) (ck (slcOk p.length (some fr) (some (i : Int))) <| ck (w74p 100 (slc p (some fr) (some (i : Int)))) <| ck (slcOk l.length (some 1) none) <| ck (lim (slc p (some fr) (some (i : Int)) ++ [slc l (some 1) none]).length 24) <| ck (w73p 100 (slc p (some fr) (some (i : Int)) ++ [slc l (some 1) none])) <| k0 (w73y1 100 (slc p (some fr) (some (i : Int)) ++ [slc l (some 1) none])) op (w73y0 100 (slc p (some fr) (some (i : Int)) ++ [slc l (some 1) none])))
    = if (i : Int) < fr then k0 false 0 [] else k0 (withZ op ((p.take i).drop fr.toNat ++ [t])).2.2 (withZ op ((p.take i).drop fr.toNat ++ [t])).1 (withZ op ((p.take i).drop fr.toNat ++ [t])).2.1 := by
  by_cases h : (i : Int) < fr
  · rw [decide_eq_true h, br_t, if_pos h]
  · have hn := hp.1
    have h1 : slc p (some fr) (some (i : Int)) = (p.take i).drop fr.toNat := by
      show (p.take ((i : Int)).toNat).drop fr.toNat = _
      rw [Int.toNat_natCast]
    have h2 : slc l (some 1) none = t := by rw [hc]; rfl
    have h3 : ((p.take i).drop fr.toNat).length < 80 ∨ ((p.take i).drop fr.toNat).length ≤ i := by right; simp; omega
    have h4 : ((p.take i).drop fr.toNat).length ≤ i := by simp; omega
    have h5 : ∀ x ∈ (p.take i).drop fr.toNat ++ [t], x.length < 90 := by
      intro x hx
      rcases List.mem_append.1 hx with hx | hx
      · exact hp.2 x (List.mem_of_mem_take (List.mem_of_mem_drop hx))
      · rw [List.mem_singleton.1 hx]
        have := hp.2 l (List.mem_of_getElem? hl)
        rw [hc] at this
        simp at this
        omega
    have h73 := w73_eq (p := (p.take i).drop fr.toNat ++ [t]) (by simp; omega) h5
    rw [decide_eq_false h, br_f, if_neg h, h1, h2, ck_of (show slcOk p.length (some fr) (some (i : Int)) = true from decide_eq_true ⟨by omega, by omega, by omega⟩), ck_of (show w74p 100 ((p.take i).drop fr.toNat) = true from lim_of (by omega) (by omega)), ck_of (show slcOk l.length (some 1) none = true from decide_eq_true ⟨by omega, by rw [hc]; simp; omega⟩), ck_of (lim_of (by simp; omega) (by simp; omega)), ck_of (w73_p h73), w73_y1 h73, w73_y0 h73]
    unfold withZ
    cases valsF ((p.take i).drop fr.toNat ++ [t]) <;> rfl
theorem w48_loop (p : List (List UInt8)) (hp : Small p) (k0 : Bool × Int × List Int → O) (k1 : Bool × Int → O) (k2 : Unit → O) (hk : k0 (false, 0, []) = k1 (false, 0)) : ∀ (n i : Nat), p.length - i < n → i ≤ p.length →
    w48l1 100 n (p, false, p, p.length, i, 0, 3, 4, 5) k0 k1 k2 = k0 ((scanL p (p.drop i) i).2.2, (scanL p (p.drop i) i).1, (scanL p (p.drop i) i).2.1)
  | 0, i, h, _ => by omega
  | n + 1, i, h, hi => by
    show w48F1 100 _ _ _ _ p false p p.length 0 3 4 5 i = _
    unfold w48F1
    have hn := hp.1
    by_cases hlt : i < p.length
    · have hg : p[i]? = some p[i] := List.getElem?_eq_getElem hlt
      have e : IntKind.i64.wrap ((i : Int) + 1) = ((i + 1 : Nat) : Int) := by rw [wr (by omega) (by omega)]; omega
      have ih := w48_loop p hp k0 k1 k2 hk n (i + 1) (by omega) (by omega)
      rw [decide_eq_true (show (i : Int) < (p.length : Int) by omega), br_t, gx_at hg, drop_at hg]
      generalize p[i] = l at hg
      cases l with
      | nil =>
        rw [decide_eq_true (show (((([] : List UInt8)).length : Nat) : Int) = 0 from rfl), br_t, e]
        exact ih
      | cons c t =>
        rw [decide_eq_false (show ¬ (((c :: t).length : Nat) : Int) = 0 by simp; omega), br_f, gx_0]
        by_cases h44 : 44 = c
        · rw [decide_eq_true h44, br_t, br_f, w48n0_eq]
          refine (guess_end hp hlt rfl hg (Or.inr rfl) 3 fun a b c => k0 (a, b, c)).trans ?_
          rw [scan_op (show opOf c = some 3 by simp [opOf, h44])]
          by_cases hfr : (i : Int) < frOf 3
          · rw [if_pos (show (i : Int) < 1 from hfr), if_pos hfr]
          · rw [if_neg (show ¬ (i : Int) < 1 from hfr), if_neg hfr]; rfl
        · rw [decide_eq_false h44, br_f]
          by_cases h36 : 36 = c
          · rw [decide_eq_true h36, br_t, br_f, w48n0_eq]
            refine (guess_end hp hlt rfl hg (Or.inr rfl) 4 fun a b c => k0 (a, b, c)).trans ?_
            rw [scan_op (show opOf c = some 4 by simp [opOf, h44, h36])]
            by_cases hfr : (i : Int) < frOf 4
            · rw [if_pos (show (i : Int) < 1 from hfr), if_pos hfr]
            · rw [if_neg (show ¬ (i : Int) < 1 from hfr), if_neg hfr]; rfl
          · rw [decide_eq_false h36, br_f]
            by_cases h33 : 33 = c
            · rw [decide_eq_true h33, br_t, br_f, w48n0_eq]
              refine (guess_end hp hlt rfl hg (Or.inl rfl) 5 fun a b c => k0 (a, b, c)).trans ?_
              rw [scan_op (show opOf c = some 5 by simp [opOf, h44, h36, h33])]
              by_cases hfr : (i : Int) < frOf 5
              · rw [if_pos (show (i : Int) < 0 from hfr), if_pos hfr]
              · rw [if_neg (show ¬ (i : Int) < 0 from hfr), if_neg hfr]; rfl
            · rw [decide_eq_false h33, br_f, br_t, e]
              refine ih.trans ?_
              rw [scan_no (show opOf c = none by simp [opOf, h44, h36, h33])]
    · rw [decide_eq_false (show ¬ (i : Int) < (p.length : Int) by omega), br_f, List.drop_eq_nil_of_le (by omega)]
      exact hk.symm
theorem w48_eq {p : List (List UInt8)} (hp : Small p) : w48z 100 p = some (guessZ p) := by
  unfold w48z w48 w48G guessZ
  have hn := hp.1
  by_cases h2 : p.length < 2
  · rw [decide_eq_true (show (p.length : Int) < 2 by omega), br_t, if_pos h2]
    rfl
  · have hg : p[1]? = some (p.getD 1 []) := by rw [List.getD_eq_getElem?_getD, List.getElem?_eq_getElem (by omega)]; rfl
    have hl := hp.2 _ (List.mem_of_getElem? hg)
    have hgx : ∀ k, gx p 1 k = k (p.getD 1 []) := fun k => gx_at (i := 1) hg k
    rw [decide_eq_false (show ¬ (p.length : Int) < 2 by omega), br_f, if_neg h2, hgx]
    generalize p.getD 1 [] = l at hgx hl
    have h72 := w72_eq (N := 100) (s := l) (v := 63) (by omega) (by omega)
    rw [ck_of (w72_p h72), w72_y0 h72]
    cases hj : l.findIdx? fun y => decide ((63 : UInt8) = y) with
    | none =>
      simp only []
      rw [show decide ((0 : Int) ≤ -1) = false from rfl, br_f, ck_t, ck_t, ck_t]
      refine (congrArg (fun z : O => z.bind w48un) (w48_loop p hp (fun y => some (w48r0 y.2.1 y.2.2 y.1)) (fun _ => some (w48r0 0 [] false)) (fun _ => none) rfl 100 0 (by omega) (by omega))).trans ?_
      rw [List.drop_zero]
      exact w48_ur _ _ _
    | some j =>
      have hjl := (List.findIdx?_eq_some_iff_getElem.1 hj).1
      have e : IntKind.i64.wrap ((j : Int) + 1) = ((j + 1 : Nat) : Int) := by rw [wr (by omega) (by omega)]; omega
      have hs1 : slc l (some ((j + 1 : Nat) : Int)) none = l.drop (j + 1) := by
        show l.drop (((j + 1 : Nat) : Int)).toNat = _
        rw [Int.toNat_natCast]
      have hs2 : slc l none (some (j : Int)) = l.take j := by
        show l.take ((j : Int)).toNat = _
        rw [Int.toNat_natCast]
      have h73 := w73_eq (p := [l.drop (j + 1), l.take j]) (by simp) (by
        intro x hx
        rcases List.mem_cons.1 hx with hx | hx
        · rw [hx]; simp; omega
        · rw [List.mem_singleton.1 hx]; simp; omega)
      simp only []
      rw [decide_eq_true (show (0 : Int) ≤ (j : Int) by omega), br_t, e, hgx, hgx, hs1, hs2, ck_of (show slcOk l.length (some ((j + 1 : Nat) : Int)) none = true from decide_eq_true ⟨by omega, by omega⟩), ck_of (show slcOk l.length none (some (j : Int)) = true from decide_eq_true ⟨by omega, by omega⟩), ck_of (w73_p h73), w73_y0 h73, w73_y1 h73]
      unfold withZ
      cases valsF [l.drop (j + 1), l.take j] <;> exact w48_ur _ _ _
def readZ (p : List (List UInt8)) : Int × List Int × Int := if (guessZ p).2.2 then (if validZ (guessZ p).1 (guessZ p).2.1 = 0 ∧ plainZ p = plainZ (pageZ (guessZ p).1 (guessZ p).2.1) then ((guessZ p).1, (guessZ p).2.1, 0) else (0, [], 2)) else (0, [], 2)
end Go.Proofs
/- What the reader guesses of the page of a valid calculation. -/
namespace Go.Proofs
open Go Go.Ax Go.Ax.Alg
/-- A blank or the cell of a digit. -/
def isD (c : UInt8) : Bool := decide (c = 0) || digs10.any fun y => decide (y = c)
theorem isD_all : ((List.range 256).all fun n => !isD (UInt8.ofNat n) || (decide (opOf (UInt8.ofNat n) = none) && decide ((63 : UInt8) ≠ UInt8.ofNat n) && decide (UInt8.ofNat n < 64))) = true := by decide +kernel
theorem isD_facts {c : UInt8} (h : isD c = true) : opOf c = none ∧ (63 : UInt8) ≠ c ∧ c < 64 := by
  have h' := List.all_eq_true.1 isD_all c.toNat (List.mem_range.2 c.toNat_lt)
  rw [UInt8.ofNat_toNat, h] at h'
  simp only [Bool.not_true, Bool.false_or, Bool.and_eq_true, decide_eq_true_eq] at h'
  exact ⟨h'.1.1, h'.1.2, h'.2⟩
theorem isD_dig {d : Nat} (h : d < 10) : isD (cellB (UInt8.ofNat (48 + d))) = true := by
  have := List.mem_of_getElem? (cell_dig h)
  unfold isD
  rw [Bool.or_eq_true]
  exact .inr (List.any_eq_true.2 ⟨_, this, decide_eq_true rfl⟩)
theorem dcells_isD (n : Nat) : ∀ c ∈ dcells n, isD c = true := by
  induction n using Nat.strongRecOn with
  | _ n ih =>
    intro c hc
    by_cases hn : n < 10
    · rw [dcells_small hn, List.mem_singleton] at hc
      rw [hc]; exact isD_dig hn
    · rw [dcells_big hn, List.mem_append, List.mem_singleton] at hc
      rcases hc with hc | hc
      · exact ih (n / 10) (by omega) c hc
      · rw [hc]; exact isD_dig (by omega)
theorem line_isD (w n left : Nat) : ∀ c ∈ lineZ w n left, isD c = true := by
  intro c hc
  unfold lineZ put at hc
  rw [List.mem_append, List.mem_append] at hc
  rcases hc with (hc | hc) | hc
  · rw [List.eq_of_mem_replicate (List.mem_of_mem_take hc)]; rfl
  · exact dcells_isD n c hc
  · rw [List.eq_of_mem_replicate (List.mem_of_mem_drop hc)]; rfl
theorem first_isD {w : Nat} {op : Int} {a : List Int} (h8 : a.length ≤ 8) : ∀ c ∈ firstZ w op a, isD c = true := by
  intro c hc
  unfold firstZ at hc
  obtain ⟨j, _, rfl⟩ := List.mem_map.1 hc
  have := carryZ_bd op h8 (w - 1 - j)
  split
  · exact isD_dig (by omega)
  · rfl
theorem find_isD {l : List UInt8} (h : ∀ c ∈ l, isD c = true) : (l.findIdx? fun y => decide ((63 : UInt8) = y)) = none := by
  rw [List.findIdx?_eq_none_iff]
  intro c hc
  exact decide_eq_false (isD_facts (h c hc)).2.1
theorem scan_skip (p : List (List UInt8)) : ∀ (q r : List (List UInt8)) (i : Nat), (∀ l ∈ q, ∀ c ∈ l, isD c = true) → scanL p (q ++ r) i = scanL p r (i + q.length)
  | [], r, i, _ => rfl
  | [] :: q, r, i, h => by
    show scanL p (q ++ r) (i + 1) = _
    rw [scan_skip p q r (i + 1) (fun l hl => h l (List.mem_cons_of_mem _ hl)), List.length_cons, show i + 1 + q.length = i + (q.length + 1) by omega]
  | (c :: t) :: q, r, i, h => by
    rw [List.cons_append, scan_no (isD_facts (h _ List.mem_cons_self c List.mem_cons_self)).1, scan_skip p q r (i + 1) (fun l hl => h l (List.mem_cons_of_mem _ hl)), List.length_cons, show i + 1 + q.length = i + (q.length + 1) by omega]
theorem valZ_line {w left : Nat} {x : Int} (h0 : 0 ≤ x) (h6 : x ≤ 999999) (h : left + lenZ x ≤ w) : valZ (lineZ w x.toNat left) = (x, true) := by
  have h1 := lenZ_six h6
  have h2 := lenZ_pos x
  unfold valZ
  rw [valF_line (x := x.toNat) h h1]
  show ((x.toNat : Int), decide (0 < ((lenN x.toNat : Nat) : Int))) = _
  rw [decide_eq_true (show 0 < ((lenN x.toNat : Nat) : Int) by have : lenN x.toNat = lenZ x := rfl; omega), Int.toNat_of_nonneg h0]
theorem dcells_line (n : Nat) : dcells n = lineZ (lenN n) n 0 := by
  rw [lineZ_eq (by omega)]
  simp
theorem valZ_dcells {x : Int} (h0 : 0 ≤ x) (h6 : x ≤ 999999) : valZ (dcells x.toNat) = (x, true) := by
  rw [dcells_line]
  exact valZ_line h0 h6 (by show 0 + lenZ x ≤ lenZ x; omega)
theorem valsF_app : ∀ (a b : List (List UInt8)), valsF (a ++ b) = (valsF a).bind fun r => (valsF b).map (r ++ ·)
  | [], b => by
    show valsF b = (valsF b).map ([] ++ ·)
    cases valsF b <;> rfl
  | l :: a, b => by
    show (if (valZ l).2 then (valsF (a ++ b)).map ((valZ l).1 :: ·) else none) = ((if (valZ l).2 then (valsF a).map ((valZ l).1 :: ·) else none)).bind fun r => (valsF b).map (r ++ ·)
    rw [valsF_app a b]
    split
    · cases valsF a with
      | none => rfl
      | some u => cases valsF b <;> rfl
    · rfl
theorem valsF_lines {w : Nat} : ∀ {a : List Int}, (∀ x ∈ a, 0 ≤ x ∧ x ≤ 999999 ∧ lenZ x ≤ w) → valsF (a.map fun x => lineZ w x.toNat 0) = some a
  | [], _ => rfl
  | x :: a, h => by
    have hx := h x List.mem_cons_self
    show (if (valZ (lineZ w x.toNat 0)).2 then (valsF (a.map fun x => lineZ w x.toNat 0)).map ((valZ (lineZ w x.toNat 0)).1 :: ·) else none) = _
    rw [valZ_line hx.1 hx.2.1 (by omega), valsF_lines (fun y hy => h y (List.mem_cons_of_mem _ hy))]
    rfl
theorem valsF_one {l : List UInt8} {x : Int} (h : valZ l = (x, true)) : valsF [l] = some [x] := by
  show (if (valZ l).2 then (some []).map ((valZ l).1 :: ·) else none) = _
  rw [h]
  rfl
theorem line_cons {w n : Nat} (h : lenN n + 1 ≤ w) : lineZ w n 0 = 0 :: lineZ (w - 1) n 0 := by
  rw [lineZ_eq (by omega), lineZ_eq (by omega), show w - 0 - lenN n = (w - 1 - 0 - lenN n) + 1 by omega, List.replicate_succ]
  rfl
theorem signed_line {w n : Nat} (h : lenN n + 1 ≤ w) (c : UInt8) : (lineZ w n 0).set 0 c = c :: lineZ (w - 1) n 0 := by
  rw [line_cons h]
  rfl
/-! ### The three kinds of pages -/
structure SumsShape (op : Int) (a ini : List Int) (z r : Int) (w : Nat) : Prop where
  ha : a = ini ++ [z]
  ne : 0 < ini.length
  page : pageZ op a = sumsZ op ini z r w
  res : r = (resZ op a).getD 0 0
  r0 : 0 ≤ r
  r8 : r ≤ 8000000
  rw' : lenZ r ≤ w
  w8 : w ≤ 8
  w2 : 2 ≤ w
  all : ∀ x ∈ a, 0 ≤ x ∧ x ≤ 999999 ∧ lenZ x + 1 ≤ w
theorem sums_shape {op : Int} {a : List Int} (V : Val op a) (ho : op = 3 ∨ op = 4) : ∃ ini z r w, SumsShape op a ini z r w := by
  obtain ⟨_, r0, r1, hc, hw⟩ := sums_facts V ho
  have hcols := colsZ_ge V
  have h2 := V.two
  refine ⟨a.dropLast, a.getLastD 0, (resZ op a).getD 0 0, widthS ((resZ op a).getD 0 0) a, split_last V.two, by simp; omega, ?_, rfl, r0, r1, by unfold widthS; omega, hw, ?_, fun x hx => ?_⟩
  · unfold pageZ
    rw [if_neg (by omega), if_neg (by omega)]
  · have := lenZ_pos (a.getD 0 0); unfold widthS; omega
  · have := V.all x hx
    have := hcols x hx
    omega
theorem prod_shape {a : List Int} (V : Val 5 a) : ∃ x y, a = [x, y] ∧ (0 ≤ x ∧ x ≤ 999999) ∧ (0 ≤ y ∧ y ≤ 999999) ∧ pageZ 5 a = productZ x y (1 + widthP x y (lenZ y)) := by
  have hl := V.pair (by omega)
  obtain ⟨x, y, r, rfl⟩ := two_at V.two
  have hr : r = [] := by simpa using hl
  subst hr
  exact ⟨x, y, rfl, V.all x (by simp), V.all y (by simp), rfl⟩
theorem div_shape {a : List Int} (V : Val 6 a) : ∃ x y, a = [x, y] ∧ (0 ≤ x ∧ x ≤ 999999) ∧ (1 ≤ y ∧ y ≤ 999999) ∧ pageZ 6 a = divZ x y := by
  have hl := V.pair (by omega)
  have hfr := V.frac rfl
  obtain ⟨x, y, r, rfl⟩ := two_at V.two
  have hr : r = [] := by simpa using hl
  subst hr
  have hy := V.all y (by simp)
  have hy0 : y ≠ 0 := hfr
  exact ⟨x, y, rfl, V.all x (by simp), ⟨by omega, hy.2⟩, rfl⟩
def signOf (op : Int) : UInt8 := if op = 3 then 44 else 36
theorem guess_sums {op : Int} {a ini : List Int} {z r : Int} {w : Nat} (S : SumsShape op a ini z r w) (V : Val op a) (ho : op = 3 ∨ op = 4) : guessZ (pageZ op a) = (op, a, true) := by
  have h8 := V.eight
  have hall := S.all
  have hne := S.ne
  rw [S.page]
  have ha := S.ha
  have hz := hall z (by rw [ha]; simp)
  have hz' : lenN z.toNat + 1 ≤ w := hz.2.2
  have hb : sumsZ op ini z r w = (firstZ w op (ini ++ [z]) :: (ini.map fun x => lineZ w x.toNat 0)) ++ ((signOf op :: lineZ (w - 1) z.toNat 0) :: [List.replicate w 18, lineZ w r.toNat 0]) := by
    unfold sumsZ signOf
    rw [signed_line hz']
  have hq : ∀ l ∈ firstZ w op (ini ++ [z]) :: (ini.map fun x => lineZ w x.toNat 0), ∀ c ∈ l, isD c = true := by
    intro l hl
    rcases List.mem_cons.1 hl with rfl | hl
    · exact first_isD (by rw [← ha]; exact h8)
    · obtain ⟨x, _, rfl⟩ := List.mem_map.1 hl
      exact line_isD _ _ _
  have hlen : ((firstZ w op (ini ++ [z]) :: (ini.map fun x => lineZ w x.toNat 0))).length = ini.length + 1 := by simp
  have hop : opOf (signOf op) = some op := by
    unfold signOf
    rcases ho with rfl | rfl <;> decide
  have hfr : frOf op = 1 := by
    unfold frOf
    rw [if_neg (by omega)]
  have hvals : valsF ((ini.map fun x => lineZ w x.toNat 0) ++ [lineZ (w - 1) z.toNat 0]) = some a := by
    rw [valsF_app, valsF_lines (fun x hx => by have := hall x (by rw [ha]; simp [hx]); omega), valsF_one (valZ_line hz.1 hz.2.1 (by omega)), ha]
    rfl
  rw [hb]
  generalize hq' : firstZ w op (ini ++ [z]) :: (ini.map fun x => lineZ w x.toNat 0) = q at *
  have hg : (q ++ (signOf op :: lineZ (w - 1) z.toNat 0) :: [List.replicate w 18, lineZ w r.toNat 0]).getD 1 [] ∈ q := by
    rw [List.getD_eq_getElem?_getD, List.getElem?_append_left (by omega), List.getElem?_eq_getElem (by omega)]
    exact List.getElem_mem _
  unfold guessZ
  rw [if_neg (by simp), find_isD (hq _ hg)]
  simp only []
  rw [scan_skip _ q _ 0 hq, scan_op hop, hfr, if_neg (by omega), show 0 + q.length = q.length by omega, List.take_left, ← hq']
  show withZ op ((ini.map fun x => lineZ w x.toNat 0) ++ [lineZ (w - 1) z.toNat 0]) = _
  unfold withZ
  rw [hvals]
theorem guess_prod {x y : Int} (hx : 0 ≤ x ∧ x ≤ 999999) (hy : 0 ≤ y ∧ y ≤ 999999) {w : Nat} (h1 : lenZ x ≤ w) (h2 : lenZ y + 1 ≤ w) : guessZ (productZ x y w) = (5, [x, y], true) := by
  unfold productZ
  rw [signed_line h2]
  show guessZ ([lineZ w x.toNat 0] ++ ((33 :: lineZ (w - 1) y.toNat 0) :: (List.replicate w 18 :: (partL x y w (lenZ y) ++ _)))) = _
  generalize List.replicate w 18 :: (partL x y w (lenZ y) ++ _) = rest
  unfold guessZ
  rw [if_neg (by simp)]
  have hf : (List.findIdx? (fun y => decide ((63 : UInt8) = y)) (([lineZ w x.toNat 0] ++ ((33 :: lineZ (w - 1) y.toNat 0) :: rest)).getD 1 [])) = none := by
    show List.findIdx? (fun y => decide ((63 : UInt8) = y)) (33 :: lineZ (w - 1) y.toNat 0) = none
    rw [List.findIdx?_eq_none_iff]
    intro c hc
    rcases List.mem_cons.1 hc with rfl | hc
    · rfl
    · exact decide_eq_false (isD_facts (line_isD _ _ _ c hc)).2.1
  rw [hf]
  simp only []
  rw [scan_skip _ [lineZ w x.toNat 0] _ 0 (fun l hl c hc => by rw [List.mem_singleton.1 hl] at hc; exact line_isD _ _ _ c hc), scan_op (show opOf 33 = some 5 by decide)]
  show withZ 5 ([lineZ w x.toNat 0] ++ [lineZ (w - 1) y.toNat 0]) = _
  unfold withZ
  rw [valsF_app, valsF_one (valZ_line hx.1 hx.2 (by omega)), valsF_one (valZ_line hy.1 hy.2 (by omega))]
  rfl
theorem guess_div {x y : Int} (hx : 0 ≤ x ∧ x ≤ 999999) (hy : 1 ≤ y ∧ y ≤ 999999) : guessZ (divZ x y) = (6, [x, y], true) := by
  unfold divZ guessZ
  rw [if_neg (by simp)]
  have hf : (List.findIdx? (fun y => decide ((63 : UInt8) = y)) (dcells y.toNat ++ [63] ++ dcells x.toNat)) = some (dcells y.toNat).length := by
    rw [List.append_assoc, List.findIdx?_append, find_isD (dcells_isD _)]
    show Option.map (· + (dcells y.toNat).length) (List.findIdx? (fun y => decide ((63 : UInt8) = y)) (63 :: dcells x.toNat)) = _
    rw [List.findIdx?_cons, if_pos (decide_eq_true rfl)]
    simp
  show (match List.findIdx? (fun y => decide ((63 : UInt8) = y)) (dcells y.toNat ++ [63] ++ dcells x.toNat) with
    | some j => withZ 6 [(dcells y.toNat ++ [63] ++ dcells x.toNat).drop (j + 1), (dcells y.toNat ++ [63] ++ dcells x.toNat).take j]
    | none => _) = _
  rw [hf]
  simp only []
  have hd : (dcells y.toNat ++ [63] ++ dcells x.toNat).drop ((dcells y.toNat).length + 1) = dcells x.toNat := by
    rw [show (dcells y.toNat).length + 1 = (dcells y.toNat ++ [63]).length by simp, List.drop_left]
  have ht : (dcells y.toNat ++ [63] ++ dcells x.toNat).take (dcells y.toNat).length = dcells y.toNat := by
    rw [List.append_assoc, List.take_left]
  rw [hd, ht]
  unfold withZ
  rw [show [dcells x.toNat, dcells y.toNat] = [dcells x.toNat] ++ [dcells y.toNat] from rfl, valsF_app, valsF_one (valZ_dcells hx.1 hx.2), valsF_one (valZ_dcells (by omega) hy.2)]
  rfl
theorem guess_page {op : Int} {a : List Int} (V : Val op a) : guessZ (pageZ op a) = (op, a, true) := by
  rcases V.opr with h | h | h | h
  · obtain ⟨ini, z, r, w, S⟩ := sums_shape V (.inl h)
    exact guess_sums S V (.inl h)
  · obtain ⟨ini, z, r, w, S⟩ := sums_shape V (.inr h)
    exact guess_sums S V (.inr h)
  · subst h
    obtain ⟨x, y, rfl, hx, hy, hp⟩ := prod_shape V
    obtain ⟨wa, wb, wab⟩ := widthP_base x y (lenZ y)
    rw [hp]
    exact guess_prod hx hy (by omega) (by omega)
  · subst h
    obtain ⟨x, y, rfl, hx, hy, hp⟩ := div_shape V
    rw [hp]
    exact guess_div hx hy
end Go.Proofs
/- What the reader returns, and pages apart from blanks. -/
namespace Go.Proofs
open Go Go.Ax Go.Ax.Alg
theorem valsF_len : ∀ {l : List (List UInt8)} {r : List Int}, valsF l = some r → r.length = l.length
  | [], r, h => by cases h; rfl
  | x :: l, r, h => by
    have h : (if (valZ x).2 then (valsF l).map ((valZ x).1 :: ·) else none) = some r := h
    split at h
    · obtain ⟨u, hu, rfl⟩ := Option.map_eq_some_iff.1 h
      simp [valsF_len hu]
    · cases h
theorem with_len (op : Int) (l : List (List UInt8)) : (withZ op l).2.1.length ≤ l.length := by
  unfold withZ
  cases h : valsF l with
  | none => simp
  | some r => simp [valsF_len h]
theorem scan_len (p : List (List UInt8)) : ∀ (q : List (List UInt8)) (i : Nat), (scanL p q i).2.1.length ≤ p.length + 1
  | [], _ => by simp [scanL]
  | [] :: q, i => scan_len p q (i + 1)
  | (c :: t) :: q, i => by
    cases h : opOf c with
    | none => rw [scan_no h]; exact scan_len p q (i + 1)
    | some op =>
      rw [scan_op h]
      split
      · simp
      · have := with_len op ((p.take i).drop (frOf op).toNat ++ [t])
        simp at this
        omega
theorem guess_len {p : List (List UInt8)} (hp : Small p) : (guessZ p).2.1.length ≤ 90 := by
  have := hp.1
  unfold guessZ
  split
  · simp
  · split
    · exact Nat.le_trans (with_len _ _) (by simp)
    · have := scan_len p p 0
      omega
theorem w28_ur (x : Int) (y : List Int) (z : Int) : (some (w28r0 x y z) : O).bind w28un = some (x, y, z) := rfl
theorem w28_eq {p : List (List UInt8)} (hp : Small p) : w28z 100 p = some (readZ p) := by
  unfold w28z w28 w28G readZ
  have h48 := w48_eq hp
  have hl := guess_len hp
  have h21 := w21_eq (op := (guessZ p).1) hl
  have h32 := w32_eq hp (lay_small (guessZ p).1 (guessZ p).2.1)
  rw [ck_of (w48_p h48), w48_y2 h48, w48_y0 h48, w48_y1 h48]
  cases hg : (guessZ p).2.2 with
  | false => rw [Bool.not_false, br_t]; exact w28_ur _ _ _
  | true =>
    rw [Bool.not_true, br_f, ck_of (w21_p h21), w21_y1 h21, w21_y0 h21, w32_p h32, w32_y0 h32, Bool.or_true, ck_t, if_pos rfl]
    unfold layZ
    by_cases hv : validZ (guessZ p).1 (guessZ p).2.1 = 0
    · rw [if_pos hv]
      by_cases hs : plainZ p = plainZ (pageZ (guessZ p).1 (guessZ p).2.1)
      · rw [if_pos ⟨hv, hs⟩]
        simp only [decide_eq_true hs]
        exact w28_ur _ _ _
      · rw [if_neg (fun h => hs h.2)]
        simp only [decide_eq_false hs]
        exact w28_ur _ _ _
    · rw [if_neg hv, if_neg (fun h => hv h.1)]
      simp only [decide_eq_true (show validZ (guessZ p).1 (guessZ p).2.1 ≠ 0 from hv), Bool.true_or]
      exact w28_ur _ _ _
/-! ### Blanks at the ends -/
theorem trimN_zeros (l : List UInt8) : ∀ n, n ≤ l.length → l.take n = l.take (trimN l n) ++ List.replicate (n - trimN l n) 0
  | 0, _ => by simp [trimN]
  | n + 1, h => by
    unfold trimN
    split
    · rename_i h0
      have ht := trimN_le l n
      rw [List.take_add_one, h0, trimN_zeros l n (by omega), List.append_assoc]
      congr 1
      rw [show n + 1 - trimN l n = (n - trimN l n) + 1 by omega, List.replicate_succ']
      simp
    · simp
theorem trim_zeros (l : List UInt8) : ∃ k, l = trimL l ++ List.replicate k 0 := by
  have h := trimN_zeros l l.length (Nat.le_refl _)
  rw [List.take_length] at h
  exact ⟨_, h⟩
theorem trim_nil {l : List UInt8} (h : trimL l = []) : ∀ c ∈ l, c = 0 := by
  obtain ⟨k, hk⟩ := trim_zeros l
  rw [h] at hk
  intro c hc
  rw [hk] at hc
  exact List.eq_of_mem_replicate (by simpa using hc)
theorem valZ_zeros (t : List UInt8) (k : Nat) : valZ (t ++ List.replicate k 0) = valZ t := by
  unfold valZ
  rw [valF_app]
  cases valF t 0 0 with
  | none => rfl
  | some r => simp only [Option.bind_some, valF_blank]
theorem scan_trim (p : List (List UInt8)) : ∀ (q : List (List UInt8)) (i : Nat), scanL (p.map trimL) (q.map trimL) i = scanL p q i
  | [], _ => rfl
  | [] :: q, i => scan_trim p q (i + 1)
  | (c :: t) :: q, i => by
    obtain ⟨k, hk⟩ := trim_zeros (c :: t)
    rw [List.map_cons]
    cases ht : trimL (c :: t) with
    | nil =>
      have h0 : c = 0 := trim_nil ht c List.mem_cons_self
      rw [scan_no (show opOf c = none by rw [h0]; decide)]
      exact scan_trim p q (i + 1)
    | cons c' t' =>
      rw [ht, List.cons_append] at hk
      obtain ⟨rfl, rfl⟩ := List.cons.inj hk
      cases h : opOf c with
      | none => rw [scan_no h, scan_no h]; exact scan_trim p q (i + 1)
      | some op =>
        rw [scan_op h, scan_op h, ← List.map_take, ← List.map_drop]
        have e : ∀ u : List (List UInt8), valsF (u.map trimL ++ [t']) = valsF (u ++ [t' ++ List.replicate k 0]) := by
          intro u
          rw [valsF_app, valsF_app]
          have e1 : valsF [t' ++ List.replicate k 0] = valsF [t'] := by
            show (if (valZ (t' ++ List.replicate k 0)).2 then (some []).map ((valZ (t' ++ List.replicate k 0)).1 :: ·) else none) = (if (valZ t').2 then (some []).map ((valZ t').1 :: ·) else none)
            rw [valZ_zeros]
          have e2 : ∀ u : List (List UInt8), valsF (u.map trimL) = valsF u := by
            intro u
            induction u with
            | nil => rfl
            | cons x u ih =>
              show (if (valZ (trimL x)).2 then (valsF (u.map trimL)).map ((valZ (trimL x)).1 :: ·) else none) = (if (valZ x).2 then (valsF u).map ((valZ x).1 :: ·) else none)
              rw [valZ_trim, ih]
          rw [e1, e2]
        unfold withZ
        rw [e]
theorem guess_trim (p : List (List UInt8)) : guessZ (p.map trimL) = guessZ p := by
  unfold guessZ
  rw [List.length_map]
  by_cases h2 : p.length < 2
  · rw [if_pos h2, if_pos h2]
  · rw [if_neg h2, if_neg h2]
    have hg : (p.map trimL).getD 1 [] = trimL (p.getD 1 []) := by
      rw [List.getD_eq_getElem?_getD, List.getD_eq_getElem?_getD, List.getElem?_map, List.getElem?_eq_getElem (by omega)]
      rfl
    rw [hg]
    generalize p.getD 1 [] = l
    obtain ⟨k, hk⟩ := trim_zeros l
    generalize trimL l = t at hk
    subst hk
    have hz : List.findIdx? (fun y => decide ((63 : UInt8) = y)) (List.replicate k 0) = none := by
      rw [List.findIdx?_eq_none_iff]
      intro c hc
      rw [List.eq_of_mem_replicate hc]
      rfl
    rw [List.findIdx?_append, hz]
    cases hj : List.findIdx? (fun y => decide ((63 : UInt8) = y)) t with
    | none => exact scan_trim p p 0
    | some j =>
      have hjl := (List.findIdx?_eq_some_iff_getElem.1 hj).1
      show withZ 6 [t.drop (j + 1), t.take j] = withZ 6 [(t ++ List.replicate k 0).drop (j + 1), (t ++ List.replicate k 0).take j]
      rw [List.drop_append_of_le_length (by omega), List.take_append_of_le_length (by omega)]
      unfold withZ
      rw [show [t.drop (j + 1) ++ List.replicate k 0, t.take j] = [t.drop (j + 1) ++ List.replicate k 0] ++ [t.take j] from rfl, show [t.drop (j + 1), t.take j] = [t.drop (j + 1)] ++ [t.take j] from rfl, valsF_app, valsF_app]
      have e1 : ∀ u : List UInt8, valsF [u ++ List.replicate k 0] = valsF [u] := by
        intro u
        show (if (valZ (u ++ List.replicate k 0)).2 then (some []).map ((valZ (u ++ List.replicate k 0)).1 :: ·) else none) = (if (valZ u).2 then (some []).map ((valZ u).1 :: ·) else none)
        rw [valZ_zeros]
      rw [e1]
/-! ### The last line of a page -/
theorem dig_ne {d : Nat} (h : d < 10) : cellB (UInt8.ofNat (48 + d)) ≠ 0 := (cdig_dig h).1
theorem dcells_ne (n : Nat) : ∀ c ∈ dcells n, c ≠ 0 := by
  induction n using Nat.strongRecOn with
  | _ n ih =>
    intro c hc
    by_cases hn : n < 10
    · rw [dcells_small hn, List.mem_singleton] at hc
      rw [hc]; exact dig_ne hn
    · rw [dcells_big hn, List.mem_append, List.mem_singleton] at hc
      rcases hc with hc | hc
      · exact ih (n / 10) (by omega) c hc
      · rw [hc]; exact dig_ne (by omega)
theorem line_trim {w n left : Nat} (h : left + lenN n ≤ w) : trimL (lineZ w n left) ≠ [] := by
  intro ht
  have h0 := trim_nil ht
  rw [lineZ_eq h] at h0
  have hp := lenN_pos n
  have hl := dcells_len n
  cases hd : dcells n with
  | nil => rw [hd] at hl; simp at hl; omega
  | cons c t => exact dcells_ne n c (by rw [hd]; exact List.mem_cons_self) (h0 c (by rw [hd]; simp))
theorem plain_last {pre : List (List UInt8)} {l : List UInt8} (h : trimL l ≠ []) : plainZ (pre ++ [l]) = (pre ++ [l]).map trimL := by
  unfold plainZ
  rw [show (pre ++ [l]).length = pre.length + 1 by simp]
  have hg : ((pre ++ [l]).map trimL)[pre.length]? = some (trimL l) := by simp
  unfold dropE
  rw [if_neg (by rw [hg]; simpa using h)]
  exact List.take_of_length_le (by simp)
theorem page_last {op : Int} {a : List Int} (V : Val op a) : ∃ pre w x left, pageZ op a = pre ++ [lineZ w x left] ∧ left + lenN x ≤ w ∧ 1 ≤ pre.length := by
  have hs : op = 3 ∨ op = 4 → ∃ pre w x left, pageZ op a = pre ++ [lineZ w x left] ∧ left + lenN x ≤ w ∧ 1 ≤ pre.length := fun ho => by
    obtain ⟨ini, z, r, w, S⟩ := sums_shape V ho
    refine ⟨firstZ w op (ini ++ [z]) :: (ini.map fun x => lineZ w x.toNat 0) ++ [(lineZ w z.toNat 0).set 0 (if op = 3 then 44 else 36), List.replicate w 18], w, r.toNat, 0, ?_, by have : lenN r.toNat = lenZ r := rfl; have := S.rw'; omega, by simp⟩
    rw [S.page]
    unfold sumsZ
    simp
  rcases V.opr with h | h | h | h
  · exact hs (.inl h)
  · exact hs (.inr h)
  · subst h
    obtain ⟨x, y, rfl, hx, hy, hp⟩ := prod_shape V
    obtain ⟨wa, wb, wab⟩ := widthP_base x y (lenZ y)
    rw [hp]
    have hpos := lenZ_pos y
    have hpart := widthP_part x y (show lenZ y - 1 < lenZ y by omega)
    generalize widthP x y (lenZ y) = wd at *
    unfold productZ
    by_cases h1 : 1 < lenZ y
    · rw [if_pos h1]
      exact ⟨[lineZ (1 + wd) x.toNat 0, (lineZ (1 + wd) y.toNat 0).set 0 33, List.replicate (1 + wd) 18] ++ partL x y (1 + wd) (lenZ y) ++ [List.replicate (1 + wd) 18], 1 + wd, (x * y).toNat, 0, by simp, by show 0 + lenZ (x * y) ≤ _; omega, by simp⟩
    · rw [if_neg h1, List.append_nil]
      have hl : lenZ y = lenZ y - 1 + 1 := by omega
      refine ⟨[lineZ (1 + wd) x.toNat 0, (lineZ (1 + wd) y.toNat 0).set 0 33, List.replicate (1 + wd) 18] ++ partL x y (1 + wd) (lenZ y - 1), 1 + wd, (partZ x y (lenZ y - 1)).toNat, lenZ y - 1, ?_, by show lenZ y - 1 + lenZ (partZ x y (lenZ y - 1)) ≤ _; omega, by simp⟩
      rw [List.append_assoc]
      congr 1
      conv => lhs; rw [hl]
      exact partL_succ _ _ _ _
  · subst h
    obtain ⟨x, y, rfl, hx, hy, hp⟩ := div_shape V
    have hqa : x / y ≤ x := Int.ediv_le_self _ hx.1
    have hLa : lenZ (x / y) ≤ lenZ x := lenZ_mono hqa
    have hpos := lenZ_pos (x / y)
    rw [hp]
    unfold divZ
    generalize hw : lenZ x + 1 + lenZ y = w
    have hl : lenZ (x / y) = lenZ (x / y) - 1 + 1 := by omega
    generalize hL : lenZ (x / y) = L at *
    have h2 := fit_of hx.1 (c := L - 1 - (L - 1) - 1) (by omega) (next_le hx.1 (show 0 < y by omega) (L - 1 - (L - 1))).2
    refine ⟨[lineZ w (x / y).toNat 0, dcells y.toNat ++ [63] ++ dcells x.toNat] ++ stepsZ x y w L (L - 1) ++ [lineZ w (stepPart x y (L - 1 - (L - 1))).toNat (L - 1 - (L - 1))], w, (nextZ x y (L - 1 - (L - 1))).toNat, L - 1 - (L - 1) - 1, ?_, by show _ + lenZ (nextZ x y _) ≤ w; omega, by simp⟩
    have e := stepsZ_succ x y w L (L - 1)
    rw [← hl] at e
    rw [e]
    simp
theorem plain_page {op : Int} {a : List Int} (V : Val op a) : plainZ (pageZ op a) = (pageZ op a).map trimL := by
  obtain ⟨pre, w, x, left, h, hf, _⟩ := page_last V
  rw [h]
  exact plain_last (line_trim hf)
theorem page_inj {op op' : Int} {a a' : List Int} (V : Val op a) (V' : Val op' a') : plainZ (pageZ op a) = plainZ (pageZ op' a') ↔ op = op' ∧ a = a' := by
  constructor
  · intro h
    rw [plain_page V, plain_page V'] at h
    have h1 := congrArg guessZ h
    rw [guess_trim, guess_trim, guess_page V, guess_page V'] at h1
    exact ⟨congrArg (·.1) h1, congrArg (·.2.1) h1⟩
  · rintro ⟨rfl, rfl⟩
    rfl
theorem read_page {op : Int} {a : List Int} (V : Val op a) : readZ (pageZ op a) = (op, a, 0) := by
  unfold readZ
  rw [guess_page V]
  simp only []
  rw [if_pos trivial, if_pos ⟨of_val V, trivial⟩]
end Go.Proofs
