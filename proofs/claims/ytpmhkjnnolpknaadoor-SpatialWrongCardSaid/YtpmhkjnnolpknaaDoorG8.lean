/- Divisions. Conditions are in the theorems. -/
import Derived.Test.YtpmhkjnnolpknaaDoorG7
import Derived.Lib.Atoi
/- Digits as text: one by one, from the left; what of them is read back. -/
namespace Go.Proofs
open Go Go.Ax Go.Ax.Alg
theorem dec_at {u t : Nat} (h : t < Lib.nDigits u) : (Lib.decDigits u)[t]? = some (UInt8.ofNat (48 + u / 10 ^ (Lib.nDigits u - 1 - t) % 10)) := by
  rw [Lib.decDigits_eq, List.getElem?_map, List.getElem?_range h]
  rfl
theorem nDigits_sh : ∀ (c u : Nat), c < Lib.nDigits u → Lib.nDigits (u / 10 ^ c) + c = Lib.nDigits u
  | 0, u, _ => by simp
  | c + 1, u, h => by
    by_cases hu : u < 10
    · rw [Lib.nDigits_small hu] at h; omega
    · rw [Lib.nDigits_big hu] at h ⊢
      have := nDigits_sh c (u / 10) (by omega)
      rw [Nat.pow_succ, Nat.mul_comm, ← Nat.div_div_eq_div_mul]
      omega
theorem dec_take : ∀ (c u : Nat), c < Lib.nDigits u → (Lib.decDigits u).take (Lib.nDigits u - c) = Lib.decDigits (u / 10 ^ c)
  | 0, u, _ => by
    rw [Nat.sub_zero, List.take_of_length_le (by rw [dec_len]; omega), Nat.pow_zero, Nat.div_one]
  | c + 1, u, h => by
    by_cases hu : u < 10
    · rw [Lib.nDigits_small hu] at h; omega
    · rw [Lib.nDigits_big hu] at h ⊢
      have ih := dec_take c (u / 10) (by omega)
      rw [Lib.decDigits, dif_neg hu, Nat.pow_succ, Nat.mul_comm, ← Nat.div_div_eq_div_mul, ← ih, List.take_append_of_le_length (by rw [dec_len]; omega)]
      congr 1
      omega
theorem dig_val {d : Nat} (h : d < 10) : Lib.digitVal (UInt8.ofNat (48 + d)) = some d := by
  rcases (show d = 0 ∨ d = 1 ∨ d = 2 ∨ d = 3 ∨ d = 4 ∨ d = 5 ∨ d = 6 ∨ d = 7 ∨ d = 8 ∨ d = 9 by omega) with h | h | h | h | h | h | h | h | h | h <;> subst h <;> decide
theorem dig_sub {d : Nat} (h : d < 10) : (UInt8.ofNat (48 + d) - 48).toNat = d := by
  rcases (show d = 0 ∨ d = 1 ∨ d = 2 ∨ d = 3 ∨ d = 4 ∨ d = 5 ∨ d = 6 ∨ d = 7 ∨ d = 8 ∨ d = 9 by omega) with h | h | h | h | h | h | h | h | h | h <;> subst h <;> decide
theorem dig_sign {d : Nat} (h : d < 10) : (UInt8.ofNat (48 + d) == 45) = false ∧ (UInt8.ofNat (48 + d) == 43) = false := by
  rcases (show d = 0 ∨ d = 1 ∨ d = 2 ∨ d = 3 ∨ d = 4 ∨ d = 5 ∨ d = 6 ∨ d = 7 ∨ d = 8 ∨ d = 9 by omega) with h | h | h | h | h | h | h | h | h | h <;> subst h <;> decide
theorem dec_from (u : Nat) : Lib.decFrom 0 (Lib.decDigits u) = some u := by
  induction u using Nat.strongRecOn with
  | _ u ih =>
    by_cases hu : u < 10
    · rw [Lib.decDigits, dif_pos hu]
      have := Lib.decFrom_take [UInt8.ofNat (48 + u)] 0 0 0 (UInt8.ofNat (48 + u)) u rfl rfl (dig_val hu)
      simpa using this
    · have h := ih (u / 10) (by omega)
      have hd : Lib.decDigits u = Lib.decDigits (u / 10) ++ [UInt8.ofNat (48 + u % 10)] := by rw [Lib.decDigits, dif_neg hu]
      have := Lib.decFrom_take (Lib.decDigits u) (Lib.decDigits (u / 10)).length 0 (u / 10) (UInt8.ofNat (48 + u % 10)) (u % 10) (by rw [hd, List.take_left]; exact h) (by rw [hd]; simp) (dig_val (by omega))
      rw [List.take_of_length_le (by rw [hd]; simp)] at this
      rw [this]
      congr 1
      omega
theorem atoi_dec (u : Nat) : Lib.atoi (Lib.decDigits u) = some (u : Int) := by
  have h0 := dec_at (u := u) (t := 0) (Lib.nDigits_pos u)
  have hf := dec_from u
  generalize Lib.decDigits u = l at *
  cases l with
  | nil => cases h0
  | cons b r =>
    have hb : b = UInt8.ofNat (48 + u / 10 ^ (Lib.nDigits u - 1 - 0) % 10) := by simpa using h0
    obtain ⟨s1, s2⟩ := dig_sign (d := u / 10 ^ (Lib.nDigits u - 1 - 0) % 10) (by omega)
    rw [← hb] at s1 s2
    simp only [Lib.atoi, s1, s2, Bool.false_eq_true, if_false]
    have : Lib.decNat (b :: r) = some u := hf
    rw [this]
    rfl
theorem w68_eq (N : Nat) {u : Nat} (h : Lib.nDigits u ≤ 18) : w68p N (Lib.decDigits u) = true ∧ w68y0 N (Lib.decDigits u) = (u : Int) := by
  unfold w68p w68y0
  rw [atoi_dec, dec_len, decide_eq_true h]
  exact ⟨rfl, rfl⟩
end Go.Proofs
/- Long division: what stands under each other. -/
namespace Go.Proofs
open Go Go.Ax Go.Ax.Alg
/-- The remainder before the column c is brought down to the left of it. -/
def remZ (a b : Int) (c : Nat) : Int := a / ((10 ^ c : Nat) : Int) % b
def stepPart (a b : Int) (c : Nat) : Int := b * digZ (a / b) c
def stepAbove (a b : Int) (c : Nat) : Int := 10 * remZ a b (c + 1) + digZ a c
theorem sh_dig (x : Int) (c : Nat) : x / ((10 ^ c : Nat) : Int) = 10 * (x / ((10 ^ (c + 1) : Nat) : Int)) + digZ x c := by
  rw [← sh_succ]
  unfold digZ
  omega
theorem sh_comm {a b : Int} (hb : 0 < b) (c : Nat) : a / b / ((10 ^ c : Nat) : Int) = a / ((10 ^ c : Nat) : Int) / b := by
  rw [Int.ediv_ediv_of_nonneg (by omega), Int.ediv_ediv_of_nonneg (Int.natCast_nonneg _), Int.mul_comm]
theorem rem_eq {a b : Int} (hb : 0 < b) (c : Nat) : remZ a b c = a / ((10 ^ c : Nat) : Int) - b * (a / b / ((10 ^ c : Nat) : Int)) := by
  unfold remZ
  rw [sh_comm hb]
  have := Int.emod_add_mul_ediv (a / ((10 ^ c : Nat) : Int)) b
  omega
theorem step_rem {a b : Int} (hb : 0 < b) (c : Nat) : stepAbove a b c - stepPart a b c = remZ a b c := by
  unfold stepAbove stepPart
  rw [rem_eq hb (c + 1), rem_eq hb c, sh_dig a c, sh_dig (a / b) c, Int.mul_add, Int.mul_sub]
  have : b * (10 * (a / b / ((10 ^ (c + 1) : Nat) : Int))) = 10 * (b * (a / b / ((10 ^ (c + 1) : Nat) : Int))) := by rw [Int.mul_left_comm]
  omega
theorem rem_bd {a b : Int} (hb : 0 < b) (c : Nat) : 0 ≤ remZ a b c ∧ remZ a b c < b := ⟨Int.emod_nonneg _ (by omega), Int.emod_lt_of_pos _ hb⟩
theorem rem_le {a b : Int} (ha : 0 ≤ a) (hb : 0 < b) (c : Nat) : remZ a b c ≤ a / ((10 ^ c : Nat) : Int) := by
  rw [rem_eq hb]
  have h1 := (sh_bd (Int.ediv_nonneg ha (show 0 ≤ b by omega)) c).1
  have := Int.mul_nonneg (show 0 ≤ b by omega) h1
  omega
theorem above_le {a b : Int} (ha : 0 ≤ a) (hb : 0 < b) (c : Nat) : 0 ≤ stepAbove a b c ∧ stepAbove a b c ≤ a / ((10 ^ c : Nat) : Int) := by
  have h1 := rem_le ha hb (c + 1)
  have h2 := (rem_bd (a := a) hb (c + 1)).1
  have h3 := digZ_bd a c
  unfold stepAbove
  rw [sh_dig a c]
  omega
theorem part_le {a b : Int} (ha : 0 ≤ a) (hb : 0 < b) (c : Nat) : 0 ≤ stepPart a b c ∧ stepPart a b c ≤ a / ((10 ^ c : Nat) : Int) := by
  have h1 := above_le ha hb c
  have h2 := step_rem (a := a) hb c
  have h3 := (rem_bd (a := a) hb c).1
  have h4 := digZ_bd (a / b) c
  have h5 : 0 ≤ stepPart a b c := Int.mul_nonneg (by omega) h4.1
  omega
theorem lenZ_sh {a : Int} (ha : 0 ≤ a) {c : Nat} (hc : c < lenZ a) : lenZ (a / ((10 ^ c : Nat) : Int)) + c = lenZ a := by
  have h := nDigits_sh c a.toNat hc
  unfold lenZ
  have e : (a / ((10 ^ c : Nat) : Int)).toNat = a.toNat / 10 ^ c := by
    obtain ⟨u, rfl⟩ := Int.eq_ofNat_of_zero_le ha
    rw [← Int.natCast_ediv, Int.toNat_natCast, Int.toNat_natCast]
  rw [e]
  exact h
theorem fit_of {a y : Int} (ha : 0 ≤ a) {c : Nat} (hc : c < lenZ a) (hy : y ≤ a / ((10 ^ c : Nat) : Int)) : lenZ y + c ≤ lenZ a := by
  have h1 := lenZ_mono hy
  have h2 := lenZ_sh ha hc
  omega
theorem above_start {a b : Int} (ha : 0 ≤ a) (hb : 0 < b) (c : Nat) (h : lenZ (a / b) ≤ c + 1) : stepAbove a b c = a / ((10 ^ c : Nat) : Int) := by
  unfold stepAbove
  rw [rem_eq hb (c + 1), sh_zero (Int.ediv_nonneg ha (by omega)) h, sh_dig a c]
  omega
/-- What stands under the product of the column c, and how far it stands to the left. -/
def nextZ (a b : Int) (c : Nat) : Int := if 0 < c then stepAbove a b (c - 1) else remZ a b 0
theorem next_le {a b : Int} (ha : 0 ≤ a) (hb : 0 < b) (c : Nat) : 0 ≤ nextZ a b c ∧ nextZ a b c ≤ a / ((10 ^ (c - 1) : Nat) : Int) := by
  unfold nextZ
  split
  · exact above_le ha hb (c - 1)
  · have h0 : c = 0 := by omega
    subst h0
    exact ⟨(rem_bd hb 0).1, rem_le ha hb 0⟩
def stepsZ (a b : Int) (width L i : Nat) : List (List UInt8) := (List.range i).flatMap fun j => [lineZ width (stepPart a b (L - 1 - j)).toNat (L - 1 - j), lineZ width (nextZ a b (L - 1 - j)).toNat (L - 1 - j - 1)]
theorem stepsZ_succ (a b : Int) (width L i : Nat) : stepsZ a b width L (i + 1) = stepsZ a b width L i ++ [lineZ width (stepPart a b (L - 1 - i)).toNat (L - 1 - i), lineZ width (nextZ a b (L - 1 - i)).toNat (L - 1 - i - 1)] := by
  unfold stepsZ
  rw [List.range_succ, List.flatMap_append]
  simp
theorem stepsZ_len (a b : Int) (width L : Nat) : ∀ i, (stepsZ a b width L i).length = 2 * i
  | 0 => rfl
  | i + 1 => by rw [stepsZ_succ, List.length_append, stepsZ_len a b width L i]; simp; omega
theorem ofdig {z : Int} (k : Nat) (h0 : 0 ≤ z) : z.toNat / 10 ^ k % 10 = (digZ z k).toNat := by
  obtain ⟨u, rfl⟩ := Int.eq_ofNat_of_zero_le h0
  unfold digZ
  rw [← Int.natCast_ediv]
  generalize h : u / 10 ^ k = v
  have : (Int.ofNat u).toNat = u := rfl
  simp only [Int.toNat_natCast, h]
  omega
theorem w44_loop {a b : Int} (ha : 0 ≤ a ∧ a ≤ 999999) (hb : 1 ≤ b ∧ b ≤ 999999) {width : Nat} (hw : width < 90) (hfit : lenZ a ≤ width) (F : List (List UInt8)) (hF : F.length ≤ 10) (k0 : Int × List (List UInt8) → O) (k1 k2 : Unit → O) : ∀ (m i : Nat), lenZ (a / b) - i < m → i ≤ lenZ (a / b) →
    ∀ ab : Int, (i < lenZ (a / b) → ab = stepAbove a b (lenZ (a / b) - 1 - i)) →
    w44l0 100 m (b, lenZ a, Lib.decDigits a.toNat, Lib.decDigits (a / b).toNat, ab, lenZ (a / b), i, width, F ++ stepsZ a b width (lenZ (a / b)) i) k0 k1 k2 = k0 (width, F ++ stepsZ a b width (lenZ (a / b)) (lenZ (a / b)))
  | 0, i, h, _, _, _ => by omega
  | m + 1, i, h, hi, ab, hab => by
    show w44F0 100 _ _ b (lenZ a) (Lib.decDigits a.toNat) (Lib.decDigits (a / b).toNat) (lenZ (a / b)) ab i width (F ++ stepsZ a b width (lenZ (a / b)) i) = _
    unfold w44F0
    have hq0 : 0 ≤ a / b := Int.ediv_nonneg ha.1 (by omega)
    have hqa : a / b ≤ a := Int.ediv_le_self _ ha.1
    have h6a := lenZ_six ha.2
    have hLa : lenZ (a / b) ≤ lenZ a := lenZ_mono hqa
    generalize hL : lenZ (a / b) = L at *
    by_cases hlt : i < L
    · have hab := hab hlt
      obtain ⟨c, hc⟩ : ∃ c, L - 1 - i = c := ⟨_, rfl⟩
      have hq : (Lib.decDigits (a / b).toNat)[i]? = some (UInt8.ofNat (48 + (digZ (a / b) c).toNat)) := by
        rw [dec_at (show i < Lib.nDigits (a / b).toNat from by have : Lib.nDigits (a / b).toNat = L := hL; omega)]
        rw [show Lib.nDigits (a / b).toNat = L from hL, hc, ofdig c hq0]
      have hdb := digZ_bd (a / b) c
      have hpl := part_le ha.1 (show 0 < b by omega) c
      have hal := above_le ha.1 (show 0 < b by omega) c
      have hnl := next_le ha.1 (show 0 < b by omega) c
      have hsc := sh_bd ha.1 c
      have hsc1 := sh_bd ha.1 (c - 1)
      have hrem := step_rem (a := a) (show 0 < b by omega) c
      have hrb := rem_bd (a := a) (show 0 < b by omega) c
      have e1 : IntKind.i64.wrap (((UInt8.ofNat (48 + (digZ (a / b) c).toNat) - 48).toNat : Nat) : Int) = digZ (a / b) c := by
        rw [dig_sub (by omega), wr (by omega) (by omega)]; omega
      have e2 : IntKind.i64.wrap (b * digZ (a / b) c) = stepPart a b c := wr (show _ ≤ stepPart a b c by omega) (show stepPart a b c ≤ _ by omega)
      have e3 : IntKind.i64.wrap (IntKind.i64.wrap (((Lib.decDigits (a / b).toNat).length : Int) - 1) - (i : Int)) = (c : Int) := by
        rw [dec_lenZ, hL, wr (x := (L : Int) - 1) (by omega) (by omega), wr (by omega) (by omega)]; omega
      have e4 : IntKind.i64.wrap (ab - stepPart a b c) = remZ a b c := by
        rw [hab, hc, hrem, wr (by omega) (by omega)]
      have e : IntKind.i64.wrap ((i : Int) + 1) = ((i + 1 : Nat) : Int) := by rw [wr (by omega) (by omega)]; omega
      have hslen := stepsZ_len a b width L i
      have h64 := w64_eqI (left := c) (width := width) (n := stepPart a b c) (p := F ++ stepsZ a b width L i) (by rw [List.length_append]; omega) hpl.1 (by omega) hw (by have := fit_of ha.1 (c := c) (by omega) hpl.2; omega)
      have ih := w44_loop ha hb hw hfit F hF k0 k1 k2 m (i + 1) (by omega) (by omega)
      rw [hL] at ih
      rw [stepsZ_succ, hc] at ih
      rw [decide_eq_true (show (i : Int) < (L : Int) by omega), br_t, gx_at hq, e1, e2, e3, ck_of (w64_p h64), w64_y0 h64, w64_y1 h64, e4, e]
      simp only []
      by_cases h0 : 0 < c
      · have hnx : nextZ a b c = stepAbove a b (c - 1) := by unfold nextZ; rw [if_pos h0]
        have hcc : c - 1 + 1 = c := by omega
        have hd2 := digZ_bd a (c - 1)
        have ht : (Lib.decDigits a.toNat)[lenZ a - c]? = some (UInt8.ofNat (48 + (digZ a (c - 1)).toNat)) := by
          rw [dec_at (show lenZ a - c < Lib.nDigits a.toNat from by have : Lib.nDigits a.toNat = lenZ a := rfl; omega), show Lib.nDigits a.toNat - 1 - (lenZ a - c) = c - 1 from by have : Lib.nDigits a.toNat = lenZ a := rfl; omega, ofdig (c - 1) ha.1]
        have e5 : IntKind.i64.wrap ((lenZ a : Int) - (c : Int)) = ((lenZ a - c : Nat) : Int) := by rw [wr (by omega) (by omega)]; omega
        have e6 : IntKind.i64.wrap (((UInt8.ofNat (48 + (digZ a (c - 1)).toNat) - 48).toNat : Nat) : Int) = digZ a (c - 1) := by
          rw [dig_sub (by omega), wr (by omega) (by omega)]; omega
        have hab' : stepAbove a b (c - 1) = 10 * remZ a b c + digZ a (c - 1) := by unfold stepAbove; rw [hcc]
        have e7 : IntKind.i64.wrap (IntKind.i64.wrap (10 * remZ a b c) + digZ a (c - 1)) = stepAbove a b (c - 1) := by
          rw [wr (x := 10 * remZ a b c) (by omega) (by omega), wr (by omega) (by omega), hab']
        have e8 : IntKind.i64.wrap ((c : Int) - 1) = ((c - 1 : Nat) : Int) := by rw [wr (by omega) (by omega)]; omega
        rw [hnx] at hnl ih
        have h64' := w64_eqI (left := c - 1) (width := width) (n := stepAbove a b (c - 1)) (p := F ++ stepsZ a b width L i ++ [lineZ width (stepPart a b c).toNat c]) (by rw [List.length_append, List.length_append]; simp; omega) hnl.1 (by omega) hw (by have := fit_of ha.1 (c := c - 1) (by omega) hnl.2; omega)
        rw [decide_eq_true (show 0 < (c : Int) by omega), br_t, e5, gx_at ht, e6, e7, e8, ck_of (w64_p h64'), w64_y0 h64', w64_y1 h64']
        simp only []
        have := ih (stepAbove a b (c - 1)) (fun hlt2 => by rw [show L - 1 - (i + 1) = c - 1 by omega])
        simp only [List.append_assoc, List.cons_append, List.nil_append] at this ⊢
        exact this
      · have hc0 : c = 0 := by omega
        subst hc0
        have hnx : nextZ a b 0 = remZ a b 0 := by unfold nextZ; rw [if_neg (by omega)]
        rw [hnx] at hnl ih
        have h64' := w64_eqI (left := 0) (width := width) (n := remZ a b 0) (p := F ++ stepsZ a b width L i ++ [lineZ width (stepPart a b 0).toNat 0]) (by rw [List.length_append, List.length_append]; simp; omega) hnl.1 (by omega) hw (by have := fit_of ha.1 (c := 0) (by omega) (rem_le (a := a) (b := b) ha.1 (by omega) 0); omega)
        rw [decide_eq_false (show ¬ 0 < ((0 : Nat) : Int) by omega), br_f, ck_of (w64_p h64'), w64_y0 h64', w64_y1 h64']
        simp only []
        have := ih (remZ a b 0) (fun hlt2 => by omega)
        simp only [List.append_assoc, List.cons_append, List.nil_append] at this ⊢
        exact this
    · rw [decide_eq_false (show ¬ (i : Int) < (L : Int) by omega), br_f, show i = L by omega]
end Go.Proofs
/- The page of a division: the program's and the reference's are one. -/
namespace Go.Proofs
open Go Go.Ax Go.Ax.Alg
def divZ (a b : Int) : List (List UInt8) :=
  [lineZ (lenZ a + 1 + lenZ b) (a / b).toNat 0, dcells b.toNat ++ [63] ++ dcells a.toNat] ++ stepsZ a b (lenZ a + 1 + lenZ b) (lenZ (a / b)) (lenZ (a / b))
theorem dcells_lenZ (x : Int) : (dcells x.toNat).length = lenZ x := dcells_len _
theorem second_line (a b : Int) : (put (lineZ (lenZ a + 1 + lenZ b) a.toNat 0) (lenZ a + 1) b.toNat).set (lenZ b) 63 = dcells b.toNat ++ [63] ++ dcells a.toNat := by
  have h1 : lineZ (lenZ a + 1 + lenZ b) a.toNat 0 = List.replicate (lenZ b + 1) 0 ++ dcells a.toNat := by
    rw [lineZ_eq (by show 0 + lenZ a ≤ _; omega)]
    show List.replicate (lenZ a + 1 + lenZ b - 0 - lenZ a) 0 ++ dcells a.toNat ++ [] = _
    rw [List.append_nil, show lenZ a + 1 + lenZ b - 0 - lenZ a = lenZ b + 1 by omega]
  have hl : (List.replicate (lenZ b + 1) (0 : UInt8) ++ dcells a.toNat).length = lenZ a + 1 + lenZ b := by
    rw [List.length_append, List.length_replicate, dcells_lenZ]; omega
  rw [h1]
  unfold put
  rw [hl, show lenZ a + 1 + lenZ b - (lenZ a + 1) - lenN b.toNat = 0 from by show _ - lenZ b = 0; omega, List.take_zero, List.nil_append, show lenZ a + 1 + lenZ b - (lenZ a + 1) = lenZ b by omega, List.drop_append_of_le_length (by simp), List.drop_replicate, show lenZ b + 1 - lenZ b = 1 by omega]
  have hb := dcells_lenZ b
  generalize dcells b.toNat = l at *
  rw [← hb]
  simp
theorem w44_ur (x : List (List UInt8)) : (some (w44r0 x) : O).bind w44un = some x := rfl
theorem w44_loop0 {a b : Int} (ha : 0 ≤ a ∧ a ≤ 999999) (hb : 1 ≤ b ∧ b ≤ 999999) {width : Nat} (hw : width < 90) (hfit : lenZ a ≤ width) (F : List (List UInt8)) (hF : F.length ≤ 10) (k0 : Int × List (List UInt8) → O) (k1 k2 : Unit → O) (ab : Int) (hab : ab = stepAbove a b (lenZ (a / b) - 1)) :
    w44l0 100 100 (b, lenZ a, Lib.decDigits a.toNat, Lib.decDigits (a / b).toNat, ab, lenZ (a / b), 0, width, F) k0 k1 k2 = k0 (width, F ++ stepsZ a b width (lenZ (a / b)) (lenZ (a / b))) := by
  have hqa : a / b ≤ a := Int.ediv_le_self _ ha.1
  have := lenZ_six (show a / b ≤ 999999 by omega)
  have h := w44_loop ha hb hw hfit F hF k0 k1 k2 100 0 (by omega) (by omega) ab (fun _ => by rw [hab, Nat.sub_zero])
  rw [show stepsZ a b width (lenZ (a / b)) 0 = [] from rfl, List.append_nil] at h
  exact h
theorem w44_eq {a b : Int} (ha : 0 ≤ a ∧ a ≤ 999999) (hb : 1 ≤ b ∧ b ≤ 999999) (op : Int) : w44z 100 op [a, b] (a / b) = some (divZ a b) := by
  have hq0 : 0 ≤ a / b := Int.ediv_nonneg ha.1 (by omega)
  have hqa : a / b ≤ a := Int.ediv_le_self _ ha.1
  have h6a := lenZ_six ha.2
  have h6b := lenZ_six hb.2
  have hLa : lenZ (a / b) ≤ lenZ a := lenZ_mono hqa
  have hL0 := lenZ_pos (a / b)
  have h57a := w57_eq 100 (n := a) ⟨by omega, by omega⟩ ha.1
  have h57b := w57_eq 100 (n := b) ⟨by omega, by omega⟩ (by omega)
  obtain ⟨p67a, y67a⟩ := w67_eq 100 (n := a) ⟨by omega, by omega⟩ ha.1
  obtain ⟨p67q, y67q⟩ := w67_eq 100 (n := a / b) ⟨by omega, by omega⟩ hq0
  obtain ⟨w, hw⟩ : ∃ w, lenZ a + 1 + lenZ b = w := ⟨_, rfl⟩
  have ew : IntKind.i64.wrap (IntKind.i64.wrap ((lenZ a : Int) + 1) + (lenZ b : Int)) = (w : Int) := by
    rw [wr (x := (lenZ a : Int) + 1) (by omega) (by omega), wr (by omega) (by omega)]; omega
  have ew1 : IntKind.i64.wrap ((lenZ a : Int) + 1) = ((lenZ a + 1 : Nat) : Int) := by rw [wr (by omega) (by omega)]; omega
  unfold w44z w44 w44G
  rw [gx_0]
  simp only [gx_1]
  rw [ck_of (w57_p h57a), ck_of (w57_p h57b), w57_y0 h57a, w57_y0 h57b]
  rw [ew, ew1]
  have hA := w64_eqI (left := 0) (width := w) (n := a / b) (p := []) (by simp) hq0 (by omega) (by omega) (by omega)
  have hB := w64_eqI (left := 0) (width := w) (n := a) (p := [] ++ [lineZ w (a / b).toNat 0]) (by simp) ha.1 (by omega) (by omega) (by omega)
  rw [show ((0 : Nat) : Int) = 0 from rfl] at hA hB
  rw [ck_of (w64_p hA), w64_y0 hA, w64_y1 hA]
  simp only []
  rw [ck_of (w64_p hB), w64_y0 hB, w64_y1 hB]
  simp only []
  have hlA : (lineZ w a.toNat 0).length = w := lineZ_len (by show 0 + lenZ a ≤ _; omega)
  have h63 := w63_eq (n := b.toNat) (left := lenZ a + 1) (pre := [] ++ [lineZ w (a / b).toNat 0]) (L := lineZ w a.toNat 0) (by simp) (by omega) (by omega) (by rw [hlA]; show lenZ a + 1 + lenZ b ≤ w; omega)
  rw [hlA, show ((b.toNat : Nat) : Int) = b by omega] at h63
  rw [ck_of (w63_p h63), w63_y0 h63, w63_y1 h63]
  simp only []
  have hg1 : ([] ++ [lineZ w (a / b).toNat 0] ++ [put (lineZ w a.toNat 0) (lenZ a + 1) b.toNat])[1]? = some (put (lineZ w a.toNat 0) (lenZ a + 1) b.toNat) := rfl
  have hpl : (put (lineZ w a.toNat 0) (lenZ a + 1) b.toNat).length = w := by
    rw [put_len (by rw [hlA]; show lenZ a + 1 + lenZ b ≤ w; omega)]; exact hlA
  rw [ck_of (decide_eq_true ⟨by omega, by simp⟩), gn_of hg1, gn_of hg1, ck_of (decide_eq_true ⟨by omega, by rw [hpl]; omega⟩), gn_of hg1, Int.toNat_natCast, gn_of (List.getElem?_eq_getElem (by rw [hpl]; omega)), ck_of p67a, ck_of p67q, y67a, y67q]
  have eK : IntKind.i64.wrap (IntKind.i64.wrap ((lenZ a : Int) - ((Lib.decDigits (a / b).toNat).length : Int)) + 1) = ((lenZ a - (lenZ (a / b) - 1) : Nat) : Int) := by
    rw [dec_lenZ, wr (x := (lenZ a : Int) - lenZ (a / b)) (by omega) (by omega), wr (by omega) (by omega)]; omega
  have hslc : slc (Lib.decDigits a.toNat) none (some ((lenZ a - (lenZ (a / b) - 1) : Nat) : Int)) = Lib.decDigits (a.toNat / 10 ^ (lenZ (a / b) - 1)) := by
    show (Lib.decDigits a.toNat).take (((lenZ a - (lenZ (a / b) - 1) : Nat) : Int)).toNat = _
    rw [Int.toNat_natCast]
    exact dec_take (lenZ (a / b) - 1) a.toNat (show lenZ (a / b) - 1 < lenZ a by omega)
  have hok : slcOk (Lib.decDigits a.toNat).length none (some ((lenZ a - (lenZ (a / b) - 1) : Nat) : Int)) = true := by
    rw [dec_lenZ]
    exact decide_eq_true ⟨by omega, by omega⟩
  have hat : ((a.toNat / 10 ^ (lenZ (a / b) - 1) : Nat) : Int) = a / ((10 ^ (lenZ (a / b) - 1) : Nat) : Int) := by
    rw [Int.natCast_ediv, show ((a.toNat : Nat) : Int) = a by omega]
  have hsb := sh_bd ha.1 (lenZ (a / b) - 1)
  obtain ⟨p68, y68⟩ := w68_eq 100 (u := a.toNat / 10 ^ (lenZ (a / b) - 1)) (by
    have h : Lib.nDigits (a.toNat / 10 ^ (lenZ (a / b) - 1)) ≤ 6 := lenZ_six (show ((a.toNat / 10 ^ (lenZ (a / b) - 1) : Nat) : Int) ≤ 999999 by omega)
    omega)
  rw [eK, ck_of hok, hslc, ck_of p68, y68, dec_lenZ (a / b)]
  refine (congrArg (fun z : O => z.bind w44un) (w44_loop0 ha hb (width := w) (by omega) (by omega) _ (by simp) _ _ _ _ (by rw [hat, above_start ha.1 (by omega) _ (by omega)]))).trans ?_
  simp only []
  rw [w44_ur]
  unfold divZ
  rw [hw, ← second_line, hw]
  rfl
end Go.Proofs
/- The lines of a division in the reference, and that their cells are the program's page. -/
namespace Go.Proofs
open Go Go.Ax Go.Ax.Alg
end Go.Proofs
