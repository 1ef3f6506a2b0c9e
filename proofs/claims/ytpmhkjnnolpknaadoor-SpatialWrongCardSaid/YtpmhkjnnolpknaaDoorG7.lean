/- Multiplications. Conditions are in the theorems. -/
import Derived.Test.YtpmhkjnnolpknaaDoorG6
/- The page of a multiplication: the program's and the reference's are one. -/
namespace Go.Proofs
open Go Go.Ax Go.Ax.Alg
theorem pow_le_dig : ∀ (u i : Nat), 1 ≤ i → i < Lib.nDigits u → 10 ^ i ≤ u := by
  intro u
  induction u using Nat.strongRecOn with
  | _ u ih =>
    intro i h1 h2
    by_cases hu : u < 10
    · rw [Lib.nDigits_small hu] at h2; omega
    · rw [Lib.nDigits_big hu] at h2
      cases i with
      | zero => omega
      | succ j =>
        cases j with
        | zero => simp; omega
        | succ j =>
          have := ih (u / 10) (by omega) (j + 1) (by omega) (by omega)
          rw [Nat.pow_succ]
          omega
theorem sh_pos {b : Int} (h0 : 0 ≤ b) {i : Nat} (h1 : 1 ≤ i) (h : i < lenZ b) : 0 < b / ((10 ^ i : Nat) : Int) := by
  have h2 := pow_le_dig b.toNat i h1 h
  have h3 := Nat.one_le_pow i 10 (by omega)
  have h4 : 0 < b / ((10 ^ i : Nat) : Int) := by
    have h5 : b = (b.toNat : Int) := by omega
    rw [h5, ← Int.natCast_ediv]
    have := Nat.div_pos h2 (by omega)
    omega
  exact h4
theorem sh_zero {b : Int} (h0 : 0 ≤ b) {i : Nat} (h : lenZ b ≤ i) : b / ((10 ^ i : Nat) : Int) = 0 := Int.ediv_eq_zero_of_lt h0 (lt_pow_lenZ h0 h)

def partZ (a b : Int) (k : Nat) : Int := a * digZ b k
theorem partZ_bd {a b : Int} (ha : 0 ≤ a ∧ a ≤ 999999) (k : Nat) : 0 ≤ partZ a b k ∧ partZ a b k ≤ 8999991 := by
  have h := digZ_bd b k
  unfold partZ
  exact ⟨Int.mul_nonneg ha.1 h.1, by have := Int.mul_le_mul ha.2 h.2 h.1 (show (0 : Int) ≤ 999999 by omega); omega⟩
theorem lenZ_seven {a : Int} (h : a ≤ 8999991) : lenZ a ≤ 7 := by
  have h1 := lenZ_mono h
  have : lenZ 8999991 = 7 := Lib.nDigits_unique 6 8999991 (by decide) (by decide)
  omega
theorem lenZ_twelve {a : Int} (h : a ≤ 999998000001) : lenZ a ≤ 12 := by
  have h1 := lenZ_mono h
  have : lenZ 999998000001 = 12 := Lib.nDigits_unique 11 999998000001 (by decide) (by decide)
  omega
def widthP (a b : Int) : Nat → Nat
  | 0 => max (max (lenZ a) (lenZ b)) (lenZ (a * b))
  | i + 1 => max (widthP a b i) (lenZ (partZ a b i) + i)
theorem widthP_mono (a b : Int) : ∀ (i j : Nat), i ≤ j → widthP a b i ≤ widthP a b j
  | i, 0, h => by have : i = 0 := by omega
                  subst this; exact Nat.le_refl _
  | i, j + 1, h => by
    by_cases he : i = j + 1
    · subst he; exact Nat.le_refl _
    · have := widthP_mono a b i j (by omega)
      show _ ≤ max (widthP a b j) _
      omega
theorem widthP_part (a b : Int) {i j : Nat} (h : i < j) : lenZ (partZ a b i) + i ≤ widthP a b j := by
  have := widthP_mono a b (i + 1) j h
  have : lenZ (partZ a b i) + i ≤ widthP a b (i + 1) := by
    show _ ≤ max (widthP a b i) (lenZ (partZ a b i) + i)
    omega
  omega
theorem widthP_base (a b : Int) (j : Nat) : lenZ a ≤ widthP a b j ∧ lenZ b ≤ widthP a b j ∧ lenZ (a * b) ≤ widthP a b j := by
  have h := widthP_mono a b 0 j (by omega)
  have : widthP a b 0 = max (max (lenZ a) (lenZ b)) (lenZ (a * b)) := rfl
  omega
theorem widthP_le {a b : Int} (ha : 0 ≤ a ∧ a ≤ 999999) (hb : 0 ≤ b ∧ b ≤ 999999) : ∀ i, i ≤ 7 → widthP a b i ≤ 14
  | 0, _ => by
    have h1 := lenZ_six ha.2
    have h2 := lenZ_six hb.2
    have h3 : a * b ≤ 999999 * 999999 := Int.mul_le_mul ha.2 hb.2 hb.1 (by omega)
    have h4 := lenZ_twelve (a := a * b) (by omega)
    show max (max (lenZ a) (lenZ b)) (lenZ (a * b)) ≤ 14
    omega
  | i + 1, h => by
    have h1 := widthP_le ha hb i (by omega)
    have h2 := lenZ_seven (partZ_bd (b := b) ha i).2
    show max (widthP a b i) (lenZ (partZ a b i) + i) ≤ 14
    omega
def partsZ (a b : Int) (i : Nat) : List Int := (List.range i).map (partZ a b)
theorem partsZ_succ (a b : Int) (i : Nat) : partsZ a b (i + 1) = partsZ a b i ++ [partZ a b i] := by unfold partsZ; rw [List.range_succ, List.map_append]; rfl
theorem partsZ_len (a b : Int) (i : Nat) : (partsZ a b i).length = i := by simp [partsZ]
theorem w43_parts {a b : Int} (ha : 0 ≤ a ∧ a ≤ 999999) (hb : 0 ≤ b ∧ b ≤ 999999) (x0 : Int) (k0 : Int × Int × Int × Int × List Int → O) (k1 k2 : Unit → O) : ∀ (m i : Nat), lenZ b - i < m → i ≤ lenZ b →
    w43l0 100 m (x0, a, b, widthP a b i, i, b / ((10 ^ i : Nat) : Int), partsZ a b i) k0 k1 k2 = k0 (x0, a, b, widthP a b (lenZ b), partsZ a b (lenZ b))
  | 0, i, h, _ => by omega
  | m + 1, i, h, hi => by
    show w43F0 100 _ _ x0 a b (widthP a b i) i (b / ((10 ^ i : Nat) : Int)) (partsZ a b i) = _
    unfold w43F0
    have h6 := lenZ_six hb.2
    have hsh := sh_bd hb.1 i
    by_cases hlt : i < lenZ b
    · have hbr : (decide ((i : Int) = 0) || decide (0 < b / ((10 ^ i : Nat) : Int))) = true := by
        cases i with
        | zero => rfl
        | succ i => rw [decide_eq_true (sh_pos hb.1 (by omega) hlt), Bool.or_true]
      have hp := partZ_bd (b := b) ha i
      have hl7 := lenZ_seven hp.2
      have ew := widthP_le ha hb i (by omega)
      have e1 : IntKind.i64.wrap (a * (b / ((10 ^ i : Nat) : Int)).tmod 10) = partZ a b i := by
        rw [Int.tmod_eq_emod_of_nonneg hsh.1]
        exact wr (show _ ≤ partZ a b i by omega) (show partZ a b i ≤ _ by omega)
      have h57 := w57_eq 100 (n := partZ a b i) ⟨by omega, by omega⟩ hp.1
      have e2 : max (widthP a b i : Int) (IntKind.i64.wrap ((lenZ (partZ a b i) : Int) + i)) = ((widthP a b (i + 1) : Nat) : Int) := by
        rw [wr (by omega) (by omega)]
        show _ = ((max (widthP a b i) (lenZ (partZ a b i) + i) : Nat) : Int)
        omega
      have e3 : IntKind.i64.wrap ((b / ((10 ^ i : Nat) : Int)).tdiv 10) = b / ((10 ^ (i + 1) : Nat) : Int) := by
        rw [Int.tdiv_eq_ediv_of_nonneg hsh.1, wr (by omega) (by omega), sh_succ]
      have e : IntKind.i64.wrap ((i : Int) + 1) = ((i + 1 : Nat) : Int) := by rw [wr (by omega) (by omega)]; omega
      rw [hbr, br_t, ck_t, e1, ck_of (lim_of (by simp [partsZ_len]; omega) (by simp [partsZ_len]; omega)), ck_t, ck_of (w57_p h57), ck_t, w57_y0 h57, e2, e3, e, ← partsZ_succ]
      exact w43_parts ha hb x0 k0 k1 k2 m (i + 1) (by omega) (by omega)
    · have hl := lenZ_pos b
      have hbr : (decide ((i : Int) = 0) || decide (0 < b / ((10 ^ i : Nat) : Int))) = false := by
        rw [sh_zero hb.1 (by omega)]
        simp
        omega
      rw [hbr, br_f, show i = lenZ b by omega]
theorem w43_parts0 {a b : Int} (ha : 0 ≤ a ∧ a ≤ 999999) (hb : 0 ≤ b ∧ b ≤ 999999) (x0 : Int) (k0 : Int × Int × Int × Int × List Int → O) (k1 k2 : Unit → O) :
    w43l0 100 100 (x0, a, b, (widthP a b 0 : Nat), 0, b, []) k0 k1 k2 = k0 (x0, a, b, widthP a b (lenZ b), partsZ a b (lenZ b)) := by
  have h := w43_parts ha hb x0 k0 k1 k2 100 0 (by have := lenZ_six hb.2; omega) (by omega)
  rw [show b / ((10 ^ 0 : Nat) : Int) = b by simp] at h
  exact h
def partL (a b : Int) (width i : Nat) : List (List UInt8) := (List.range i).map fun k => lineZ width (partZ a b k).toNat k
theorem partL_succ (a b : Int) (width i : Nat) : partL a b width (i + 1) = partL a b width i ++ [lineZ width (partZ a b i).toNat i] := by unfold partL; rw [List.range_succ, List.map_append]; rfl
theorem partL_len (a b : Int) (width i : Nat) : (partL a b width i).length = i := by simp [partL]
theorem w43_lines {a b : Int} (ha : 0 ≤ a ∧ a ≤ 999999) {width n : Nat} (hw : width < 90) (hn : n ≤ 7) (hfit : ∀ k, k < n → lenZ (partZ a b k) + k ≤ width) (x0 : Int) (F : List (List UInt8)) (hF : F.length ≤ 10) (k0 : Int × List Int × Int × List (List UInt8) → O) (k1 k2 : Unit → O) : ∀ (m i : Nat), n - i < m → i ≤ n →
    w43l1 100 m (x0, n, i, partsZ a b n, width, F ++ partL a b width i) k0 k1 k2 = k0 (x0, partsZ a b n, width, F ++ partL a b width n)
  | 0, i, h, _ => by omega
  | m + 1, i, h, hi => by
    show w43F1 100 _ _ x0 n (partsZ a b n) i width (F ++ partL a b width i) = _
    unfold w43F1
    by_cases hlt : i < n
    · have hg : (partsZ a b n)[i]? = some (partZ a b i) := by
        unfold partsZ
        rw [List.getElem?_map, List.getElem?_range hlt]
        rfl
      have hp := partZ_bd (b := b) ha i
      have e : IntKind.i64.wrap ((i : Int) + 1) = ((i + 1 : Nat) : Int) := by rw [wr (by omega) (by omega)]; omega
      have h64 := w64_eqI (left := i) (width := width) (n := partZ a b i) (p := F ++ partL a b width i) (by rw [List.length_append, partL_len]; omega) hp.1 (by omega) hw (by have := hfit i hlt; omega)
      rw [decide_eq_true (show (i : Int) < (n : Int) by omega), br_t, gx_at hg, ck_of (w64_p h64), w64_y0 h64, w64_y1 h64, e]
      simp only []
      rw [List.append_assoc, ← partL_succ]
      exact w43_lines ha hw hn hfit x0 F hF k0 k1 k2 m (i + 1) (by omega) (by omega)
    · rw [decide_eq_false (show ¬ (i : Int) < (n : Int) by omega), br_f, show i = n by omega]
theorem w43_lines0 {a b : Int} (ha : 0 ≤ a ∧ a ≤ 999999) {width n : Nat} (hw : width < 90) (hn : n ≤ 7) (hfit : ∀ k, k < n → lenZ (partZ a b k) + k ≤ width) (x0 : Int) (F : List (List UInt8)) (hF : F.length ≤ 10) (k0 : Int × List Int × Int × List (List UInt8) → O) (k1 k2 : Unit → O) :
    w43l1 100 100 (x0, n, 0, partsZ a b n, width, F) k0 k1 k2 = k0 (x0, partsZ a b n, width, F ++ partL a b width n) := by
  have h := w43_lines ha hw hn hfit x0 F hF k0 k1 k2 100 0 (by omega) (by omega)
  rw [show partL a b width 0 = [] from rfl, List.append_nil] at h
  exact h
/-- The page of a multiplication. -/
def productZ (a b : Int) (width : Nat) : List (List UInt8) :=
  [lineZ width a.toNat 0, (lineZ width b.toNat 0).set 0 33, List.replicate width 18] ++ partL a b width (lenZ b) ++ (if 1 < lenZ b then [List.replicate width 18, lineZ width (a * b).toNat 0] else [])
theorem w43_ur (x : List (List UInt8)) : (some (w43r0 x) : O).bind w43un = some x := rfl
theorem w43_eq {a b : Int} (ha : 0 ≤ a ∧ a ≤ 999999) (hb : 0 ≤ b ∧ b ≤ 999999) (op : Int) : w43z 100 op [a, b] (a * b) = some (productZ a b (1 + widthP a b (lenZ b))) := by
  have h6a := lenZ_six ha.2
  have h6 := lenZ_six hb.2
  have hab : 0 ≤ a * b ∧ a * b ≤ 999999 * 999999 := ⟨Int.mul_nonneg ha.1 hb.1, Int.mul_le_mul ha.2 hb.2 hb.1 (by omega)⟩
  have h57a := w57_eq 100 (n := a) ⟨by omega, by omega⟩ ha.1
  have h57b := w57_eq 100 (n := b) ⟨by omega, by omega⟩ hb.1
  have h57r := w57_eq 100 (n := a * b) ⟨by omega, by omega⟩ hab.1
  have hW := widthP_le ha hb (lenZ b) (by omega)
  obtain ⟨wa, wb, wab⟩ := widthP_base a b (lenZ b)
  unfold w43z w43 w43G
  rw [gx_0]
  simp only [gx_1]
  rw [ck_of (w57_p h57a), ck_of (w57_p h57b), ck_of (w57_p h57r), w57_y0 h57a, w57_y0 h57b, w57_y0 h57r]
  have e0 : max (max (lenZ a : Int) (lenZ b : Int)) (lenZ (a * b) : Int) = ((widthP a b 0 : Nat) : Int) := by
    show _ = ((max (max (lenZ a) (lenZ b)) (lenZ (a * b)) : Nat) : Int)
    omega
  rw [e0]
  refine (congrArg (fun z : O => z.bind w43un) (w43_parts0 ha hb (a * b) _ _ _)).trans ?_
  simp only []
  generalize hwd : widthP a b (lenZ b) = wd at *
  have ew : IntKind.i64.wrap (1 + (wd : Int)) = ((1 + wd : Nat) : Int) := by rw [wr (by omega) (by omega)]; omega
  rw [ew]
  have hA := w64_eqI (left := 0) (width := 1 + wd) (n := a) (p := []) (by simp) ha.1 (by omega) (by omega) (by omega)
  have hB := w64_eqI (left := 0) (width := 1 + wd) (n := b) (p := [] ++ [lineZ (1 + wd) a.toNat 0]) (by simp) hb.1 (by omega) (by omega) (by omega)
  rw [show ((0 : Nat) : Int) = 0 from rfl] at hA hB
  simp only [w64_p hA, w64_y0 hA, w64_y1 hA, w64_p hB, w64_y0 hB, w64_y1 hB, ck_t]
  have hlb : (lineZ (1 + wd) b.toNat 0).length = 1 + wd := lineZ_len (by show 0 + lenZ b ≤ _; omega)
  have h65 := w65_eq (width := 1 + wd) (c := 33) (pre := [] ++ [lineZ (1 + wd) a.toNat 0]) (L := lineZ (1 + wd) b.toNat 0) (by simp) (by omega)
  rw [ck_of (w65_p h65), w65_y0 h65, w65_y1 h65]
  simp only []
  have h66 := w66_eq (width := 1 + wd) (p := [] ++ [lineZ (1 + wd) a.toNat 0] ++ [(lineZ (1 + wd) b.toNat 0).set 0 33]) (by omega) (by simp)
  rw [ck_of (w66_p h66), w66_y0 h66, w66_y1 h66]
  simp only []
  rw [partsZ_len]
  refine (congrArg (fun z : O => z.bind w43un) (w43_lines0 ha (b := b) (width := 1 + wd) (n := lenZ b) (by omega) (by omega) (fun k hk => by have := widthP_part a b hk; omega) (a * b) ([] ++ [lineZ (1 + wd) a.toNat 0] ++ [(lineZ (1 + wd) b.toNat 0).set 0 33] ++ [List.replicate (1 + wd) 18]) (by simp) _ _ _)).trans ?_
  simp only [partsZ_len]
  unfold productZ
  by_cases h1 : 1 < lenZ b
  · rw [decide_eq_true (show 1 < ((lenZ b : Nat) : Int) by omega), br_t, if_pos h1]
    have h66' := w66_eq (width := 1 + wd) (p := [] ++ [lineZ (1 + wd) a.toNat 0] ++ [(lineZ (1 + wd) b.toNat 0).set 0 33] ++ [List.replicate (1 + wd) 18] ++ partL a b (1 + wd) (lenZ b)) (by omega) (by simp [partL_len]; omega)
    have h64' := w64_eqI (left := 0) (width := 1 + wd) (n := a * b) (p := [] ++ [lineZ (1 + wd) a.toNat 0] ++ [(lineZ (1 + wd) b.toNat 0).set 0 33] ++ [List.replicate (1 + wd) 18] ++ partL a b (1 + wd) (lenZ b) ++ [List.replicate (1 + wd) 18]) (by simp [partL_len]; omega) hab.1 (by omega) (by omega) (by omega)
    rw [show ((0 : Nat) : Int) = 0 from rfl] at h64'
    rw [ck_of (w66_p h66'), w66_y0 h66', w66_y1 h66']
    simp only []
    rw [ck_of (w64_p h64'), w64_y1 h64', w43_ur]
    simp only [List.append_assoc, List.cons_append, List.nil_append]
  · rw [decide_eq_false (show ¬ 1 < ((lenZ b : Nat) : Int) by omega), br_f, if_neg h1, w43_ur]
    simp only [List.cons_append, List.nil_append, List.append_nil]
end Go.Proofs
/- The lines of a multiplication in the reference, and that their cells are the program's page. -/
namespace Go.Proofs
open Go Go.Ax Go.Ax.Alg
end Go.Proofs
