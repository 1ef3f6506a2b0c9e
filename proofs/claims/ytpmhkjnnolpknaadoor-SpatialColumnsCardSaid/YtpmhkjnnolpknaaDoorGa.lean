/- SpatialColumns in plain words. Conditions are in the theorems. -/
import Derived.Test.YtpmhkjnnolpknaaDoorG9
import Derived.Test.YtpmhkjnnolpknaaDoorG1
/- SpatialColumns, in plain words. -/
namespace Go.Proofs
open Go Go.Ax Go.Ax.Alg
def digV (c : UInt8) : Int := w24y0 100 c
theorem w24_all : ((List.range 256).all fun n => (w24z 100 (UInt8.ofNat n)).isSome) = true := by decide +kernel
theorem w24_eq (c : UInt8) : w24z 100 c = some (digV c) := by
  have h := List.all_eq_true.1 w24_all c.toNat (List.mem_range.2 c.toNat_lt)
  rw [UInt8.ofNat_toNat] at h
  obtain ⟨d, hd⟩ := Option.isSome_iff_exists.1 h
  rw [hd]
  unfold digV
  rw [w24_y0 hd]
theorem digV_zero : digV 0 = 0 := by decide +kernel
theorem digV_all : ((List.range 10).all fun d => digV (cellB (UInt8.ofNat (48 + d))) == (d : Int)) = true := by decide +kernel
theorem digV_dig {d : Int} (h0 : 0 ≤ d) (h : d ≤ 9) : digV (cellB (UInt8.ofNat (48 + d.toNat))) = d := by
  have := eq_of_beq (List.all_eq_true.1 digV_all d.toNat (List.mem_range.2 (by omega)))
  rw [this]
  omega
theorem line_at {w j : Nat} {x : Int} (h0 : 0 ≤ x) (hx : lenZ x ≤ w) (hj : j < w) : ∃ c, (lineZ w x.toNat 0)[j]? = some c ∧ digV c = digZ x (w - 1 - j) := by
  rw [lineZ_eq (by show 0 + lenZ x ≤ w; omega)]
  show ∃ c, (List.replicate (w - lenZ x) 0 ++ dcells x.toNat ++ [])[j]? = some c ∧ _
  rw [List.append_nil]
  by_cases h : j < w - lenZ x
  · rw [List.getElem?_append_left (by simpa using h), List.getElem?_replicate, if_pos h]
    refine ⟨0, rfl, ?_⟩
    rw [digV_zero, digZ_zero h0 (by omega)]
  · rw [List.getElem?_append_right (by simp; omega), List.length_replicate]
    unfold dcells
    rw [List.getElem?_map, dec_at (show j - (w - lenZ x) < Lib.nDigits x.toNat from by have : Lib.nDigits x.toNat = lenZ x := rfl; omega)]
    refine ⟨_, rfl, ?_⟩
    have hk : Lib.nDigits x.toNat - 1 - (j - (w - lenZ x)) = w - 1 - j := by
      have : Lib.nDigits x.toNat = lenZ x := rfl
      omega
    have hb := digZ_bd x (w - 1 - j)
    rw [hk, ofdig _ h0]
    exact digV_dig hb.1 hb.2
theorem sum_sh (a : List Int) (h8 : a.length ≤ 8) : ∀ k, a.sum / ((10 ^ k : Nat) : Int) = carryZ 3 a k + (a.map fun x => x / ((10 ^ k : Nat) : Int)).sum
  | 0 => by
    show a.sum / ((1 : Nat) : Int) = 0 + _
    simp
  | k + 1 => by
    have ih := sum_sh a h8 k
    rw [← sh_succ, ih]
    show _ = (carryZ 3 a k + dsum k a) / 10 + _
    have key : ∀ l : List Int, (l.map fun x => x / ((10 ^ k : Nat) : Int)).sum = 10 * (l.map fun x => x / ((10 ^ (k + 1) : Nat) : Int)).sum + dsum k l := by
      intro l
      induction l with
      | nil => rfl
      | cons x l ih2 =>
        have h1 := sh_dig x k
        have h2 : dsum k (x :: l) = digZ x k + dsum k l := by simp [dsum]
        rw [List.map_cons, List.sum_cons, List.map_cons, List.sum_cons, ih2, h2]
        omega
    rw [key a]
    omega
theorem sum_dig (a : List Int) (h8 : a.length ≤ 8) (k : Nat) : digZ a.sum k = (carryZ 3 a k + dsum k a) % 10 := by
  have h1 := sum_sh a h8 k
  have key : ∀ l : List Int, ∃ q : Int, (l.map fun x => x / ((10 ^ k : Nat) : Int)).sum = 10 * q + dsum k l := by
    intro l
    induction l with
    | nil => exact ⟨0, rfl⟩
    | cons x l ih2 =>
      obtain ⟨q, hq⟩ := ih2
      have h1 := sh_dig x k
      have h2 : dsum k (x :: l) = digZ x k + dsum k l := by simp [dsum]
      refine ⟨x / ((10 ^ (k + 1) : Nat) : Int) + q, ?_⟩
      rw [List.map_cons, List.sum_cons, hq, h2]
      omega
  obtain ⟨q, hq⟩ := key a
  unfold digZ
  rw [h1, hq]
  omega
theorem w5_wide (x0 : Bool) (p : List (List UInt8)) (c : List Int) (w : Nat) (hw : 2 ≤ w) (x5 : Int) (x6 : List Int) (hp : p.length < 90) (hl : ∀ l ∈ p, l.length = w) (k0 : Bool → O) (k1 : Bool × List (List UInt8) × List Int × Int × Int × List Int → O) (k2 : Unit → O) : ∀ (n i : Nat), p.length - i < n → i ≤ p.length →
    w5l0 100 n (x0, p, c, w, i, x5, x6) k0 k1 k2 = k1 (x0, p, c, w, x5, x6)
  | 0, i, h, _ => by omega
  | n + 1, i, h, hi => by
    show w5F0 100 _ _ _ x0 p c w x5 x6 i = _
    unfold w5F0
    by_cases hlt : i < p.length
    · have hg : p[i]? = some p[i] := List.getElem?_eq_getElem hlt
      have hx := hl p[i] (List.getElem_mem hlt)
      have e : IntKind.i64.wrap ((i : Int) + 1) = ((i + 1 : Nat) : Int) := by rw [wr (by omega) (by omega)]; omega
      rw [decide_eq_true (show (i : Int) < (p.length : Int) by omega), br_t, gx_at hg, hx, show (decide ((w : Int) ≠ (w : Int)) || decide ((w : Int) < 2)) = false by simp; omega, br_f, e]
      exact w5_wide x0 p c w hw x5 x6 hp hl k0 k1 k2 n (i + 1) (by omega) (by omega)
    · rw [decide_eq_false (show ¬ (i : Int) < (p.length : Int) by omega), br_f]
theorem w5_sum (x0 : Bool) (p : List (List UInt8)) (c : List Int) (x3 : Int) (j : Nat) (x5 x6 : Int) (x7 : Bool) (op : Int) (a vals : List Int) (ha : a.length ≤ 8) (hv : vals.length = a.length + 1) (hvb : ∀ v ∈ vals, 0 ≤ v ∧ v ≤ 9) (hcol : ∀ (i : Nat) (v : Int), vals[i]? = some v → ∃ l cc, p[i]? = some l ∧ l[j]? = some cc ∧ digV cc = v) (k0 : Bool × List (List UInt8) × List Int × Int × Int × Int × Int × Bool × Int × Int × Int × List Int × Int × Bool × Int × List Int → O) (k1 k2 : Unit → O) : ∀ (n i : Nat) (acc : Int), vals.length - i < n → i ≤ vals.length → 0 ≤ acc → acc ≤ 9 * i →
    w5l1 100 n (x0, p, c, x3, j, x5, x6, x7, acc, i, op, a) k0 k1 k2 = k0 (x0, p, c, x3, j, x5, x6, x7, acc + (vals.drop i).sum, vals.length, vals.length, a, a.length, false, op, a)
  | 0, i, _, h, _, _, _ => by omega
  | n + 1, i, acc, h, hi, h0, h1 => by
    show w5F1 100 _ _ x0 p c x3 j x5 x6 x7 op a acc i = _
    unfold w5F1
    by_cases hlt : i < vals.length
    · have hg : vals[i]? = some vals[i] := List.getElem?_eq_getElem hlt
      obtain ⟨l, cc, hp, hc, hd⟩ := hcol i _ hg
      have hb := hvb vals[i] (List.getElem_mem hlt)
      have e : IntKind.i64.wrap ((i : Int) + 1) = ((i + 1 : Nat) : Int) := by rw [wr (by omega) (by omega)]; omega
      have h24 := w24_eq cc
      rw [hd] at h24
      rw [decide_eq_true (show (i : Int) ≤ (a.length : Int) by omega), br_t, gx_at hp, gx_at hc, ck_of (w24_p h24), w24_y0 h24, e, wr (by omega) (by omega), drop_at hg, List.sum_cons]
      refine (w5_sum x0 p c x3 j x5 x6 x7 op a vals ha hv hvb hcol k0 k1 k2 n (i + 1) (acc + vals[i]) (by omega) (by omega) (by omega) (by omega)).trans ?_
      rw [Int.add_assoc]
    · have hd : decide ((i : Int) ≤ (a.length : Int)) = false := decide_eq_false (by omega)
      rw [hd, br_f, List.drop_eq_nil_of_le (by omega), show i = vals.length by omega]
      simp
end Go.Proofs
/- SpatialColumns, in plain words: the columns of an addition. -/
namespace Go.Proofs
open Go Go.Ax Go.Ax.Alg
def valsZ (a : List Int) (k : Nat) : List Int := carryZ 3 a k :: a.map fun x => digZ x k
theorem valsZ_sum (a : List Int) (k : Nat) : (valsZ a k).sum = carryZ 3 a k + dsum k a := by unfold valsZ; rw [List.sum_cons]; rfl
theorem first_at {w j : Nat} {op : Int} {a : List Int} (h8 : a.length ≤ 8) (hj : j < w) : ∃ c, (firstZ w op a)[j]? = some c ∧ digV c = carryZ op a (w - 1 - j) := by
  unfold firstZ
  rw [List.getElem?_map, List.getElem?_range hj]
  refine ⟨_, rfl, ?_⟩
  simp only []
  have hb := carryZ_bd op h8 (w - 1 - j)
  by_cases h : 0 < carryZ op a (w - 1 - j)
  · rw [if_pos h]
    exact digV_dig hb.1 (by omega)
  · rw [if_neg h, digV_zero]
    omega
theorem col_at {ini : List Int} {z r : Int} {w j : Nat} (h8 : (ini ++ [z]).length ≤ 8) (hall : ∀ x ∈ ini ++ [z], 0 ≤ x ∧ lenZ x ≤ w) (hj : j < w) (hj1 : 1 ≤ j) : ∀ (i : Nat) (v : Int), (valsZ (ini ++ [z]) (w - 1 - j))[i]? = some v → ∃ l cc, (sumsZ 3 ini z r w)[i]? = some l ∧ l[j]? = some cc ∧ digV cc = v := by
  intro i v hv
  unfold valsZ at hv
  unfold sumsZ
  cases i with
  | zero =>
    cases hv
    obtain ⟨c, h1, h2⟩ := first_at (op := 3) (a := ini ++ [z]) h8 hj
    exact ⟨_, c, rfl, h1, h2⟩
  | succ t =>
    rw [List.getElem?_cons_succ, List.getElem?_map] at hv
    obtain ⟨x, hx, rfl⟩ := Option.map_eq_some_iff.1 hv
    have hb := hall x (List.mem_of_getElem? hx)
    obtain ⟨c, h1, h2⟩ := line_at hb.1 hb.2 hj
    rw [List.cons_append, List.getElem?_cons_succ]
    by_cases ht : t < ini.length
    · rw [List.getElem?_append_left ht] at hx
      rw [List.getElem?_append_left (by simpa using ht), List.getElem?_map, hx]
      exact ⟨_, c, rfl, h1, h2⟩
    · have hlt := (List.getElem?_eq_some_iff.1 hx).1
      have htl : t = ini.length := by simp at hlt; omega
      subst htl
      rw [List.getElem?_append_right (Nat.le_refl _), Nat.sub_self] at hx
      cases hx
      rw [List.getElem?_append_right (by simp), List.length_map, Nat.sub_self]
      refine ⟨_, c, rfl, ?_, h2⟩
      rw [List.getElem?_set_ne (by omega)]
      exact h1
theorem w5_cols {ini : List Int} {z r : Int} {w : Nat} (V : Val 3 (ini ++ [z])) (hr : r = (ini ++ [z]).sum) (hr0 : 0 ≤ r) (hrw : lenZ r ≤ w) (hw : w < 90) (hall : ∀ x ∈ ini ++ [z], 0 ≤ x ∧ lenZ x ≤ w) (x0 : Bool) (k0 k1 : Bool → O) (k2 : Unit → O) : ∀ (n j : Nat), w - j < n → j ≤ w → 1 ≤ j →
    w5l2 100 n (x0, sumsZ 3 ini z r w, carriesZ 3 (ini ++ [z]), w, j, 3, ini ++ [z]) k0 k1 k2 = k1 x0
  | 0, j, h, _, _ => by omega
  | n + 1, j, h, hj, hj1 => by
    show w5F2 100 _ _ _ _ x0 (sumsZ 3 ini z r w) (carriesZ 3 (ini ++ [z])) w j 3 (ini ++ [z]) = _
    unfold w5F2
    have h8 := V.eight
    by_cases hlt : j < w
    · obtain ⟨k, hk⟩ : ∃ k, w - 1 - j = k := ⟨_, rfl⟩
      have hcol := col_at (r := r) h8 hall hlt hj1
      rw [hk] at hcol
      have hcb := carryZ_bd 3 h8 k
      have hds := dsum_bd k (ini ++ [z])
      rw [decide_eq_true (show (j : Int) < (w : Int) by omega), br_t]
      refine (w5_sum x0 (sumsZ 3 ini z r w) (carriesZ 3 (ini ++ [z])) w j j w _ 3 (ini ++ [z]) (valsZ (ini ++ [z]) k) h8 (by simp [valsZ]) (fun v hv => ?_) hcol _ _ _ 100 0 0 (by simp [valsZ] at h8 ⊢; omega) (by omega) (by omega) (by omega)).trans ?_
      · unfold valsZ at hv
        rcases List.mem_cons.1 hv with rfl | hv
        · omega
        · obtain ⟨x, _, rfl⟩ := List.mem_map.1 hv
          exact digZ_bd x k
      · simp only []
        have hpl : (sumsZ 3 ini z r w).length = ini.length + 4 := by simp [sumsZ]
        have hlast : (sumsZ 3 ini z r w)[ini.length + 3]? = some (lineZ w r.toNat 0) := by
          unfold sumsZ
          rw [List.cons_append, List.getElem?_cons_succ, List.getElem?_append_right (by simp), List.length_map, show ini.length + 2 - ini.length = 2 by omega]
          rfl
        have hfirst : (sumsZ 3 ini z r w)[0]? = some (firstZ w 3 (ini ++ [z])) := rfl
        obtain ⟨cr, hcr, hdr⟩ := line_at hr0 hrw hlt
        obtain ⟨cf, hcf, hdf⟩ := first_at (op := 3) (a := ini ++ [z]) h8 hlt
        rw [hk] at hdr hdf
        have h24r := w24_eq cr
        have h24f := w24_eq cf
        rw [hdr, hr, sum_dig _ h8 k] at h24r
        rw [hdf] at h24f
        have hini : (ini ++ [z]).length = ini.length + 1 := by simp
        have el : IntKind.i64.wrap (((sumsZ 3 ini z r w).length : Int) - 1) = ((ini.length + 3 : Nat) : Int) := by rw [hpl, wr (by omega) (by omega)]; omega
        have ek : IntKind.i64.wrap (IntKind.i64.wrap ((w : Int) - 1) - (j : Int)) = (k : Int) := by rw [wr (x := (w : Int) - 1) (by omega) (by omega), wr (by omega) (by omega)]; omega
        have ek1 : IntKind.i64.wrap ((k : Int) - 1) = (k : Int) - 1 := wr (by omega) (by omega)
        have ej : IntKind.i64.wrap ((j : Int) + 1) = ((j + 1 : Nat) : Int) := by rw [wr (by omega) (by omega)]; omega
        have es : ((0 : Int) + (List.drop 0 (valsZ (ini ++ [z]) k)).sum).tmod 10 = (carryZ 3 (ini ++ [z]) k + dsum k (ini ++ [z])) % 10 := by
          rw [List.drop_zero, valsZ_sum, Int.zero_add, Int.tmod_eq_emod_of_nonneg (by omega)]
        have ih := w5_cols V hr hr0 hrw hw hall x0 k0 k1 k2 n (j + 1) (by omega) (by omega) (by omega)
        have hcl : (carriesZ 3 (ini ++ [z])).length = colsZ (ini ++ [z]) := by simp [carriesZ]
        have hf0 : ∀ kk : List UInt8 → O, gx (sumsZ 3 ini z r w) 0 kk = kk (firstZ w 3 (ini ++ [z])) := fun kk => gx_of (by omega) hfirst kk
        rw [ck_t, el, gx_at hlast, gx_at hcr, ck_of (w24_p h24r), w24_y0 h24r, es, show decide ((carryZ 3 (ini ++ [z]) k + dsum k (ini ++ [z])) % 10 ≠ (carryZ 3 (ini ++ [z]) k + dsum k (ini ++ [z])) % 10) = false by simp, br_f, ek, ek1, ej]
        by_cases hc : 0 < k ∧ k - 1 < colsZ (ini ++ [z])
        · have hck : (decide (0 < (k : Int)) && decide ((k : Int) - 1 < ((carriesZ 3 (ini ++ [z])).length : Int))) = true := by rw [hcl]; simp; omega
          have hg : (carriesZ 3 (ini ++ [z]))[k - 1]? = some (carryZ 3 (ini ++ [z]) k) := by
            unfold carriesZ
            rw [List.getElem?_map, List.getElem?_range hc.2, Option.map_some, show k - 1 + 1 = k by omega]
          rw [hck, br_t, show (k : Int) - 1 = ((k - 1 : Nat) : Int) by omega, gx_at hg, hf0, gx_at hcf, ck_of (w24_p h24f), w24_y0 h24f, show decide (carryZ 3 (ini ++ [z]) k ≠ carryZ 3 (ini ++ [z]) k) = false by simp, br_f]
          exact ih
        · have hck : (decide (0 < (k : Int)) && decide ((k : Int) - 1 < ((carriesZ 3 (ini ++ [z])).length : Int))) = false := by
            rw [hcl, Bool.eq_false_iff]
            intro hh
            simp at hh
            omega
          have hz : carryZ 3 (ini ++ [z]) k = 0 := by
            cases k with
            | zero => rfl
            | succ k => exact carry_far V (.inl rfl) _ (by omega)
          rw [hck, br_f, hf0, gx_at hcf, ck_of (w24_p h24f), w24_y0 h24f, hz, show decide ((0 : Int) ≠ 0) = false from rfl, br_f]
          exact ih
    · rw [decide_eq_false (show ¬ (j : Int) < (w : Int) by omega), br_f]
theorem sums_wide {ini : List Int} {z r : Int} {w : Nat} (hall : ∀ x ∈ ini ++ [z], lenZ x ≤ w) (hr : lenZ r ≤ w) : ∀ l ∈ sumsZ 3 ini z r w, l.length = w := by
  intro l hl
  have hln : ∀ x : Int, lenZ x ≤ w → (lineZ w x.toNat 0).length = w := fun x hx => lineZ_len (by show 0 + lenZ x ≤ w; omega)
  unfold sumsZ at hl
  simp only [List.mem_append, List.mem_cons, List.mem_map, List.not_mem_nil, or_false, List.cons_append] at hl
  rcases hl with rfl | ⟨x, hx, rfl⟩ | rfl | rfl | rfl
  · simp [firstZ]
  · exact hln x (hall x (by simp [hx]))
  · rw [List.length_set, hln z (hall z (by simp))]
  · simp
  · exact hln r hr
theorem w5_ur (x : Bool) : (some (w5r0 x) : O).bind w5un = some x := rfl
theorem columns_true {l : List Int} (hl : Okl l) (hs : l.length * 8 ≤ 140737488351232) : w5z 100 l = some true := by
  have hl' : Okl ([0] ++ l) := fun x hx => by
    rcases List.mem_append.1 hx with h | h
    · simp at h; subst h; exact ⟨by omega, by omega⟩
    · exact hl x h
  obtain ⟨a, h10, V⟩ := w10_add (N := 100) hl' (by omega) rfl
  have h8 := V.eight
  have h21 := w21_eq (op := 3) (a := a) (by omega)
  have h15 := w15_eq (N := 100) (op := 3) (a := a) (by omega) (by omega) (by omega)
  unfold layZ at h21
  unfold carriesR at h15
  rw [if_pos (of_val V)] at h21 h15
  rw [if_pos (.inl rfl)] at h15
  obtain ⟨_, r0, r1, hc, hw⟩ := sums_facts V (.inl rfl)
  have hsp := split_last V.two
  have hcols := colsZ_ge V
  have hp : pageZ 3 a = sumsZ 3 a.dropLast (a.getLastD 0) ((resZ 3 a).getD 0 0) (widthS ((resZ 3 a).getD 0 0) a) := by
    unfold pageZ
    rw [if_neg (by omega), if_neg (by omega)]
  rw [hp] at h21
  have hw2 : widthS ((resZ 3 a).getD 0 0) a = 1 + max (lenZ ((resZ 3 a).getD 0 0)) (lenZ (a.getD 0 0)) := rfl
  have hrs : (resZ 3 a).getD 0 0 = a.sum := rfl
  generalize (resZ 3 a).getD 0 0 = r at *
  generalize widthS r a = w at *
  generalize a.dropLast = ini at *
  generalize a.getLastD 0 = z at *
  subst hsp
  have hrp := lenZ_pos r
  have hlen : (ini ++ [z]).length = ini.length + 1 := by simp
  have hpl : (sumsZ 3 ini z r w).length = ini.length + 4 := by simp [sumsZ]
  have hfirst : (sumsZ 3 ini z r w)[0]? = some (firstZ w 3 (ini ++ [z])) := rfl
  have hfl : (firstZ w 3 (ini ++ [z])).length = w := by simp [firstZ]
  have e3 : IntKind.i64.wrap (((ini ++ [z]).length : Int) + 3) = ((ini.length + 4 : Nat) : Int) := by rw [hlen, wr (by omega) (by omega)]; omega
  unfold w5z w5 w5G
  rw [ck_of (lim_of (by simp; omega) (by simp; omega)), ck_of (w10_p h10), w10_y0 h10, w10_y1 h10]
  simp only []
  rw [ck_of (w21_p h21), ck_of (w15_p h15), w21_y0 h21, w21_y1 h21, w15_y0 h15, w15_y1 h15, e3]
  simp only [hpl]
  rw [show (decide ((0 : Int) ≠ 0) || decide ((0 : Int) ≠ 0) || decide (((ini.length + 4 : Nat) : Int) ≠ ((ini.length + 4 : Nat) : Int))) = false by simp, br_f, gx_of (by omega) hfirst, hfl]
  refine (congrArg (fun z : O => z.bind w5un) (w5_wide false (sumsZ 3 ini z r w) (carriesZ 3 (ini ++ [z])) w (by omega) 3 (ini ++ [z]) (by omega) (sums_wide (fun x hx => by have := hcols x hx; omega) (by omega)) _ _ _ 100 0 (by omega) (by omega))).trans ?_
  simp only []
  refine (congrArg (fun z : O => z.bind w5un) (w5_cols V hrs r0 (by omega) (by omega) (fun x hx => ⟨(V.all x hx).1, by have := hcols x hx; omega⟩) false _ _ _ 100 1 (by omega) (by omega) (by omega))).trans ?_
  simp only []
  rw [ck_t]
  exact w5_ur true
end Go.Proofs
