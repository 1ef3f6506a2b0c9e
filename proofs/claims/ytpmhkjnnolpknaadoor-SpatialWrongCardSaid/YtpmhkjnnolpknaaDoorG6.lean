/- Lines and pages; additions and subtractions. Conditions are in the theorems. -/
import Derived.Test.YtpmhkjnnolpknaaDoorG2
/- Lines and pages: what the sheet of the program and the lines of the reference are. -/
namespace Go.Proofs
open Go Go.Ax Go.Ax.Alg
/-! ### Cells -/
def cellB (c : UInt8) : UInt8 := w31y0 100 c
theorem w31_all : ((List.range 256).all fun n => (w31z 100 (UInt8.ofNat n)).isSome) = true := by decide +kernel
theorem w31_eq (c : UInt8) : w31z 100 c = some (cellB c) := by
  have h := List.all_eq_true.1 w31_all c.toNat (List.mem_range.2 c.toNat_lt)
  rw [UInt8.ofNat_toNat] at h
  obtain ⟨d, hd⟩ := Option.isSome_iff_exists.1 h
  rw [hd]
  unfold cellB
  rw [w31_y0 hd]
theorem cell_blank : cellB 95 = 0 := by decide +kernel
theorem cell_rule : cellB 61 = 18 := by decide +kernel
theorem cell_plus : cellB 43 = 44 := by decide +kernel
theorem cell_minus : cellB 45 = 36 := by decide +kernel
def digs10 : List UInt8 := [26, 1, 3, 9, 25, 17, 11, 27, 19, 10]
theorem cell_dig {d : Nat} (h : d < 10) : digs10[d]? = some (cellB (UInt8.ofNat (48 + d))) := by
  rcases (show d = 0 ∨ d = 1 ∨ d = 2 ∨ d = 3 ∨ d = 4 ∨ d = 5 ∨ d = 6 ∨ d = 7 ∨ d = 8 ∨ d = 9 by omega) with h | h | h | h | h | h | h | h | h | h <;> subst h <;> decide +kernel
def dcells (n : Nat) : List UInt8 := (Lib.decDigits n).map cellB
def lenN (n : Nat) : Nat := Lib.nDigits n
theorem dcells_len (n : Nat) : (dcells n).length = lenN n := by unfold dcells; rw [List.length_map, dec_len]; rfl
theorem dcells_small {n : Nat} (h : n < 10) : dcells n = [cellB (UInt8.ofNat (48 + n))] := by
  unfold dcells
  rw [Lib.decDigits, dif_pos h]
  rfl
theorem dcells_big {n : Nat} (h : ¬ n < 10) : dcells n = dcells (n / 10) ++ [cellB (UInt8.ofNat (48 + n % 10))] := by
  unfold dcells
  rw [Lib.decDigits, dif_neg h, List.map_append]
  rfl
theorem lenN_big {n : Nat} (h : ¬ n < 10) : lenN n = lenN (n / 10) + 1 := Lib.nDigits_big h
theorem lenN_small {n : Nat} (h : n < 10) : lenN n = 1 := Lib.nDigits_small h
theorem lenN_pos (n : Nat) : 1 ≤ lenN n := Lib.nDigits_pos n

/-! ### Writing into a line -/
/-- The line with a number in it, so many places to the left of the last place. -/
def put (L : List UInt8) (left n : Nat) : List UInt8 := L.take (L.length - left - lenN n) ++ dcells n ++ L.drop (L.length - left)
theorem put_len {L : List UInt8} {left n : Nat} (h : left + lenN n ≤ L.length) : (put L left n).length = L.length := by
  unfold put
  rw [List.length_append, List.length_append, List.length_take, List.length_drop, dcells_len]
  omega
theorem set_eq {L : List UInt8} {p : Nat} (h : p < L.length) (c : UInt8) : L.set p c = L.take p ++ c :: L.drop (p + 1) := by
  rw [List.set_eq_take_append_cons_drop, if_pos h]
theorem put_small {L : List UInt8} {left n : Nat} (hn : n < 10) (h : left + 1 ≤ L.length) : L.set (L.length - 1 - left) (cellB (UInt8.ofNat (48 + n))) = put L left n := by
  unfold put
  rw [set_eq (by omega), lenN_small hn, dcells_small hn, show L.length - left - 1 = L.length - 1 - left by omega, show L.length - 1 - left + 1 = L.length - left by omega, List.append_assoc]
  rfl
theorem put_big {L : List UInt8} {left n : Nat} (hn : ¬ n < 10) (h : left + lenN n ≤ L.length) : put (L.set (L.length - 1 - left) (cellB (UInt8.ofNat (48 + n % 10)))) (left + 1) (n / 10) = put L left n := by
  have h1 := lenN_big hn
  have h2 := lenN_pos (n / 10)
  unfold put
  rw [List.length_set, set_eq (by omega), dcells_big hn, h1, show L.length - 1 - left + 1 = L.length - left by omega]
  have ht : (List.take (L.length - 1 - left) L).length = L.length - (left + 1) := by rw [List.length_take]; omega
  rw [List.take_append_of_le_length (by omega), List.take_take, ← ht, List.drop_left, ht, show min (L.length - (left + 1) - lenN (n / 10)) (L.length - 1 - left) = L.length - left - (lenN (n / 10) + 1) by omega]
  simp only [List.append_assoc, List.cons_append, List.nil_append]
def lineZ (width n left : Nat) : List UInt8 := put (List.replicate width 0) left n
theorem lineZ_len {width n left : Nat} (h : left + lenN n ≤ width) : (lineZ width n left).length = width := by
  unfold lineZ
  rw [put_len (by simpa using h)]
  simp
theorem lineZ_eq {width n left : Nat} (h : left + lenN n ≤ width) : lineZ width n left = List.replicate (width - left - lenN n) 0 ++ dcells n ++ List.replicate left 0 := by
  unfold lineZ put
  rw [List.length_replicate, List.take_replicate, List.drop_replicate, show min (width - left - lenN n) width = width - left - lenN n by omega, show width - (width - left) = left by omega]

/-! ### The sheet -/
theorem last_at {α : Type} (pre : List α) (L : α) : (pre ++ [L])[pre.length]? = some L := by simp
theorem set_last {α : Type} (pre : List α) (L M : α) : (pre ++ [L]).set pre.length M = pre ++ [M] := by simp
theorem w80_ur (x y : Int) (z : List (List UInt8)) : (some (w80r0 x y z) : O).bind w80un = some (x, y, z) := rfl
theorem w80_eq {k : Nat} {c : UInt8} {left : Nat} {pre : List (List UInt8)} {L : List UInt8} (hp : pre.length < 1000) (hw : L.length < 1000) (h : left + k + 1 ≤ L.length) :
    w80z 100 k c left L.length (pre ++ [L]) = some ((left : Int), (L.length : Int), pre ++ [L.set (L.length - 1 - left - k) c]) := by
  unfold w80z w80 w80G
  have e1 : IntKind.i64.wrap (((pre ++ [L]).length : Int) - 1) = pre.length := by
    rw [List.length_append, List.length_cons, List.length_nil, wr (by omega) (by omega)]; omega
  have e2 : IntKind.i64.wrap (IntKind.i64.wrap (IntKind.i64.wrap ((L.length : Int) - 1) - (left : Int)) - (k : Int)) = ((L.length - 1 - left - k : Nat) : Int) := by
    rw [wr (x := (L.length : Int) - 1) (by omega) (by omega), wr (x := (L.length : Int) - 1 - left) (by omega) (by omega), wr (by omega) (by omega)]; omega
  simp only [e1, e2, Int.toNat_natCast]
  rw [ck_of (decide_eq_true ⟨by omega, by simp; omega⟩), gn_of (last_at pre L), gn_of (last_at pre L), ck_of (decide_eq_true ⟨by omega, by omega⟩), gn_of (last_at pre L), gn_of (List.getElem?_eq_getElem (show L.length - 1 - left - k < L.length by omega)), set_last]
  exact w80_ur _ _ _
theorem w81_eq : w81z 100 = some (26, 1, 3, 9, 25, 17, 11, 27, 19, 10) := rfl
theorem w63_loop (pre : List (List UInt8)) (hp : pre.length < 1000) (left : Nat) (k0 : Int × List (List UInt8) → O) (k1 k2 : Unit → O) : ∀ (m n k : Nat) (L : List UInt8), lenN n < m → n < 1000000000000000000 → L.length < 1000 → left + k + lenN n ≤ L.length → (k = 0 ∨ 0 < n) →
    w63l0 100 m (n, k, L.length, pre ++ [L], left) k0 k1 k2 = k0 ((L.length : Int), pre ++ [put L (left + k) n])
  | 0, n, k, L, h, _, _, _, _ => by omega
  | m + 1, n, k, L, h, hn, hw, hl, hk => by
    show w63F0 100 _ _ n k L.length (pre ++ [L]) left = _
    unfold w63F0
    have hb : (decide ((k : Int) = 0) || decide (0 < (n : Int))) = true := by simp; omega
    have h81 : w81z 100 = some (26, 1, 3, 9, 25, 17, 11, 27, 19, 10) := w81_eq
    have hlp := lenN_pos n
    have ed : (n : Int).tmod 10 = ((n % 10 : Nat) : Int) := by rw [Int.tmod_eq_emod_of_nonneg (by omega)]; omega
    have eq : IntKind.i64.wrap ((n : Int).tdiv 10) = ((n / 10 : Nat) : Int) := by rw [Int.tdiv_eq_ediv_of_nonneg (by omega), wr (by omega) (by omega)]; omega
    have ek : IntKind.i64.wrap ((k : Int) + 1) = ((k + 1 : Nat) : Int) := by rw [wr (by omega) (by omega)]; omega
    have h80 := w80_eq (k := k) (c := cellB (UInt8.ofNat (48 + n % 10))) (left := left) (pre := pre) (L := L) hp hw (by omega)
    have hdig : [w81y0 100, w81y1 100, w81y2 100, w81y3 100, w81y4 100, w81y5 100, w81y6 100, w81y7 100, w81y8 100, w81y9 100][n % 10]? = some (cellB (UInt8.ofNat (48 + n % 10))) := by
      rw [w81_y0 h81, w81_y1 h81, w81_y2 h81, w81_y3 h81, w81_y4 h81, w81_y5 h81, w81_y6 h81, w81_y7 h81, w81_y8 h81, w81_y9 h81]
      exact cell_dig (by omega)
    rw [hb, br_t, ck_of (w81_p h81), ck_t, ed, gx_at hdig, ck_of (w80_p h80), ck_t, w80_y0 h80, w80_y1 h80, w80_y2 h80, eq, ek]
    simp only []
    rw [show L.length - 1 - left - k = L.length - 1 - (left + k) by omega]
    by_cases h10 : n < 10
    · have hset := put_small (L := L) (left := left + k) h10 (by omega)
      rw [show n % 10 = n by omega, hset, show n / 10 = 0 by omega]
      cases m with
      | zero => omega
      | succ m =>
        show w63F0 100 _ _ (0 : Nat) (k + 1 : Nat) L.length (pre ++ [put L (left + k) n]) left = _
        unfold w63F0
        rw [show (decide (((k + 1 : Nat) : Int) = 0) || decide (0 < ((0 : Nat) : Int))) = false by simp; omega, br_f]
    · have hln := lenN_big h10
      have ih := w63_loop pre hp left k0 k1 k2 m (n / 10) (k + 1) (L.set (L.length - 1 - (left + k)) (cellB (UInt8.ofNat (48 + n % 10)))) (by omega) (by omega) (by rw [List.length_set]; omega) (by rw [List.length_set]; omega) (.inr (by omega))
      rw [List.length_set, ← Nat.add_assoc, put_big h10 (by omega)] at ih
      exact ih
theorem w63_eq {n left : Nat} {pre : List (List UInt8)} {L : List UInt8} (hp : pre.length < 1000) (hn : n < 1000000000000000000) (hw : L.length < 90) (h : left + lenN n ≤ L.length) :
    w63z 100 n left L.length (pre ++ [L]) = some ((L.length : Int), pre ++ [put L left n]) := by
  unfold w63z w63 w63G
  have := w63_loop pre hp left (fun y => some (w63r0 y.1 y.2)) (fun _ => none) (fun _ => none) 100 n 0 L (by omega) hn (by omega) (by omega) (.inl rfl)
  exact (congrArg (fun z : O => z.bind w63un) this).trans rfl
theorem w62_eq {width : Nat} {p : List (List UInt8)} (hw : width < 1000) (hp : p.length < 1000) : w62z 100 width p = some ((width : Int), p ++ [List.replicate width 0]) := by
  unfold w62z w62 w62G
  rw [ck_of (decide_eq_true (by omega)), ck_of (lim_of (by omega) (by omega)), ck_of (lim_of (by simp; omega) (by simp; omega)), Int.toNat_natCast]
  rfl
theorem w64_eq {width n left : Nat} {p : List (List UInt8)} (hp : p.length < 1000) (hn : n < 1000000000000000000) (hw : width < 90) (h : left + lenN n ≤ width) :
    w64z 100 n left width p = some ((width : Int), p ++ [lineZ width n left]) := by
  unfold w64z w64 w64G
  have h62 := w62_eq (width := width) (p := p) (by omega) hp
  have h63 := w63_eq (n := n) (left := left) (pre := p) (L := List.replicate width 0) hp hn (by simpa using hw) (by simpa using h)
  rw [List.length_replicate] at h63
  rw [ck_of (w62_p h62), w62_y0 h62, w62_y1 h62]
  simp only []
  rw [ck_of (w63_p h63), w63_y0 h63, w63_y1 h63]
  rfl
theorem w65_eq {width : Nat} {c : UInt8} {pre : List (List UInt8)} {L : List UInt8} (hp : pre.length < 1000) (hw : 0 < L.length) : w65z 100 c width (pre ++ [L]) = some ((width : Int), pre ++ [L.set 0 c]) := by
  unfold w65z w65 w65G
  have e1 : IntKind.i64.wrap (((pre ++ [L]).length : Int) - 1) = pre.length := by
    rw [List.length_append, List.length_cons, List.length_nil, wr (by omega) (by omega)]; omega
  simp only [e1, Int.toNat_natCast]
  rw [ck_of (decide_eq_true ⟨by omega, by simp; omega⟩), gn_of (last_at pre L), gn_of (last_at pre L), ck_of (decide_eq_true ⟨by omega, by omega⟩), gn_of (last_at pre L), gn_of (List.getElem?_eq_getElem hw), set_last]
  rfl
theorem w82_all : ((List.range 90).all fun w => w82z 100 [18] (w : Int) == some (List.replicate w 18)) = true := by decide +kernel
theorem w82_eq {w : Nat} (h : w < 90) : w82z 100 [18] w = some (List.replicate w 18) := by
  have := List.all_eq_true.1 w82_all w (List.mem_range.2 h)
  exact eq_of_beq this
theorem w66_eq {width : Nat} {p : List (List UInt8)} (hw : width < 90) (hp : p.length < 1000) : w66z 100 width p = some ((width : Int), p ++ [List.replicate width 18]) := by
  unfold w66z w66 w66G
  have h := w82_eq hw
  rw [ck_of (w82_p h), w82_y0 h, ck_of (lim_of (by simp; omega) (by simp; omega))]
  rfl

/-! ### The reference's lines -/
theorem w88_loop (c : UInt8) (n : Nat) (hn : n < 1000) (x2 : List UInt8) (k0 : List UInt8 × List UInt8 → O) (k1 k2 : Unit → O) : ∀ (m i : Nat), n - i < m → i ≤ n → w88l0 100 m (c, n, x2, i, List.replicate i c) k0 k1 k2 = k0 (x2, List.replicate n c)
  | 0, i, h, _ => by omega
  | m + 1, i, h, hi => by
    show w88F0 100 _ _ c n x2 i _ = _
    unfold w88F0
    by_cases hlt : i < n
    · have e : IntKind.i64.wrap ((i : Int) + 1) = ((i + 1 : Nat) : Int) := by rw [wr (by omega) (by omega)]; omega
      rw [decide_eq_true (show (i : Int) < (n : Int) by omega), br_t, ck_of (lim_of (by simp; omega) (by simp; omega)), e, ← List.replicate_succ']
      exact w88_loop c n hn x2 k0 k1 k2 m (i + 1) (by omega) (by omega)
    · rw [decide_eq_false (show ¬ (i : Int) < (n : Int) by omega), br_f, show i = n by omega]
theorem w88_eq {c : UInt8} {n : Nat} (hn : n < 90) : w88z 100 c n = some (List.replicate n c) := by
  unfold w88z w88 w88G
  have := w88_loop c n (by omega) [] (fun y => some (w88r0 y.2)) (fun _ => none) (fun _ => none) 100 0 (by omega) (by omega)
  exact (congrArg (fun z : O => z.bind w88un) this).trans rfl
def endedZ (s : List UInt8) (width left : Nat) : List UInt8 := List.replicate (width - left - s.length) 95 ++ s ++ List.replicate left 95
theorem w86_eq {s : List UInt8} {width left : Nat} (hw : width < 90) (h : left + s.length ≤ width) : w86z 100 s width left = some (endedZ s width left) := by
  unfold w86z w86 w86G endedZ
  have e : IntKind.i64.wrap (IntKind.i64.wrap ((width : Int) - left) - (s.length : Int)) = ((width - left - s.length : Nat) : Int) := by
    rw [wr (x := (width : Int) - left) (by omega) (by omega), wr (by omega) (by omega)]; omega
  have h1 := w88_eq (c := 95) (n := width - left - s.length) (by omega)
  have h2 := w88_eq (c := 95) (n := left) (by omega)
  rw [e, ck_of (w88_p h1), w88_y0 h1, ck_of (decide_eq_true (by simp; omega)), ck_of (w88_p h2), w88_y0 h2, ck_of (decide_eq_true (by simp; omega))]
  rfl
theorem endedZ_len {s : List UInt8} {width left : Nat} (h : left + s.length ≤ width) : (endedZ s width left).length = width := by
  unfold endedZ
  simp
  omega
theorem ended_cells {width n left : Nat} (h : left + lenN n ≤ width) : (endedZ (Lib.decDigits n) width left).map cellB = lineZ width n left := by
  rw [lineZ_eq h]
  unfold endedZ dcells
  rw [List.map_append, List.map_append, List.map_replicate, List.map_replicate, cell_blank, dec_len]
  rfl
theorem w87_eq {l s : List UInt8} (h1 : 0 < l.length) (h2 : l.length < 1000) (h3 : s.length < 1000) : w87z 100 l s = some (s ++ l.drop 1) := by
  unfold w87z w87 w87G
  rw [show min (1 : Int) (l.length : Int) = 1 by omega]
  have e : slc l (some 1) none = l.drop 1 := rfl
  rw [ck_of (show slcOk l.length (some 1) none = true from decide_eq_true (by omega)), e, ck_of (decide_eq_true (by simp; omega))]
  rfl
theorem signed_cells {l : List UInt8} (h : 0 < l.length) (c : UInt8) : ([c] ++ l.drop 1).map cellB = (l.map cellB).set 0 (cellB c) := by
  cases l with
  | nil => simp at h
  | cons x l => rfl
theorem rule_cells (width : Nat) : (List.replicate width (61 : UInt8)).map cellB = List.replicate width 18 := by rw [List.map_replicate, cell_rule]

end Go.Proofs
/- The page of an addition or a subtraction: the program's and the reference's are one. -/
namespace Go.Proofs
open Go Go.Ax Go.Ax.Alg
theorem w64_eqI {width left : Nat} {n : Int} {p : List (List UInt8)} (hp : p.length < 1000) (h0 : 0 ≤ n) (hn : n < 1000000000000000000) (hw : width < 90) (h : left + lenZ n ≤ width) :
    w64z 100 n left width p = some ((width : Int), p ++ [lineZ width n.toNat left]) := by
  obtain ⟨u, rfl⟩ := Int.eq_ofNat_of_zero_le h0
  exact w64_eq hp (by omega) hw h
theorem dec_lenZ (n : Int) : (Lib.decDigits n.toNat).length = lenZ n := dec_len _
theorem lt_pow_lenZ {x : Int} (h0 : 0 ≤ x) {k : Nat} (h : lenZ x ≤ k) : x < ((10 ^ k : Nat) : Int) := by
  have h1 := Lib.lt_pow_nDigits x.toNat
  have h2 : 10 ^ Lib.nDigits x.toNat ≤ 10 ^ k := Nat.pow_le_pow_right (by omega) h
  have : x = (x.toNat : Int) := by omega
  omega
theorem digZ_zero {x : Int} (h0 : 0 ≤ x) {k : Nat} (h : lenZ x ≤ k) : digZ x k = 0 := by
  unfold digZ
  rw [Int.ediv_eq_zero_of_lt h0 (lt_pow_lenZ h0 h)]
  rfl
theorem dsum_zero {k : Nat} : ∀ {a : List Int}, (∀ x ∈ a, 0 ≤ x ∧ lenZ x ≤ k) → dsum k a = 0
  | [], _ => rfl
  | x :: a, h => by
    have h1 := h x (by simp)
    have h2 := dsum_zero (k := k) (a := a) fun y hy => h y (by simp [hy])
    have : dsum k (x :: a) = digZ x k + dsum k a := by simp [dsum]
    rw [this, h2, digZ_zero h1.1 h1.2]
    rfl
theorem colsZ_ge {op : Int} {a : List Int} (V : Val op a) : ∀ x ∈ a, lenZ x ≤ colsZ a := by
  obtain ⟨x, y, r, rfl⟩ := two_at V.two
  intro z hz
  rw [colsZ_eq]
  obtain ⟨h1, h2⟩ := foldl_max_ge (y :: r) x
  rcases List.mem_cons.1 hz with rfl | h
  · exact lenZ_mono h1
  · exact lenZ_mono (h2 z h)
/-- The borrow of a subtraction. -/
theorem borrow {x y : Int} : ∀ k, carryZ 4 [x, y] k = if x % ((10 ^ k : Nat) : Int) < y % ((10 ^ k : Nat) : Int) then 1 else 0
  | 0 => by
    show (0 : Int) = _
    rw [if_neg (by simp)]
  | k + 1 => by
    have ih := borrow (x := x) (y := y) k
    show (if digZ x k < digZ y k + carryZ 4 [x, y] k then (1 : Int) else 0) = _
    rw [ih]
    have key : ∀ z : Int, z % ((10 ^ (k + 1) : Nat) : Int) = z % ((10 ^ k : Nat) : Int) + ((10 ^ k : Nat) : Int) * digZ z k := by
      intro z
      rw [Nat.pow_succ, Int.natCast_mul, show ((10 : Nat) : Int) = 10 from rfl]
      unfold digZ
      have hp : (0 : Int) < ((10 ^ k : Nat) : Int) := by have := Nat.one_le_pow k 10 (by omega); omega
      generalize ((10 ^ k : Nat) : Int) = u at *
      have e1 := Int.emod_add_mul_ediv z u
      have e2 := Int.emod_add_mul_ediv (z / u) 10
      have b1 := Int.emod_nonneg z (show u ≠ 0 by omega)
      have b2 := Int.emod_lt_of_pos z hp
      have b3 : 0 ≤ z / u % 10 ∧ z / u % 10 < 10 := by omega
      have e3 : z = (z % u + u * (z / u % 10)) + (u * 10) * (z / u / 10) := by
        rw [Int.mul_assoc, Int.add_assoc, ← Int.mul_add, e2, e1]
      have b4 : 0 ≤ u * (z / u % 10) ∧ u * (z / u % 10) ≤ u * 9 := ⟨Int.mul_nonneg (by omega) b3.1, Int.mul_le_mul_of_nonneg_left (by omega) (by omega)⟩
      conv => lhs; rw [e3]
      rw [Int.add_mul_emod_self_left, Int.emod_eq_of_lt (by omega) (by omega)]
    rw [key x, key y]
    have hp : (0 : Int) < ((10 ^ k : Nat) : Int) := by have := Nat.one_le_pow k 10 (by omega); omega
    have bx1 := Int.emod_nonneg x (show ((10 ^ k : Nat) : Int) ≠ 0 by omega)
    have bx2 := Int.emod_lt_of_pos x hp
    have by1 := Int.emod_nonneg y (show ((10 ^ k : Nat) : Int) ≠ 0 by omega)
    have by2 := Int.emod_lt_of_pos y hp
    generalize ((10 ^ k : Nat) : Int) = u at *
    generalize digZ x k = d at *
    generalize digZ y k = e at *
    generalize x % u = p at *
    generalize y % u = q at *
    have hmul : ∀ c : Int, 1 ≤ c → u ≤ u * c := fun c hc => by
      have := Int.mul_le_mul_of_nonneg_left hc (show 0 ≤ u by omega)
      omega
    by_cases h1 : d < e
    · have := hmul (e - d) (by omega)
      rw [Int.mul_sub] at this
      rw [if_pos (by split <;> omega), if_pos (by omega)]
    · by_cases h2 : e < d
      · have := hmul (d - e) (by omega)
        rw [Int.mul_sub] at this
        rw [if_neg (by split <;> omega), if_neg (by omega)]
      · have : d = e := by omega
        subst this
        by_cases h3 : p < q
        · rw [if_pos h3, if_pos (by omega), if_pos (by omega)]
        · rw [if_neg h3, if_neg (by omega), if_neg (by omega)]
theorem carry_far {op : Int} {a : List Int} (V : Val op a) (ho : op = 3 ∨ op = 4) : ∀ k, colsZ a < k → carryZ op a k = 0 := by
  have hall : ∀ k, colsZ a ≤ k → ∀ x ∈ a, 0 ≤ x ∧ lenZ x ≤ k := fun k hk x hx => ⟨(V.all x hx).1, Nat.le_trans (colsZ_ge V x hx) hk⟩
  rcases ho with rfl | rfl
  · intro k hk
    cases k with
    | zero => omega
    | succ k =>
      show (carryZ 3 a k + dsum k a) / 10 = 0
      have := carryZ_bd 3 V.eight k
      rw [dsum_zero (hall k (by omega))]
      omega
  · have hl := V.pair (by omega)
    have hsub := V.sub rfl
    obtain ⟨x, y, r, rfl⟩ := two_at V.two
    have hr : r = [] := by simpa using hl
    subst hr
    have hsub : y ≤ x := hsub
    intro k hk
    have h1 := hall k (by omega) x (by simp)
    have h2 := hall k (by omega) y (by simp)
    rw [borrow, Int.emod_eq_of_lt h1.1 (lt_pow_lenZ h1.1 h1.2), Int.emod_eq_of_lt h2.1 (lt_pow_lenZ h2.1 h2.2), if_neg (by omega)]

/-! ### The line of the carries -/
def carryCell (op : Int) (a : List Int) (i k : Nat) : UInt8 := if k ≤ i ∧ 0 < carryZ op a k then cellB (UInt8.ofNat (48 + (carryZ op a k).toNat)) else 0
def firstI (width : Nat) (op : Int) (a : List Int) (i : Nat) : List UInt8 := (List.range width).map fun j => carryCell op a i (width - 1 - j)
theorem firstI_len (width : Nat) (op : Int) (a : List Int) (i : Nat) : (firstI width op a i).length = width := by simp [firstI]
theorem firstI_zero (width : Nat) (op : Int) (a : List Int) : firstI width op a 0 = List.replicate width 0 := by
  apply List.ext_getElem
  · simp [firstI]
  · intro i h1 h2
    simp only [firstI, List.getElem_map, List.getElem_range, List.getElem_replicate]
    unfold carryCell
    rw [if_neg]
    rintro ⟨h, h0⟩
    have : width - 1 - i = 0 := by omega
    rw [this] at h0
    exact absurd h0 (by show ¬ (0 : Int) < 0; omega)
theorem firstI_step {width : Nat} {op : Int} {a : List Int} {i : Nat} (hi : i + 2 ≤ width) : firstI width op a (i + 1) = if 0 < carryZ op a (i + 1) then (firstI width op a i).set (width - 1 - (i + 1)) (cellB (UInt8.ofNat (48 + (carryZ op a (i + 1)).toNat))) else firstI width op a i := by
  split
  · rename_i hc
    apply List.ext_getElem
    · simp [firstI]
    · intro j h1 h2
      have hj : j < width := by simpa [firstI] using h1
      rw [List.getElem_set]
      simp only [firstI, List.getElem_map, List.getElem_range]
      by_cases he : width - 1 - (i + 1) = j
      · rw [if_pos he]
        unfold carryCell
        rw [show width - 1 - j = i + 1 by omega, if_pos ⟨Nat.le_refl _, hc⟩]
      · rw [if_neg he]
        unfold carryCell
        by_cases h3 : width - 1 - j ≤ i
        · simp only [h3, show width - 1 - j ≤ i + 1 by omega, true_and]
        · simp only [h3, show ¬ width - 1 - j ≤ i + 1 by omega, false_and]
  · rename_i hc
    unfold firstI
    apply List.map_congr_left
    intro j hj
    unfold carryCell
    by_cases h3 : width - 1 - j ≤ i
    · simp only [h3, show width - 1 - j ≤ i + 1 by omega, true_and]
    · simp only [h3, false_and]
      by_cases h4 : width - 1 - j ≤ i + 1
      · rw [show width - 1 - j = i + 1 by omega, if_neg (fun h => hc h.2), if_neg (fun h => h)]
      · rw [if_neg (fun h => h4 h.1), if_neg (fun h => h)]
/-- The first line. -/
def firstZ (width : Nat) (op : Int) (a : List Int) : List UInt8 := (List.range width).map fun j => if 0 < carryZ op a (width - 1 - j) then cellB (UInt8.ofNat (48 + (carryZ op a (width - 1 - j)).toNat)) else 0
theorem firstI_all {width : Nat} {op : Int} {a : List Int} (V : Val op a) (ho : op = 3 ∨ op = 4) : firstI width op a (colsZ a) = firstZ width op a := by
  unfold firstI firstZ
  apply List.map_congr_left
  intro j _
  unfold carryCell
  by_cases h : width - 1 - j ≤ colsZ a
  · simp only [h, true_and]
  · rw [carry_far V ho _ (by omega)]
    simp
theorem w42_first {op : Int} {a : List Int} (V : Val op a) (ho : op = 3 ∨ op = 4) {width : Nat} (hw : width < 90) (hc : colsZ a + 1 ≤ width) (x0 x4 : Int) (x5 : List Int) (k0 : Int × Int × List Int × Int × List (List UInt8) → O) (k1 k2 : Unit → O) : ∀ (m i : Nat), colsZ a - i < m → i ≤ colsZ a →
    w42l0 100 m (x0, carriesZ op a, colsZ a, i, x4, x5, width, [firstI width op a i]) k0 k1 k2 = k0 (x0, x4, x5, width, [firstZ width op a])
  | 0, i, h, _ => by omega
  | m + 1, i, h, hi => by
    show w42F0 100 _ _ x0 (carriesZ op a) (colsZ a) x4 x5 i width [firstI width op a i] = _
    unfold w42F0
    by_cases hlt : i < colsZ a
    · have hg : (carriesZ op a)[i]? = some (carryZ op a (i + 1)) := by
        unfold carriesZ
        rw [List.getElem?_map, List.getElem?_range hlt]
        rfl
      have e : IntKind.i64.wrap ((i : Int) + 1) = ((i + 1 : Nat) : Int) := by rw [wr (by omega) (by omega)]; omega
      have hb := carryZ_bd op V.eight (i + 1)
      have ih := w42_first V ho hw hc x0 x4 x5 k0 k1 k2 m (i + 1) (by omega) (by omega)
      rw [firstI_step (by omega)] at ih
      rw [decide_eq_true (show (i : Int) < (colsZ a : Int) by omega), br_t, gx_at hg, e]
      by_cases h0 : 0 < carryZ op a (i + 1)
      · rw [if_pos h0] at ih
        have h63 := w63_eq (n := (carryZ op a (i + 1)).toNat) (left := i + 1) (pre := []) (L := firstI width op a i) (by simp) (by omega) (by rw [firstI_len]; exact hw) (by rw [firstI_len, lenN_small (by omega)]; omega)
        rw [show (((carryZ op a (i + 1)).toNat : Nat) : Int) = carryZ op a (i + 1) by omega, List.nil_append, firstI_len, ← put_small (by omega) (by rw [firstI_len]; omega), firstI_len] at h63
        rw [decide_eq_true h0, br_t, ck_of (w63_p h63), w63_y0 h63, w63_y1 h63]
        exact ih
      · rw [if_neg h0] at ih
        rw [decide_eq_false h0, br_f]
        exact ih
    · rw [decide_eq_false (show ¬ (i : Int) < (colsZ a : Int) by omega), br_f, show i = colsZ a by omega, firstI_all V ho]
theorem w42_nums {op : Int} (a : List Int) (hlen : a.length ≤ 8) {width : Nat} (hw : width < 90) (hall : ∀ x ∈ a, 0 ≤ x ∧ x < 1000000000000000000 ∧ lenZ x ≤ width) (F : List UInt8) (x0 : Int) (k0 : Int × Int × List Int × Int × List (List UInt8) → O) (k1 k2 : Unit → O) : ∀ (m i : Nat), a.length - i < m → i ≤ a.length →
    w42l1 100 m (x0, a, a.length, i, op, a, width, F :: (a.take i).map fun x => lineZ width x.toNat 0) k0 k1 k2 = k0 (x0, op, a, width, F :: a.map fun x => lineZ width x.toNat 0)
  | 0, i, h, _ => by omega
  | m + 1, i, h, hi => by
    show w42F1 100 _ _ x0 a a.length op a i width (F :: (a.take i).map fun x => lineZ width x.toNat 0) = _
    unfold w42F1
    by_cases hlt : i < a.length
    · have hg : a[i]? = some a[i] := List.getElem?_eq_getElem hlt
      have hx := hall a[i] (List.getElem_mem hlt)
      have e : IntKind.i64.wrap ((i : Int) + 1) = ((i + 1 : Nat) : Int) := by rw [wr (by omega) (by omega)]; omega
      have h64 := w64_eqI (left := 0) (width := width) (n := a[i]) (p := F :: (a.take i).map fun x => lineZ width x.toNat 0) (by simp; omega) hx.1 hx.2.1 hw (by omega)
      rw [show ((0 : Nat) : Int) = 0 from rfl] at h64
      rw [decide_eq_true (show (i : Int) < (a.length : Int) by omega), br_t, gx_at hg, ck_of (w64_p h64), w64_y0 h64, w64_y1 h64, e]
      have ih := w42_nums a hlen hw hall F x0 k0 k1 k2 m (i + 1) (by omega) (by omega) (op := op)
      rw [List.take_add_one, hg] at ih
      simp only [Option.toList, List.map_append, List.map_cons, List.map_nil] at ih
      exact ih
    · rw [decide_eq_false (show ¬ (i : Int) < (a.length : Int) by omega), br_f, show i = a.length by omega, List.take_length]
/-- The page of an addition or a subtraction. -/
def sumsZ (op : Int) (ini : List Int) (z r : Int) (width : Nat) : List (List UInt8) :=
  firstZ width op (ini ++ [z]) :: (ini.map fun x => lineZ width x.toNat 0) ++ [(lineZ width z.toNat 0).set 0 (if op = 3 then 44 else 36), List.replicate width 18, lineZ width r.toNat 0]
theorem w42_ur (x : List (List UInt8)) : (some (w42r0 x) : O).bind w42un = some x := rfl
theorem w42_eq {op : Int} {ini : List Int} {z r : Int} {width : Nat} (V : Val op (ini ++ [z])) (ho : op = 3 ∨ op = 4) (hr : 0 ≤ r ∧ r < 1000000000000000000) (hM : width = 1 + max (lenZ r) (lenZ ((ini ++ [z]).getD 0 0))) (hc : colsZ (ini ++ [z]) + 1 ≤ width) :
    w42z 100 op (ini ++ [z]) r = some (sumsZ op ini z r width) := by
  have hcols := colsZ_ge V
  have h8 := V.eight
  have hin : ini ≠ [] := by
    intro h
    have := V.two
    subst h
    simp at this
  obtain ⟨x, ini', rfl⟩ := List.exists_cons_of_ne_nil hin
  have hx := V.all x (by simp)
  have hl1 := lenZ_big (show x < 1000000000000000000 by omega)
  have hl2 := lenZ_big hr.2
  have hM : width = 1 + max (lenZ r) (lenZ x) := hM
  have h57r := w57_eq 100 (n := r) ⟨by omega, by omega⟩ hr.1
  have h57x := w57_eq 100 (n := x) ⟨by omega, by omega⟩ hx.1
  have h36 := w36_eq V ho (N := 100) (by omega)
  have hcl : (carriesZ op (x :: ini' ++ [z])).length = colsZ (x :: ini' ++ [z]) := by simp [carriesZ]
  have eM : IntKind.i64.wrap (1 + max (lenZ r : Int) (lenZ x : Int)) = (width : Int) := by rw [wr (by omega) (by omega)]; omega
  have h62 := w62_eq (width := width) (p := []) (by omega) (by simp)
  unfold w42z w42 w42G
  rw [ck_of (w57_p h57r), w57_y0 h57r]
  show (gx (x :: (ini' ++ [z])) 0 _).bind w42un = _
  rw [gx_0, ck_of (w57_p h57x), w57_y0 h57x, eM, ck_of (w62_p h62), w62_y0 h62, w62_y1 h62]
  show (ck (w36p 100 op (x :: ini' ++ [z])) _).bind w42un = _
  rw [ck_of (w36_p h36)]
  show (w42n0 100 r (w36y0 100 op (x :: ini' ++ [z])) ((w36y0 100 op (x :: ini' ++ [z])).length : Int) 0 op (x :: ini' ++ [z]) width [List.replicate width 0] _).bind w42un = _
  rw [w36_y0 h36, hcl, ← firstI_zero width op (x :: ini' ++ [z])]
  refine (congrArg (fun z : O => z.bind w42un) (w42_first V ho (by omega) hc r op (x :: ini' ++ [z]) _ _ _ 100 0 (by have := V.cols; omega) (by omega))).trans ?_
  simp only []
  refine (congrArg (fun z : O => z.bind w42un) (w42_nums (x :: ini' ++ [z]) h8 (by omega) (fun y hy => ⟨(V.all y hy).1, by have := (V.all y hy).2; omega, by have := hcols y hy; omega⟩) (firstZ width op (x :: ini' ++ [z])) r _ _ _ 100 0 (by omega) (by omega))).trans ?_
  simp only []
  have hz := V.all z (by simp)
  have hzl := hcols z (by simp)
  have hlz : (lineZ width z.toNat 0).length = width := lineZ_len (by show 0 + lenZ z ≤ width; omega)
  have hpre : firstZ width op (x :: ini' ++ [z]) :: ((x :: ini' ++ [z]).map fun x => lineZ width x.toNat 0) = (firstZ width op (x :: ini' ++ [z]) :: (x :: ini').map fun x => lineZ width x.toNat 0) ++ [lineZ width z.toNat 0] := by
    rw [List.map_append]; rfl
  have hlp : (firstZ width op (x :: ini' ++ [z]) :: (x :: ini').map fun x => lineZ width x.toNat 0).length ≤ 8 := by
    have h9 : (x :: ini' ++ [z]).length ≤ 8 := h8
    simp only [List.length_append, List.length_cons, List.length_nil, List.length_map] at h9 ⊢
    omega
  have fin : ∀ c : UInt8, c = (if op = 3 then 44 else 36) → (ck (w65p 100 c width (firstZ width op (x :: ini' ++ [z]) :: ((x :: ini' ++ [z]).map fun x => lineZ width x.toNat 0))) <|
            ck (w66p 100 (w65y0 100 c width (firstZ width op (x :: ini' ++ [z]) :: ((x :: ini' ++ [z]).map fun x => lineZ width x.toNat 0))) (w65y1 100 c width (firstZ width op (x :: ini' ++ [z]) :: ((x :: ini' ++ [z]).map fun x => lineZ width x.toNat 0)))) <|
            ck (w64p 100 r 0 (w66y0 100 (w65y0 100 c width (firstZ width op (x :: ini' ++ [z]) :: ((x :: ini' ++ [z]).map fun x => lineZ width x.toNat 0))) (w65y1 100 c width (firstZ width op (x :: ini' ++ [z]) :: ((x :: ini' ++ [z]).map fun x => lineZ width x.toNat 0)))) (w66y1 100 (w65y0 100 c width (firstZ width op (x :: ini' ++ [z]) :: ((x :: ini' ++ [z]).map fun x => lineZ width x.toNat 0))) (w65y1 100 c width (firstZ width op (x :: ini' ++ [z]) :: ((x :: ini' ++ [z]).map fun x => lineZ width x.toNat 0))))) <|
            some (w42r0 (w64y1 100 r 0 (w66y0 100 (w65y0 100 c width (firstZ width op (x :: ini' ++ [z]) :: ((x :: ini' ++ [z]).map fun x => lineZ width x.toNat 0))) (w65y1 100 c width (firstZ width op (x :: ini' ++ [z]) :: ((x :: ini' ++ [z]).map fun x => lineZ width x.toNat 0)))) (w66y1 100 (w65y0 100 c width (firstZ width op (x :: ini' ++ [z]) :: ((x :: ini' ++ [z]).map fun x => lineZ width x.toNat 0))) (w65y1 100 c width (firstZ width op (x :: ini' ++ [z]) :: ((x :: ini' ++ [z]).map fun x => lineZ width x.toNat 0))))))).bind w42un = some (sumsZ op (x :: ini') z r width) := by
    intro c hcc
    rw [hpre]
    have h65 := w65_eq (width := width) (c := c) (pre := firstZ width op (x :: ini' ++ [z]) :: (x :: ini').map fun x => lineZ width x.toNat 0) (L := lineZ width z.toNat 0) (by omega) (by omega)
    have h66 := w66_eq (width := width) (p := (firstZ width op (x :: ini' ++ [z]) :: (x :: ini').map fun x => lineZ width x.toNat 0) ++ [(lineZ width z.toNat 0).set 0 c]) (by omega) (by rw [List.length_append]; exact Nat.lt_of_le_of_lt (Nat.add_le_add_right hlp 1) (by omega))
    have h64 := w64_eqI (left := 0) (width := width) (n := r) (p := (firstZ width op (x :: ini' ++ [z]) :: (x :: ini').map fun x => lineZ width x.toNat 0) ++ [(lineZ width z.toNat 0).set 0 c] ++ [List.replicate width 18]) (by rw [List.length_append, List.length_append]; exact Nat.lt_of_le_of_lt (Nat.add_le_add_right (Nat.add_le_add_right hlp 1) 1) (by omega)) hr.1 hr.2 (by omega) (by omega)
    rw [ck_of (w65_p h65), w65_y0 h65, w65_y1 h65]
    simp only []
    rw [ck_of (w66_p h66), w66_y0 h66, w66_y1 h66]
    simp only []
    rw [show (0 : Int) = ((0 : Nat) : Int) from rfl, ck_of (w64_p h64), w64_y1 h64, w42_ur]
    unfold sumsZ
    rw [hcc]
    simp only [List.append_assoc, List.cons_append, List.nil_append]
  by_cases h3 : op = 3
  · rw [decide_eq_true h3, br_t]
    exact fin 44 (by rw [if_pos h3])
  · rw [decide_eq_false h3, br_f]
    exact fin 36 (by rw [if_neg h3])
end Go.Proofs
/- The lines of an addition or a subtraction in the reference, and that their cells are the program's page. -/
namespace Go.Proofs
open Go Go.Ax Go.Ax.Alg
def firstR (width : Nat) (op : Int) (a : List Int) : List UInt8 := (List.range width).map fun j => if 0 < carryZ op a (width - 1 - j) then UInt8.ofNat (48 + (carryZ op a (width - 1 - j)).toNat) else 95
theorem firstR_cells (width : Nat) (op : Int) (a : List Int) : (firstR width op a).map cellB = firstZ width op a := by
  unfold firstR firstZ
  rw [List.map_map]
  apply List.map_congr_left
  intro j _
  simp only [Function.comp]
  by_cases h : 0 < carryZ op a (width - 1 - j)
  · rw [if_pos h, if_pos h]
  · rw [if_neg h, if_neg h, cell_blank]
theorem w71_first {op : Int} {a : List Int} (V : Val op a) {width : Nat} (hw : width ≤ 15) (x0 : Int) (k0 : Int × Int × Int × List Int × List UInt8 → O) (k1 k2 : Unit → O) : ∀ (m i : Nat), width - i < m → i ≤ width →
    w71l0 100 m (x0, width, (width : Int) - 1 - i, op, a, (firstR width op a).take i) k0 k1 k2 = k0 (x0, width, op, a, firstR width op a)
  | 0, i, h, _ => by omega
  | m + 1, i, h, hi => by
    show w71F0 100 _ _ x0 width op a ((width : Int) - 1 - i) ((firstR width op a).take i) = _
    unfold w71F0
    have hlen : (firstR width op a).length = width := by simp [firstR]
    by_cases hlt : i < width
    · have ek : (width : Int) - 1 - i = ((width - 1 - i : Nat) : Int) := by omega
      obtain ⟨p38, y38⟩ := w38_eq V (N := 100) (by omega) (k := width - 1 - i) (by omega)
      have e1 : IntKind.i64.wrap ((width : Int) - 1 - i - 1) = ((width - 1 - i : Nat) : Int) - 1 := by rw [wr (by omega) (by omega)]; omega
      have hb := carryZ_bd op V.eight (width - 1 - i)
      have ih := w71_first V hw x0 k0 k1 k2 m (i + 1) (by omega) (by omega)
      have hg : (firstR width op a)[i]? = some (if 0 < carryZ op a (width - 1 - i) then UInt8.ofNat (48 + (carryZ op a (width - 1 - i)).toNat) else 95) := by
        unfold firstR
        rw [List.getElem?_map, List.getElem?_range hlt]
        rfl
      rw [List.take_add_one, hg, show (width : Int) - 1 - (i + 1 : Nat) = ((width - 1 - i : Nat) : Int) - 1 by omega] at ih
      rw [decide_eq_true (show (0 : Int) ≤ (width : Int) - 1 - i by omega), br_t, e1, ck_of p38, y38]
      by_cases h0 : 0 < carryZ op a (width - 1 - i)
      · rw [if_pos h0] at ih
        rw [decide_eq_true h0, br_t, u8of_dec (by omega) (by omega), ck_of (lim_of (by simp; omega) (by simp; omega))]
        exact ih
      · rw [if_neg h0] at ih
        rw [decide_eq_false h0, br_f, ck_of (lim_of (by simp; omega) (by simp; omega))]
        exact ih
    · rw [decide_eq_false (show ¬ (0 : Int) ≤ (width : Int) - 1 - i by omega), br_f, List.take_of_length_le (by omega)]
def signR (op : Int) : UInt8 := if op = 3 then 43 else 45
theorem w71_nums {op : Int} (ho : op = 3 ∨ op = 4) (ini : List Int) (z : Int) (hlen : ini.length ≤ 7) {width : Nat} (hw : width < 90) (hw0 : 0 < width) (hall : ∀ x ∈ ini ++ [z], 0 ≤ x ∧ x < 1000000000000000000 ∧ lenZ x ≤ width) (F : List UInt8) (x0 : Int) (k0 : Int × Int × List (List UInt8) → O) (k1 k2 : Unit → O) : ∀ (m i : Nat), ini.length + 1 - i < m → i ≤ ini.length →
    w71l2 100 m (x0, width, i, op, ini ++ [z], F :: (ini.take i).map fun x => endedZ (Lib.decDigits x.toNat) width 0) k0 k1 k2 = k0 (x0, width, (F :: ini.map fun x => endedZ (Lib.decDigits x.toNat) width 0) ++ [[signR op] ++ (endedZ (Lib.decDigits z.toNat) width 0).drop 1])
  | 0, i, h, _ => by omega
  | m + 1, i, h, hi => by
    show w71F2 100 _ _ _ x0 width i op (ini ++ [z]) (F :: (ini.take i).map fun x => endedZ (Lib.decDigits x.toNat) width 0) = _
    unfold w71F2
    have hL : (ini ++ [z]).length = ini.length + 1 := by simp
    have e : IntKind.i64.wrap ((i : Int) + 1) = ((i + 1 : Nat) : Int) := by rw [wr (by omega) (by omega)]; omega
    have eL : IntKind.i64.wrap (((ini ++ [z]).length : Int) - 1) = (ini.length : Int) := by rw [hL, wr (by omega) (by omega)]; omega
    obtain ⟨y, hg⟩ : ∃ y, (ini ++ [z])[i]? = some y := ⟨_, List.getElem?_eq_getElem (by omega)⟩
    have hx := hall y (List.mem_of_getElem? hg)
    obtain ⟨p59, y59⟩ := w59p_eq (N := 100) (by omega) hx.1 hx.2.1
    have h86 := w86_eq (s := Lib.decDigits y.toNat) (width := width) (left := 0) hw (by rw [dec_lenZ]; omega)
    rw [show ((0 : Nat) : Int) = 0 from rfl] at h86
    have hEl : (endedZ (Lib.decDigits y.toNat) width 0).length = width := endedZ_len (by rw [dec_lenZ]; omega)
    rw [decide_eq_true (show (i : Int) < ((ini ++ [z]).length : Int) by omega), br_t, gx_at hg, ck_of p59, y59, ck_of (w86_p h86), w86_y0 h86, w71n1_eq]
    unfold w71F1
    simp only [eL]
    by_cases hlt : i < ini.length
    · have hd : decide ((i : Int) = (ini.length : Int)) = false := decide_eq_false (by omega)
      simp only [hd, Bool.false_and, br_f]
      rw [ck_of (lim_of (by simp; omega) (by simp; omega)), e]
      have ih := w71_nums ho ini z hlen hw hw0 hall F x0 k0 k1 k2 m (i + 1) (by omega) (by omega)
      have hy : ini[i]? = some y := by rw [List.getElem?_append_left hlt] at hg; exact hg
      rw [List.take_add_one, hy] at ih
      simp only [Option.toList, List.map_append, List.map_cons, List.map_nil] at ih
      exact ih
    · have hi' : i = ini.length := by omega
      subst hi'
      have hy : y = z := by
        rw [List.getElem?_append_right (Nat.le_refl _), Nat.sub_self] at hg
        cases hg
        rfl
      subst hy
      rw [List.take_length]
      have hlast : ∀ S : List UInt8, w71l2 100 m (x0, width, ((ini.length + 1 : Nat) : Int), op, ini ++ [y], (F :: ini.map fun x => endedZ (Lib.decDigits x.toNat) width 0) ++ [S]) k0 k1 k2 = k0 (x0, width, (F :: ini.map fun x => endedZ (Lib.decDigits x.toNat) width 0) ++ [S]) := by
        intro S
        cases m with
        | zero => omega
        | succ m =>
          show w71F2 100 _ _ _ x0 width ((ini.length + 1 : Nat) : Int) op (ini ++ [y]) ((F :: ini.map fun x => endedZ (Lib.decDigits x.toNat) width 0) ++ [S]) = _
          unfold w71F2
          rw [decide_eq_false (show ¬ ((ini.length + 1 : Nat) : Int) < ((ini ++ [y]).length : Int) by omega), br_f]
      rcases ho with h3 | h4
      · subst h3
        have h87 := w87_eq (l := endedZ (Lib.decDigits y.toNat) width 0) (s := [43]) (by omega) (by omega) (by simp)
        simp only [decide_true, Bool.true_and, show decide ((3 : Int) = 4) = false from rfl, br_t, br_f]
        rw [ck_of (w87_p h87), w87_y0 h87, ck_of (lim_of (by simp; omega) (by simp; omega)), e]
        exact hlast _
      · subst h4
        have h87 := w87_eq (l := endedZ (Lib.decDigits y.toNat) width 0) (s := [45]) (by omega) (by omega) (by simp)
        simp only [decide_true, Bool.true_and, show decide ((4 : Int) = 3) = false from rfl, br_t, br_f]
        rw [ck_of (w87_p h87), w87_y0 h87, ck_of (lim_of (by simp; omega) (by simp; omega)), e]
        exact hlast _
def sumsR (op : Int) (ini : List Int) (z r : Int) (width : Nat) : List (List UInt8) :=
  (firstR width op (ini ++ [z]) :: ini.map fun x => endedZ (Lib.decDigits x.toNat) width 0) ++ [[signR op] ++ (endedZ (Lib.decDigits z.toNat) width 0).drop 1] ++ [List.replicate width 61, endedZ (Lib.decDigits r.toNat) width 0]
theorem w71_ur (x : List (List UInt8)) : (some (w71r0 x) : O).bind w71un = some x := rfl
theorem w71_eq {op : Int} {ini : List Int} {z r : Int} {width : Nat} (V : Val op (ini ++ [z])) (ho : op = 3 ∨ op = 4) (hr : 0 ≤ r ∧ r < 10000000000000) (hM : width = 1 + max (lenZ r) (lenZ ((ini ++ [z]).getD 0 0))) (hc : colsZ (ini ++ [z]) + 1 ≤ width) (hw : width ≤ 15) :
    w71z 100 op (ini ++ [z]) r = some (sumsR op ini z r width) := by
  have hcols := colsZ_ge V
  have h8 := V.eight
  have hin : ini ≠ [] := by
    intro h
    have := V.two
    subst h
    simp at this
  have hlen : ini.length ≤ 7 := by simp at h8; omega
  obtain ⟨x, ini', rfl⟩ := List.exists_cons_of_ne_nil hin
  have hx := V.all x (by simp)
  have hM : width = 1 + max (lenZ r) (lenZ x) := hM
  obtain ⟨pr, yr⟩ := w59p_eq (N := 100) (n := r) (by omega) hr.1 (by omega)
  obtain ⟨px, yx⟩ := w59p_eq (N := 100) (n := x) (by omega) hx.1 (by omega)
  have eM : IntKind.i64.wrap (1 + max (lenZ r : Int) (lenZ x : Int)) = (width : Int) := by rw [wr (by omega) (by omega)]; omega
  have eM1 : IntKind.i64.wrap ((width : Int) - 1) = (width : Int) - 1 - (0 : Nat) := by rw [wr (by omega) (by omega)]; omega
  unfold w71z w71 w71G
  rw [ck_of pr, yr]
  show (gx (x :: (ini' ++ [z])) 0 _).bind w71un = _
  rw [gx_0, ck_of px, yx, dec_lenZ, dec_lenZ, eM, eM1]
  refine (congrArg (fun z : O => z.bind w71un) (w71_first V hw r _ _ _ 100 0 (by omega) (by omega))).trans ?_
  simp only []
  refine (congrArg (fun z : O => z.bind w71un) (w71_nums ho (x :: ini') z hlen (by omega) (by omega) (fun y hy => ⟨(V.all y hy).1, by have := (V.all y hy).2; omega, by have := hcols y hy; omega⟩) (firstR width op (x :: ini' ++ [z])) r _ _ _ 100 0 (by omega) (by omega))).trans ?_
  simp only []
  have h88 := w88_eq (c := 61) (n := width) (by omega)
  have h86 := w86_eq (s := Lib.decDigits r.toNat) (width := width) (left := 0) (by omega) (by rw [dec_lenZ]; omega)
  rw [show ((0 : Nat) : Int) = 0 from rfl] at h86
  rw [ck_of (w88_p h88), w88_y0 h88, ck_of pr, yr, ck_of (w86_p h86), w86_y0 h86, ck_of (lim_of (by simp at hlen ⊢; omega) (by simp at hlen ⊢; omega)), w71_ur]
  rfl
theorem sums_cells {op : Int} {ini : List Int} {z r : Int} {width : Nat} (hw : 0 < width) (hall : ∀ x ∈ ini ++ [z], lenZ x ≤ width) (hr : lenZ r ≤ width) : (sumsR op ini z r width).map (·.map cellB) = sumsZ op ini z r width := by
  have hE : ∀ x : Int, lenZ x ≤ width → (endedZ (Lib.decDigits x.toNat) width 0).map cellB = lineZ width x.toNat 0 := fun x hx => ended_cells (by show 0 + lenZ x ≤ width; omega)
  unfold sumsR sumsZ
  simp only [List.map_append, List.map_cons, List.map_nil, List.map_map]
  rw [firstR_cells, rule_cells, hE r hr]
  have h1 : ini.map ((fun l : List UInt8 => l.map cellB) ∘ fun x : Int => endedZ (Lib.decDigits x.toNat) width 0) = ini.map fun x => lineZ width x.toNat 0 := by
    apply List.map_congr_left
    intro x hx
    exact hE x (hall x (by simp [hx]))
  rw [h1]
  have h2 : (List.map cellB [signR op] ++ List.map cellB (List.drop 1 (endedZ (Lib.decDigits z.toNat) width 0))) = (lineZ width z.toNat 0).set 0 (if op = 3 then 44 else 36) := by
    rw [← List.map_append, signed_cells (by rw [endedZ_len (by rw [dec_lenZ]; have := hall z (by simp); omega)]; exact hw), hE z (hall z (by simp))]
    congr 1
    unfold signR
    split
    · exact cell_plus
    · exact cell_minus
  simp only [List.map_cons, List.map_nil] at h2
  rw [h2]
  simp only [List.append_assoc, List.cons_append, List.nil_append]
end Go.Proofs
