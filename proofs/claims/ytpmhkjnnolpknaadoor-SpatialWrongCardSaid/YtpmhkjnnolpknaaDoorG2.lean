/- Calculations that are drawn and changed; carries. Conditions are in the theorems. -/
import Derived.Test.YtpmhkjnnolpknaaDoorG1
import Derived.Lib.ItoaMem
/- What the reference's calculations are, and what becomes of them when something is changed. -/
namespace Go.Proofs
open Go Go.Ax Go.Ax.Alg
def Okl (l : List Int) : Prop := ∀ x ∈ l, I64 x
theorem lim_of {n b : Nat} (h : n * b ≤ 140737488355328) (h2 : n ≤ 140737488355327) : lim n b = true := decide_eq_true ⟨h, h2⟩
theorem w35_ur (x : Int) : (some (w35r0 x) : O).bind w35un = some x := rfl
theorem w34_eq (N : Nat) {l : List Int} (hl : Okl l) {i m : Int} (hm : 1 ≤ m) : ∃ v, w34z N l i m = some v ∧ 0 ≤ v ∧ v < m := by
  unfold w34z w34 w34G
  by_cases h : i < 0 ∨ (l.length : Int) ≤ i
  · have hd : (decide (i < 0) || decide ((l.length : Int) ≤ i)) = true := by simpa using h
    rw [hd, br_t]
    exact ⟨0, rfl, by omega, by omega⟩
  · have hd : (decide (i < 0) || decide ((l.length : Int) ≤ i)) = false := by simp; omega
    rw [hd, br_f]
    have hi : i.toNat < l.length := by omega
    rw [gx_of (by omega) (List.getElem?_eq_getElem hi)]
    have h25 := w25_eq N (m := m) (hl l[i.toNat] (List.getElem_mem hi))
    rw [ck_of (w25_p h25), w25_y0 h25]
    exact ⟨_, rfl, around_lt hm⟩
theorem w35_eq (N : Nat) {n : Int} (hn : I64 n) : ∃ v, w35z N n = some v ∧ 0 ≤ v ∧ v ≤ 999999 := by
  unfold w35z w35 w35G
  have h25 := w25_eq N (m := 6000000) hn
  rw [ck_of (w25_p h25), w25_y0 h25, ck_t, ck_t]
  have hb := around_lt (n := n) (m := 6000000) (by omega)
  generalize aroundZ n 6000000 = a at *
  have h1 : 0 ≤ a.tmod 6 ∧ a.tmod 6 < 6 := ⟨Int.tmod_nonneg _ hb.1, Int.tmod_lt_of_pos _ (by omega)⟩
  have h2 : 0 ≤ a.tdiv 6 ∧ a.tdiv 6 ≤ a := ⟨Int.tdiv_nonneg hb.1 (by omega), Int.tdiv_le_self _ hb.1⟩
  rw [wr (by omega) (by omega)]
  have key : ∀ y : Int, y = 10 ∨ y = 100 ∨ y = 1000 ∨ y = 10000 ∨ y = 1000000 → ∃ v, ((ck (decide (y ≠ 0)) <| some (w35r0 ((a.tdiv 6).tmod y))) : O).bind w35un = some v ∧ 0 ≤ v ∧ v ≤ 999999 := by
    intro y hy
    rw [ck_of (decide_eq_true (by omega))]
    have := Int.tmod_nonneg y h2.1
    have := Int.tmod_lt_of_pos (a.tdiv 6) (b := y) (by omega)
    exact ⟨_, w35_ur _, by omega, by omega⟩
  rcases (show a.tmod 6 = 0 ∨ a.tmod 6 = 1 ∨ a.tmod 6 = 2 ∨ a.tmod 6 = 3 ∨ a.tmod 6 = 4 ∨ a.tmod 6 = 5 by omega) with h | h | h | h | h | h
  · rw [h]; exact key 10 (by omega)
  · rw [h]; exact key 100 (by omega)
  · rw [h]; exact key 1000 (by omega)
  · rw [h]; exact key 100 (by omega)
  · rw [h]; exact key 10000 (by omega)
  · rw [h]; exact key 1000000 (by omega)

theorem w10_loop (N : Nat) {l : List Int} (hl : Okl l) (n0 x3 x4 : Int) (hn0 : n0 ≤ 8) (k0 : Int × Int × List Int → O) (k1 k2 : Unit → O) : ∀ (n i : Nat) (a : List Int), n0.toNat - i < n → (i : Int) ≤ n0 → a.length = i → (∀ x ∈ a, 0 ≤ x ∧ x ≤ 999999) →
    ∃ b, w10l1 N n (l, n0, i, x3, x4, a) k0 k1 k2 = k0 (x3, x4, b) ∧ (b.length : Int) = n0 ∧ ∀ x ∈ b, 0 ≤ x ∧ x ≤ 999999
  | 0, i, _, h, _, _, _ => by omega
  | n + 1, i, a, h, hi, ha, hall => by
    show ∃ b, w10F1 N _ _ l n0 x3 x4 i a = _ ∧ _
    unfold w10F1
    by_cases hlt : (i : Int) < n0
    · rw [decide_eq_true hlt, br_t, wr (by omega) (by omega)]
      obtain ⟨v, hv, v0, v1⟩ := w34_eq N hl (i := 2 + i) (m := 6000000) (by omega)
      obtain ⟨u, hu, u0, u1⟩ := w35_eq N (n := v) ⟨by omega, by omega⟩
      rw [ck_of (w34_p hv), w34_y0 hv, ck_of (w35_p hu), w35_y0 hu, ck_of (lim_of (by simp; omega) (by simp; omega)), wr (by omega) (by omega)]
      have hx : ∀ x ∈ a ++ [u], 0 ≤ x ∧ x ≤ 999999 := fun x hx => by
        rcases List.mem_append.1 hx with h | h
        · exact hall x h
        · simp at h; omega
      exact w10_loop N hl n0 x3 x4 hn0 k0 k1 k2 n (i + 1) (a ++ [u]) (by omega) (by omega) (by simp [ha]) hx
    · rw [decide_eq_false hlt, br_f]
      exact ⟨a, rfl, by omega, hall⟩
theorem w10_tail (N : Nat) {op : Int} {a : List Int} (x0 : Int) (h2 : 2 ≤ a.length) (h8 : a.length ≤ 8) (hp : op ≠ 3 → a.length = 2) (ho : op = 3 ∨ op = 4 ∨ op = 5 ∨ op = 6) (hall : ∀ x ∈ a, 0 ≤ x ∧ x ≤ 999999) :
    ∃ b, (w10n2 N x0 op a (fun _ z24 z25 =>
              ck (!decide (z24 = 6) || decide ((0 : Int) ≤ 1 ∧ 1 < (↑z25.length : Int))) <|
              gn z25 ((1 : Nat)) fun y26 =>
              br (decide (z24 = 6) && decide (y26 = 0))
                (ck (decide ((0 : Int) ≤ 1 ∧ 1 < (↑z25.length : Int))) <|
                gn z25 ((1 : Nat)) fun _ =>
                some (w10r0 z24 (z25.set (1 : Nat) 7)))
                (some (w10r0 z24 z25)))).bind w10un = some (op, b) ∧ Val op b := by
  obtain ⟨x, y, r, rfl⟩ := two_at h2
  have hx := hall x (by simp)
  have hy := hall y (by simp)
  rw [w10n2_eq]
  unfold w10F2
  have c0 : ∀ b : Bool, (b || decide ((0 : Int) ≤ 0 ∧ 0 < (((x :: y :: r).length : Nat) : Int))) = true := fun b => by simp; omega
  have c1 : ∀ b : Bool, (b || decide ((0 : Int) ≤ 1 ∧ 1 < (((x :: y :: r).length : Nat) : Int))) = true := fun b => by simp; omega
  have d0 : decide ((0 : Int) ≤ 0 ∧ 0 < (((x :: y :: r).length : Nat) : Int)) = true := c0 false
  have d1 : decide ((0 : Int) ≤ 1 ∧ 1 < (((x :: y :: r).length : Nat) : Int)) = true := c1 false
  rw [ck_of (c0 _), gn_0, ck_of (c1 _), gn_1]
  by_cases h4 : op = 4
  · subst h4
    have hr : r = [] := by
      have := hp (by omega)
      simpa using this
    subst hr
    by_cases hlt : x < y
    · simp only [decide_true, Bool.true_and, decide_eq_true hlt, br_t]
      rw [ck_of d1, gn_1, ck_of d0, gn_0]
      exact ⟨[y, x], rfl, by simp, by simp, fun _ => rfl, by omega, fun z hz => by simp at hz; omega, fun _ => by simp; omega, fun h => by omega⟩
    · simp only [decide_true, Bool.true_and, decide_eq_false hlt, br_f]
      exact ⟨[x, y], rfl, by simp, by simp, fun _ => rfl, by omega, fun z hz => by simp at hz; omega, fun _ => by simp; omega, fun h => by omega⟩
  · rw [decide_eq_false h4, Bool.false_and, br_f]
    simp only [gn_1]
    by_cases h6 : op = 6 ∧ y = 0
    · obtain ⟨rfl, rfl⟩ := h6
      simp only [decide_true, Bool.true_and, br_t]
      rw [ck_of (c1 _), ck_of d1]
      exact ⟨x :: 7 :: r, rfl, by simp, by simpa using h8, fun h => by simpa using hp h, by omega, fun z hz => by
        simp at hz
        rcases hz with h | h | h
        · omega
        · omega
        · exact hall z (by simp [h]), fun h => by omega, fun _ => by simp⟩
    · have : (decide (op = 6) && decide (y = 0)) = false := by simpa using h6
      rw [this, br_f, ck_of (c1 _)]
      exact ⟨x :: y :: r, rfl, h2, h8, hp, ho, hall, fun h => absurd h h4, fun h => fun hy0 => h6 ⟨h, by simpa using hy0⟩⟩
theorem w10_eqp {N : Nat} {l : List Int} (hl : Okl l) (hN : 10 < N) : ∃ op a, w10z N l = some (op, a) ∧ Val op a ∧ ∃ p : Int, w34z N l 0 4 = some p ∧ ([3, 4, 5, 6] : List Int)[p.toNat]? = some op := by
  obtain ⟨p, hp, p0, p1⟩ := w34_eq N hl (i := 0) (m := 4) (by omega)
  obtain ⟨q, hq, q0, q1⟩ := w34_eq N hl (i := 1) (m := 5) (by omega)
  unfold w10z w10 w10G
  rw [ck_of (w34_p hp), w34_y0 hp, ck_of (decide_eq_true ⟨p0, p1⟩)]
  have hop : ∃ op, ([3, 4, 5, 6] : List Int)[p.toNat]? = some op ∧ (op = 3 ∨ op = 4 ∨ op = 5 ∨ op = 6) := by
    rcases (show p = 0 ∨ p = 1 ∨ p = 2 ∨ p = 3 by omega) with h | h | h | h <;> subst h <;> exact ⟨_, rfl, by omega⟩
  obtain ⟨op, hop, ho⟩ := hop
  have wrap : ∀ {z : Option (Int × List Int)}, (∃ op' a, z = some (op', a) ∧ Val op' a ∧ op' = op) → ∃ op' a, z = some (op', a) ∧ Val op' a ∧ ∃ p : Int, w34z N l 0 4 = some p ∧ ([3, 4, 5, 6] : List Int)[p.toNat]? = some op' := by
    rintro z ⟨op', a, h1, h2, rfl⟩
    exact ⟨_, a, h1, h2, p, hp, hop⟩
  apply wrap
  rw [gn_of hop, w10n0_eq]
  unfold w10F0
  have fin : ∀ n0 : Int, 2 ≤ n0 → n0 ≤ 8 → (op ≠ 3 → n0 = 2) → ∃ op' a, (w10n1 N l n0 0 0 op [] fun z7 z8 z9 => w10n2 N z7 z8 z9 (fun _ z24 z25 =>
              ck (!decide (z24 = 6) || decide ((0 : Int) ≤ 1 ∧ 1 < (↑z25.length : Int))) <|
              gn z25 ((1 : Nat)) fun y26 =>
              br (decide (z24 = 6) && decide (y26 = 0))
                (ck (decide ((0 : Int) ≤ 1 ∧ 1 < (↑z25.length : Int))) <|
                gn z25 ((1 : Nat)) fun _ =>
                some (w10r0 z24 (z25.set (1 : Nat) 7)))
                (some (w10r0 z24 z25)))).bind w10un = some (op', a) ∧ Val op' a ∧ op' = op := by
    intro n0 h2 h8 h3
    obtain ⟨b, hb, hbl, hall⟩ := w10_loop N hl n0 0 op h8 (fun y => w10n2 N y.1 y.2.1 y.2.2 (fun _ z24 z25 =>
              ck (!decide (z24 = 6) || decide ((0 : Int) ≤ 1 ∧ 1 < (↑z25.length : Int))) <|
              gn z25 ((1 : Nat)) fun y26 =>
              br (decide (z24 = 6) && decide (y26 = 0))
                (ck (decide ((0 : Int) ≤ 1 ∧ 1 < (↑z25.length : Int))) <|
                gn z25 ((1 : Nat)) fun _ =>
                some (w10r0 z24 (z25.set (1 : Nat) 7)))
                (some (w10r0 z24 z25)))) (fun _ => none) (fun _ => none) N 0 [] (by omega) (by omega) rfl (by simp)
    obtain ⟨b', hb', V⟩ := w10_tail N (op := op) (a := b) 0 (by omega) (by omega) (fun h => by have := h3 h; omega) ho hall
    exact ⟨op, b', (congrArg (fun z : O => z.bind w10un) hb).trans hb', V, rfl⟩
  by_cases h3 : op = 3
  · rw [decide_eq_true h3, br_t, ck_of (w34_p hq), w34_y0 hq, wr (by omega) (by omega)]
    exact fin (2 + q) (by omega) (by omega) (fun h => absurd h3 h)
  · rw [decide_eq_false h3, br_f]
    exact fin 2 (by omega) (by omega) (fun _ => rfl)

theorem w10_eq {N : Nat} {l : List Int} (hl : Okl l) (hN : 10 < N) : ∃ op a, w10z N l = some (op, a) ∧ Val op a := by
  obtain ⟨op, a, h1, h2, _⟩ := w10_eqp hl hN
  exact ⟨op, a, h1, h2⟩
end Go.Proofs
/- Digits, columns and carries: what the program's function and the reference's reckon is one. -/
namespace Go.Proofs
open Go Go.Ax Go.Ax.Alg
def lenZ (n : Int) : Nat := Lib.nDigits n.toNat
theorem nDigits_mono : ∀ (u v : Nat), u ≤ v → Lib.nDigits u ≤ Lib.nDigits v := by
  intro u
  induction u using Nat.strongRecOn with
  | _ u ih =>
    intro v h
    by_cases hu : u < 10
    · rw [Lib.nDigits_small hu]; exact Lib.nDigits_pos v
    · rw [Lib.nDigits_big hu, Lib.nDigits_big (show ¬ v < 10 by omega)]
      have := ih (u / 10) (by omega) (v / 10) (by omega)
      omega
theorem lenZ_mono {a b : Int} (h : a ≤ b) : lenZ a ≤ lenZ b := nDigits_mono _ _ (by omega)
theorem lenZ_six {a : Int} (h : a ≤ 999999) : lenZ a ≤ 6 := by
  have h1 := lenZ_mono h
  have : lenZ 999999 = 6 := Lib.nDigits_unique 5 999999 (by decide) (by decide)
  omega
theorem lenZ_big {a : Int} (h : a < 1000000000000000000) : lenZ a ≤ 18 := by
  have h1 := lenZ_mono (show a ≤ 999999999999999999 by omega)
  have : lenZ 999999999999999999 = 18 := Lib.nDigits_unique 17 999999999999999999 (by decide) (by decide)
  omega
theorem lenZ_pos (a : Int) : 1 ≤ lenZ a := Lib.nDigits_pos _
theorem dec_len (u : Nat) : (Lib.decDigits u).length = Lib.nDigits u := by rw [Lib.decDigits_eq]; simp
theorem w67_eq (N : Nat) {n : Int} (hn : I64 n) (h0 : 0 ≤ n) : w67p N n = true ∧ w67y0 N n = Lib.decDigits n.toNat := by
  refine ⟨decide_eq_true hn, ?_⟩
  show Lib.itoa n = _
  obtain ⟨u, rfl⟩ := Int.eq_ofNat_of_zero_le h0
  rw [Lib.itoa_nonneg]; rfl
theorem w57_eq (N : Nat) {n : Int} (hn : I64 n) (h0 : 0 ≤ n) : w57z N n = some (lenZ n : Int) := by
  obtain ⟨h1, h2⟩ := w67_eq N hn h0
  unfold w57z w57 w57G
  rw [ck_of h1, h2, dec_len]
  rfl
theorem u8of_dec {d : Int} (h0 : 0 ≤ d) (h1 : d ≤ 9) : u8of (IntKind.i64.wrap (48 + d)) = UInt8.ofNat (48 + d.toNat) := by
  rw [wr (by omega) (by omega)]
  show UInt8.ofNat ((48 + d) % 256).toNat = _
  congr 1
  omega
theorem w59Y_eq (N : Nat) : ∀ (m : Nat) (n : Int), lenZ n ≤ m → 0 ≤ n → n < 1000000000000000000 → w59Y N m n = some (Lib.decDigits n.toNat)
  | 0, n, h, _, _ => by have := lenZ_pos n; omega
  | m + 1, n, h, h0, hb => by
    show w59z (N, w59Y N m) n = _
    unfold w59z w59 w59G
    by_cases h10 : n < 10
    · rw [decide_eq_true h10, br_t, u8of_dec h0 (by omega), Lib.decDigits, dif_pos (by omega)]
      rfl
    · have hd : n.tdiv 10 = n / 10 := Int.tdiv_eq_ediv_of_nonneg h0
      have hm : n.tmod 10 = n % 10 := Int.tmod_eq_emod_of_nonneg h0
      rw [decide_eq_false h10, br_f, ck_t, hd, hm, wr (by omega) (by omega)]
      have hl : lenZ n = lenZ (n / 10) + 1 := by
        unfold lenZ
        rw [Lib.nDigits_big (by omega), show n.toNat / 10 = (n / 10).toNat by omega]
      have ih := w59Y_eq N m (n / 10) (by omega) (by omega) (by omega)
      have hlen := lenZ_big (show n / 10 < 1000000000000000000 by omega)
      have ih' : (N, w59Y N m).2 (n / 10) = some (Lib.decDigits (n / 10).toNat) := ih
      rw [ih', u8of_dec (by omega) (by omega)]
      have hck : decide ((↑((some (Lib.decDigits (n / 10).toNat)).getD []).length : Int) + (↑[UInt8.ofNat (48 + (n % 10).toNat)].length : Int) ≤ 9223372036854775807) = true := by
        apply decide_eq_true
        show ((Lib.decDigits (n / 10).toNat).length : Int) + (1 : Nat) ≤ _
        rw [dec_len]
        have : Lib.nDigits (n / 10).toNat ≤ 18 := hlen
        omega
      rw [ck_t, ck_of hck]
      rw [Lib.decDigits.eq_def n.toNat, dif_neg (by omega), show n.toNat / 10 = (n / 10).toNat by omega, show n.toNat % 10 = (n % 10).toNat by omega]
      rfl
theorem w59p_eq {N : Nat} {n : Int} (hN : 20 ≤ N) (h0 : 0 ≤ n) (hb : n < 1000000000000000000) : w59p N n = true ∧ w59y0 N n = Lib.decDigits n.toNat := by
  have := w59Y_eq N N n (by have := lenZ_big hb; omega) h0 hb
  unfold w59p w59y0
  rw [this]
  exact ⟨rfl, rfl⟩

theorem foldl_max_ge : ∀ (r : List Int) (x : Int), x ≤ r.foldl max x ∧ ∀ y ∈ r, y ≤ r.foldl max x
  | [], x => ⟨Int.le_refl _, by simp⟩
  | y :: r, x => by
    obtain ⟨h1, h2⟩ := foldl_max_ge r (max x y)
    refine ⟨by simp only [List.foldl_cons]; omega, fun z hz => ?_⟩
    simp only [List.foldl_cons]
    rcases List.mem_cons.1 hz with rfl | h
    · omega
    · exact h2 z h
theorem foldl_max_le : ∀ (r : List Int) (x b : Int), x ≤ b → (∀ y ∈ r, y ≤ b) → r.foldl max x ≤ b
  | [], x, b, h, _ => h
  | y :: r, x, b, h, hr => foldl_max_le r (max x y) b (by have := hr y (by simp); omega) fun z hz => hr z (by simp [hz])
theorem w58_loop (N : Nat) (a : List Int) (hs : a.length < 4611686018427387904) (x1 : Int) (k0 : Int × Int → O) (k1 k2 : Unit → O) : ∀ (n i : Nat) (acc : Int), a.length - i < n → i ≤ a.length → w58l1 N n (a, x1, acc, i) k0 k1 k2 = k0 (x1, (a.drop i).foldl max acc)
  | 0, i, _, h, _ => by omega
  | n + 1, i, acc, h, hi => by
    show w58F1 N _ _ a x1 acc i = _
    unfold w58F1
    by_cases hlt : i < a.length
    · have hg : a[i]? = some a[i] := List.getElem?_eq_getElem hlt
      have hd : decide ((i : Int) < (a.length : Int)) = true := decide_eq_true (by omega)
      have e : IntKind.i64.wrap ((i : Int) + 1) = ((i + 1 : Nat) : Int) := by rw [wr (by omega) (by omega)]; omega
      rw [hd, br_t, gx_at hg, e, drop_at hg, List.foldl_cons]
      exact w58_loop N a hs x1 k0 k1 k2 n (i + 1) (max acc a[i]) (by omega) (by omega)
    · have hd : decide ((i : Int) < (a.length : Int)) = false := decide_eq_false (by omega)
      rw [hd, br_f, List.drop_eq_nil_of_le (by omega)]
      rfl
theorem w58_eq {N : Nat} {x : Int} {r : List Int} (hs : (x :: r).length < 4611686018427387904) (hN : (x :: r).length < N) : w58z N (x :: r) = some (r.foldl max x) := by
  unfold w58z w58 w58G
  rw [w58n0_eq]
  unfold w58F0
  rw [show decide (((x :: r).length : Int) < 1) = false from decide_eq_false (by simp; omega), br_f]
  simp only [gx_0]
  have := w58_loop N (x :: r) hs 0 (fun y => some (w58r0 y.2)) (fun _ => none) (fun _ => none) N 1 x (by omega) (by simp)
  exact (congrArg (fun z : O => z.bind w58un) this).trans rfl

def colsZ (a : List Int) : Nat := a.foldl (fun m y => max m (lenZ y)) 0
theorem cols_max : ∀ (r : List Int) (x : Int), r.foldl (fun m y => max m (lenZ y)) (lenZ x) = lenZ (r.foldl max x)
  | [], x => rfl
  | y :: r, x => by
    rw [List.foldl_cons, List.foldl_cons, ← cols_max r (max x y)]
    congr 1
    by_cases h : x ≤ y
    · have := lenZ_mono h
      rw [show max x y = y by omega]
      omega
    · have := lenZ_mono (show y ≤ x by omega)
      rw [show max x y = x by omega]
      omega
theorem colsZ_eq (x : Int) (r : List Int) : colsZ (x :: r) = lenZ (r.foldl max x) := by
  unfold colsZ
  rw [List.foldl_cons, show max 0 (lenZ x) = lenZ x by omega, cols_max]

def digZ (n : Int) (k : Nat) : Int := n / ((10 ^ k : Nat) : Int) % 10
theorem digZ_bd (n : Int) (k : Nat) : 0 ≤ digZ n k ∧ digZ n k ≤ 9 := by unfold digZ; omega
theorem sh_succ (n : Int) (k : Nat) : n / ((10 ^ k : Nat) : Int) / 10 = n / ((10 ^ (k + 1) : Nat) : Int) := by
  rw [Int.ediv_ediv_of_nonneg (Int.natCast_nonneg _), Nat.pow_succ]
  push_cast
  rfl
theorem sh_bd {n : Int} (h0 : 0 ≤ n) (k : Nat) : 0 ≤ n / ((10 ^ k : Nat) : Int) ∧ n / ((10 ^ k : Nat) : Int) ≤ n :=
  ⟨Int.ediv_nonneg h0 (Int.natCast_nonneg _), Int.ediv_le_self _ h0⟩
theorem w60_loop (N : Nat) {m : Int} (h0 : 0 ≤ m) (h1 : m ≤ 9223372036854775807) (c : Nat) (hc : c < 4611686018427387904) (x2 : Int) (k0 : Int × Int → O) (k1 k2 : Unit → O) : ∀ (n i : Nat), c - i < n → i ≤ c → w60l0 N n (m / ((10 ^ i : Nat) : Int), c, x2, i) k0 k1 k2 = k0 (m / ((10 ^ c : Nat) : Int), x2)
  | 0, i, h, _ => by omega
  | n + 1, i, h, hi => by
    show w60F0 N _ _ c x2 (m / ((10 ^ i : Nat) : Int)) i = _
    unfold w60F0
    have hb := sh_bd h0 i
    by_cases hlt : i < c
    · have e : IntKind.i64.wrap ((i : Int) + 1) = ((i + 1 : Nat) : Int) := by rw [wr (by omega) (by omega)]; omega
      rw [decide_eq_true (show (i : Int) < (c : Int) by omega), br_t, ck_t, e, Int.tdiv_eq_ediv_of_nonneg hb.1, wr (by omega) (by omega), sh_succ]
      exact w60_loop N h0 h1 c hc x2 k0 k1 k2 n (i + 1) (by omega) (by omega)
    · rw [decide_eq_false (show ¬ (i : Int) < (c : Int) by omega), br_f, show i = c by omega]
theorem w60_eq {N : Nat} {m : Int} (h0 : 0 ≤ m) (h1 : m ≤ 9223372036854775807) {c : Nat} (hc : c < N) (hs : c < 4611686018427387904) : w60z N m c = some (digZ m c) := by
  unfold w60z w60 w60G
  have := w60_loop N h0 h1 c hs 0 (fun y => ck true <| some (w60r0 (y.1.tmod 10))) (fun _ => none) (fun _ => none) N 0 (by omega) (by omega)
  rw [show m / ((10 ^ 0 : Nat) : Int) = m by simp] at this
  refine (congrArg (fun z : O => z.bind w60un) this).trans ?_
  rw [ck_t, Int.tmod_eq_emod_of_nonneg (sh_bd h0 c).1]
  rfl

def dsum (k : Nat) (a : List Int) : Int := (a.map fun x => digZ x k).sum
theorem dsum_bd (k : Nat) : ∀ a : List Int, 0 ≤ dsum k a ∧ dsum k a ≤ 9 * a.length
  | [] => by simp [dsum]
  | x :: a => by
    have h1 := dsum_bd k a
    have h2 := digZ_bd x k
    have : dsum k (x :: a) = digZ x k + dsum k a := by simp [dsum]
    rw [this, List.length_cons]
    omega
def carryZ (op : Int) (a : List Int) : Nat → Int
  | 0 => 0
  | k + 1 => if op = 4 then (if digZ (a.getD 0 0) k < digZ (a.getD 1 0) k + carryZ op a k then 1 else 0) else (carryZ op a k + dsum k a) / 10
theorem carryZ_bd (op : Int) {a : List Int} (h8 : a.length ≤ 8) : ∀ k, 0 ≤ carryZ op a k ∧ carryZ op a k ≤ 8
  | 0 => by simp [carryZ]
  | k + 1 => by
    have ih := carryZ_bd op h8 k
    have hs := dsum_bd k a
    show 0 ≤ (if op = 4 then (if digZ (a.getD 0 0) k < digZ (a.getD 1 0) k + carryZ op a k then 1 else 0) else (carryZ op a k + dsum k a) / 10) ∧ (if op = 4 then (if digZ (a.getD 0 0) k < digZ (a.getD 1 0) k + carryZ op a k then 1 else 0) else (carryZ op a k + dsum k a) / 10) ≤ 8
    split
    · split <;> omega
    · omega

theorem w38_loop (N : Nat × (Int → List Int → Int → Option Int)) (a : List Int) (h8 : a.length ≤ 8) (hall : ∀ x ∈ a, 0 ≤ x ∧ x ≤ 999999) (c : Nat) (hc : c < N.1) (hs : c < 4611686018427387904) (x1 op : Int) (k0 : Int × Int → O) (k1 k2 : Unit → O) : ∀ (n i : Nat) (acc : Int), a.length - i < n → i ≤ a.length → 0 ≤ acc → acc ≤ 8 + 9 * i → w38l0 N n (c, x1, acc, i, op, a) k0 k1 k2 = k0 (x1, acc + dsum c (a.drop i))
  | 0, i, _, h, _, _, _ => by omega
  | n + 1, i, acc, h, hi, ha0, ha1 => by
    show w38F0 N _ _ c x1 op a acc i = _
    unfold w38F0
    by_cases hlt : i < a.length
    · have hg : a[i]? = some a[i] := List.getElem?_eq_getElem hlt
      have hx := hall a[i] (List.getElem_mem hlt)
      have hd : decide ((i : Int) < (a.length : Int)) = true := decide_eq_true (by omega)
      have e : IntKind.i64.wrap ((i : Int) + 1) = ((i + 1 : Nat) : Int) := by rw [wr (by omega) (by omega)]; omega
      have h60 := w60_eq (N := N.1) hx.1 (by omega) hc hs
      have hb := digZ_bd a[i] c
      rw [hd, br_t, gx_at hg, ck_of (w60_p h60), w60_y0 h60, e, drop_at hg, wr (by omega) (by omega)]
      refine (w38_loop N a h8 hall c hc hs x1 op k0 k1 k2 n (i + 1) (acc + digZ a[i] c) (by omega) (by omega) (by omega) (by omega)).trans ?_
      simp only [dsum, List.map_cons, List.sum_cons]
      rw [Int.add_assoc]
    · have hd : decide ((i : Int) < (a.length : Int)) = false := decide_eq_false (by omega)
      rw [hd, br_f, List.drop_eq_nil_of_le (by omega)]
      simp [dsum]
theorem w38Y_eq {N : Nat} {op : Int} {a : List Int} (V : Val op a) (hN : 20 ≤ N) : ∀ (m k : Nat), k < m → k ≤ 15 → w38Y N m op a ((k : Int) - 1) = some (carryZ op a k)
  | 0, k, h, _ => by omega
  | m + 1, 0, _, _ => by
    show w38z (N, w38Y N m) op a _ = _
    unfold w38z w38 w38G
    rw [decide_eq_true (show ((0 : Nat) : Int) - 1 < 0 by omega), br_t]
    rfl
  | m + 1, k + 1, h, hk => by
    show w38z (N, w38Y N m) op a _ = _
    have ih := w38Y_eq V hN m k (by omega) (by omega)
    have hc := carryZ_bd op V.eight k
    unfold w38z w38 w38G
    rw [show ((k + 1 : Nat) : Int) - 1 = (k : Int) by omega, decide_eq_false (show ¬ (k : Int) < 0 by omega), br_f, wr (by omega) (by omega)]
    simp only []
    simp only [ih, Option.isSome_some, ck_t, Option.getD_some]
    show _ = some (if op = 4 then (if digZ (a.getD 0 0) k < digZ (a.getD 1 0) k + carryZ op a k then 1 else 0) else (carryZ op a k + dsum k a) / 10)
    generalize carryZ op a k = c at *
    by_cases h4 : op = 4
    · have hl := V.pair (by omega)
      obtain ⟨x, y, r, rfl⟩ := two_at V.two
      have hx := V.all x (by simp)
      have hy := V.all y (by simp)
      have e1 := w60_eq (N := N) (m := x) (c := k) hx.1 (by omega) (by omega) (by omega)
      have e2 := w60_eq (N := N) (m := y) (c := k) hy.1 (by omega) (by omega) (by omega)
      have b2 := digZ_bd y k
      rw [decide_eq_true h4, br_t, gx_0, ck_of (w60_p e1), gx_1, ck_of (w60_p e2), w60_y0 e1, w60_y0 e2, wr (by omega) (by omega), if_pos h4]
      show _ = some (if digZ x k < digZ y k + c then 1 else 0)
      by_cases hlt : digZ x k < digZ y k + c
      · rw [decide_eq_true hlt, br_t, if_pos hlt]; rfl
      · rw [decide_eq_false hlt, br_f, if_neg hlt]; rfl
    · rw [decide_eq_false h4, br_f, if_neg h4]
      have h8 := V.eight
      have hl := w38_loop (N, w38Y N m) a h8 V.all k (show k < N by omega) (by omega) 0 op (fun y => ck true <| some (w38r0 (IntKind.i64.wrap (y.2.tdiv 10)))) (fun _ => none) (fun _ => none) N 0 c (by omega) (by omega) (by omega) (by omega)
      rw [List.drop_zero] at hl
      refine (congrArg (fun z : O => z.bind w38un) hl).trans ?_
      have hb := dsum_bd k a
      rw [ck_t, Int.tdiv_eq_ediv_of_nonneg (show 0 ≤ c + dsum k a by omega), wr (show _ ≤ (c + dsum k a) / 10 by omega) (by omega)]
      rfl
theorem w38_eq {N : Nat} {op : Int} {a : List Int} (V : Val op a) (hN : 20 ≤ N) {k : Nat} (hk : k ≤ 15) : w38p N op a ((k : Int) - 1) = true ∧ w38y0 N op a ((k : Int) - 1) = carryZ op a k := by
  have := w38Y_eq V hN N k (by omega) hk
  unfold w38p w38y0
  rw [this]
  exact ⟨rfl, rfl⟩

def carriesZ (op : Int) (a : List Int) : List Int := (List.range (colsZ a)).map fun k => carryZ op a (k + 1)
theorem Val.cols {op : Int} {a : List Int} (V : Val op a) : colsZ a ≤ 6 := by
  obtain ⟨x, y, r, rfl⟩ := two_at V.two
  rw [colsZ_eq]
  exact lenZ_six (foldl_max_le _ _ _ (V.all x (by simp)).2 fun z hz => (V.all z (by simp at hz ⊢; exact .inr hz)).2)

theorem w36_in3 (N : Nat) (a : List Int) (h8 : a.length ≤ 8) (hall : ∀ x ∈ a, 0 ≤ x ∧ x ≤ 999999) (c : Nat) (hc : c ≤ 6) (x0 x2 x3 : Int) (x4 : Bool) (x5 op : Int) (hop : op = 3) (b o : List Int) (k0 : Int × Int × Int × Int × Bool × Int × Int × List Int × Int × Int × Bool × Int × List Int × List Int → O) (k1 k2 : Unit → O) : ∀ (n i : Nat) (acc : Int), a.length - i < n → i ≤ a.length → 0 ≤ acc → acc ≤ 8 + 9 * i →
    w36l0 N n (x0, ((10 ^ c : Nat) : Int), x2, x3, x4, x5, acc, a, a.length, i, op, b, o) k0 k1 k2 = k0 (x0, ((10 ^ c : Nat) : Int), x2, x3, x4, x5, acc + dsum c (a.drop i), a, a.length, a.length, false, op, b, o)
  | 0, i, _, h, _, _, _ => by omega
  | n + 1, i, acc, h, hi, ha0, ha1 => by
    show w36F0 N _ _ x0 ((10 ^ c : Nat) : Int) x2 x3 x4 x5 a a.length op b o acc i = _
    unfold w36F0
    by_cases hlt : i < a.length
    · have hg : a[i]? = some a[i] := List.getElem?_eq_getElem hlt
      have hx := hall a[i] (List.getElem_mem hlt)
      have hd : decide ((i : Int) < (a.length : Int)) = true := decide_eq_true (by omega)
      have e : IntKind.i64.wrap ((i : Int) + 1) = ((i + 1 : Nat) : Int) := by rw [wr (by omega) (by omega)]; omega
      have hp : ((10 ^ c : Nat) : Int) ≠ 0 := by have := Nat.one_le_pow c 10 (by omega); omega
      have hq := sh_bd hx.1 c
      have hb := digZ_bd a[i] c
      have e2 : (IntKind.i64.wrap (a[i].tdiv ((10 ^ c : Nat) : Int))).tmod 10 = digZ a[i] c := by
        rw [Int.tdiv_eq_ediv_of_nonneg hx.1, wr (by omega) (by omega), Int.tmod_eq_emod_of_nonneg hq.1]
        rfl
      rw [hd, br_t, gx_at hg, ck_of (decide_eq_true hp), ck_t, show (decide (op = 4) && decide ((i : Int) = 0)) = false by rw [hop]; rfl, br_f, e2, e, wr (by omega) (by omega)]
      refine (w36_in3 N a h8 hall c hc x0 x2 x3 x4 x5 op hop b o k0 k1 k2 n (i + 1) (acc + digZ a[i] c) (by omega) (by omega) (by omega) (by omega)).trans ?_
      rw [drop_at hg]
      simp only [dsum, List.map_cons, List.sum_cons]
      rw [Int.add_assoc]
    · have hd : decide ((i : Int) < (a.length : Int)) = false := decide_eq_false (by omega)
      rw [hd, br_f, List.drop_eq_nil_of_le (by omega), show i = a.length by omega]
      simp [dsum]
theorem w36_in4 (N n : Nat) {x y : Int} (hx : 0 ≤ x ∧ x ≤ 999999) (hy : 0 ≤ y ∧ y ≤ 999999) (c : Nat) (x0 x2 x3 : Int) (x4 : Bool) (x5 : Int) (b o : List Int) (k0 : Int × Int × Int × Int × Bool × Int × Int × List Int × Int × Int × Bool × Int × List Int × List Int → O) (k1 k2 : Unit → O) (acc : Int) (h0 : 0 ≤ acc) (h1 : acc ≤ 8) :
    w36l0 N (n + 3) (x0, ((10 ^ c : Nat) : Int), x2, x3, x4, x5, acc, [x, y], 2, 0, 4, b, o) k0 k1 k2 = k0 (x0, ((10 ^ c : Nat) : Int), x2, x3, x4, x5, acc - digZ x c + digZ y c, [x, y], 2, 2, false, 4, b, o) := by
  have hp : ((10 ^ c : Nat) : Int) ≠ 0 := by have := Nat.one_le_pow c 10 (by omega); omega
  have e : ∀ z : Int, 0 ≤ z ∧ z ≤ 999999 → (IntKind.i64.wrap (z.tdiv ((10 ^ c : Nat) : Int))).tmod 10 = digZ z c := fun z hz => by
    have hq := sh_bd hz.1 c
    rw [Int.tdiv_eq_ediv_of_nonneg hz.1, wr (by omega) (by omega), Int.tmod_eq_emod_of_nonneg hq.1]
    rfl
  have bx := digZ_bd x c
  have byy := digZ_bd y c
  show w36F0 N _ _ x0 ((10 ^ c : Nat) : Int) x2 x3 x4 x5 [x, y] 2 4 b o acc 0 = _
  unfold w36F0
  rw [show decide ((0 : Int) < 2) = true from rfl, br_t, gx_0, ck_of (decide_eq_true hp), ck_t, show (decide ((4 : Int) = 4) && decide ((0 : Int) = 0)) = true from rfl, br_t, e x hx, wr (by omega) (by omega), show IntKind.i64.wrap ((0 : Int) + 1) = 1 by decide]
  show w36F0 N _ _ x0 ((10 ^ c : Nat) : Int) x2 x3 x4 x5 [x, y] 2 4 b o (acc - digZ x c) 1 = _
  unfold w36F0
  rw [show decide ((1 : Int) < 2) = true from rfl, br_t, gx_1, ck_of (decide_eq_true hp), ck_t, show (decide ((4 : Int) = 4) && decide ((1 : Int) = 0)) = false from rfl, br_f, e y hy, wr (by omega) (by omega), show IntKind.i64.wrap ((1 : Int) + 1) = 2 by decide]
  show w36F0 N _ _ x0 ((10 ^ c : Nat) : Int) x2 x3 x4 x5 [x, y] 2 4 b o (acc - digZ x c + digZ y c) 2 = _
  unfold w36F0
  rw [show decide ((2 : Int) < 2) = false from rfl, br_f]
theorem w36_loop {N : Nat} {op : Int} {a : List Int} (V : Val op a) (hop : op = 3 ∨ op = 4) (hN : 20 ≤ N) (k0 : List Int → O) (k1 k2 : Unit → O) : ∀ (n i : Nat), colsZ a - i < n → i ≤ colsZ a →
    w36l1 N n (carryZ op a i, ((10 ^ i : Nat) : Int), (colsZ a : Int), i, op, a, (List.range i).map fun k => carryZ op a (k + 1)) k0 k1 k2 = k0 (carriesZ op a)
  | 0, i, h, _ => by omega
  | n + 1, i, h, hi => by
    show w36F1 N _ _ _ (carryZ op a i) ((10 ^ i : Nat) : Int) (colsZ a : Int) i op a _ = _
    have hc := V.cols
    have h8 := V.eight
    have hcb := carryZ_bd op h8 i
    unfold w36F1
    by_cases hlt : i < colsZ a
    · have e : IntKind.i64.wrap ((i : Int) + 1) = ((i + 1 : Nat) : Int) := by rw [wr (by omega) (by omega)]; omega
      have e10 : IntKind.i64.wrap (((10 ^ i : Nat) : Int) * 10) = ((10 ^ (i + 1) : Nat) : Int) := by
        have h1 : 10 ^ i ≤ 10 ^ 6 := Nat.pow_le_pow_right (by omega) (by omega)
        rw [Nat.pow_succ]
        generalize 10 ^ i = u at *
        rw [wr (by omega) (by omega)]
        omega
      rw [decide_eq_true (show (i : Int) < (colsZ a : Int) by omega), br_t]
      have hnext := w36_loop V hop hN k0 k1 k2 n (i + 1) (by omega) (by omega)
      rw [List.range_succ, List.map_append] at hnext
      rcases hop with h3 | h4
      · subst h3
        refine (w36_in3 N a h8 V.all i (by omega) _ _ _ _ _ 3 rfl a _ _ _ _ N 0 (carryZ 3 a i) (by omega) (by omega) hcb.1 (by omega)).trans ?_
        have hb := dsum_bd i a
        rw [List.drop_zero]
        show br (decide ((3 : Int) = 3)) _ _ = _
        rw [show decide ((3 : Int) = 3) = true from rfl, br_t, ck_t]
        have hcz : carryZ 3 a (i + 1) = (carryZ 3 a i + dsum i a) / 10 := rfl
        have ed : IntKind.i64.wrap ((carryZ 3 a i + dsum i a).tdiv 10) = carryZ 3 a (i + 1) := by
          rw [Int.tdiv_eq_ediv_of_nonneg (by omega), wr (by omega) (by omega), hcz]
        simp only []
        rw [ed, ck_of (lim_of (by simp; omega) (by simp; omega)), e10, e]
        exact hnext
      · subst h4
        have hl := V.pair (by omega)
        obtain ⟨x, y, r, rfl⟩ := two_at V.two
        have hr : r = [] := by simpa using hl
        subst hr
        obtain ⟨m, rfl⟩ : ∃ m, N = m + 3 := ⟨N - 3, by omega⟩
        refine (w36_in4 (m + 3) m (V.all x (by simp)) (V.all y (by simp)) i _ _ _ _ _ _ _ _ _ _ (carryZ 4 [x, y] i) hcb.1 hcb.2).trans ?_
        show br (decide ((4 : Int) = 3)) _ _ = _
        rw [show decide ((4 : Int) = 3) = false from rfl, br_f]
        have b1 := digZ_bd x i
        have b2 := digZ_bd y i
        have ed : min (max (carryZ 4 [x, y] i - digZ x i + digZ y i) 0) 1 = carryZ 4 [x, y] (i + 1) := by
          show _ = if digZ x i < digZ y i + carryZ 4 [x, y] i then (1 : Int) else 0
          split <;> omega
        simp only []
        rw [ed, ck_of (lim_of (by simp; omega) (by simp; omega)), e10, e]
        exact hnext
    · rw [decide_eq_false (show ¬ (i : Int) < (colsZ a : Int) by omega), br_f, show i = colsZ a by omega]
      rfl
theorem w36_eq {N : Nat} {op : Int} {a : List Int} (V : Val op a) (ho : op = 3 ∨ op = 4) (hN : 20 ≤ N) : w36z N op a = some (carriesZ op a) := by
  unfold w36z w36 w36G
  have hl := w36_loop V ho hN (fun y => some (w36r0 y)) (fun _ => none) (fun _ => none) N 0 (by have := V.cols; omega) (by omega)
  have h8 := V.eight
  have hall := V.all
  obtain ⟨x, y, r, rfl⟩ := two_at V.two
  have hx := hall x (by simp)
  have h58 := w58_eq (N := N) (x := x) (r := y :: r) (by omega) (by omega)
  have hg := (foldl_max_ge (y :: r) x).1
  have hm := foldl_max_le (y :: r) x 999999 hx.2 fun z hz => (hall z (List.mem_cons_of_mem _ hz)).2
  have h57 := w57_eq N (n := (y :: r).foldl max x) ⟨by omega, by omega⟩ (by omega)
  rw [← colsZ_eq] at h57
  rw [ck_of (w58_p h58), w58_y0 h58, ck_of (w57_p h57), w57_y0 h57]
  exact (congrArg (fun z : O => z.bind w36un) hl).trans rfl
end Go.Proofs
/- SpatialResults, in plain words. -/
namespace Go.Proofs
open Go Go.Ax Go.Ax.Alg
theorem I64.tdiv {x m : Int} (h : I64 x) (hm : 1 ≤ m) : I64 (IntKind.i64.wrap (x.tdiv m)) := by
  obtain ⟨b1, b2⟩ := h
  have : -9223372036854775808 ≤ x.tdiv m ∧ x.tdiv m ≤ 9223372036854775807 := by
    by_cases h0 : 0 ≤ x
    · have := Int.tdiv_nonneg h0 (show (0 : Int) ≤ m by omega)
      have := Int.tdiv_le_self m h0
      omega
    · have e : x.tdiv m = -((-x).tdiv m) := by rw [Int.neg_tdiv]; omega
      have := Int.tdiv_nonneg (show 0 ≤ -x by omega) (show (0 : Int) ≤ m by omega)
      have := Int.tdiv_le_self m (show 0 ≤ -x by omega)
      omega
  rw [wr this.1 this.2]
  exact this
end Go.Proofs
