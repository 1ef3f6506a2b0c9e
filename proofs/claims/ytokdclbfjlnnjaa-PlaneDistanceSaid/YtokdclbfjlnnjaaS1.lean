/- Contracts of the small functions that the statements about sheets reach. -/
import Derived.Test.YtokdclbfjlnnjaaRows
import Derived.Test.YtokdclbfjlnnjaaBase
namespace Go.Proofs.Ytokdclbfjlnnjaa
open Go.RowKit Go.BigFrame

theorem Try.info3 : (Try.prog.info? 3).map (fun i => (i.zero, i.size, i.bytes)) = some (some (.int .i64 0), 1, 8) := by kernel_rfl
theorem Try.info41 : (Try.prog.info? 41).map (fun i => (i.zero, i.size, i.bytes)) = some (some (.agg #[.int .i64 0, .int .i64 0]), 2, 16) := by kernel_rfl

def aroundI (n m : Int) : Int := if m < 1 then 0 else (if n < 0 then -(n+1) else n) % m

set_option maxHeartbeats 400000 in
theorem around_any (n m : Int) (w : World) (h1 : -9223372036854775808 ≤ n) (h2 : n ≤ 9223372036854775807) :
    Calls Try.prog 18 #[.int .i64 n, .int .i64 m] w fun e w' => e = .returned (.int .i64 (aroundI n m)) ∧ w = w' := by
  go_enter Try.func18, Try.ntmps18
  go_wp2
  all_goals go_ret
  all_goals refine ⟨ret_int ?_, rfl⟩
  all_goals unfold aroundI
  · rw [if_pos (by assumption)]
  · rw [if_neg (by omega), if_pos (by assumption), ← Int.tmod_eq_emod_of_nonneg (by omega), Int.neg_tmod]
  · rw [if_pos (by assumption)]
  · rw [if_neg (by omega), if_neg (by omega)]

theorem aroundI_lt (n m : Int) (h : 1 ≤ m) : 0 ≤ aroundI n m ∧ aroundI n m < m := by
  unfold aroundI
  rw [if_neg (by omega)]
  exact ⟨Int.emod_nonneg _ (by omega), Int.emod_lt_of_pos _ (by omega)⟩

def atI (l : List Int) (i m : Int) : Int := if i < 0 ∨ l.length ≤ i then 0 else aroundI (l.getD i.toNat 0) m

theorem atI_lt (l : List Int) (i m : Int) (h : 1 ≤ m) : 0 ≤ atI l i m ∧ atI l i m < m := by
  unfold atI
  split
  · omega
  · exact aroundI_lt _ _ h

set_option maxHeartbeats 400000 in
theorem at_any (v : Value) (l : List Int) (i m : Int) (w : World) (hl : Ints w v l) :
    Calls Try.prog 63 #[v, .int .i64 i, .int .i64 m] w fun e w' => e = .returned (.int .i64 (atI l i m)) ∧ w = w' := by
  obtain ⟨a, c, rfl, hl⟩ := hl
  have hle := hl.le
  by_cases h : i < 0 ∨ l.length ≤ i
  · rcases h with h | h
    · go_enter Try.func63, Try.ntmps63
      go_wp2
      go_ret
      refine ⟨ret_int ?_, rfl⟩
      simp [atI, h]
    · have h' : 0 ≤ i := by omega
      go_enter Try.func63, Try.ntmps63
      go_wp2
      go_ret
      refine ⟨ret_int ?_, rfl⟩
      simp [atI, h]
  · obtain ⟨n, rfl⟩ : ∃ n : Nat, i = n := ⟨i.toNat, by omega⟩
    obtain ⟨b, off, x, rfl, hc, _, hx, hx1, hx2⟩ := hl.rd.int hl.ok (show n < l.length by omega)
    go_enter Try.func63, Try.ntmps63
    go_wp2_with (go_at_call 18; refine (around_any _ _ _ (by omega) (by omega)).mono ?_; rintro e w' ⟨rfl, rfl⟩)
    go_ret
    refine ⟨ret_int ?_, rfl⟩
    simp only [atI]
    rw [if_neg h]
    simp [List.getD, hx.out]

set_option maxHeartbeats 400000 in
theorem same_any (v v' : Value) (l l' : List Int) (w : World) (hl : Ints w v l) (hl' : Ints w v' l') :
    Calls Try.prog 21 #[v, v'] w fun e w' => e = .returned (.bool (l == l')) ∧ Aft w w' := by
  obtain ⟨a, c, rfl, hl⟩ := hl
  obtain ⟨a', c', rfl, hl'⟩ := hl'
  have hn := hl.le
  have hn' := hl'.le
  by_cases hle : l.length = l'.length
  · have hle' : ((l.length : Int) != (l'.length : Int)) = false := by simp [hle]
    have Hle := hid hle; clear hle
    go_enter Try.func21, Try.ntmps21
    go_wp2
    go_loopw [5] (fun i wr => ∃ k : Nat, k ≤ l.length ∧ i = .int .i64 k ∧ Hid (l.take k = l'.take k) ∧ Aft w wr) (fun i _ => l.length - (intOf i).toNat)
    case atStart => exact ⟨0, by omega, rfl, rfl, Aft.refl w⟩
    case round =>
      obtain ⟨k, hk, rfl, ht, hw⟩ := hrel
      by_cases hlt : k < l.length
      · have hlt' : k < l'.length := by rw [← Hle.out]; exact hlt
        obtain ⟨b, off, x, rfl, hc, hb, hx, _⟩ := hl.rd.int hl.ok hlt
        obtain ⟨b', off', x', rfl, hc', hb', hx', _⟩ := hl'.rd.int hl'.ok hlt'
        go_wp2
        refine wp_region_lat w hw (by kernel_rfl) (by kernel_rfl) ?_
        repeat (go_big_quiet_step (fail))
        refine wpQuiet_nil ?_
        intro _ hw'; obtain ⟨y, rfl⟩ := hw'
        go_wp2
        · have hne : (x != x') = true := by assumption
          go_ret
          refine ⟨ret_bool ?_, y.aft⟩
          have hx := hx.out; have hx' := hx'.out
          have : l ≠ l' := fun e => by rw [e, hx'] at hx; simp at hx; simp [hx] at hne
          simp [this]
        · have hne : (x != x') = false := by assumption
          go_roundw
          case rel =>
            refine ⟨k + 1, by omega, by go_num, hid ?_, y.aft⟩
            rw [take_snoc hx.out, take_snoc hx'.out, ht.out]
            simp at hne; rw [hne]
          case measure => simp [intOf]; omega
      · go_wp2
        go_ret
        refine ⟨ret_bool ?_, hw⟩
        have h1 := ht.out
        rw [List.take_of_length_le (by omega), List.take_of_length_le (by rw [← Hle.out]; omega)] at h1
        simp [h1]
  · go_enter Try.func21, Try.ntmps21
    go_wp2
    go_ret
    refine ⟨ret_bool ?_, Aft.refl w⟩
    have : l ≠ l' := fun e => hle (by rw [e])
    simp [this]

set_option maxHeartbeats 400000 in
theorem take_any (v : Value) (l : List Int) (m : Nat) (w : World) (hl : Ints w v l) (hm : m ≤ l.length) :
    Calls Try.prog 23 #[v, .int .i64 m] w fun e w' => ∃ v, e = .returned v ∧ w'.ownsRow w.heap.size 3 1 v m (i64s (l.take m)) ∧ Aft w w' := by
  obtain ⟨a, c, rfl, hl⟩ := hl
  have hn := hl.le
  have hcap := hl.cap
  cases a with
  | none =>
    have := hl.rd.none_nil
    obtain rfl : l = [] := by simpa [i64s] using this
    obtain rfl : c = 0 := hl.nil rfl
    obtain rfl : m = 0 := by simpa using hm
    clear this
    go_enter Try.func23, Try.ntmps23
    go_wp2
    go_ret
    exact ⟨_, rfl, World.ownsRow_nil _ _ _ _, Aft.refl w⟩
  | some ad =>
    rcases Nat.lt_or_ge m l.length with hlt | hge
    · rcases Nat.eq_zero_or_pos m with rfl | hpos
      · go_enter Try.func23, Try.ntmps23
        go_wp2_with (at_builtin; refine wpList_app _ rfl _ _ 22 rfl w.heap.size 3 (.int .i64 0) 1 8 Try.underlying22 Try.info3 rfl (by decide) _ 0 [] rfl (World.ownsRow_nil _ _ _ _) (some ad) 0 c [] rfl (fun h => by cases h) rfl Rd.nil (by simp) (by unfold maxLen; omega) (by omega) (Nat.le_refl _) ?_; intro v' w' h1 h2 _)
        have hw := (Aft.refl w).grown h2 (fun k hk => by cases hk)
        go_wp2
        go_ret
        exact ⟨_, rfl, h1, hw⟩
      · go_enter Try.func23, Try.ntmps23
        go_wp2_with (at_builtin; refine wpList_app _ rfl _ _ 22 rfl w.heap.size 3 (.int .i64 0) 1 8 Try.underlying22 Try.info3 rfl (by decide) _ 0 [] rfl (World.ownsRow_nil _ _ _ _) (some ad) m c (i64s (l.take m)) rfl (fun h => by cases h) (by simp [i64s]; omega) (i64s_take l m ▸ hl.rd.prefix m) (i64s_one _) (by unfold maxLen; omega) (by omega) (Nat.le_refl _) ?_; intro v' w' h1 h2 _)
        have hw := (Aft.refl w).grown h2 (fun k hk => by cases hk)
        go_wp2
        go_ret
        exact ⟨_, rfl, by simpa using h1, hw⟩
    · obtain rfl : l.length = m := by omega
      rcases Nat.eq_zero_or_pos l.length with h0 | hpos
      · obtain rfl : l = [] := List.length_eq_zero_iff.1 h0
        go_enter Try.func23, Try.ntmps23
        go_wp2_with (at_builtin; refine wpList_app _ rfl _ _ 22 rfl w.heap.size 3 (.int .i64 0) 1 8 Try.underlying22 Try.info3 rfl (by decide) _ 0 [] rfl (World.ownsRow_nil _ _ _ _) (some ad) 0 c [] rfl (fun h => by cases h) rfl Rd.nil (by simp) (by unfold maxLen; omega) (by omega) (Nat.le_refl _) ?_; intro v' w' h1 h2 _)
        have hw := (Aft.refl w).grown h2 (fun k hk => by cases hk)
        go_wp2
        go_ret
        exact ⟨_, rfl, h1, hw⟩
      · go_enter Try.func23, Try.ntmps23
        go_wp2_with (at_builtin; refine wpList_app _ rfl _ _ 22 rfl w.heap.size 3 (.int .i64 0) 1 8 Try.underlying22 Try.info3 rfl (by decide) _ 0 [] rfl (World.ownsRow_nil _ _ _ _) (some ad) l.length c (i64s l) rfl (fun h => by cases h) (by simp [i64s]) hl.rd (i64s_one _) (by unfold maxLen; omega) (by omega) (Nat.le_refl _) ?_; intro v' w' h1 h2 _)
        have hw := (Aft.refl w).grown h2 (fun k hk => by cases hk)
        go_wp2
        go_ret
        exact ⟨_, rfl, by simpa using h1, hw⟩

def inB (s : Int × Int) (x wd : Int) : Bool := decide (x ≤ s.1) && decide (s.2 ≤ x + wd)

set_option maxHeartbeats 400000 in
theorem in_any (s : Int × Int) (x wd : Int) (w : World) (h : -9223372036854775808 ≤ x + wd) (h' : x + wd ≤ 9223372036854775807) :
    Calls Try.prog 71 #[pr s, .int .i64 x, .int .i64 wd] w fun e w' => e = .returned (.bool (inB s x wd)) ∧ Aft w w' := by
  unfold pr
  by_cases hx : x ≤ s.1
  · have hd : decide (x ≤ s.1) = true := by simpa using hx
    go_enter Try.func71, Try.ntmps71
    go_wp2
    go_ret
    exact ⟨ret_bool (by simp [inB, hx]), (Aft.refl w).alloc _⟩
  · have hd : decide (x ≤ s.1) = false := by simpa using hx
    go_enter Try.func71, Try.ntmps71
    go_wp2
    go_ret
    exact ⟨ret_bool (by simp [inB]; omega), (Aft.refl w).alloc _⟩

set_option maxHeartbeats 400000 in
theorem sin_any (s : Int × Int) (x wd : Int) (w : World) (h : -9223372036854775808 ≤ x + wd) (h' : x + wd ≤ 9223372036854775807) :
    Calls Try.prog 65 #[pr s, .int .i64 x, .int .i64 wd] w fun e w' => e = .returned (.bool (inB s x wd)) ∧ Aft w w' := by
  unfold pr
  by_cases hx : x ≤ s.1
  · have hd : decide (x ≤ s.1) = true := by simpa using hx
    go_enter Try.func65, Try.ntmps65
    go_wp2
    go_ret
    exact ⟨ret_bool (by simp [inB, hx]), (Aft.refl w).alloc _⟩
  · have hd : decide (x ≤ s.1) = false := by simpa using hx
    go_enter Try.func65, Try.ntmps65
    go_wp2
    go_ret
    exact ⟨ret_bool (by simp [inB]; omega), (Aft.refl w).alloc _⟩

def covB (s : Int × Int) (l : List Int) (wd : Int) : Bool := l.any fun x => inB s x wd

set_option maxHeartbeats 400000 in
theorem cov_any (s : Int × Int) (v : Value) (l : List Int) (wd : Int) (w : World) (hl : Ints w v l)
    (h0 : ∀ x ∈ l, -9223372036854775808 ≤ x + wd ∧ x + wd ≤ 9223372036854775807) :
    Calls Try.prog 67 #[pr s, v, .int .i64 wd] w fun e w' => e = .returned (.bool (covB s l wd)) ∧ Aft w w' := by
  unfold pr
  obtain ⟨a, c, rfl, hl⟩ := hl
  have hn := hl.le
  have H0 := hid h0; clear h0
  go_enter Try.func67, Try.ntmps67
  go_wp2
  go_loopw [7] (fun i wr => ∃ k : Nat, k ≤ l.length ∧ i = .int .i64 k ∧ Hid (covB s l wd = covB s (l.drop k) wd) ∧ Aft (w.alloc (.cells #[.int .i64 s.1, .int .i64 s.2] 41)) wr) (fun i _ => l.length - (intOf i).toNat)
  case atStart => exact ⟨0, by omega, rfl, rfl, Aft.refl _⟩
  case round =>
    obtain ⟨k, hk, rfl, ht, hw⟩ := hrel
    by_cases hlt : k < l.length
    · obtain ⟨b, off, x, rfl, hc, hb, hx, hx1, hx2⟩ := hl.rd.int hl.ok hlt
      have hxw : -9223372036854775808 ≤ x + wd ∧ x + wd ≤ 9223372036854775807 := H0.out x (List.mem_of_getElem? hx.out)
      go_wp2
      refine wp_region_lat (w.alloc (.cells #[.int .i64 s.1, .int .i64 s.2] 41)) hw (by kernel_rfl) (by kernel_rfl) ?_
      repeat (go_big_quiet_step ((go_at_call 71; exact Calls.lat (in_any s _ _ _ hxw.1 hxw.2))))
      refine wpQuiet_nil ?_
      intro _ hw'; obtain ⟨y, rfl⟩ := hw'
      go_wp2
      · have hi : inB s x wd = true := by assumption
        go_ret
        exact ⟨ret_bool (by rw [ht.out, drop_cons hx.out]; simp [covB, hi]), ((Aft.refl _).alloc _).trans y.aft⟩
      · have hi : inB s x wd = false := by assumption
        go_roundw
        case rel =>
          refine ⟨k + 1, by omega, by go_num, hid ?_, y.aft⟩
          rw [ht.out, drop_cons hx.out]; simp [covB, hi]
        case measure => simp [intOf]; omega
    · go_wp2
      go_ret
      exact ⟨ret_bool (by rw [ht.out, List.drop_eq_nil_of_le (by omega)]; rfl), ((Aft.refl _).alloc _).trans hw⟩

def spansI (l : List Int) : List (Int × Int) := (List.range (min 10 ((l.length + 1) / 2))).map fun i : Nat => (atI l (2 * (i : Int)) 90, atI l (2 * (i : Int)) 90 + atI l (2 * (i : Int) + 1) 21)

theorem spansI_get (l : List Int) (k : Nat) (h : k < min 10 ((l.length + 1) / 2)) : (spansI l)[k]? = some (atI l (2 * (k : Int)) 90, atI l (2 * (k : Int)) 90 + atI l (2 * (k : Int) + 1) 21) := by
  simp only [spansI, List.getElem?_map, List.getElem?_range h]; rfl
theorem spansI_length (l : List Int) : (spansI l).length = min 10 ((l.length + 1) / 2) := by simp [spansI]

set_option maxHeartbeats 400000 in
theorem spans_any (v : Value) (l : List Int) (w : World) (hl : Ints w v l) :
    Calls Try.prog 16 #[v] w fun e w' => ∃ v, e = .returned v ∧ w'.ownsRow w.heap.size 41 2 v (spansI l).length (prs (spansI l)) ∧ Aft w w' := by
  obtain ⟨a, c, rfl, hl⟩ := hl
  have hn := hl.le
  go_enter Try.func16, Try.ntmps16
  go_wp2
  go_loopw [3, 4, 5] (fun v i _ wr => ∃ k : Nat, k ≤ min 10 ((l.length + 1) / 2) ∧ i = .int .i64 k ∧ wr.ownsRow w.heap.size 41 2 v k (prs ((spansI l).take k)) ∧ Aft w wr) (fun _ i _ _ => 10 - (intOf i).toNat)
  case atStart => exact ⟨0, by omega, rfl, World.ownsRow_nil _ _ _ _, Aft.refl _⟩
  case round =>
    obtain ⟨k, hk, rfl, hown, hw⟩ := hrel
    have hl' : Ints wr (.slice a l.length c) l := ⟨a, c, rfl, hl.aft hw⟩
    obtain ⟨x, hx⟩ : ∃ x, x = atI l (2 * (k : Int)) 90 := ⟨_, rfl⟩
    obtain ⟨y, hy⟩ : ∃ y, y = atI l (2 * (k : Int) + 1) 21 := ⟨_, rfl⟩
    obtain ⟨x1, x2⟩ : 0 ≤ x ∧ x < 90 := hx ▸ atI_lt l (2 * (k : Int)) 90 (by omega)
    obtain ⟨y1, y2⟩ : 0 ≤ y ∧ y < 21 := hy ▸ atI_lt l (2 * (k : Int) + 1) 21 (by omega)
    rcases Nat.lt_or_ge k (min 10 ((l.length + 1) / 2)) with hlt | hge
    · have hsn := hid (take_snoc (spansI_get l k hlt))
      rw [← hx, ← hy] at hsn
      have Hx := hid hx; clear hx
      have Hy := hid hy; clear hy
      have h1 : (2 * (k : Int)) < l.length := by omega
      have h2 : k < 10 := by omega
      have Hk := hid hk; clear hk
      have Hlt := hid hlt; clear hlt
      go_wp2_with (first
        | (go_at_call 63; refine (at_any _ l _ _ _ hl').mono ?_; rintro e w' ⟨rfl, rfl⟩; rw [← Hx.out])
        | (go_at_call 63; refine (at_any _ l _ _ _ hl').mono ?_; rintro e w' ⟨rfl, rfl⟩; rw [← Hy.out])
        | (at_builtin; refine wpList_app _ rfl _ _ 23 rfl w.heap.size 41 (.agg #[.int .i64 0, .int .i64 0]) 2 16 Try.underlying23 Try.info41 rfl (by decide) _ k _ rfl (hown.alloc _) (some ⟨wr.heap.size, 0, none⟩) 1 1 (prs [(x, x + y)]) rfl (fun h => by cases h) rfl Rd.new (prs_one _) (by unfold maxLen; omega) (by omega) (by have := hw.size; simp; omega) ?_; intro v' w1 hown1 hgrow _))
      have hwf := (hw.alloc _).grown hgrow (fun j hj => (hown.lt j hj).1)
      rw [← prs_append, ← hsn.out] at hown1
      go_roundw
      case rel => exact ⟨k + 1, Hlt.out, by go_num, hown1, hwf⟩
      case measure => simp [intOf]; omega
    · have Hke : Hid (k = (spansI l).length) := hid (by rw [spansI_length]; omega)
      have hh : (l.length : Int) ≤ 2 * (k : Int) ∨ (10 : Int) ≤ (k : Int) := by omega
      have h10 : k ≤ 10 := by omega
      clear hk hge
      rcases hh with h | h
      · go_wp2
        go_ret
        exact ⟨_, rfl, by rw [← Hke.out]; rw [List.take_of_length_le (by rw [← Hke.out]; exact Nat.le_refl _)] at hown; exact hown, hw⟩
      · by_cases h3 : (l.length : Int) ≤ 2 * (k : Int)
        all_goals
          go_wp2
          go_ret
          exact ⟨_, rfl, by rw [← Hke.out]; rw [List.take_of_length_le (by rw [← Hke.out]; exact Nat.le_refl _)] at hown; exact hown, hw⟩

def badP (p : Int × Int) : Bool := decide (p.1 < 0) || decide (p.2 < p.1) || decide (1000 < p.2)
def wideP (wd : Int) (p : Int × Int) : Bool := decide (wd < p.2 - p.1)
def fitsE (l : List (Int × Int)) (wd : Int) : Int := if 64 < l.length then 4 else if wd < 1 ∨ 1000 < wd then 1 else if l.any badP then 1 else if l.any (wideP wd) then 14 else 0

theorem bad_of {l : List (Int × Int)} (h : l.any badP = false) {k : Nat} {x y : Int} (hk : l[k]? = some (x, y)) : 0 ≤ x ∧ x ≤ y ∧ y ≤ 1000 := by
  have := List.any_eq_false.1 h _ (List.mem_of_getElem? hk)
  simp [badP] at this
  omega

set_option maxHeartbeats 1000000 in
theorem rfits_any (v : Value) (l : List (Int × Int)) (wd : Int) (w : World) (hl : Prs w v l) :
    Calls Try.prog 66 #[v, .int .i64 wd] w fun e w' => e = .returned (.int .i64 (fitsE l wd)) ∧ Aft w w' := by
  obtain ⟨a, c, rfl, hl⟩ := hl
  have hn := hl.le
  by_cases h64 : 64 < l.length
  · go_enter Try.func66, Try.ntmps66
    go_wp2
    go_ret
    exact ⟨ret_int (by simp [fitsE, h64]), Aft.refl w⟩
  by_cases hw1 : wd < 1
  · go_enter Try.func66, Try.ntmps66
    go_wp2
    go_ret
    exact ⟨ret_int (by simp [fitsE, h64, hw1]), Aft.refl w⟩
  by_cases hw2 : 1000 < wd
  · go_enter Try.func66, Try.ntmps66
    go_wp2
    go_ret
    exact ⟨ret_int (by simp [fitsE, h64, hw2]), Aft.refl w⟩
  have d1 : decide (wd < 1) = false := by simpa using hw1
  go_enter Try.func66, Try.ntmps66
  go_wp2
  go_loopw [5] (fun i wr => ∃ k : Nat, k ≤ l.length ∧ i = .int .i64 k ∧ Hid (l.any badP = (l.drop k).any badP) ∧ Aft w wr) (fun i _ => l.length - (intOf i).toNat)
  case atStart => exact ⟨0, by omega, rfl, rfl, Aft.refl _⟩
  case round =>
    obtain ⟨k, hk, rfl, ht, hw⟩ := hrel
    by_cases hlt : k < l.length
    · obtain ⟨b, off, x, y, rfl, hc1, hc2, hb, hx, _, _, _, _⟩ := hl.rd.pair hl.ok hlt
      rcases (show (decide (x < 0) = true) ∨ (decide (x < 0) = false ∧ decide (y < x) = true) ∨ (decide (x < 0) = false ∧ decide (y < x) = false ∧ decide (1000 < y) = true) ∨ (decide (x < 0) = false ∧ decide (y < x) = false ∧ decide (1000 < y) = false) by
        cases decide (x < 0) <;> cases decide (y < x) <;> cases decide (1000 < y) <;> simp) with e1 | ⟨e1, e2⟩ | ⟨e1, e2, e3⟩ | ⟨e1, e2, e3⟩
      all_goals
        go_wp2
        refine wp_region_lat w hw (by kernel_rfl) (by kernel_rfl) ?_
        repeat (go_big_quiet_step (fail))
        refine wpQuiet_nil ?_
        intro _ hw'; obtain ⟨z, rfl⟩ := hw'
        go_wp2
      · go_ret
        exact ⟨ret_int (by simp only [fitsE]; rw [if_neg h64, if_neg (by omega), ht.out, drop_cons hx.out]; simp [badP, e1]), z.aft⟩
      · go_ret
        exact ⟨ret_int (by simp only [fitsE]; rw [if_neg h64, if_neg (by omega), ht.out, drop_cons hx.out]; simp [badP, e1, e2]), z.aft⟩
      · go_ret
        exact ⟨ret_int (by simp only [fitsE]; rw [if_neg h64, if_neg (by omega), ht.out, drop_cons hx.out]; simp [badP, e1, e2, e3]), z.aft⟩
      · go_roundw
        case rel => exact ⟨k + 1, by omega, by go_num, by unfold Hid; rw [ht.out, drop_cons hx.out]; simp [badP, e1, e2, e3], z.aft⟩
        case measure => simp [intOf]; omega
    · have hbad : l.any badP = false := by rw [ht.out, List.drop_eq_nil_of_le (by omega)]; rfl
      have Hbad := hid hbad; clear hbad
      go_wp2
      go_loopw [6] (fun i wr => ∃ k : Nat, k ≤ l.length ∧ i = .int .i64 k ∧ Hid (l.any (wideP wd) = (l.drop k).any (wideP wd)) ∧ Aft w wr) (fun i _ => l.length - (intOf i).toNat)
      case atStart => exact ⟨0, by omega, rfl, rfl, hw⟩
      case round =>
        clear hk ht hlt
        obtain ⟨q, hk, rfl, ht, hw⟩ := hrel
        by_cases hlt : q < l.length
        · obtain ⟨b, off, x, y, rfl, hc1, hc2, hb, hx, _, _, _, _⟩ := hl.rd.pair hl.ok hlt
          obtain ⟨g1, g2, g3⟩ := bad_of Hbad.out hx.out
          go_wp2
          refine wp_region_lat w hw (by kernel_rfl) (by kernel_rfl) ?_
          repeat (go_big_quiet_step (fail))
          refine wpQuiet_nil ?_
          intro _ hw'; obtain ⟨z, rfl⟩ := hw'
          go_wp2
          · have hd : wd < y - x := by assumption
            go_ret
            exact ⟨ret_int (by simp only [fitsE]; rw [if_neg h64, if_neg (by omega), Hbad.out, ht.out, drop_cons hx.out]; simp [wideP, hd]), z.aft⟩
          · have hd : y - x ≤ wd := by assumption
            go_roundw
            case rel => exact ⟨q + 1, by omega, by go_num, by unfold Hid; rw [ht.out, drop_cons hx.out]; simp [wideP]; omega, z.aft⟩
            case measure => simp [intOf]; omega
        · go_wp2
          go_ret
          exact ⟨ret_int (by simp only [fitsE]; rw [if_neg h64, if_neg (by omega), Hbad.out, ht.out, List.drop_eq_nil_of_le (by omega)]; simp), hw⟩

def apartB (s o : Int × Int) (wd : Int) : Bool := decide (wd < max s.2 o.2 - min s.1 o.1)

set_option maxHeartbeats 400000 in
theorem apart_any (s o : Int × Int) (wd : Int) (w : World) (h : 0 ≤ s.1 ∧ s.1 ≤ 1000 ∧ 0 ≤ s.2 ∧ s.2 ≤ 1000) (h' : 0 ≤ o.1 ∧ o.1 ≤ 1000 ∧ 0 ≤ o.2 ∧ o.2 ≤ 1000) :
    Calls Try.prog 70 #[pr s, pr o, .int .i64 wd] w fun e w' => e = .returned (.bool (apartB s o wd)) ∧ Aft w w' := by
  unfold pr
  obtain ⟨a1, a2, a3, a4⟩ := h
  obtain ⟨b1, b2, b3, b4⟩ := h'
  go_enter Try.func70, Try.ntmps70
  go_wp2
  all_goals
    go_ret
    exact ⟨ret_bool (by unfold apartB; rw [decide_eq_decide]; omega), ((Aft.refl w).alloc _).alloc _⟩

set_option maxHeartbeats 400000 in
theorem sapart_any (s o : Int × Int) (wd : Int) (w : World) (h : 0 ≤ s.1 ∧ s.1 ≤ 1000 ∧ 0 ≤ s.2 ∧ s.2 ≤ 1000) (h' : 0 ≤ o.1 ∧ o.1 ≤ 1000 ∧ 0 ≤ o.2 ∧ o.2 ≤ 1000) :
    Calls Try.prog 69 #[pr s, pr o, .int .i64 wd] w fun e w' => e = .returned (.bool (apartB s o wd)) ∧ Aft w w' := by
  unfold pr
  obtain ⟨a1, a2, a3, a4⟩ := h
  obtain ⟨b1, b2, b3, b4⟩ := h'
  go_enter Try.func69, Try.ntmps69
  go_wp2
  all_goals
    go_ret
    exact ⟨ret_bool (by unfold apartB; rw [decide_eq_decide]; omega), ((Aft.refl w).alloc _).alloc _⟩

end Go.Proofs.Ytokdclbfjlnnjaa
