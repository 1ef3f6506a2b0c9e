/- The walks of fewest and of SheetsFewest. -/
import Derived.Test.YtokdclbfjlnnjaaFew
import Derived.Test.YtokdclbfjlnnjaaL6
namespace Go.Proofs.Ytokdclbfjlnnjaa
open Go.RowKit Go.BigFrame

set_option maxRecDepth 100000 in
set_option maxHeartbeats 4000000 in
/-- Where many + 1 spans are apart, so many windows do not serve. -/
theorem fewest_any (wd : Int) (hwd : 1 ≤ wd ∧ wd ≤ 1000) : ∀ (k : Nat) (l : List (Int × Int)) (v : Value) (w : World), Prs w v l → Small l → Packs l wd (k + 1) → l.length ≤ 10 → k ≤ 10 →
    Calls Try.prog 26 #[v, .int .i64 wd, .int .i64 k] w fun e w' => e = .returned (.bool false) ∧ Aft w w' := by
  obtain ⟨wd1, wd2⟩ := hwd
  intro k
  induction k with
  | zero =>
    intro l v w hl hsm hpk hlen hk
    have Hsm := hid hsm; clear hsm
    have Hpk := hid hpk; clear hpk
    have hne : 0 < l.length := by
      obtain ⟨P, h1, _, h3⟩ := Hpk.out
      match P, h1, h3 with
      | p :: _, _, h3 => exact List.length_pos_of_mem (h3 p (by simp))
    obtain ⟨a, c, rfl, hl⟩ := hl
    rw [show ((0 : Nat) : Int) = 0 from rfl]
    go_enter Try.func26, Try.ntmps26
    go_wp2
    go_loopw [7, 8] (fun f i wr => ∃ (k : Nat) (p : Int), k ≤ l.length ∧ i = .int .i64 k ∧ f = .int .i64 p ∧ -1 ≤ p ∧ p < l.length ∧ (0 < k → 0 ≤ p) ∧ Aft w wr) (fun _ i _ => l.length - (intOf i).toNat)
    case atStart => exact ⟨0, -1, by omega, rfl, rfl, by omega, by omega, by omega, Aft.refl _⟩
    case round =>
      obtain ⟨k, p, hkl, rfl, rfl, hp1, hp2, hp3, hw⟩ := hrel
      by_cases hlt : k < l.length
      · obtain ⟨b, off, x, y, rfl, hc1, hc2, hb, hx, _, _, _, _⟩ := hl.rd.pair hl.ok hlt
        clear hp3
        rcases Int.lt_or_le p 0 with hneg | hnn
        · obtain rfl : p = -1 := by omega
          go_wp2
          refine wp_region_lat w hw (by kernel_rfl) (by kernel_rfl) ?_
          repeat (go_big_quiet_step (fail))
          refine wpQuiet_nil ?_
          intro _ hw'; obtain ⟨z, rfl⟩ := hw'
          go_wp2
          go_roundw
          case rel => exact ⟨k + 1, k, by omega, by go_num, rfl, by omega, by omega, by omega, z.aft⟩
          case measure => simp [intOf] <;> omega
        · obtain ⟨q, rfl⟩ := Int.eq_ofNat_of_zero_le hnn
          have hd : decide ((q : Int) < 0) = false := by rw [decide_eq_false_iff_not]; omega
          obtain ⟨x2, y2, hc3, hc4, hx2, _⟩ := hl.rd.pair_at hl.ok (show q < l.length by omega)
          cases hcmp : decide (x < x2)
          · go_wp2
            refine wp_region_lat w hw (by kernel_rfl) (by kernel_rfl) ?_
            repeat (go_big_quiet_step (fail))
            refine wpQuiet_nil ?_
            intro _ hw'; obtain ⟨z, rfl⟩ := hw'
            go_wp2
            go_roundw
            case rel => exact ⟨k + 1, q, by omega, by go_num, rfl, by omega, by omega, by omega, z.aft⟩
            case measure => simp [intOf] <;> omega
          · go_wp2
            refine wp_region_lat w hw (by kernel_rfl) (by kernel_rfl) ?_
            repeat (go_big_quiet_step (fail))
            refine wpQuiet_nil ?_
            intro _ hw'; obtain ⟨z, rfl⟩ := hw'
            go_wp2
            go_roundw
            case rel => exact ⟨k + 1, k, by omega, by go_num, rfl, by omega, by omega, by omega, z.aft⟩
            case measure => simp [intOf] <;> omega
      · have hp0 := hp3 (by omega)
        obtain ⟨q, rfl⟩ := Int.eq_ofNat_of_zero_le hp0
        clear hp3 hp1
        go_wp2
        go_ret
        exact ⟨rfl, hw⟩
  | succ m ih =>
    intro l v w hl hsm hpk hlen hk
    have Ih := hid ih; clear ih
    have Hsm := hid hsm; clear hsm
    have Hpk := hid hpk; clear hpk
    have hne : 0 < l.length := by
      obtain ⟨P, h1, _, h3⟩ := Hpk.out
      match P, h1, h3 with
      | p :: _, _, h3 => exact List.length_pos_of_mem (h3 p (by simp))
    obtain ⟨a, c, rfl, hl⟩ := hl
    have hm0 : ((m : Int) + 1 == 0) = false := by rw [beq_eq_false_iff_ne]; omega
    go_enter Try.func26, Try.ntmps26
    go_wp2
    go_loopw [7, 8] (fun f i wr => ∃ (k : Nat) (p : Int), k ≤ l.length ∧ i = .int .i64 k ∧ f = .int .i64 p ∧ -1 ≤ p ∧ p < l.length ∧ (0 < k → 0 ≤ p) ∧ Aft w wr) (fun _ i _ => l.length - (intOf i).toNat)
    case atStart => exact ⟨0, -1, by omega, rfl, rfl, by omega, by omega, by omega, Aft.refl _⟩
    case round =>
      obtain ⟨k, p, hkl, rfl, rfl, hp1, hp2, hp3, hw⟩ := hrel
      by_cases hlt : k < l.length
      · obtain ⟨b, off, x, y, rfl, hc1, hc2, hb, hx, _, _, _, _⟩ := hl.rd.pair hl.ok hlt
        clear hp3
        rcases Int.lt_or_le p 0 with hneg | hnn
        · obtain rfl : p = -1 := by omega
          go_wp2
          refine wp_region_lat w hw (by kernel_rfl) (by kernel_rfl) ?_
          repeat (go_big_quiet_step (fail))
          refine wpQuiet_nil ?_
          intro _ hw'; obtain ⟨z, rfl⟩ := hw'
          go_wp2
          go_roundw
          case rel => exact ⟨k + 1, k, by omega, by go_num, rfl, by omega, by omega, by omega, z.aft⟩
          case measure => simp [intOf] <;> omega
        · obtain ⟨q, rfl⟩ := Int.eq_ofNat_of_zero_le hnn
          have hd : decide ((q : Int) < 0) = false := by rw [decide_eq_false_iff_not]; omega
          obtain ⟨x2, y2, hc3, hc4, hx2, _⟩ := hl.rd.pair_at hl.ok (show q < l.length by omega)
          cases hcmp : decide (x < x2)
          · go_wp2
            refine wp_region_lat w hw (by kernel_rfl) (by kernel_rfl) ?_
            repeat (go_big_quiet_step (fail))
            refine wpQuiet_nil ?_
            intro _ hw'; obtain ⟨z, rfl⟩ := hw'
            go_wp2
            go_roundw
            case rel => exact ⟨k + 1, q, by omega, by go_num, rfl, by omega, by omega, by omega, z.aft⟩
            case measure => simp [intOf] <;> omega
          · go_wp2
            refine wp_region_lat w hw (by kernel_rfl) (by kernel_rfl) ?_
            repeat (go_big_quiet_step (fail))
            refine wpQuiet_nil ?_
            intro _ hw'; obtain ⟨z, rfl⟩ := hw'
            go_wp2
            go_roundw
            case rel => exact ⟨k + 1, k, by omega, by go_num, rfl, by omega, by omega, by omega, z.aft⟩
            case measure => simp [intOf] <;> omega
      · have hp0 := hp3 (by omega)
        obtain ⟨q, rfl⟩ := Int.eq_ofNat_of_zero_le hp0
        have hq : q < l.length := by omega
        obtain ⟨b, off, x, y, rfl, hc1', hc2', hb, hx, _, _, _, _⟩ := (hl.aft hw).rd.pair hl.ok hq
        obtain ⟨s1, s2, s3⟩ := Hsm.out _ (List.mem_of_getElem? hx.out)
        simp only [] at s1 s2 s3
        clear hp3 hp1 hp0
        have em : ((m + 1 : Nat) : Int) = (m : Int) + 1 := by omega
        rw [em]
        clear em
        have Hx := hid hx.out; clear hx
        rcases Int.lt_or_le (y - wd) 0 with hmx | hmx
        all_goals
          go_wp2
          go_loopw [9, 10, 11] (fun uv _ _ w2 => ∃ u : Int, 0 ≤ u ∧ u ≤ 1000 ∧ uv = .int .i64 u ∧ Aft w w2) (fun uv _ _ _ => (x + 1 - intOf uv).toNat)
          case atStart => exact ⟨_, by omega, by omega, rfl, hw⟩
          case round =>
            clear hc1' hc2' hb hw
            obtain ⟨u, hu1, hu2, rfl, hw⟩ := hrel
            obtain ⟨wo, hwo⟩ : ∃ wo : World, wo = wr := ⟨_, rfl⟩
            have hlo := hl.aft hw
            obtain ⟨x', y', hc1, hc2, hx', _⟩ := hlo.rd.pair_at hlo.ok hq
            obtain ⟨rfl, rfl⟩ : x' = x ∧ y' = y := by
              have h1 := hx'.out
              rw [Hx.out] at h1
              simp only [Option.some.injEq, Prod.mk.injEq] at h1
              exact ⟨h1.1.symm, h1.2.symm⟩
            by_cases hux : u ≤ x'
            · go_wp2
              subst hwo
              go_loopw [10, 11] (fun rv i w3 => ∃ k : Nat, k ≤ l.length ∧ i = .int .i64 k ∧ w3.ownsRow wo.heap.size 41 2 rv ((l.take k).filter fun p => !inB p u wd).length (prs ((l.take k).filter fun p => !inB p u wd)) ∧ Aft wo w3) (fun _ i _ => l.length - (intOf i).toNat)
              case atStart => exact ⟨0, by omega, rfl, World.ownsRow_nil _ _ _ _, Aft.refl _⟩
              case round =>
                obtain ⟨k, hk3, rfl, hown, hw3⟩ := hrel
                by_cases hlt3 : k < l.length
                · obtain ⟨x3, y3, hc3, hc4, hx3, _⟩ := (hlo.aft hw3).rd.pair_at hlo.ok hlt3
                  obtain ⟨t1, t2, t3⟩ := Hsm.out _ (List.mem_of_getElem? hx3.out)
                  simp only [] at t1 t2 t3
                  have hb3 := World.block_lt_of_cell? wr _ hc3
                  simp only [] at hb3
                  have Htk := hid (take_snoc hx3.out)
                  have hfl : ((l.take k).filter fun p => !inB p u wd).length ≤ 10 := by
                    have := List.length_filter_le (fun p => !inB p u wd) (l.take k)
                    rw [List.length_take] at this; omega
                  cases hin : inB (x3, y3) u wd
                  · go_wp2_with (first
                      | (go_at_call 71; refine (in_any (x3, y3) u wd _ (by omega) (by omega)).mono ?_; rintro e w4 ⟨rfl, hw4⟩; have hown4 := ownsRow_aft hown hw4; have hw34 := hw3.trans hw4; have hc5 := hw4.cell (b := b) (o := off + k * 2) hb3; have hc6 := hw4.cell (b := b) (o := off + k * 2 + 1) hb3; rw [hc3] at hc5; rw [hc4] at hc6)
                      | (at_builtin; refine wpList_app _ rfl _ _ 23 rfl wo.heap.size 41 (.agg #[.int .i64 0, .int .i64 0]) 2 16 Try.underlying23 Try.info41 rfl (by decide) _ _ _ rfl (hown4.alloc _) (some ⟨w4.heap.size, 0, none⟩) 1 1 (prs [(x3, y3)]) rfl (fun h => by cases h) rfl Rd.new (prs_one _) (by unfold maxLen; omega) (by omega) (by have := hw34.size; simp; omega) ?_; intro v5 w5 hown5 hgrow _))
                    have hw5 := (hw34.alloc _).grown hgrow (fun j hj => (hown4.lt j hj).1)
                    go_roundw
                    case rel =>
                      refine ⟨k + 1, by omega, by go_num, ?_, hw5⟩
                      rw [Htk.out, List.filter_append]
                      simp only [List.filter_cons, hin, Bool.not_false, if_true, List.filter_nil, List.length_append, List.length_singleton, prs_append]
                      exact hown5
                    case measure => simp [intOf] <;> omega
                  · go_wp2_with (go_at_call 71; refine (in_any (x3, y3) u wd _ (by omega) (by omega)).mono ?_; rintro e w4 ⟨rfl, hw4⟩; have hown4 := ownsRow_aft hown hw4; have hw34 := hw3.trans hw4; have hc5 := hw4.cell (b := b) (o := off + k * 2) hb3; have hc6 := hw4.cell (b := b) (o := off + k * 2 + 1) hb3; rw [hc3] at hc5; rw [hc4] at hc6)
                    go_roundw
                    case rel =>
                      refine ⟨k + 1, by omega, by go_num, ?_, hw34⟩
                      rw [Htk.out, List.filter_append]
                      simp only [List.filter_cons, hin, Bool.not_true, Bool.false_eq_true, if_false, List.filter_nil, List.append_nil]
                      exact hown4
                    case measure => simp [intOf] <;> omega
                · obtain rfl : k = l.length := by omega
                  rw [List.take_of_length_le (Nat.le_refl _)] at hown
                  have hRp := hid (packs_rest Hpk.out u)
                  have hRs : Small (l.filter fun p => !inB p u wd) := fun p hp => Hsm.out p (List.mem_filter.1 hp).1
                  have hRs := hid hRs
                  have hRl : (l.filter fun p => !inB p u wd).length ≤ l.length := List.length_filter_le _ _
                  generalize (l.filter fun p => !inB p u wd) = R at *
                  have hR : Prs wr _ R := ownsRow_prs hown (small_ok hRs.out) (by omega)
                  have hR0 := hR
                  obtain ⟨ra, rc, rfl, hRa⟩ := hR
                  have hRn := hRa.le
                  clear hRa
                  have hw' := hw.trans hw3
                  have em1 : (m : Int) + 1 - 1 = m := by omega
                  cases hlen2 : decide (R.length < l.length)
                  · go_wp2
                    go_roundw
                    case rel => exact ⟨u + 1, by omega, by omega, rfl, hw'⟩
                    case measure => simp [intOf] <;> omega
                  · go_wp2_with fail
                    refine (Ih.out R _ _ hR0 hRs.out hRp.out (by omega) (by omega)).mono ?_
                    rintro e w6 ⟨rfl, hw6⟩
                    go_wp2
                    go_roundw
                    case rel => exact ⟨u + 1, by omega, by omega, rfl, hw'.trans hw6⟩
                    case measure => simp [intOf] <;> omega
            · go_wp2
              go_ret
              exact ⟨rfl, hw⟩

theorem prs_take (l : List (Int × Int)) (m : Nat) : prs (l.take m) = (prs l).take (m * 2) := by
  have h : prs l = prs (l.take m) ++ prs (l.drop m) := by rw [← prs_append, List.take_append_drop]
  have hl := prs_length (l.take m)
  rw [List.length_take] at hl
  rw [h]
  generalize hA : prs (l.take m) = A at *
  rcases Nat.lt_or_ge m l.length with hm | hm
  · rw [List.take_append_of_le_length (by omega), List.take_of_length_le (by omega)]
  · rw [List.drop_eq_nil_of_le hm, show prs [] = [] from rfl, List.append_nil, List.take_of_length_le (by omega)]
theorem Prs.pre {w : World} {a : Option Addr} {n c : Nat} {l : List (Int × Int)} (h : PrsAt w a n c l) (m : Nat) (hm : m ≤ n) : Prs w (.slice a m c) (l.take m) := by
  have e : (l.take m).length = m := by rw [List.length_take, ← h.len]; omega
  have := h.cap
  have := h.size
  exact ⟨a, c, by rw [e], rfl, by rw [prs_take]; exact h.rd.front _, fun x hx => h.ok x (List.mem_of_mem_take hx), by omega, h.nil, by omega⟩
theorem spans_thin (l : List Int) : ∀ p ∈ spansI l, p.2 - p.1 ≤ 20 := fun p hp => by
  obtain ⟨i, _, rfl⟩ := List.mem_map.1 hp
  have h2 := atI_lt l (2 * (i : Int) + 1) 21 (by omega)
  simp only []
  omega
theorem fits_thin {l : List (Int × Int)} {wd : Int} (hs : Small l) (ht : ∀ p ∈ l, p.2 - p.1 ≤ 20) (hn : l.length ≤ 64) (h1 : 20 ≤ wd) (h2 : wd ≤ 1000) : fitsE l wd = 0 := by
  have b1 : l.any badP = false := List.any_eq_false.2 fun p hp => by have := hs p hp; simp [badP]; omega
  have b2 : l.any (wideP wd) = false := List.any_eq_false.2 fun p hp => by have := ht p hp; simp [wideP]; omega
  unfold fitsE
  rw [if_neg (by omega), if_neg (by omega), b1, b2]
  rfl
theorem rSplit_code (l : List (Int × Int)) (wd : Int) : (rSplit l wd).2.2 = fitsE l wd := by
  unfold rSplit
  split
  · rename_i h; exact h.symm
  · rfl

set_option maxRecDepth 100000 in
set_option maxHeartbeats 4000000 in
theorem sfewest_any (v : Value) (l : List Int) (a1 : Int) (w : World) (hl : Ints w v l) (b1 : -9223372036854775808 ≤ a1 ∧ a1 ≤ 9223372036854775807) :
    Calls Try.prog 5 #[v, .int .i64 a1] w fun e w' => e = .returned (.bool true) ∧ Aft w w' := by
  obtain ⟨c1, c2⟩ := b1
  go_enter Try.func5, Try.ntmps5
  go_wp2_with fail
  refine (spans_any v l w hl).mono ?_
  rintro e w1 ⟨vx, rfl, hx, hw1⟩
  have hX := spans_prs hx
  have hsm := hid (spans_small l)
  have hth := hid (spans_thin l)
  have hlen : (spansI l).length ≤ 10 := by rw [spansI_length]; omega
  generalize spansI l = X at *
  clear hx
  obtain ⟨ax, cx, rfl, hX⟩ := hX
  have hcap := hX.cap
  obtain ⟨w0, w9⟩ := aroundI_lt a1 8 (by omega)
  obtain ⟨Y, m, hm, hY, hYs, hYt, hYl⟩ : ∃ (Y : List (Int × Int)) (m : Nat), (m = 6 ∧ 6 < X.length ∨ m = X.length ∧ X.length ≤ 6) ∧ Prs w1 (.slice ax m cx) Y ∧ Small Y ∧ (∀ p ∈ Y, p.2 - p.1 ≤ 20) ∧ Y.length ≤ 10 := by
    rcases Nat.lt_or_ge 6 X.length with h6 | h6
    · exact ⟨X.take 6, 6, .inl ⟨rfl, h6⟩, Prs.pre hX 6 (by omega), fun p hp => hsm.out p (List.mem_of_mem_take hp), fun p hp => hth.out p (List.mem_of_mem_take hp), by rw [List.length_take]; omega⟩
    · exact ⟨X, X.length, .inr ⟨rfl, h6⟩, ⟨ax, cx, rfl, hX⟩, hsm.out, hth.out, hlen⟩
  have HYs := hid hYs; clear hYs
  have HYt := hid hYt; clear hYt
  have Hfit : Hid (fitsE Y (20 + aroundI a1 8) = 0) := hid (fits_thin HYs.out HYt.out (by omega) (by omega) (by omega))
  rcases hm with ⟨rfl, h6⟩ | ⟨rfl, h6⟩
  all_goals
    go_wp2_with fail
    refine (around_any a1 8 w1 c1 c2).mono ?_
    rintro e w' ⟨rfl, rfl⟩
    generalize aroundI a1 8 = wd0 at *
    go_wp2_with fail
    refine (split_any _ Y (20 + wd0) _ hY).mono ?_
    rintro e w3 ⟨va, vp, rfl, ha, hp, hw3⟩
    have hR := hid (split_right Hfit.out)
    have hce : (rSplit Y (20 + wd0)).2.2 = 0 := by rw [rSplit_code]; exact Hfit.out
    have hpk := hid (packs_of hR.out.2)
    have hw13 := hw1.trans hw3
    replace hY := hY.aft hw3
    generalize rSplit Y (20 + wd0) = r at *
    obtain ⟨at_, pins, E⟩ := r
    simp only [] at ha hp hce
    subst hce
    have hchk := hid (checkE_right Hfit.out hR.out.2)
    have ha0 := ha
    have hp0 := hp
    obtain ⟨aa, ca, rfl, ha⟩ := ha
    obtain ⟨ap, cp, rfl, hp⟩ := hp
    have hla := ha.le
    have hck := check_any _ _ _ Y (20 + wd0) at_ pins w3 hY ha0 hp0
    simp only [] at hchk
    rw [hchk.out] at hck
    clear hchk hR
    rcases Nat.eq_zero_or_pos at_.length with hz | hz
    · have e1 : ((at_.length : Int) == 0) = true := by rw [beq_iff_eq]; omega
      have Hz := hid hz; clear hz
      go_wp2_with fail
      refine hck.mono ?_
      clear hck
      rintro e w4 ⟨rfl, hw4⟩
      go_wp2_with (go_at_call 22; refine (lives_any _).mono ?_; rintro e w7 ⟨rfl, hw7⟩)
      go_ret
      exact ⟨rfl, (hw13.trans hw4).trans hw7⟩
    have e1 : ((at_.length : Int) == 0) = false := by rw [beq_eq_false_iff_ne]; omega
    rcases Nat.lt_or_ge 3 at_.length with h3 | h3
    · have e2 : decide ((3 : Int) < (at_.length : Int)) = true := by rw [decide_eq_true_eq]; omega
      go_wp2_with fail
      refine hck.mono ?_
      clear hck
      rintro e w4 ⟨rfl, hw4⟩
      go_wp2_with (go_at_call 22; refine (lives_any _).mono ?_; rintro e w7 ⟨rfl, hw7⟩)
      go_ret
      exact ⟨rfl, (hw13.trans hw4).trans hw7⟩
    · have e2 : decide ((3 : Int) < (at_.length : Int)) = false := by rw [decide_eq_false_iff_not]; omega
      obtain ⟨k, hk⟩ : ∃ k, k + 1 = at_.length := ⟨at_.length - 1, by omega⟩
      have e3 : (at_.length : Int) - 1 = (k : Int) := by omega
      have hpk' : Hid (Packs Y (20 + wd0) (k + 1)) := hid (by rw [hk]; exact hpk.out)
      clear hpk
      have Hk := hid hk; clear hk
      go_wp2_with fail
      refine hck.mono ?_
      clear hck
      rintro e w4 ⟨rfl, hw4⟩
      go_wp2_with fail
      refine (fewest_any (20 + wd0) (by omega) k Y _ w4 (hY.aft hw4) HYs.out hpk'.out hYl (by omega)).mono ?_
      rintro e w5 ⟨rfl, hw5⟩
      go_wp2_with (go_at_call 22; refine (lives_any _).mono ?_; rintro e w7 ⟨rfl, hw7⟩)
      go_ret
      exact ⟨rfl, ((hw13.trans hw4).trans hw5).trans hw7⟩
end Go.Proofs.Ytokdclbfjlnnjaa
