/- The contract of the program's Check: it returns what the reference's does. -/
import Derived.Test.YtokdclbfjlnnjaaS6
namespace Go.Proofs.Ytokdclbfjlnnjaa
open Go.RowKit Go.BigFrame

theorem pinOk_step {l : List (Int × Int)} {at_ pins : List Int} {q : Nat} (ht : ∀ i, i < q → pinOk l at_ pins i = true) (h : pinOk l at_ pins q = true) : ∀ i, i ≤ q → pinOk l at_ pins i = true := fun i hi => by
  rcases Nat.lt_or_ge i q with h1 | h1
  · exact ht i h1
  · obtain rfl : i = q := by omega
    exact h

set_option maxRecDepth 100000 in
set_option maxHeartbeats 4000000 in
theorem check_any (v v1 v2 : Value) (l : List (Int × Int)) (wd : Int) (at_ pins : List Int) (w : World) (hl : Prs w v l) (hat : Ints w v1 at_) (hpin : Ints w v2 pins) :
    Calls Try.prog 24 #[v, .int .i64 wd, v1, v2] w fun e w' => e = .returned (.int .i64 (checkE l wd at_ pins)) ∧ Aft w w' := by
  by_cases hf : fitsE l wd = 0
  · obtain ⟨f1, f2, f3, f4, f5⟩ := fits_ok hf
    have F4 := hid f4; clear f4
    clear f5
    have hf0 : (fitsE l wd != 0) = false := by simp [hf]
    have Hf := hid hf; clear hf
    have hl0 := hl
    have hat0 := hat
    have hpin0 := hpin
    obtain ⟨a, c, rfl, hl⟩ := hl
    obtain ⟨a1, c1, rfl, hat⟩ := hat
    obtain ⟨a2, c2, rfl, hpin⟩ := hpin
    have hn := hl.le
    have hn1 := hat.le
    have hn2 := hpin.le
    have hcap := hpin.cap
    by_cases hle : at_.length = pins.length
    · have hle' : ((at_.length : Int) != (pins.length : Int)) = false := by simp [hle]
      have Hle := hid hle; clear hle
      go_enter Try.func24, Try.ntmps24
      go_wp2_with (go_at_call 64; refine (fits_any _ l wd _ hl0).mono ?_; rintro e w1 ⟨rfl, hw1⟩)
      refine (covered_any _ _ l at_ wd _ (hl0.aft hw1) (hat0.aft hw1)).mono ?_
      rintro e w2 ⟨rfl, hw2⟩
      have hw := hw1.trans hw2
      cases hcov : l.all fun s => covW s at_ wd
      · go_wp2
        go_ret
        refine ⟨ret_int (checkE_wrong Hf.out fun h => ?_).symm, hw⟩
        have := List.all_eq_true.2 h.2.1
        rw [this] at hcov; cases hcov
      · have Hcov := hid (List.all_eq_true.1 hcov); clear hcov
        go_wp2
        go_loopw [34, 10, 11] (fun i _ _ wr => ∃ k : Nat, k ≤ pins.length ∧ i = .int .i64 k ∧ Hid (∀ j, j < k → pinOk l at_ pins j = true) ∧ Hid (∀ i, i < k → ∀ j, j < i → apOk l wd pins i j = true) ∧ Aft w wr) (fun i _ _ _ => pins.length - (intOf i).toNat)
        case atStart => exact ⟨0, by omega, rfl, fun j hj => by omega, fun j hj => by omega, hw⟩
        case round =>
          clear hw
          obtain ⟨q, hq, rfl, htp, ht, hw⟩ := hrel
          by_cases hlq : q < pins.length
          · obtain ⟨b2, o2, p, rfl, hcp, hbp, hp, hp1, hp2⟩ := hpin.rd.int hpin.ok hlq
            have hcpr : wr.cell? ⟨b2, o2 + q, none⟩ = some (.int .i64 p) := by rw [hw.cell hbp]; exact hcp
            have Hp : Hid (pins.getD q 0 = p) := hid (getD_of hp.out)
            rcases Int.lt_or_le p 0 with hneg | hnn
            · have d1 : decide (p < 0) = true := by simpa using hneg
              go_wp2
              refine wp_region_lat w hw (by kernel_rfl) (by kernel_rfl) ?_
              repeat (go_big_quiet_step (fail))
              refine wpQuiet_nil ?_
              intro _ hw'; obtain ⟨z, rfl⟩ := hw'
              go_wp2
              go_ret
              exact ⟨ret_int (checkE_wrong Hf.out fun h => by have := pinOk_lt (h.2.2.1 q hlq); rw [Hp.out] at this; omega).symm, z.aft⟩
            have d1 : decide (p < 0) = false := by simp; omega
            rcases Int.lt_or_le p l.length with hpl | hpl
            · have d2 : decide ((l.length : Int) ≤ p) = false := by simp; omega
              obtain ⟨pn, rfl⟩ := Int.eq_ofNat_of_zero_le hnn
              have d2' : decide (l.length ≤ pn) = false := by rw [decide_eq_false_iff_not]; omega
              rcases Nat.eq_zero_or_pos q with rfl | hqp
              · have Hpq := hid (pinOk_step htp.out (show pinOk l at_ pins 0 = true by unfold pinOk; rw [Hp.out]; simp; omega))
                have e0 : ((0 : Nat) : Int) = 0 := rfl
                have hcp0 : wr.cell? ⟨b2, o2, none⟩ = some (.int .i64 pn) := hcpr
                rw [e0]
                clear e0
                go_wp2
                refine wp_region_lat w hw (by kernel_rfl) (by kernel_rfl) ?_
                repeat (go_big_quiet_step (fail))
                refine wpQuiet_nil ?_
                intro _ hw'; obtain ⟨z, rfl⟩ := hw'
                go_wp2
                go_loopw [67, 13] (fun i _ w3 => i = .int .i64 0 ∧ Aft w w3) (fun _ _ _ => 0)
                case atStart => exact ⟨rfl, z.aft⟩
                case round =>
                  clear hw
                  obtain ⟨rfl, hw⟩ := hrel
                  go_wp2
                  go_roundw
                  case rel => exact ⟨0 + 1, by omega, by go_num, hid fun i hi => Hpq.out i (by omega), hid fun i hi i3 h3 => by omega, hw⟩
                  case measure => simp [intOf] <;> omega
              · obtain ⟨j, rfl⟩ : ∃ j, q = j + 1 := ⟨q - 1, by omega⟩
                have hlj : j + 1 < at_.length := by rw [Hle.out]; exact hlq
                obtain ⟨b1, o1, x1, rfl, hc1, hb1, hx1, hx1a, hx1b⟩ := hat.rd.int hat.ok hlj
                obtain ⟨x0, hc0, hx0, hx0a, hx0b⟩ := hat.rd.int_at hat.ok (show j < at_.length by omega)
                have ej : ((j + 1 : Nat) : Int) = (j : Int) + 1 := by omega
                rw [ej]
                have d3 : decide ((0 : Int) < (j : Int) + 1) = true := by rw [decide_eq_true_eq]; omega
                clear ej
                cases hcmp : decide (x1 ≤ x0)
                · have Hpq := hid (pinOk_step htp.out (show pinOk l at_ pins (j + 1) = true by
                    unfold pinOk
                    rw [Hp.out, getD_of hx1.out, Nat.add_sub_cancel, getD_of hx0.out]
                    simp at hcmp
                    simp [hcmp]; omega))
                  go_wp2
                  refine wp_region_lat w hw (by kernel_rfl) (by kernel_rfl) ?_
                  repeat (go_big_quiet_step (fail))
                  refine wpQuiet_nil ?_
                  intro _ hw'; obtain ⟨z, rfl⟩ := hw'
                  go_wp2
                  go_loopw [67, 13] (fun i _ w3 => ∃ k : Nat, k ≤ (j + 1) ∧ i = .int .i64 k ∧ Hid (∀ i3, i3 < k → apOk l wd pins (j + 1) i3 = true) ∧ Aft w w3) (fun i _ _ => (j + 1) - (intOf i).toNat)
                  case atStart => exact ⟨0, by omega, rfl, fun i3 h3 => by omega, z.aft⟩
                  case round =>
                    clear hw
                    obtain ⟨n2, hn2, rfl, ht2, hw⟩ := hrel
                    by_cases hl2 : n2 < (j + 1)
                    · obtain ⟨p', hcp', hp', _, _⟩ := hpin.rd.int_at hpin.ok (show n2 < pins.length by omega)
                      have Hp' : Hid (pins.getD n2 0 = p') := hid (getD_of hp'.out)
                      obtain ⟨hp1', hp2'⟩ := Hp'.out ▸ pinOk_lt (Hpq.out n2 (by omega))
                      obtain ⟨pm, rfl⟩ := Int.eq_ofNat_of_zero_le hp1'
                      have hpnl : pn < l.length := by omega
                      have hpml : pm < l.length := by omega
                      obtain ⟨b, off, x, y, rfl, hc1, hc2, hb, hx, _, _, _, _⟩ := hl.rd.pair hl.ok hpnl
                      obtain ⟨x', y', hc1', hc2', hx', _⟩ := hl.rd.pair_at hl.ok hpml
                      have hg := bad_of F4.out hx.out
                      have hg' := bad_of F4.out hx'.out
                      have Hap : Hid (apOk l wd pins (j + 1) n2 = apartB (x, y) (x', y') wd) := hid (by unfold apOk; rw [Hp.out, Hp'.out, Int.toNat_natCast, Int.toNat_natCast, getD_of hx.out, getD_of hx'.out])
                      have hcp2 : ∀ W, Aft w W → W.cell? ⟨b2, o2 + n2, none⟩ = some (.int .i64 pm) := fun W hW => by rw [hW.cell hbp]; exact hcp'
                      have hcp3 := hcp2 _ hw
                      clear hcp2
                      cases hap : apartB (x, y) (x', y') wd
                      all_goals
                        go_wp2
                        refine wp_region_lat w hw (by kernel_rfl) (by kernel_rfl) ?_
                        repeat (go_big_quiet_step ((go_at_call 69; exact Calls.lat (hap ▸ sapart_any (x, y) (x', y') wd _ (by simp; omega) (by simp; omega)))))
                        refine wpQuiet_nil ?_
                        intro _ hw'; obtain ⟨z2, rfl⟩ := hw'
                        go_wp2
                      · go_ret
                        refine ⟨ret_int (checkE_wrong Hf.out fun h => ?_).symm, z2.aft⟩
                        have := h.2.2.2 (j + 1) hlq n2 hl2
                        rw [Hap.out, hap] at this; cases this
                      · go_roundw
                        case rel =>
                          refine ⟨n2 + 1, by omega, by go_num, hid fun i3 h3 => ?_, z2.aft⟩
                          rcases Nat.lt_or_ge i3 n2 with h | h
                          · exact ht2.out i3 h
                          · obtain rfl : i3 = n2 := by omega
                            rw [Hap.out, hap]
                        case measure => simp [intOf] <;> omega
                    · obtain rfl : n2 = (j + 1) := by omega
                      go_wp2
                      go_roundw
                      case rel =>
                        refine ⟨(j + 1) + 1, by omega, by go_num, hid fun i hi => ?_, hid fun i hi i3 h3 => ?_, hw⟩
                        · exact Hpq.out i (by omega)
                        · rcases Nat.lt_or_ge i ((j + 1)) with h | h
                          · exact ht.out i h i3 h3
                          · obtain rfl : i = (j + 1) := by omega
                            exact ht2.out i3 h3
                      case measure => simp [intOf] <;> omega
                · go_wp2
                  refine wp_region_lat w hw (by kernel_rfl) (by kernel_rfl) ?_
                  repeat (go_big_quiet_step (fail))
                  refine wpQuiet_nil ?_
                  intro _ hw'; obtain ⟨z, rfl⟩ := hw'
                  go_wp2
                  go_ret
                  refine ⟨ret_int (checkE_wrong Hf.out fun h => ?_).symm, z.aft⟩
                  have := h.2.2.1 (j + 1) hlq
                  unfold pinOk at this
                  rw [Hp.out, getD_of hx1.out, Nat.add_sub_cancel, getD_of hx0.out] at this
                  simp at hcmp this
                  omega
            · have d2 : decide ((l.length : Int) ≤ p) = true := by simpa using hpl
              go_wp2
              refine wp_region_lat w hw (by kernel_rfl) (by kernel_rfl) ?_
              repeat (go_big_quiet_step (fail))
              refine wpQuiet_nil ?_
              intro _ hw'; obtain ⟨z, rfl⟩ := hw'
              go_wp2
              go_ret
              exact ⟨ret_int (checkE_wrong Hf.out fun h => by have := pinOk_lt (h.2.2.1 q hlq); rw [Hp.out] at this; omega).symm, z.aft⟩
          · go_wp2
            go_ret
            exact ⟨ret_int (checkE_right Hf.out ⟨Hle.out, Hcov.out, fun i hi => htp.out i (by omega), fun i hi j hj => ht.out i (by omega) j hj⟩).symm, hw⟩
    · have hle' : ((at_.length : Int) != (pins.length : Int)) = true := by simp; omega
      go_enter Try.func24, Try.ntmps24
      go_wp2_with (go_at_call 64; refine (fits_any _ l wd _ hl0).mono ?_; rintro e w1 ⟨rfl, hw1⟩)
      go_ret
      exact ⟨ret_int (checkE_wrong Hf.out fun h => hle h.1).symm, hw1⟩
  · have hf0 : (fitsE l wd != 0) = true := by simp [hf]
    rw [checkE_fits hf]
    clear hf
    go_enter Try.func24, Try.ntmps24
    go_wp2_with (go_at_call 64; refine (fits_any _ l wd _ hl).mono ?_; rintro e w1 ⟨rfl, hw1⟩)
    go_ret
    exact ⟨rfl, hw1⟩
end Go.Proofs.Ytokdclbfjlnnjaa
