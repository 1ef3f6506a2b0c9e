/- The contract of the reference's Check. -/
import Derived.Test.YtokdclbfjlnnjaaS5
namespace Go.Proofs.Ytokdclbfjlnnjaa
open Go.RowKit Go.BigFrame

def pinOk (l : List (Int × Int)) (at_ pins : List Int) (i : Nat) : Bool :=
  decide (0 ≤ pins.getD i 0) && decide (pins.getD i 0 < l.length) && (decide (i = 0) || decide (at_.getD (i - 1) 0 < at_.getD i 0))
def apOk (l : List (Int × Int)) (wd : Int) (pins : List Int) (i k : Nat) : Bool := apartB (l.getD (pins.getD i 0).toNat (0, 0)) (l.getD (pins.getD k 0).toNat (0, 0)) wd
def Right (l : List (Int × Int)) (wd : Int) (at_ pins : List Int) : Prop :=
  at_.length = pins.length ∧ (∀ s ∈ l, covW s at_ wd = true) ∧ (∀ i, i < pins.length → pinOk l at_ pins i = true) ∧ (∀ i, i < pins.length → ∀ k, k < i → apOk l wd pins i k = true)
noncomputable def checkE (l : List (Int × Int)) (wd : Int) (at_ pins : List Int) : Int :=
  open Classical in if fitsE l wd ≠ 0 then fitsE l wd else if Right l wd at_ pins then 0 else 19
theorem checkE_fits {l : List (Int × Int)} {wd : Int} {at_ pins : List Int} (h : fitsE l wd ≠ 0) : checkE l wd at_ pins = fitsE l wd := by unfold checkE; rw [if_pos h]
theorem checkE_right {l : List (Int × Int)} {wd : Int} {at_ pins : List Int} (h : fitsE l wd = 0) (hr : Right l wd at_ pins) : checkE l wd at_ pins = 0 := by unfold checkE; rw [if_neg (by simp [h]), if_pos hr]
theorem checkE_wrong {l : List (Int × Int)} {wd : Int} {at_ pins : List Int} (h : fitsE l wd = 0) (hr : ¬ Right l wd at_ pins) : checkE l wd at_ pins = 19 := by unfold checkE; rw [if_neg (by simp [h]), if_neg hr]

theorem pinOk_lt {l : List (Int × Int)} {at_ pins : List Int} {i : Nat} (h : pinOk l at_ pins i = true) : 0 ≤ pins.getD i 0 ∧ pins.getD i 0 < l.length := by
  simp only [pinOk, Bool.and_eq_true, decide_eq_true_eq] at h
  exact h.1

set_option maxRecDepth 100000 in
set_option maxHeartbeats 4000000 in
theorem rcheck_any (v v1 v2 : Value) (l : List (Int × Int)) (wd : Int) (at_ pins : List Int) (w : World) (hl : Prs w v l) (hat : Ints w v1 at_) (hpin : Ints w v2 pins) :
    Calls Try.prog 25 #[v, .int .i64 wd, v1, v2] w fun e w' => e = .returned (.int .i64 (checkE l wd at_ pins)) ∧ Aft w w' := by
  by_cases hf : fitsE l wd = 0
  · obtain ⟨f1, f2, f3, f4, f5⟩ := fits_ok hf
    have F4 := hid f4; clear f4
    clear f5
    have hf0 : (fitsE l wd != 0) = false := by simp [hf]
    have Hf := hid hf; clear hf
    have hl0 := hl
    have hat0 := hat
    have hpin0 := hpin
    obtain ⟨a, c, rfl, hl⟩ := hl
    obtain ⟨a1, c1, rfl, hat⟩ := hat
    obtain ⟨a2, c2, rfl, hpin⟩ := hpin
    have hn := hl.le
    have hn1 := hat.le
    have hn2 := hpin.le
    by_cases hle : at_.length = pins.length
    · have hle' : ((at_.length : Int) != (pins.length : Int)) = false := by simp [hle]
      have Hle := hid hle; clear hle
      go_enter Try.func25, Try.ntmps25
      go_wp2_with (go_at_call 66; refine (rfits_any _ l wd _ hl0).mono ?_; rintro e w1 ⟨rfl, hw1⟩)
      go_loopw [10] (fun i wr => ∃ k : Nat, k ≤ l.length ∧ i = .int .i64 k ∧ Hid (∀ j x, j < k → l[j]? = some x → covW x at_ wd = true) ∧ Aft w wr) (fun i _ => l.length - (intOf i).toNat)
      case atStart => exact ⟨0, by omega, rfl, fun j x hj => by omega, hw1⟩
      case round =>
        obtain ⟨k, hk, rfl, ht, hw⟩ := hrel
        by_cases hlt : k < l.length
        · obtain ⟨b, off, x, y, rfl, hc1, hc2, hb, hx, _, _, _, _⟩ := (hl.aft hw).rd.pair hl.ok hlt
          cases hcv : covW (x, y) at_ wd
          · go_wp2_with (go_at_call 67; refine (covw_any (x, y) _ at_ wd _ (hat0.aft hw)).mono ?_; rintro e w2 ⟨rfl, hw2⟩)
            go_ret
            refine ⟨ret_int (checkE_wrong Hf.out fun h => ?_).symm, hw.trans hw2⟩
            have := h.2.1 _ (List.mem_of_getElem? hx.out)
            rw [this] at hcv; cases hcv
          · go_wp2_with (go_at_call 67; refine (covw_any (x, y) _ at_ wd _ (hat0.aft hw)).mono ?_; rintro e w2 ⟨rfl, hw2⟩)
            go_roundw
            case rel =>
              refine ⟨k + 1, by omega, by go_num, hid fun j z hj hz => ?_, hw.trans hw2⟩
              rcases Nat.lt_or_ge j k with h | h
              · exact ht.out j z h hz
              · obtain rfl : j = k := by omega
                rw [hx.out] at hz; cases hz; exact hcv
            case measure => simp [intOf] <;> omega
        · have hcov : ∀ s ∈ l, covW s at_ wd = true := fun s hs => by
            obtain ⟨j, hj, rfl⟩ := List.getElem_of_mem hs
            exact ht.out j _ (by omega) (List.getElem?_eq_getElem hj)
          have Hcov := hid hcov; clear hcov
          clear ht
          go_wp2
          go_loopw [11] (fun i wr => ∃ k : Nat, k ≤ pins.length ∧ i = .int .i64 k ∧ Hid (∀ j, j < k → pinOk l at_ pins j = true) ∧ Aft w wr) (fun i _ => pins.length - (intOf i).toNat)
          case atStart => exact ⟨0, by omega, rfl, fun j hj => by omega, hw⟩
          case round =>
            clear hw
            obtain ⟨q, hq, rfl, ht, hw⟩ := hrel
            by_cases hlq : q < pins.length
            · obtain ⟨b2, o2, p, rfl, hcp, hbp, hp, hp1, hp2⟩ := hpin.rd.int hpin.ok hlq
              have Hp : Hid (pins.getD q 0 = p) := hid (getD_of hp.out)
              rcases Int.lt_or_le p 0 with hneg | hnn
              · have d1 : decide (p < 0) = true := by simpa using hneg
                go_wp2
                refine wp_region_lat w hw (by kernel_rfl) (by kernel_rfl) ?_
                repeat (go_big_quiet_step (fail))
                refine wpQuiet_nil ?_
                intro _ hw'; obtain ⟨z, rfl⟩ := hw'
                go_wp2
                go_ret
                exact ⟨ret_int (checkE_wrong Hf.out fun h => by have := pinOk_lt (h.2.2.1 q hlq); rw [Hp.out] at this; omega).symm, z.aft⟩
              have d1 : decide (p < 0) = false := by simp; omega
              rcases Int.lt_or_le p l.length with hpl | hpl
              · have d2 : decide ((l.length : Int) ≤ p) = false := by simp; omega
                have hok : 0 ≤ p ∧ p < l.length := ⟨hnn, hpl⟩
                rcases Nat.eq_zero_or_pos q with rfl | hqp
                · have e0 : ((0 : Nat) : Int) = 0 := rfl
                  have hcp0 : w.cell? ⟨b2, o2, none⟩ = some (.int .i64 p) := hcp
                  rw [e0]
                  clear e0
                  go_wp2
                  refine wp_region_lat w hw (by kernel_rfl) (by kernel_rfl) ?_
                  repeat (go_big_quiet_step (fail))
                  refine wpQuiet_nil ?_
                  intro _ hw'; obtain ⟨z, rfl⟩ := hw'
                  go_wp2
                  go_roundw
                  case rel =>
                    refine ⟨0 + 1, by omega, by go_num, hid fun j hj => ?_, z.aft⟩
                    obtain rfl : j = 0 := by omega
                    unfold pinOk
                    rw [Hp.out]
                    simp [hnn, hpl]
                  case measure => simp [intOf] <;> omega
                · obtain ⟨j, rfl⟩ : ∃ j, q = j + 1 := ⟨q - 1, by omega⟩
                  have hlj : j + 1 < at_.length := by rw [Hle.out]; exact hlq
                  obtain ⟨b1, o1, x1, rfl, hc1, hb1, hx1, hx1a, hx1b⟩ := hat.rd.int hat.ok hlj
                  obtain ⟨x0, hc0, hx0, hx0a, hx0b⟩ := hat.rd.int_at hat.ok (show j < at_.length by omega)
                  have ej : ((j + 1 : Nat) : Int) = (j : Int) + 1 := by omega
                  rw [ej]
                  clear ej
                  have d3 : decide ((0 : Int) < (j : Int) + 1) = true := by rw [decide_eq_true_eq]; omega
                  cases hcmp : decide (x1 ≤ x0)
                  · go_wp2
                    refine wp_region_lat w hw (by kernel_rfl) (by kernel_rfl) ?_
                    repeat (go_big_quiet_step (fail))
                    refine wpQuiet_nil ?_
                    intro _ hw'; obtain ⟨z, rfl⟩ := hw'
                    go_wp2
                    go_roundw
                    case rel =>
                      refine ⟨j + 1 + 1, by omega, by go_num, hid fun i hi => ?_, z.aft⟩
                      rcases Nat.lt_or_ge i (j + 1) with h | h
                      · exact ht.out i h
                      · obtain rfl : i = j + 1 := by omega
                        unfold pinOk
                        rw [Hp.out, getD_of hx1.out, Nat.add_sub_cancel, getD_of hx0.out]
                        simp at hcmp
                        simp [hnn, hpl, hcmp]
                    case measure => simp [intOf] <;> omega
                  · go_wp2
                    refine wp_region_lat w hw (by kernel_rfl) (by kernel_rfl) ?_
                    repeat (go_big_quiet_step (fail))
                    refine wpQuiet_nil ?_
                    intro _ hw'; obtain ⟨z, rfl⟩ := hw'
                    go_wp2
                    go_ret
                    refine ⟨ret_int (checkE_wrong Hf.out fun h => ?_).symm, z.aft⟩
                    have := h.2.2.1 (j + 1) hlq
                    unfold pinOk at this
                    rw [Hp.out, getD_of hx1.out, Nat.add_sub_cancel, getD_of hx0.out] at this
                    simp at hcmp this
                    omega
              · have d2 : decide ((l.length : Int) ≤ p) = true := by simpa using hpl
                go_wp2
                refine wp_region_lat w hw (by kernel_rfl) (by kernel_rfl) ?_
                repeat (go_big_quiet_step (fail))
                refine wpQuiet_nil ?_
                intro _ hw'; obtain ⟨z, rfl⟩ := hw'
                go_wp2
                go_ret
                exact ⟨ret_int (checkE_wrong Hf.out fun h => by have := pinOk_lt (h.2.2.1 q hlq); rw [Hp.out] at this; omega).symm, z.aft⟩
            · have hpo : ∀ i, i < pins.length → pinOk l at_ pins i = true := fun i hi => ht.out i (by omega)
              have Hpo := hid hpo; clear hpo
              clear ht
              go_wp2
              go_loopw [12] (fun i wr => ∃ k : Nat, k ≤ pins.length ∧ i = .int .i64 k ∧ Hid (∀ i, i < k → ∀ j, j < i → apOk l wd pins i j = true) ∧ Aft w wr) (fun i _ => pins.length - (intOf i).toNat)
              case atStart => exact ⟨0, by omega, rfl, fun j hj => by omega, hw⟩
              case round =>
                clear hw
                obtain ⟨n1, hn1q, rfl, ht, hw⟩ := hrel
                by_cases hl1 : n1 < pins.length
                · obtain ⟨b2, o2, p, rfl, hcp, hbp, hp, _, _⟩ := hpin.rd.int hpin.ok hl1
                  have Hp : Hid (pins.getD n1 0 = p) := hid (getD_of hp.out)
                  obtain ⟨hp1, hp2⟩ := Hp.out ▸ pinOk_lt (Hpo.out n1 hl1)
                  obtain ⟨pn, rfl⟩ := Int.eq_ofNat_of_zero_le hp1
                  go_wp2
                  go_loopw [13] (fun i w3 => ∃ k : Nat, k ≤ n1 ∧ i = .int .i64 k ∧ Hid (∀ j, j < k → apOk l wd pins n1 j = true) ∧ Aft w w3) (fun i _ => n1 - (intOf i).toNat)
                  case atStart => exact ⟨0, by omega, rfl, fun j hj => by omega, hw⟩
                  case round =>
                    clear hw
                    obtain ⟨n2, hn2, rfl, ht2, hw⟩ := hrel
                    by_cases hl2 : n2 < n1
                    · obtain ⟨p', hcp', hp', _, _⟩ := hpin.rd.int_at hpin.ok (show n2 < pins.length by omega)
                      have Hp' : Hid (pins.getD n2 0 = p') := hid (getD_of hp'.out)
                      obtain ⟨hp1', hp2'⟩ := Hp'.out ▸ pinOk_lt (Hpo.out n2 (by omega))
                      obtain ⟨pm, rfl⟩ := Int.eq_ofNat_of_zero_le hp1'
                      have hpnl : pn < l.length := by omega
                      have hpml : pm < l.length := by omega
                      obtain ⟨b, off, x, y, rfl, hc1, hc2, hb, hx, _, _, _, _⟩ := hl.rd.pair hl.ok hpnl
                      obtain ⟨x', y', hc1', hc2', hx', _⟩ := hl.rd.pair_at hl.ok hpml
                      have hg := bad_of F4.out hx.out
                      have hg' := bad_of F4.out hx'.out
                      have Hap : Hid (apOk l wd pins n1 n2 = apartB (x, y) (x', y') wd) := hid (by unfold apOk; rw [Hp.out, Hp'.out, Int.toNat_natCast, Int.toNat_natCast, getD_of hx.out, getD_of hx'.out])
                      cases hap : apartB (x, y) (x', y') wd
                      all_goals
                        go_wp2
                        refine wp_region_lat w hw (by kernel_rfl) (by kernel_rfl) ?_
                        repeat (go_big_quiet_step ((go_at_call 70; exact Calls.lat (hap ▸ apart_any (x, y) (x', y') wd _ (by simp; omega) (by simp; omega)))))
                        refine wpQuiet_nil ?_
                        intro _ hw'; obtain ⟨z, rfl⟩ := hw'
                        go_wp2
                      · go_ret
                        refine ⟨ret_int (checkE_wrong Hf.out fun h => ?_).symm, z.aft⟩
                        have := h.2.2.2 n1 hl1 n2 hl2
                        rw [Hap.out, hap] at this; cases this
                      · go_roundw
                        case rel =>
                          refine ⟨n2 + 1, by omega, by go_num, hid fun j hj => ?_, z.aft⟩
                          rcases Nat.lt_or_ge j n2 with h | h
                          · exact ht2.out j h
                          · obtain rfl : j = n2 := by omega
                            rw [Hap.out, hap]
                        case measure => simp [intOf] <;> omega
                    · obtain rfl : n2 = n1 := by omega
                      go_wp2
                      go_roundw
                      case rel =>
                        refine ⟨n2 + 1, by omega, by go_num, hid fun i hi j hj => ?_, hw⟩
                        rcases Nat.lt_or_ge i n2 with h | h
                        · exact ht.out i h j hj
                        · obtain rfl : i = n2 := by omega
                          exact ht2.out j hj
                      case measure => simp [intOf] <;> omega
                · go_wp2
                  go_ret
                  exact ⟨ret_int (checkE_right Hf.out ⟨Hle.out, Hcov.out, Hpo.out, fun i hi j hj => ht.out i (by omega) j hj⟩).symm, hw⟩
    · have hle' : ((at_.length : Int) != (pins.length : Int)) = true := by simp; omega
      go_enter Try.func25, Try.ntmps25
      go_wp2_with (go_at_call 66; refine (rfits_any _ l wd _ hl0).mono ?_; rintro e w1 ⟨rfl, hw1⟩)
      go_ret
      exact ⟨ret_int (checkE_wrong Hf.out fun h => hle h.1).symm, hw1⟩
  · have hf0 : (fitsE l wd != 0) = true := by simp [hf]
    rw [checkE_fits hf]
    clear hf
    go_enter Try.func25, Try.ntmps25
    go_wp2_with (go_at_call 66; refine (rfits_any _ l wd _ hl).mono ?_; rintro e w1 ⟨rfl, hw1⟩)
    go_ret
    exact ⟨rfl, hw1⟩
end Go.Proofs.Ytokdclbfjlnnjaa
