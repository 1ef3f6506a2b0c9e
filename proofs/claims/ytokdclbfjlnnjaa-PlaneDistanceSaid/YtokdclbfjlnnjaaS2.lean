/- The contract of the reference's Split. -/
import Derived.Test.YtokdclbfjlnnjaaS1
namespace Go.Proofs.Ytokdclbfjlnnjaa
open Go.RowKit Go.BigFrame

/-- One step of the search for a pin, at element i. -/
def pinStep (l : List (Int × Int)) (at_ : List Int) (wd : Int) (i : Nat) (pin : Int) : Int :=
  if !covB (l.getD i (0, 0)) at_ wd && (decide (pin < 0) || decide ((l.getD i (0, 0)).1 ≤ (l.getD pin.toNat (0, 0)).1)) then i else pin
def pinLoop (l : List (Int × Int)) (at_ : List Int) (wd : Int) : Nat → Int → Int
  | 0, pin => pin
  | i + 1, pin => pinLoop l at_ wd i (pinStep l at_ wd i pin)
def rStep (l : List (Int × Int)) (wd : Int) (s : List Int × List Int) : List Int × List Int :=
  if 0 ≤ pinLoop l s.1 wd l.length (-1) then (s.1 ++ [(l.getD (pinLoop l s.1 wd l.length (-1)).toNat (0, 0)).1], s.2 ++ [pinLoop l s.1 wd l.length (-1)]) else s
def rRounds (l : List (Int × Int)) (wd : Int) : Nat → List Int × List Int → List Int × List Int
  | 0, s => s
  | k + 1, s => rRounds l wd k (rStep l wd s)
def rSplit (l : List (Int × Int)) (wd : Int) : List Int × List Int × Int :=
  if fitsE l wd = 0 then ((rRounds l wd l.length ([], [])).1, (rRounds l wd l.length ([], [])).2, 0) else ([], [], fitsE l wd)

def SplitPost (w : World) (r : List Int × List Int × Int) (e : Ending) (w' : World) : Prop :=
  ∃ v v', e = .returned (.tuple #[v, v', .int .i64 r.2.2]) ∧ Ints w' v r.1 ∧ Ints w' v' r.2.1 ∧ Aft w w'

theorem getD_of {α : Type} {l : List α} {k : Nat} {x d : α} (h : l[k]? = some x) : l.getD k d = x := by simp [List.getD, h]

theorem Ints.empty (w : World) : Ints w (.slice none 0 0) [] := ⟨none, 0, rfl, rfl, Rd.nil, by simp [okI], Nat.le_refl _, fun _ => rfl, by simp⟩

theorem fits_ok {l : List (Int × Int)} {wd : Int} (h : fitsE l wd = 0) : l.length ≤ 64 ∧ 1 ≤ wd ∧ wd ≤ 1000 ∧ l.any badP = false ∧ l.any (wideP wd) = false := by
  unfold fitsE at h
  split at h
  · omega
  split at h
  · omega
  split at h
  · omega
  rename_i h3
  split at h
  · omega
  rename_i h4
  refine ⟨by omega, by omega, by omega, by simpa using h3, by simpa using h4⟩

set_option maxRecDepth 100000 in
set_option maxHeartbeats 2000000 in
theorem rsplit_any (v : Value) (l : List (Int × Int)) (wd : Int) (w : World) (hl : Prs w v l) :
    Calls Try.prog 20 #[v, .int .i64 wd] w (SplitPost w (rSplit l wd)) := by
  by_cases hf : fitsE l wd = 0
  · obtain ⟨f1, f2, f3, f4, f5⟩ := fits_ok hf
    have F4 := hid f4; clear f4
    clear f5
    have hf0 : (fitsE l wd != 0) = false := by simp [hf]
    have Hf := hid hf; clear hf
    have hl0 := hl
    obtain ⟨a, c, rfl, hl⟩ := hl
    have hn := hl.le
    go_enter Try.func20, Try.ntmps20
    go_wp2_with (go_at_call 66; refine (rfits_any _ l wd _ hl0).mono ?_; rintro e w1 ⟨rfl, hw1⟩)
    go_loopw [8, 9, 10] (fun v v' i wr => ∃ (r : Nat) (at_ pins : List Int), r ≤ l.length ∧ i = .int .i64 r ∧ wr.ownsRow w.heap.size 3 1 v at_.length (i64s at_) ∧ wr.ownsRow w.heap.size 3 1 v' pins.length (i64s pins) ∧
      Sep v v' ∧ Hid (rRounds l wd l.length ([], []) = rRounds l wd (l.length - r) (at_, pins)) ∧ Hid (∀ x ∈ at_, 0 ≤ x ∧ x ≤ 1000) ∧ Hid (∀ x ∈ pins, 0 ≤ x ∧ x ≤ 1000) ∧ at_.length ≤ r ∧ pins.length ≤ r ∧ Aft w wr) (fun _ _ i _ => l.length - (intOf i).toNat)
    case atStart => exact ⟨0, [], [], by omega, rfl, World.ownsRow_nil _ _ _ _, World.ownsRow_nil _ _ _ _, Sep.nil _, rfl, by simp [Hid], by simp [Hid], by simp, by simp, hw1⟩
    case round =>
      obtain ⟨r, at_, pins, hr, rfl, own1, own2, hsep, hrr, hat, hpin, hal, hpl, hw⟩ := hrel
      rcases Nat.lt_or_ge r l.length with hlt | hge
      · have hIat : Ints wr _ at_ := ownsRow_ints own1 (fun x hx => by have := hat.out x hx; omega) (by omega)
        have hIat0 := hIat
        obtain ⟨a1, c1, rfl, _⟩ := hIat
        obtain ⟨wo, hwo⟩ : ∃ wo : World, wo = wr := ⟨_, rfl⟩
        subst hwo
        have hlwo := hl.aft hw
        go_wp2
        go_loopw [11, 12] (fun pv i w2 => ∃ (k : Nat) (p : Int), k ≤ l.length ∧ i = .int .i64 ((k : Int) - 1) ∧ pv = .int .i64 p ∧ -1 ≤ p ∧ p < l.length ∧ Hid (pinLoop l at_ wd l.length (-1) = pinLoop l at_ wd k p) ∧ Aft wo w2) (fun _ i _ => (intOf i + 1).toNat)
        case atStart => exact ⟨l.length, -1, by omega, rfl, rfl, by omega, by omega, rfl, Aft.refl _⟩
        case round =>
          obtain ⟨k, p, hk, rfl, rfl, hp1, hp2, hpl2, hw2⟩ := hrel
          rcases Nat.eq_zero_or_pos k with rfl | hpos
          · have e0 : ((0 : Nat) : Int) - 1 = -1 := rfl
            rw [e0]
            clear e0
            have hown2 : wr.ownsRow w.heap.size 3 1 u9 pins.length (i64s pins) := ownsRow_aft own2 hw2
            have hown1 := ownsRow_aft own1 hw2
            have hs1 := hw.size
            have hs2 := hw2.size
            rcases Int.lt_or_le p 0 with hneg | hnn
            · obtain rfl : p = -1 := by omega
              go_wp2
              go_roundw
              case rel => exact ⟨r + 1, at_, pins, by omega, by go_num, hown1, hown2, hsep, hid (by
                rw [hrr.out, show l.length - r = (l.length - (r + 1)) + 1 by omega]
                simp only [rRounds, rStep, hpl2.out, pinLoop]; simp), hat, hpin, by omega, by omega, hw.trans hw2⟩
              case measure => simp [intOf] <;> omega
            · obtain ⟨q, rfl⟩ := Int.eq_ofNat_of_zero_le hnn
              have hq : q < l.length := by omega
              obtain ⟨b, off, x, y, rfl, hc1, hc2, hb, hx, _, _, _, _⟩ := (hlwo.aft hw2).rd.pair hlwo.ok hq
              have hg := bad_of F4.out hx.out
              go_wp2_with (first
                | (at_builtin; refine wpList_app _ rfl (.tmp 61) (.tmp 67) 22 rfl w.heap.size 3 (.int .i64 0) 1 8 Try.underlying22 Try.info3 rfl (by decide) _ _ _ rfl (hown1.alloc _) (some ⟨wr.heap.size, 0, none⟩) 1 1 (i64s [x]) rfl (fun h => by cases h) rfl Rd.new (i64s_one _) (by unfold maxLen; omega) (by omega) (by simp; omega) ?_; intro v1 wa howna hga hloc; have hownb := hsep.symm.kept (hown2.alloc _) hga; have hsa := hga.size; simp at hsa; have hsp1 := hsep.moved (hown2.alloc _) hloc; have hwa := ((hw.trans hw2).alloc _).grown hga (fun j hj => (hown1.lt j hj).1))
                | (at_builtin; refine wpList_app _ rfl (.tmp 69) (.tmp 71) 22 rfl w.heap.size 3 (.int .i64 0) 1 8 Try.underlying22 Try.info3 rfl (by decide) _ _ _ rfl (hownb.alloc _) (some ⟨wa.heap.size, 0, none⟩) 1 1 (i64s [q]) rfl (fun h => by cases h) rfl Rd.new (i64s_one _) (by unfold maxLen; omega) (by omega) (by simp; omega) ?_; intro v2 wb hownc hgb hlocb; have hsp2 := hsp1.symm.moved (howna.alloc _) hlocb; have hownd := hsp1.kept (howna.alloc _) hgb; have hwf := (hwa.alloc _).grown hgb (fun j hj => (hownb.lt j hj).1)))
              go_roundw
              case rel =>
                refine ⟨r + 1, at_ ++ [x], pins ++ [(q : Int)], by omega, by go_num, ?_, ?_, ?_, ?_, ?_, ?_, by simp; omega, by simp; omega, hwf⟩
                · rw [i64s_append, List.length_append]; exact hownd
                · rw [i64s_append, List.length_append]; exact hownc
                · exact hsp2.symm
                · refine hid ?_
                  rw [hrr.out, show l.length - r = (l.length - (r + 1)) + 1 by omega]
                  simp only [rRounds, rStep, hpl2.out, pinLoop]
                  rw [if_pos hnn, Int.toNat_natCast, getD_of hx.out]
                · refine hid fun z hz => ?_
                  rcases List.mem_append.1 hz with h | h
                  · exact hat.out z h
                  · obtain rfl : z = x := by simpa using h
                    omega
                · refine hid fun z hz => ?_
                  rcases List.mem_append.1 hz with h | h
                  · exact hpin.out z h
                  · obtain rfl : z = q := by simpa using h
                    omega
              case measure => simp [intOf] <;> omega
          · obtain ⟨i, rfl⟩ : ∃ i, k = i + 1 := ⟨k - 1, by omega⟩
            have hi : i < l.length := by omega
            have ei : ((i + 1 : Nat) : Int) - 1 = (i : Int) := by omega
            rw [ei]
            clear ei
            obtain ⟨b, off, x, y, rfl, hc1, hc2, hb, hx, _, _, _, _⟩ := hlwo.rd.pair hlwo.ok hi
            have hg := bad_of F4.out hx.out
            cases hcv : covB (x, y) at_ wd
            · rcases Int.lt_or_le p 0 with hneg | hnn
              · obtain rfl : p = -1 := by omega
                go_wp2
                refine wp_region_lat wo hw2 (by kernel_rfl) (by kernel_rfl) ?_
                repeat (go_big_quiet_step ((go_at_call 67; exact Calls.lat (hcv ▸ cov_any (x, y) _ at_ wd _ (hIat0.aft (Lat.aft _)) (fun z hz => by have := hat.out z hz; omega)))))
                refine wpQuiet_nil ?_
                intro _ hw'; obtain ⟨z, rfl⟩ := hw'
                go_wp2
                go_roundw
                case rel => exact ⟨i, i, by omega, by go_num, rfl, by omega, by omega, hid (by rw [hpl2.out]; simp only [pinLoop, pinStep, getD_of hx.out, hcv]; simp), z.aft⟩
                case measure => simp [intOf] <;> omega

              · obtain ⟨q, rfl⟩ := Int.eq_ofNat_of_zero_le hnn
                have hq : q < l.length := by omega
                have hd : decide ((q : Int) < 0) = false := by simp
                obtain ⟨x2, y2, hc3, hc4, hx2, _⟩ := hlwo.rd.pair_at hlwo.ok hq
                cases hcmp : decide (x ≤ x2)
                all_goals
                  go_wp2
                  refine wp_region_lat wo hw2 (by kernel_rfl) (by kernel_rfl) ?_
                  repeat (go_big_quiet_step ((go_at_call 67; exact Calls.lat (hcv ▸ cov_any (x, y) _ at_ wd _ (hIat0.aft (Lat.aft _)) (fun z hz => by have := hat.out z hz; omega)))))
                  refine wpQuiet_nil ?_
                  intro _ hw'; obtain ⟨z, rfl⟩ := hw'
                  go_wp2
                
                · go_roundw
                  case rel => exact ⟨i, q, by omega, by go_num, rfl, by omega, by omega, hid (by rw [hpl2.out]; simp only [pinLoop, pinStep, getD_of hx.out, hcv, Bool.not_false, Bool.true_and, hd, Bool.false_or, Int.toNat_natCast, getD_of hx2.out, hcmp]; rfl), z.aft⟩
                  case measure => simp [intOf] <;> omega

                · go_roundw
                  case rel => exact ⟨i, i, by omega, by go_num, rfl, by omega, by omega, hid (by rw [hpl2.out]; simp only [pinLoop, pinStep, getD_of hx.out, hcv, Bool.not_false, Bool.true_and, hd, Bool.false_or, Int.toNat_natCast, getD_of hx2.out, hcmp]; rfl), z.aft⟩
                  case measure => simp [intOf] <;> omega

            · have hd : True := trivial
              go_wp2
              refine wp_region_lat wo hw2 (by kernel_rfl) (by kernel_rfl) ?_
              repeat (go_big_quiet_step ((go_at_call 67; exact Calls.lat (hcv ▸ cov_any (x, y) _ at_ wd _ (hIat0.aft (Lat.aft _)) (fun z hz => by have := hat.out z hz; omega)))))
              refine wpQuiet_nil ?_
              intro _ hw'; obtain ⟨z, rfl⟩ := hw'
              go_wp2
              go_roundw
              case rel => exact ⟨i, p, by omega, by go_num, rfl, by omega, by omega, hid (by rw [hpl2.out]; simp only [pinLoop, pinStep, getD_of hx.out, hcv]; simp), z.aft⟩
              case measure => simp [intOf] <;> omega

      · obtain rfl : r = l.length := by omega
        go_wp2
        go_ret3
        have e1 : rSplit l wd = (at_, pins, 0) := by
          unfold rSplit
          rw [if_pos Hf.out, hrr.out, Nat.sub_self]
          rfl
        rw [e1]
        exact ⟨_, _, rfl, ownsRow_ints own1 (fun x hx => by have := hat.out x hx; omega) (by show at_.length * 8 ≤ _; omega), ownsRow_ints own2 (fun x hx => by have := hpin.out x hx; omega) (by show pins.length * 8 ≤ _; omega), hw⟩
  · have hf0 : (fitsE l wd != 0) = true := by simp [hf]
    have e1 : rSplit l wd = ([], [], fitsE l wd) := by unfold rSplit; rw [if_neg hf]
    rw [e1]
    clear e1 hf
    go_enter Try.func20, Try.ntmps20
    go_wp2_with (go_at_call 66; refine (rfits_any _ l wd _ hl).mono ?_; rintro e w1 ⟨rfl, hw1⟩)
    go_ret3
    exact ⟨_, _, rfl, Ints.empty _, Ints.empty _, hw1⟩
end Go.Proofs.Ytokdclbfjlnnjaa
