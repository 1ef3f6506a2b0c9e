/- The program's Simple. -/
import Derived.Test.YtokdclbfjlnnjaaR1
import Derived.Test.YtokdclbfjlnnjaaQ6
import Derived.Test.YtokdclbfjlnnjaaP11
namespace Go.Proofs.Ytokdclbfjlnnjaa
open Go.RowKit Go.BigFrame

/-- touchZ as the program asks it. -/
theorem touch_follows {l : List Pt} {q i : Nat} (h : q < i) (hi : i < l.length) : ((q + 1) % l.length = i ↔ q + 1 = i) := by
  rw [Nat.mod_eq_of_lt (by omega)]
theorem touch_closes {k : Int} {l : List Pt} {q i : Nat} (h : q < i) (hi : i < nSeg k l) : ((i + 1) % l.length = q ↔ (k = 2 ∧ q = 0 ∧ i + 1 = nSeg k l)) := by
  have hnle := nSeg_le k l
  unfold nSeg at hi ⊢
  split at hi
  · omega
  · rename_i hc
    rw [if_neg hc]
    split at hi
    · rename_i h2
      rw [if_pos h2]
      rcases Nat.lt_or_ge (i + 1) l.length with h' | h'
      · rw [Nat.mod_eq_of_lt h']; omega
      · have : i + 1 = l.length := by omega
        rw [this, Nat.mod_self]; omega
    · rename_i h2
      rw [Nat.mod_eq_of_lt (by omega)]; omega
theorem on_to {px py ax ay bx by_ : Int} {o : Bool} (h : onZ (px, py) ((ax, ay), (bx, by_)) = o) (w : World) (h1 : Sc ax) (h2 : Sc ay) (h3 : Sc bx) (h4 : Sc by_) (h5 : Sc px) (h6 : Sc py) :
    Calls Try.prog 101 #[.agg #[.int .i64 px, .int .i64 py], .agg #[.int .i64 ax, .int .i64 ay, .int .i64 bx, .int .i64 by_]] w
      fun e w' => e = .returned (.bool o) ∧ Aft w w' := by rw [← h]; exact on_any w h1 h2 h3 h4 h5 h6
theorem meet_to {ax ay bx by_ cx cy dx dy : Int} {o : Bool} (h : meetZ ((ax, ay), (bx, by_)) ((cx, cy), (dx, dy)) = o) (w : World) (h1 : Sc ax) (h2 : Sc ay) (h3 : Sc bx) (h4 : Sc by_) (h5 : Sc cx) (h6 : Sc cy) (h7 : Sc dx) (h8 : Sc dy) :
    Calls Try.prog 75 #[.agg #[.int .i64 ax, .int .i64 ay, .int .i64 bx, .int .i64 by_], .agg #[.int .i64 cx, .int .i64 cy, .int .i64 dx, .int .i64 dy]] w
      fun e w' => e = .returned (.bool o) ∧ Aft w w' := by rw [← h]; exact meet_any w h1 h2 h3 h4 h5 h6 h7 h8

set_option maxRecDepth 100000 in
set_option maxHeartbeats 16000000 in
theorem simple_any (k : Int) (vp : Value) (l : List Pt) (w : World) (hl : Prs w vp l) (hsm : l.length ≤ 1000) (hsc : ScL l) :
    Calls Try.prog 51 #[.agg #[.int .i64 k, vp]] w fun e w' => e = .returned (.bool (simpleZ k l)) ∧ Aft w w' := by
  have hP := hl
  obtain ⟨a, c, rfl, hl⟩ := hl
  obtain ⟨W0, eW0, hw0, hlt, hbox⟩ := one_box w #[.int .i64 k, .slice a l.length c] 51
  go_enter Try.func51, Try.ntmps51
  go_upto_region 1 with fail
  clear eW0
  have hF : Hid (∀ W, Aft W0 W → W.cell? ⟨w.heap.size, 0, none⟩ = some (.int .i64 k) ∧ W.cell? ⟨w.heap.size, 1, none⟩ = some (.slice a l.length c)) := hid fun W hW => ⟨hbox.out W hW 0 _ rfl, hbox.out W hW 1 _ rfl⟩
  clear hbox
  obtain ⟨p1, p2⟩ := hF.out W0 (Aft.refl _)
  have hn0W : w.heap.size < W0.heap.size := hlt
  generalize hn0 : w.heap.size = n0 at *
  go_wp2_with fail
  refine (segments_fn k _ W0).mono ?_
  rintro e Wa ⟨rfl, hWa⟩
  have hB : ShBox Wa W0.heap.size k (.slice a l.length c) l := by
    rw [← hWa]
    exact ⟨cell_new _ _ _ _ _ rfl, cell_new _ _ _ _ _ rfl, (hP.aft hw0).aft ((Aft.refl _).alloc _)⟩
  have hwa : Aft W0 Wa := hWa ▸ (Aft.refl W0).alloc _
  clear hWa p1 p2
  go_wp2_with fail
  refine (collect_any _ k _ l _ hB hsm).mono ?_
  rintro e W1 ⟨v1, rfl, hown, hw1a⟩
  have hw1 := hwa.trans hw1a
  have hnle := nSeg_le k l
  have HT := hid (@simpleZ_true k l)
  have HF : Hid (∀ i j, i < nSeg k l → j < i → touchZ l j i = true → simpleZ k l = false) := hid (fun i j => simpleZ_false)
  have HC : Hid (∀ q i, q < i → i < nSeg k l → ((i + 1) % l.length = q ↔ (k = 2 ∧ q = 0 ∧ i + 1 = nSeg k l))) := hid (fun q i => touch_closes)
  obtain ⟨m, hm⟩ : ∃ m, nSeg k l = m := ⟨_, rfl⟩
  rw [hm] at hown hnle HT HF HC
  clear hm
  have hw01 := hw0.trans hw1
  obtain ⟨a1, c1, rfl, _⟩ := ownsRow_at hown
  go_wp2
  go_loopw [16] (fun i wr => ∃ r : Nat, r ≤ m ∧ i = .int .i64 r ∧ Hid (∀ i, i < r → ∀ j, j < i → touchZ l j i = false) ∧ Aft W1 wr) (fun i _ => m - (intOf i).toNat)
  case atStart => exact ⟨0, by omega, rfl, hid fun j hj => by omega, Aft.refl _⟩
  case round =>
    obtain ⟨i, hi, rfl, hno, hwi⟩ := hrel
    rcases Nat.lt_or_ge i m with hlti | hgei
    · have hii : (i : Int) < m := by omega
      go_wp2
      go_loopw [20] (fun j wr => ∃ q : Nat, q ≤ i ∧ j = .int .i64 q ∧ Hid (∀ j, j < q → touchZ l j i = false) ∧ Aft W1 wr) (fun j _ => i - (intOf j).toNat)
      case atStart => exact ⟨0, by omega, rfl, hid fun j hj => by omega, hwi⟩
      case round =>
        obtain ⟨q, hq, rfl, hno2, hwq⟩ := hrel
        rcases Nat.lt_or_ge q i with hltq | hgeq
        · have hqi : (q : Int) < i := by omega
          have o3 := ownsRow_aft hown hwq
          obtain ⟨g, cap, he, q1, q2, q3, q4⟩ := seg_cells o3 (show q < m by omega)
          simp only [Value.slice.injEq, true_and] at he
          obtain ⟨rfl, rfl⟩ := he
          obtain ⟨g', cap', he', t1, t2, t3, t4⟩ := seg_cells o3 hlti
          simp only [Value.slice.injEq, Option.some.injEq, Addr.mk.injEq, true_and, and_true] at he'
          obtain ⟨rfl, rfl⟩ := he'
          have hsa4 := sgZ_sc hsc q
          have hsb4 := sgZ_sc hsc i
          have HN2 : Hid (touchZ l q i = false → ∀ j, j < q + 1 → touchZ l j i = false) := hid (fun h j hj => by
            rcases Nat.lt_or_ge j q with h' | h'
            · exact hno2.out j h'
            · obtain rfl : j = q := by omega
              exact h)
          have HF2 := hid (HF.out i q hlti hltq)
          have HD : Hid (touchZ l q i = if q + 1 = i then (if k = 2 ∧ q = 0 ∧ i + 1 = m then true else onZ (sgZ l i).2 (sgZ l q) || onZ (sgZ l q).1 (sgZ l i))
            else if k = 2 ∧ q = 0 ∧ i + 1 = m then onZ (sgZ l q).2 (sgZ l i) || onZ (sgZ l i).1 (sgZ l q) else meetZ (sgZ l i) (sgZ l q)) := hid (by
              unfold touchZ
              rw [meetZ_swap (sgZ l q)]
              simp only [touch_follows hltq (show i < l.length by omega), HC.out q i hltq hlti])
          obtain ⟨⟨⟨ax, ay⟩, bx, by_⟩, hs⟩ : ∃ s, sgZ l q = s := ⟨_, rfl⟩
          obtain ⟨⟨⟨cx, cy⟩, dx, dy⟩, ht⟩ : ∃ s, sgZ l i = s := ⟨_, rfl⟩
          rw [hs] at q1 q2 q3 q4 hsa4 HD
          rw [ht] at t1 t2 t3 t4 hsb4 HD
          simp only at q1 q2 q3 q4 hsa4 t1 t2 t3 t4 hsb4
          obtain ⟨s1, s2, s3, s4⟩ := hsa4
          obtain ⟨s5, s6, s7, s8⟩ := hsb4
          clear hs ht
          have hg1 := World.block_lt_of_cell? _ _ q1
          obtain ⟨p1, p2⟩ := hF.out wr (hw1.trans hwq)
          have fin : ∀ {W3 : World}, Aft wr W3 → Aft w W3 := fun h => (hw01.trans hwq).trans h
          obtain ⟨W2, hW2⟩ : ∃ W2, W2 = wr := ⟨_, rfl⟩
          subst hW2
          have hcl : (k = 2 ∧ q = 0 ∧ i + 1 = m) ∨ ¬ (k = 2 ∧ q = 0 ∧ i + 1 = m) := Classical.em _
          by_cases hf : q + 1 = i
          · have hf1 : ((q : Int) + 1 == i) = true := by rw [beq_iff_eq]; omega
            have hf2 : (q : Int) + 1 = i := by omega
            rcases hcl with hc | hc
            · have HQ := hid (HF2.out (by rw [HD.out, if_pos hf, if_pos hc]))
              obtain ⟨rfl, rfl, hc3⟩ := hc
              have FI := hid (fin (Aft.refl W2))
              obtain rfl : i = 1 := by omega
              obtain rfl : m = 2 := by omega
              clear hf hf2 hf1
              go_wp2
              go_ret
              exact ⟨by rw [HQ.out]; rfl, FI.out⟩
            · have HD2 := hid (show touchZ l q i = (onZ (dx, dy) ((ax, ay), (bx, by_)) || onZ (ax, ay) ((cx, cy), (dx, dy))) by rw [HD.out, if_pos hf, if_neg hc])
              by_cases e1 : k = 2
              · have e1b : (k == 2) = true := by rw [beq_iff_eq]; exact e1
                subst e1
                by_cases e2 : q = 0
                · have e3 : ¬ (i : Int) = (m : Int) - 1 := fun h => hc ⟨rfl, e2, by omega⟩
                  have e3b : ((i : Int) == (m : Int) - 1) = false := by rw [beq_eq_false_iff_ne]; exact e3
                  have e2b : ((q : Int) == 0) = true := by rw [beq_iff_eq]; omega
                  clear hc e2
                  clear hf
                  obtain ⟨o, ho⟩ : ∃ o, onZ (dx, dy) ((ax, ay), (bx, by_)) = o := ⟨_, rfl⟩
                  obtain ⟨o2, ho2⟩ : ∃ o, onZ (ax, ay) ((cx, cy), (dx, dy)) = o := ⟨_, rfl⟩
                  have HO := hid ho
                  have HO2 := hid ho2
                  cases o
                  case true =>
                    have HQ := hid (HF2.out (by rw [HD2.out, HO.out]; rfl))
                    go_upto_region 14 with fail
                    refine wp_region_lat W2 (Aft.refl _) (by kernel_rfl) (by kernel_rfl) ?_
                    repeat (go_big_quiet_step ((go_at_call 101; exact Calls.lat (on_to (by assumption) _ (by assumption) (by assumption) (by assumption) (by assumption) (by assumption) (by assumption)))))
                    refine wpQuiet_nil ?_
                    intro _ hw'; obtain ⟨z, rfl⟩ := hw'
                    go_wp2
                    go_ret
                    exact ⟨by rw [HQ.out]; rfl, fin z.aft⟩
                  case false =>
                    cases o2
                    case true =>
                      have HQ := hid (HF2.out (by rw [HD2.out, HO.out, HO2.out]; rfl))
                      go_upto_region 14 with fail
                      refine wp_region_lat W2 (Aft.refl _) (by kernel_rfl) (by kernel_rfl) ?_
                      repeat (go_big_quiet_step ((go_at_call 101; exact Calls.lat (on_to (by assumption) _ (by assumption) (by assumption) (by assumption) (by assumption) (by assumption) (by assumption)))))
                      refine wpQuiet_nil ?_
                      intro _ hw'; obtain ⟨z, rfl⟩ := hw'
                      go_wp2
                      go_ret
                      exact ⟨by rw [HQ.out]; rfl, fin z.aft⟩
                    case false =>
                      have HQ := hid (HN2.out (by rw [HD2.out, HO.out, HO2.out]; rfl))
                      go_upto_region 14 with fail
                      refine wp_region_lat W2 (Aft.refl _) (by kernel_rfl) (by kernel_rfl) ?_
                      repeat (go_big_quiet_step ((go_at_call 101; exact Calls.lat (on_to (by assumption) _ (by assumption) (by assumption) (by assumption) (by assumption) (by assumption) (by assumption)))))
                      refine wpQuiet_nil ?_
                      intro _ hw'; obtain ⟨z, rfl⟩ := hw'
                      go_wp2
                      go_roundw
                      case rel => exact ⟨q + 1, by omega, by go_num, HQ, hwq.trans z.aft⟩
                      case measure => simp only [intOf]; omega
                · have e2b : ((q : Int) == 0) = false := by rw [beq_eq_false_iff_ne]; omega
                  have e2c : ¬ ((q : Int) = 0) := by omega
                  clear hc e2
                  clear hf
                  obtain ⟨o, ho⟩ : ∃ o, onZ (dx, dy) ((ax, ay), (bx, by_)) = o := ⟨_, rfl⟩
                  obtain ⟨o2, ho2⟩ : ∃ o, onZ (ax, ay) ((cx, cy), (dx, dy)) = o := ⟨_, rfl⟩
                  have HO := hid ho
                  have HO2 := hid ho2
                  cases o
                  case true =>
                    have HQ := hid (HF2.out (by rw [HD2.out, HO.out]; rfl))
                    go_upto_region 14 with fail
                    refine wp_region_lat W2 (Aft.refl _) (by kernel_rfl) (by kernel_rfl) ?_
                    repeat (go_big_quiet_step ((go_at_call 101; exact Calls.lat (on_to (by assumption) _ (by assumption) (by assumption) (by assumption) (by assumption) (by assumption) (by assumption)))))
                    refine wpQuiet_nil ?_
                    intro _ hw'; obtain ⟨z, rfl⟩ := hw'
                    go_wp2
                    go_ret
                    exact ⟨by rw [HQ.out]; rfl, fin z.aft⟩
                  case false =>
                    cases o2
                    case true =>
                      have HQ := hid (HF2.out (by rw [HD2.out, HO.out, HO2.out]; rfl))
                      go_upto_region 14 with fail
                      refine wp_region_lat W2 (Aft.refl _) (by kernel_rfl) (by kernel_rfl) ?_
                      repeat (go_big_quiet_step ((go_at_call 101; exact Calls.lat (on_to (by assumption) _ (by assumption) (by assumption) (by assumption) (by assumption) (by assumption) (by assumption)))))
                      refine wpQuiet_nil ?_
                      intro _ hw'; obtain ⟨z, rfl⟩ := hw'
                      go_wp2
                      go_ret
                      exact ⟨by rw [HQ.out]; rfl, fin z.aft⟩
                    case false =>
                      have HQ := hid (HN2.out (by rw [HD2.out, HO.out, HO2.out]; rfl))
                      go_upto_region 14 with fail
                      refine wp_region_lat W2 (Aft.refl _) (by kernel_rfl) (by kernel_rfl) ?_
                      repeat (go_big_quiet_step ((go_at_call 101; exact Calls.lat (on_to (by assumption) _ (by assumption) (by assumption) (by assumption) (by assumption) (by assumption) (by assumption)))))
                      refine wpQuiet_nil ?_
                      intro _ hw'; obtain ⟨z, rfl⟩ := hw'
                      go_wp2
                      go_roundw
                      case rel => exact ⟨q + 1, by omega, by go_num, HQ, hwq.trans z.aft⟩
                      case measure => simp only [intOf]; omega
              · have e1b : (k == 2) = false := by rw [beq_eq_false_iff_ne]; exact e1
                clear hc
                clear hf
                obtain ⟨o, ho⟩ : ∃ o, onZ (dx, dy) ((ax, ay), (bx, by_)) = o := ⟨_, rfl⟩
                obtain ⟨o2, ho2⟩ : ∃ o, onZ (ax, ay) ((cx, cy), (dx, dy)) = o := ⟨_, rfl⟩
                have HO := hid ho
                have HO2 := hid ho2
                cases o
                case true =>
                  have HQ := hid (HF2.out (by rw [HD2.out, HO.out]; rfl))
                  go_upto_region 14 with fail
                  refine wp_region_lat W2 (Aft.refl _) (by kernel_rfl) (by kernel_rfl) ?_
                  repeat (go_big_quiet_step ((go_at_call 101; exact Calls.lat (on_to (by assumption) _ (by assumption) (by assumption) (by assumption) (by assumption) (by assumption) (by assumption)))))
                  refine wpQuiet_nil ?_
                  intro _ hw'; obtain ⟨z, rfl⟩ := hw'
                  go_wp2
                  go_ret
                  exact ⟨by rw [HQ.out]; rfl, fin z.aft⟩
                case false =>
                  cases o2
                  case true =>
                    have HQ := hid (HF2.out (by rw [HD2.out, HO.out, HO2.out]; rfl))
                    go_upto_region 14 with fail
                    refine wp_region_lat W2 (Aft.refl _) (by kernel_rfl) (by kernel_rfl) ?_
                    repeat (go_big_quiet_step ((go_at_call 101; exact Calls.lat (on_to (by assumption) _ (by assumption) (by assumption) (by assumption) (by assumption) (by assumption) (by assumption)))))
                    refine wpQuiet_nil ?_
                    intro _ hw'; obtain ⟨z, rfl⟩ := hw'
                    go_wp2
                    go_ret
                    exact ⟨by rw [HQ.out]; rfl, fin z.aft⟩
                  case false =>
                    have HQ := hid (HN2.out (by rw [HD2.out, HO.out, HO2.out]; rfl))
                    go_upto_region 14 with fail
                    refine wp_region_lat W2 (Aft.refl _) (by kernel_rfl) (by kernel_rfl) ?_
                    repeat (go_big_quiet_step ((go_at_call 101; exact Calls.lat (on_to (by assumption) _ (by assumption) (by assumption) (by assumption) (by assumption) (by assumption) (by assumption)))))
                    refine wpQuiet_nil ?_
                    intro _ hw'; obtain ⟨z, rfl⟩ := hw'
                    go_wp2
                    go_roundw
                    case rel => exact ⟨q + 1, by omega, by go_num, HQ, hwq.trans z.aft⟩
                    case measure => simp only [intOf]; omega
          · have hf1 : ((q : Int) + 1 == i) = false := by rw [beq_eq_false_iff_ne]; omega
            have hf2 : ¬ ((q : Int) + 1 = i) := by omega
            rcases hcl with hc | hc
            · have HD2 := hid (show touchZ l q i = (onZ (bx, by_) ((cx, cy), (dx, dy)) || onZ (cx, cy) ((ax, ay), (bx, by_))) by rw [HD.out, if_neg hf, if_pos hc])
              obtain ⟨rfl, rfl, hc3⟩ := hc
              have hc4 : ((i : Int) == (m : Int) - 1) = true := by rw [beq_iff_eq]; omega
              simp only [Nat.zero_mul, Nat.zero_add] at q1 q2 q3 q4
              clear hf
              obtain ⟨o, ho⟩ : ∃ o, onZ (bx, by_) ((cx, cy), (dx, dy)) = o := ⟨_, rfl⟩
              obtain ⟨o2, ho2⟩ : ∃ o, onZ (cx, cy) ((ax, ay), (bx, by_)) = o := ⟨_, rfl⟩
              have HO := hid ho
              have HO2 := hid ho2
              cases o
              case true =>
                have HQ := hid (HF2.out (by rw [HD2.out, HO.out]; rfl))
                go_upto_region 17 with fail
                refine wp_region_lat W2 (Aft.refl _) (by kernel_rfl) (by kernel_rfl) ?_
                repeat (go_big_quiet_step ((go_at_call 101; exact Calls.lat (on_to (by assumption) _ (by assumption) (by assumption) (by assumption) (by assumption) (by assumption) (by assumption)))))
                refine wpQuiet_nil ?_
                intro _ hw'; obtain ⟨z, rfl⟩ := hw'
                go_wp2
                go_ret
                exact ⟨by rw [HQ.out]; rfl, fin z.aft⟩
              case false =>
                cases o2
                case true =>
                  have HQ := hid (HF2.out (by rw [HD2.out, HO.out, HO2.out]; rfl))
                  go_upto_region 17 with fail
                  refine wp_region_lat W2 (Aft.refl _) (by kernel_rfl) (by kernel_rfl) ?_
                  repeat (go_big_quiet_step ((go_at_call 101; exact Calls.lat (on_to (by assumption) _ (by assumption) (by assumption) (by assumption) (by assumption) (by assumption) (by assumption)))))
                  refine wpQuiet_nil ?_
                  intro _ hw'; obtain ⟨z, rfl⟩ := hw'
                  go_wp2
                  go_ret
                  exact ⟨by rw [HQ.out]; rfl, fin z.aft⟩
                case false =>
                  have HQ := hid (HN2.out (by rw [HD2.out, HO.out, HO2.out]; rfl))
                  go_upto_region 17 with fail
                  refine wp_region_lat W2 (Aft.refl _) (by kernel_rfl) (by kernel_rfl) ?_
                  repeat (go_big_quiet_step ((go_at_call 101; exact Calls.lat (on_to (by assumption) _ (by assumption) (by assumption) (by assumption) (by assumption) (by assumption) (by assumption)))))
                  refine wpQuiet_nil ?_
                  intro _ hw'; obtain ⟨z, rfl⟩ := hw'
                  go_wp2
                  go_roundw
                  case rel => exact ⟨0 + 1, by omega, by go_num, HQ, hwq.trans z.aft⟩
                  case measure => simp only [intOf]; omega
            · have HD2 := hid (show touchZ l q i = meetZ ((cx, cy), (dx, dy)) ((ax, ay), (bx, by_)) by rw [HD.out, if_neg hf, if_neg hc])
              by_cases e1 : k = 2
              · have e1b : (k == 2) = true := by rw [beq_iff_eq]; exact e1
                subst e1
                by_cases e2 : q = 0
                · have e3 : ¬ (i : Int) = (m : Int) - 1 := fun h => hc ⟨rfl, e2, by omega⟩
                  have e3b : ((i : Int) == (m : Int) - 1) = false := by rw [beq_eq_false_iff_ne]; exact e3
                  have e2b : ((q : Int) == 0) = true := by rw [beq_iff_eq]; omega
                  clear hc e2
                  clear hf
                  obtain ⟨o, ho⟩ : ∃ o, meetZ ((cx, cy), (dx, dy)) ((ax, ay), (bx, by_)) = o := ⟨_, rfl⟩
                  have HO := hid ho
                  cases o
                  case true =>
                    have HQ := hid (HF2.out (by rw [HD2.out, HO.out]))
                    go_upto_region 19 with fail
                    refine wp_region_lat W2 (Aft.refl _) (by kernel_rfl) (by kernel_rfl) ?_
                    repeat (go_big_quiet_step ((go_at_call 75; exact Calls.lat (meet_to (by assumption) _ (by assumption) (by assumption) (by assumption) (by assumption) (by assumption) (by assumption) (by assumption) (by assumption)))))
                    refine wpQuiet_nil ?_
                    intro _ hw'; obtain ⟨z, rfl⟩ := hw'
                    go_wp2
                    go_ret
                    exact ⟨by rw [HQ.out]; rfl, fin z.aft⟩
                  case false =>
                    have HQ := hid (HN2.out (by rw [HD2.out, HO.out]))
                    go_upto_region 19 with fail
                    refine wp_region_lat W2 (Aft.refl _) (by kernel_rfl) (by kernel_rfl) ?_
                    repeat (go_big_quiet_step ((go_at_call 75; exact Calls.lat (meet_to (by assumption) _ (by assumption) (by assumption) (by assumption) (by assumption) (by assumption) (by assumption) (by assumption) (by assumption)))))
                    refine wpQuiet_nil ?_
                    intro _ hw'; obtain ⟨z, rfl⟩ := hw'
                    go_wp2
                    go_roundw
                    case rel => exact ⟨q + 1, by omega, by go_num, HQ, hwq.trans z.aft⟩
                    case measure => simp only [intOf]; omega
                · have e2b : ((q : Int) == 0) = false := by rw [beq_eq_false_iff_ne]; omega
                  have e2c : ¬ ((q : Int) = 0) := by omega
                  clear hc e2
                  clear hf
                  obtain ⟨o, ho⟩ : ∃ o, meetZ ((cx, cy), (dx, dy)) ((ax, ay), (bx, by_)) = o := ⟨_, rfl⟩
                  have HO := hid ho
                  cases o
                  case true =>
                    have HQ := hid (HF2.out (by rw [HD2.out, HO.out]))
                    go_upto_region 19 with fail
                    refine wp_region_lat W2 (Aft.refl _) (by kernel_rfl) (by kernel_rfl) ?_
                    repeat (go_big_quiet_step ((go_at_call 75; exact Calls.lat (meet_to (by assumption) _ (by assumption) (by assumption) (by assumption) (by assumption) (by assumption) (by assumption) (by assumption) (by assumption)))))
                    refine wpQuiet_nil ?_
                    intro _ hw'; obtain ⟨z, rfl⟩ := hw'
                    go_wp2
                    go_ret
                    exact ⟨by rw [HQ.out]; rfl, fin z.aft⟩
                  case false =>
                    have HQ := hid (HN2.out (by rw [HD2.out, HO.out]))
                    go_upto_region 19 with fail
                    refine wp_region_lat W2 (Aft.refl _) (by kernel_rfl) (by kernel_rfl) ?_
                    repeat (go_big_quiet_step ((go_at_call 75; exact Calls.lat (meet_to (by assumption) _ (by assumption) (by assumption) (by assumption) (by assumption) (by assumption) (by assumption) (by assumption) (by assumption)))))
                    refine wpQuiet_nil ?_
                    intro _ hw'; obtain ⟨z, rfl⟩ := hw'
                    go_wp2
                    go_roundw
                    case rel => exact ⟨q + 1, by omega, by go_num, HQ, hwq.trans z.aft⟩
                    case measure => simp only [intOf]; omega
              · have e1b : (k == 2) = false := by rw [beq_eq_false_iff_ne]; exact e1
                clear hc
                clear hf
                obtain ⟨o, ho⟩ : ∃ o, meetZ ((cx, cy), (dx, dy)) ((ax, ay), (bx, by_)) = o := ⟨_, rfl⟩
                have HO := hid ho
                cases o
                case true =>
                  have HQ := hid (HF2.out (by rw [HD2.out, HO.out]))
                  go_upto_region 19 with fail
                  refine wp_region_lat W2 (Aft.refl _) (by kernel_rfl) (by kernel_rfl) ?_
                  repeat (go_big_quiet_step ((go_at_call 75; exact Calls.lat (meet_to (by assumption) _ (by assumption) (by assumption) (by assumption) (by assumption) (by assumption) (by assumption) (by assumption) (by assumption)))))
                  refine wpQuiet_nil ?_
                  intro _ hw'; obtain ⟨z, rfl⟩ := hw'
                  go_wp2
                  go_ret
                  exact ⟨by rw [HQ.out]; rfl, fin z.aft⟩
                case false =>
                  have HQ := hid (HN2.out (by rw [HD2.out, HO.out]))
                  go_upto_region 19 with fail
                  refine wp_region_lat W2 (Aft.refl _) (by kernel_rfl) (by kernel_rfl) ?_
                  repeat (go_big_quiet_step ((go_at_call 75; exact Calls.lat (meet_to (by assumption) _ (by assumption) (by assumption) (by assumption) (by assumption) (by assumption) (by assumption) (by assumption) (by assumption)))))
                  refine wpQuiet_nil ?_
                  intro _ hw'; obtain ⟨z, rfl⟩ := hw'
                  go_wp2
                  go_roundw
                  case rel => exact ⟨q + 1, by omega, by go_num, HQ, hwq.trans z.aft⟩
                  case measure => simp only [intOf]; omega
        · obtain rfl : q = i := by omega
          have HN := hid (show ∀ u, u < q + 1 → ∀ j, j < u → touchZ l j u = false from fun u hu => by
            rcases Nat.lt_or_ge u q with h | h
            · exact hno.out u h
            · obtain rfl : u = q := by omega
              exact hno2.out)
          go_wp2
          go_roundw
          case rel => exact ⟨q + 1, by omega, by go_num, HN, hwq⟩
          case measure => simp only [intOf]; omega
    · obtain rfl : i = m := by omega
      have HQ := hid (HT.out hno.out)
      go_wp2
      go_ret
      exact ⟨by rw [HQ.out]; rfl, hw01.trans hwi⟩
end Go.Proofs.Ytokdclbfjlnnjaa
