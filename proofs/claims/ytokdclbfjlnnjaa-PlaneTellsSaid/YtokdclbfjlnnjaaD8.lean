/- The walk of PlaneTells. -/
import Derived.Test.YtokdclbfjlnnjaaLa
namespace Go.Proofs.Ytokdclbfjlnnjaa
open Go.RowKit Go.BigFrame

set_option maxRecDepth 100000 in
set_option maxHeartbeats 16000000 in
theorem tells_any (v1 : Value) (l1 : List Int) (v2 : Value) (l2 : List Int) (w : World) (hl1 : Ints w v1 l1) (hl2 : Ints w v2 l2) :
    Calls Try.prog 8 #[v1, v2] w fun e w' => e = .returned (.bool true) ∧ Aft w w' := by
  have hI1 := hl1
  have hI2 := hl2
  obtain ⟨aa, ca0, rfl, hl1⟩ := hl1
  obtain ⟨ab, cb0, rfl, hl2⟩ := hl2
  go_enter Try.func8, Try.ntmps8
  go_wp2_with fail
  refine (figure_any _ l1 w hI1).mono ?_
  rintro e W1 ⟨a1, c1, R1, L1, rfl, hB1, hG1, hn1, -, hw1⟩
  go_upto_region 2 with fail
  obtain ⟨W0, e0, hw0, hlt0, hbox0⟩ := one_box W1 #[.int .i64 62, .int .i64 62, .slice a1 L1.length c1] 45
  have hz0 : W0.heap.size = W1.heap.size + 1 := by rw [← e0]; simp
  rw [e0]
  clear e0
  have k2 := hbox0.out W0 (Aft.refl _) 2 (.slice a1 L1.length c1) rfl
  clear hbox0
  obtain ⟨n5, hn5⟩ : ∃ n, W1.heap.size = n := ⟨_, rfl⟩
  rw [hn5] at k2 hz0 hlt0 ⊢
  obtain ⟨Wg, eWg, hwg, hzg, hhpg⟩ : ∃ Wg, W0.alloc (.cells #[] 51) = Wg ∧ Aft W0 Wg ∧ Wg.heap.size = W0.heap.size + 1 ∧ Wg.heap[W0.heap.size]? = some (.cells #[] 51) := ⟨_, rfl, (Aft.refl W0).alloc _, by simp, heap_alloc_new W0 _⟩
  obtain ⟨g0, hg0⟩ : ∃ n, W0.heap.size = n := ⟨_, rfl⟩
  have k2g := (hwg.cell (World.block_lt_of_cell? _ _ k2)).trans k2
  have hB1g := ShsB.aft hB1 (hw0.trans hwg)
  rw [hg0] at hzg hhpg
  rw [hg0] at hz0
  subst hz0

  have hwg0 := hwg
  have hz1 := hw1.size
  go_wp2_with (at_builtin; refine wpList_app_empty Wg rfl (.tmp 21) (.tmp 23) 43 rfl (n5 + 1) 51 (.agg #[.int .i64 0, .slice none 0 0]) 2 32 Try.underlying43 Try.info51 rfl (by decide) (n5 + 1) rfl ⟨rfl, .inr ⟨n5 + 1, 0, #[], rfl, Nat.le_refl _, hhpg, Nat.le_refl _, by decide, rfl, rfl⟩⟩ a1 L1.length c1 (shCells R1) rfl hB1g.sh.nil (by rw [shCells_length, hB1g.sh.lenR]) hB1g.sh.rd (shs_one hB1g.sh) (by unfold maxLen; omega) (by omega) (by omega) ?_; intro v1 W2 ho1 hw2 hv1)
  clear eWg
  have hz2 := hw2.size
  have hwW2 := ((hw1.trans hw0).trans hwg).trans hw2
  refine (figure_any _ l2 W2 (hI2.aft hwW2)).mono ?_
  rintro e W3 ⟨a2, c2, R2, L2, rfl, hB2, hG2, hn2, -, hw3⟩
  have hz3 := hw3.size
  have ho3 := ownsRow_aft ho1 hw3
  have hfld2 := field_fig 62 62 a2 L2.length c2 W3
  go_wp2_with (at_builtin; refine wpList_app _ rfl (.tmp 24) (.tmp 27) 43 rfl (n5 + 1) 51 (.agg #[.int .i64 0, .slice none 0 0]) 2 32 Try.underlying43 Try.info51 rfl (by decide) _ L1.length (shCells R1) rfl ho3 a2 L2.length c2 (shCells R2) rfl hB2.sh.nil (by rw [shCells_length, hB2.sh.lenR]) hB2.sh.rd (shs_one hB2.sh) (by unfold maxLen; omega) (by omega) (by omega) ?_; intro v2 W4 ho4 hgrow hloc)
  clear hfld2
  obtain ⟨a, c, rfl, -⟩ := ownsRow_at ho4
  have hw34 : Aft w W4 := (hwW2.trans hw3).grown hgrow (fun k hk => by have := (ho1.lt k hk).1; omega)
  have hSA := rows_join (n := L1.length + L2.length) hB1 hB2 ((hw0.trans hwg).trans hw2) hw3 hgrow (fun b hb => by rcases hv1 b hb with h | h <;> omega) (fun b hb => (ho1.lt b hb).2) ho4 rfl (by omega)
  have hGL := genL_append hG1 hG2
  have hlen : L1.length + L2.length = (L1 ++ L2).length := by simp
  generalize R1 ++ R2 = R at hSA
  rw [hlen] at hSA
  have hn : (L1 ++ L2).length ≤ 10 := by rw [← hlen]; omega
  rw [hlen]
  generalize L1 ++ L2 = L at *
  clear hlen ho4 ho3 ho1 hgrow hB1 hB2 hB1g hloc hv1 hz1 hz2 hz3 hzg hhpg hG1 hG2 hn5
  clear hw1 hw0 hwg hw2 hw3 hwW2 hwg0 k2 k2g hlt0 hg0
  go_wp2
  go_loopw [7] (fun i wr => ∃ r : Nat, r ≤ L.length ∧ i = .int .i64 r ∧ Aft W4 wr) (fun i _ => L.length - (intOf i).toNat)
  case atStart => exact ⟨0, by omega, rfl, Aft.refl _⟩
  case round =>
    obtain ⟨i, hi, rfl, hwi⟩ := hrel
    rcases Nat.lt_or_ge i L.length with hlti | hgei
    · have hii : (i : Int) < L.length := by omega
      obtain ⟨b, off, ka, la, apa, cpa, rfl, hga, HA⟩ := shs_fix hSA hlti
      have ga : Gen ka la := hGL _ (List.mem_of_getElem? hga.out)
      have sa := gen_sm ga
      obtain ⟨x1, x2, hb, -⟩ := HA.out wr hwi
      go_upto_region 7 with fail
      obtain ⟨W5, e5, hw5, hlt5, hbox5⟩ := one_box wr #[.int .i64 ka, .slice apa la.length cpa] 51
      rw [e5]
      clear e5 x1 x2 hb
      have HX : Hid (∀ W, Aft W5 W → W.cell? ⟨wr.heap.size, 0, none⟩ = some (.int .i64 ka) ∧ W.cell? ⟨wr.heap.size, 1, none⟩ = some (.slice apa la.length cpa)) := hid fun W hW => ⟨hbox5.out W hW 0 _ rfl, hbox5.out W hW 1 _ rfl⟩
      clear hbox5
      obtain ⟨n8, hn8⟩ : ∃ n, wr.heap.size = n := ⟨_, rfl⟩
      rw [hn8] at HX hlt5 ⊢
      clear hn8
      replace hwi := hwi.trans hw5
      clear hw5
      obtain ⟨⟨⟨lx, ly⟩, hx, hy⟩, hbE⟩ : ∃ x, boxZ la = x := ⟨_, rfl⟩
      obtain ⟨ln, hln⟩ : ∃ x, lengthZ ka la = x := ⟨_, rfl⟩
      obtain ⟨x1, x2⟩ := HX.out W5 (Aft.refl _)
      have hpA := (HA.out W5 hwi).2.2.2
      go_wp2_with fail
      refine (box_sm hbE W5 hpA).mono ?_
      rintro e W6 ⟨rfl, hw6⟩
      clear x1 x2
      obtain ⟨x1, x2⟩ := HX.out W6 hw6
      go_upto_region 8 with fail
      obtain ⟨W7, e7, hw7, hlt7, hbox7⟩ := two_boxes W6 #[.int .i64 lx, .int .i64 ly] #[.int .i64 hx, .int .i64 hy] 57 57
      rw [e7]
      clear e7 x1 x2
      have HY : Hid (∀ W, Aft W7 W → B2 W W6.heap.size lx ly ∧ B2 W (W6.heap.size + 1) hx hy) := hid fun W hW => ⟨⟨(hbox7.out W hW).1 0 _ rfl, (hbox7.out W hW).1 1 _ rfl⟩, (hbox7.out W hW).2 0 _ rfl, (hbox7.out W hW).2 1 _ rfl⟩
      clear hbox7
      obtain ⟨n10, hn10⟩ : ∃ n, W6.heap.size + 1 = n := ⟨_, rfl⟩
      rw [hn10] at HY ⊢
      obtain ⟨n9, hn9⟩ : ∃ n, W6.heap.size = n := ⟨_, rfl⟩
      rw [hn9] at HY ⊢
      clear hn9 hn10 hlt7
      have hw57 := hw6.trans hw7
      obtain ⟨x1, x2⟩ := HX.out W7 hw57
      go_wp2_with fail
      refine (rbox_sm hbE W7 (hpA.aft hw57)).mono ?_
      rintro e W8 ⟨rfl, hw8⟩
      clear x1 x2
      go_upto_region 9 with fail
      obtain ⟨W9, e9, hw9, hlt9, hbox9⟩ := two_boxes W8 #[.int .i64 lx, .int .i64 ly] #[.int .i64 hx, .int .i64 hy] 57 57
      rw [e9]
      clear e9
      obtain ⟨⟨p1, p2⟩, p3, p4⟩ : B2 W9 W8.heap.size lx ly ∧ B2 W9 (W8.heap.size + 1) hx hy := ⟨⟨(hbox9.out W9 (Aft.refl _)).1 0 _ rfl, (hbox9.out W9 (Aft.refl _)).1 1 _ rfl⟩, (hbox9.out W9 (Aft.refl _)).2 0 _ rfl, (hbox9.out W9 (Aft.refl _)).2 1 _ rfl⟩
      clear hbox9
      obtain ⟨n12, hn12⟩ : ∃ n, W8.heap.size + 1 = n := ⟨_, rfl⟩
      rw [hn12] at p3 p4 ⊢
      obtain ⟨n11, hn11⟩ : ∃ n, W8.heap.size = n := ⟨_, rfl⟩
      rw [hn11] at p1 p2 ⊢
      clear hn11 hn12 hlt9
      have hw79 := hw8.trans hw9
      have hw59 := hw57.trans hw79
      obtain ⟨x1, x2⟩ := HX.out W9 hw59
      obtain ⟨⟨r1, r2⟩, r3, r4⟩ := HY.out W9 hw79
      have q1 := World.block_lt_of_cell? _ _ x1
      have q2 := World.block_lt_of_cell? _ _ p1
      have q3 := World.block_lt_of_cell? _ _ p3
      have q4 := World.block_lt_of_cell? _ _ r1
      have q5 := World.block_lt_of_cell? _ _ r3
      have hpA9 := hpA.aft hw59
      refine wp_region_lat W9 (Aft.refl _) (by kernel_rfl) (by kernel_rfl) ?_
      repeat (go_big_quiet_step (first | (go_at_call 37; exact length_lat (by assumption) hln sa) | (go_at_call 38; exact rlength_lat (by assumption) hln sa)))
      refine wpQuiet_nil ?_
      intro _ hw'; obtain ⟨z, rfl⟩ := hw'
      have hwz := z.aft
      obtain ⟨W10, hW10⟩ : ∃ W, W = z.W := ⟨_, rfl⟩
      rw [← hW10] at hwz ⊢
      clear hW10 z
      have hw5a := hw59.trans hwz
      replace hwi := hwi.trans hw5a
      clear x1 x2 p1 p2 p3 p4 r1 r2 r3 r4 q1 q2 q3 q4 q5 hpA9 hwz hw59 hw79 hw57 hw8 hw9 hw6 hw7 hpA hbE
      go_wp2
      go_loopw [13] (fun j wr => ∃ q : Nat, q ≤ L.length ∧ j = .int .i64 q ∧ Aft W10 wr) (fun j _ => L.length - (intOf j).toNat)
      case atStart => exact ⟨0, by omega, rfl, Aft.refl _⟩
      case round =>
        obtain ⟨q, hq, rfl, hwq⟩ := hrel
        have hwq4 := hwi.trans hwq
        rcases Nat.lt_or_ge q L.length with hltq | hgeq
        · have hqi : (q : Int) < L.length := by omega
          obtain ⟨b', off', kb, lb, apb, cpb, e, hgb, HB⟩ := shs_fix hSA hltq
          simp only [Option.some.injEq, Addr.mk.injEq, and_true] at e
          obtain ⟨rfl, rfl⟩ := e
          have gb : Gen kb lb := hGL _ (List.mem_of_getElem? hgb.out)
          have sb := gen_sm gb
          obtain ⟨y1, y2, hb, -⟩ := HB.out wr hwq4
          go_upto_region 15 with fail
          obtain ⟨W11, e11, hw11, hlt11, hbox11⟩ := one_box wr #[.int .i64 kb, .slice apb lb.length cpb] 51
          rw [e11]
          clear e11 y1 y2 hb
          have HY : Hid (∀ W, Aft W11 W → W.cell? ⟨wr.heap.size, 0, none⟩ = some (.int .i64 kb) ∧ W.cell? ⟨wr.heap.size, 1, none⟩ = some (.slice apb lb.length cpb)) := hid fun W hW => ⟨hbox11.out W hW 0 _ rfl, hbox11.out W hW 1 _ rfl⟩
          clear hbox11
          obtain ⟨n14, hn14⟩ : ∃ n, wr.heap.size = n := ⟨_, rfl⟩
          rw [hn14] at HY hlt11 ⊢
          clear hn14 hlt11
          replace hwq := hwq.trans hw11
          replace hwq4 := hwq4.trans hw11
          clear hw11
          obtain ⟨⟨n, d⟩, hnd⟩ : ∃ f, nearZ ka la kb lb = f := ⟨_, rfl⟩
          have hpA := (HA.out W11 hwq4).2.2.2
          have hpB := (HB.out W11 hwq4).2.2.2
          obtain ⟨x1, x2⟩ := HX.out W11 (hw5a.trans hwq)
          obtain ⟨y1, y2⟩ := HY.out W11 (Aft.refl _)
          go_wp2_with fail
          refine (near_sm hnd W11 hpA hpB sa sb).mono ?_
          rintro e W12 ⟨rfl, hw12⟩
          clear x1 x2 y1 y2
          obtain ⟨x1, x2⟩ := HX.out W12 ((hw5a.trans hwq).trans hw12)
          obtain ⟨y1, y2⟩ := HY.out W12 hw12
          go_wp2_with fail
          refine (rnear_sm hnd W12 (hpA.aft hw12) (hpB.aft hw12) sa sb).mono ?_
          rintro e W13 ⟨rfl, hw13⟩
          clear x1 x2 y1 y2
          have hw113 := hw12.trans hw13
          obtain ⟨x1, x2⟩ := HX.out W13 ((hw5a.trans hwq).trans hw113)
          obtain ⟨y1, y2⟩ := HY.out W13 hw113
          have hpA13 := hpA.aft hw113
          have hpB13 := hpB.aft hw113
          obtain ⟨o1, ho1⟩ : ∃ o, insideZ ka la kb lb = o := ⟨_, rfl⟩
          obtain ⟨o2, ho2⟩ : ∃ o, leftZ la lb = o := ⟨_, rfl⟩
          obtain ⟨o3, ho3⟩ : ∃ o, longerZ ka la kb lb = o := ⟨_, rfl⟩
          have hr1 : rinsideZ ka la kb lb = o1 := by rw [← gen_inside_eq gb]; exact ho1
          have hr2 : rleftZ la lb = o2 := by rw [← left_eq]; exact ho2
          have q1 : n8 < W13.heap.size := World.block_lt_of_cell? _ _ x1
          have q2 : n14 < W13.heap.size := World.block_lt_of_cell? _ _ y1
          clear hpA hpB hw12 hw13
          go_upto_region 17 with fail
          refine wp_region_lat W13 (Aft.refl _) (by kernel_rfl) (by kernel_rfl) ?_
          repeat (go_big_quiet_step (first | (go_at_call 40; exact inside_lat hpA13 hpB13 ho1 sa sb) | (go_at_call 41; exact rinside_lat hpA13 hpB13 hr1 sa sb) | (go_at_call 34; exact left_lat hpA13 hpB13 ho2) | (go_at_call 42; exact rleft_lat hpA13 hpB13 hr2) | (go_at_call 43; exact longer_lat hpA13 hpB13 ho3 sa sb) | (go_at_call 44; exact rlonger_lat hpA13 hpB13 ho3 sa sb)))
          refine wpQuiet_nil ?_
          intro _ hw'; obtain ⟨z, rfl⟩ := hw'
          have hfz := (hwq.trans hw113).trans z.aft
          go_wp2
          go_roundw
          case rel => exact ⟨q + 1, by omega, by go_num, hfz⟩
          case measure => simp only [intOf]; omega
        · obtain rfl : q = L.length := by omega
          go_wp2
          go_roundw
          case rel => exact ⟨i + 1, by omega, by go_num, hwq4⟩
          case measure => simp only [intOf]; omega
    · obtain rfl : i = L.length := by omega
      go_wp2_with fail
      refine (lives18 wr).mono ?_
      rintro e W5 ⟨rfl, hw5⟩
      have HE := hid ((hw34.trans hwi).trans hw5)
      go_wp2
      go_ret
      exact ⟨rfl, HE.out⟩
end Go.Proofs.Ytokdclbfjlnnjaa
