/- The walk of SheetsSplits. -/
import Derived.Test.YtokdclbfjlnnjaaA1
import Derived.Test.YtokdclbfjlnnjaaL6
namespace Go.Proofs.Ytokdclbfjlnnjaa
open Go.RowKit Go.BigFrame

theorem prs_zero (n : Nat) : prs (List.replicate n (0, 0)) = List.replicate (n * 2) (.int .i64 0) := by
  induction n with
  | zero => rfl
  | succ n ih =>
    have e : (n + 1) * 2 = n * 2 + 1 + 1 := by omega
    rw [e, List.replicate_succ, List.replicate_succ, List.replicate_succ, ← ih]
    rfl
theorem made_zero (n : Nat) : (madeCells (Value.agg #[.int .i64 0, .int .i64 0]).cells (n * 2)).toList = prs (List.replicate n (0, 0)) := by
  rw [prs_zero, List.eq_replicate_iff]
  refine ⟨by simp [madeCells], fun b hb => ?_⟩
  simp only [madeCells, Array.toList_map, List.mem_map] at hb
  obtain ⟨j, _, rfl⟩ := hb
  have e : (Value.agg #[Value.int .i64 0, Value.int .i64 0]).cells = #[Value.int .i64 0, Value.int .i64 0] := by kernel_rfl
  rw [e]
  have : j % 2 = 0 ∨ j % 2 = 1 := by omega
  have hs : (#[Value.int .i64 0, Value.int .i64 0] : Array Value).size = 2 := rfl
  rw [hs]
  rcases this with h | h <;> rw [h] <;> rfl
theorem ok_zero (n : Nat) : okP (List.replicate n (0, 0)) := fun p hp => by
  obtain ⟨_, rfl⟩ := List.mem_replicate.1 hp
  simp
theorem info41z : (Try.prog.info? 41).map (fun i => (i.zero, i.size, i.bytes)) = some (some (.agg #[.int .i64 0, .int .i64 0]), 2, 16) := Try.info41

def fvSplit (r : List Int × List Int × Int) : FV := ⟨fun v W => ∃ va vp, v = .tuple #[va, vp, .int .i64 r.2.2] ∧ Ints W va r.1 ∧ Ints W vp r.2.1, fun _ _ _ ⟨va, vp, h1, h2, h3⟩ hw => ⟨va, vp, h1, h2.aft hw, h3.aft hw⟩⟩

set_option maxRecDepth 100000 in
set_option maxHeartbeats 4000000 in
theorem ssplits_any (v : Value) (l : List Int) (a1 a2 a3 a4 : Int) (w : World) (hl : Ints w v l) (b1 : -9223372036854775808 ≤ a1 ∧ a1 ≤ 9223372036854775807)
    (b2 : -9223372036854775808 ≤ a2 ∧ a2 ≤ 9223372036854775807) (b3 : -9223372036854775808 ≤ a3 ∧ a3 ≤ 9223372036854775807) (b4 : -9223372036854775808 ≤ a4 ∧ a4 ≤ 9223372036854775807) :
    Calls Try.prog 3 #[v, .int .i64 a1, .int .i64 a2, .int .i64 a3, .int .i64 a4] w fun e w' => e = .returned (.bool true) ∧ Aft w w' := by
  obtain ⟨i, hi, hz0, hz1, hz2⟩ := info_parts info41z
  go_enter Try.func3, Try.ntmps3
  go_wp2_with fail
  refine (spans_any v l w hl).mono ?_
  rintro e w1 ⟨vx, rfl, hx, hw1⟩
  have hX := spans_prs hx
  have hlen : (spansI l).length ≤ 10 := by rw [spansI_length]; omega
  generalize spansI l = X at *
  clear hx
  go_wp2_with fail
  refine (odd_any vx X a2 a3 a4 w1 hX hlen b2 b3 b4).mono ?_
  rintro e w2 ⟨vo, O, rfl, hO, hOl, hw2⟩
  obtain ⟨ax, cx, rfl, hX'⟩ := hX
  obtain ⟨ao, co, rfl, hO'⟩ := hO
  obtain ⟨k1, hk1, hk1'⟩ : ∃ k : Nat, aroundI a4 8 = (k : Int) ∧ k < 8 := by
    have := aroundI_lt a4 8 (by omega)
    exact ⟨(aroundI a4 8).toNat, by omega, by omega⟩
  go_wp2_with fail
  refine (around_any a4 8 w2 b4.1 b4.2).mono ?_
  rintro e w' ⟨rfl, rfl⟩
  rw [hk1]
  have HK1 := hid hk1; clear hk1
  go_wp2_with (at_make; refine wpList_make_full _ rfl _ _ 23 rfl w.heap.size 41 i _ 2 Try.underlying23 hi hz0 hz1 .i64 .i64 _ _ (60 + k1) rfl rfl (by omega) (by omega) (by rw [hz2]; omega) (by unfold maxLen; omega) (by have := hw1.size; have := hw2.size; omega) ?_; intro w3 hmade hgrow)
  have hw3 := (Aft.refl w2).grown hgrow (fun k hk => by cases hk)
  rw [made_zero] at hmade
  have hM : Prs w3 (.slice (some ⟨w2.heap.size, 0, none⟩) (60 + k1) (60 + k1)) (List.replicate (60 + k1) (0, 0)) :=
    ownsRow_prs (by rw [List.length_replicate]; exact hmade) (ok_zero _) (by rw [List.length_replicate]; omega)
  have hw13 := (hw1.trans hw2).trans hw3
  have hX3 : Prs w3 (.slice ax X.length cx) X := Prs.aft ⟨ax, cx, rfl, hX'⟩ (hw2.trans hw3)
  have hO3 : Prs w3 (.slice ao O.length co) O := Prs.aft ⟨ao, co, rfl, hO'⟩ hw3
  have hL3 : Hid (∀ i : Nat, i < 4 → ∃ a n c L, (w3.alloc (.cells #[.slice ax X.length cx, .slice ao O.length co, .slice (some ⟨w2.heap.size, 0, none⟩) (60 + k1) (60 + k1), .slice none 0 0] 23)).cell? ⟨w3.heap.size, i, none⟩ = some (.slice a n c) ∧ Prs w3 (.slice a n c) L) := hid (by
    intro i hi
    have : i = 0 ∨ i = 1 ∨ i = 2 ∨ i = 3 := by omega
    rcases this with rfl | rfl | rfl | rfl
    · exact ⟨_, _, _, _, cell_new _ _ _ _ _ rfl, hX3⟩
    · exact ⟨_, _, _, _, cell_new _ _ _ _ _ rfl, hO3⟩
    · exact ⟨_, _, _, _, cell_new _ _ _ _ _ rfl, hM⟩
    · exact ⟨_, _, _, [], cell_new _ _ _ _ _ rfl, none, 0, rfl, rfl, Rd.nil, by simp [okP], Nat.le_refl _, fun _ => rfl, by simp⟩)
  generalize hw4e : w3.alloc (.cells #[.slice ax X.length cx, .slice ao O.length co, .slice (some ⟨w2.heap.size, 0, none⟩) (60 + k1) (60 + k1), .slice none 0 0] 23) = w4 at *
  have hw34 : Aft w3 w4 := hw4e ▸ (Aft.refl w3).alloc _
  have hL4 : Hid (∀ i : Nat, i < 4 → ∃ a n c L, w4.cell? ⟨w3.heap.size, i, none⟩ = some (.slice a n c) ∧ Prs w4 (.slice a n c) L) := hid (fun i hi => by
    obtain ⟨a, n, c, L, h1, h2⟩ := hL3.out i hi
    exact ⟨a, n, c, L, h1, h2.aft hw34⟩)
  have hw04 := hw13.trans hw34
  clear hw4e hL3 hM hX3 hO3 hX' hO' hmade hgrow hw3 hw34
  generalize w3.heap.size = g1 at *
  refine (around_any a1 60 w4 b1.1 b1.2).mono ?_
  rintro e w' ⟨rfl, rfl⟩
  go_wp2_with fail
  refine (around_any a1 30 w4 b1.1 b1.2).mono ?_
  rintro e w' ⟨rfl, rfl⟩
  go_wp2_with fail
  obtain ⟨k2, hk2, hk2'⟩ : ∃ k : Nat, aroundI a1 4 = (k : Int) ∧ k < 4 := by
    have := aroundI_lt a1 4 (by omega)
    exact ⟨(aroundI a1 4).toNat, by omega, by omega⟩
  have hW5 : Hid (∃ x2 : Int, (w4.alloc (.cells #[.int .i64 0, .int .i64 1, .int .i64 1000, .int .i64 1001] 3)).cell? ⟨w4.heap.size, k2, none⟩ = some (.int .i64 x2)) := hid (by
    have : k2 = 0 ∨ k2 = 1 ∨ k2 = 2 ∨ k2 = 3 := by omega
    rcases this with rfl | rfl | rfl | rfl <;> exact ⟨_, cell_new _ _ _ _ _ rfl⟩)
  have hw45 := (Aft.refl w4).alloc (.cells #[.int .i64 0, .int .i64 1, .int .i64 1000, .int .i64 1001] 3)
  generalize w4.alloc (.cells #[.int .i64 0, .int .i64 1, .int .i64 1000, .int .i64 1001] 3) = w5 at *
  generalize w4.heap.size = g0 at *
  refine (around_any a1 4 w5 b1.1 b1.2).mono ?_
  rintro e w' ⟨rfl, rfl⟩
  rw [hk2]
  have HK2 := hid hk2; clear hk2
  obtain ⟨x2, hx2⟩ := hW5.out
  clear hW5
  have hk2i : (k2 : Int) < 4 := by omega
  generalize wrap64 (20 + aroundI a1 60) = y0 at *
  generalize aroundI a1 30 = y1 at *
  have hL5 : Hid (∀ i : Nat, i < 4 → ∃ a n c L, w5.cell? ⟨g1, i, none⟩ = some (.slice a n c) ∧ Prs w5 (.slice a n c) L) := hid (fun i hi => by
    obtain ⟨a, n, c, L, h1, h2⟩ := hL4.out i hi
    exact ⟨a, n, c, L, (hw45.cell (World.block_lt_of_cell? _ _ h1)).trans h1, h2.aft hw45⟩)
  have hw05 := hw04.trans hw45
  clear hL4 hw45
  go_wp2_with fail
  generalize hw6e : w5.alloc (.cells #[.int .i64 y0, .int .i64 y1, .int .i64 x2, .int .i64 a1] 3) = w6 at *
  have hw56 : Aft w5 w6 := hw6e ▸ (Aft.refl w5).alloc _
  have hW6 : Hid (∀ i : Nat, i < 4 → ∃ x : Int, w6.cell? ⟨w5.heap.size, i, none⟩ = some (.int .i64 x)) := hid (by
    intro i hi
    rw [← hw6e]
    have : i = 0 ∨ i = 1 ∨ i = 2 ∨ i = 3 := by omega
    rcases this with rfl | rfl | rfl | rfl <;> exact ⟨_, cell_new _ _ _ _ _ rfl⟩)
  have hL6 : Hid (∀ i : Nat, i < 4 → ∃ a n c L, w6.cell? ⟨g1, i, none⟩ = some (.slice a n c) ∧ Prs w6 (.slice a n c) L) := hid (fun i hi => by
    obtain ⟨a, n, c, L, h1, h2⟩ := hL5.out i hi
    exact ⟨a, n, c, L, (hw56.cell (World.block_lt_of_cell? _ _ h1)).trans h1, h2.aft hw56⟩)
  have hw06 := hw05.trans hw56
  clear hL5 hw6e hw56 hx2
  generalize w5.heap.size = g2 at *
  go_loopw [14] (fun i wr => ∃ k : Nat, k ≤ 4 ∧ i = .int .i64 k ∧ Aft w6 wr) (fun i _ => 4 - (intOf i).toNat)
  case atStart => exact ⟨0, by omega, rfl, Aft.refl w6⟩
  case round =>
    obtain ⟨i, hi4, rfl, hwr⟩ := hrel
    by_cases hi : i < 4
    · have hii : (i : Int) < 4 := by omega
      obtain ⟨aL, nL, cL, L, hcL0, hP0⟩ := hL6.out i hi
      go_wp2
      go_loopw [15] (fun k wr' => ∃ k' : Nat, k' ≤ 4 ∧ k = .int .i64 k' ∧ Aft w6 wr') (fun k _ => 4 - (intOf k).toNat)
      case atStart => exact ⟨0, by omega, rfl, hwr⟩
      case round =>
        obtain ⟨k, hk4, rfl, hwx⟩ := hrel
        by_cases hk : k < 4
        · have hkk : (k : Int) < 4 := by omega
          obtain ⟨x, hcW0⟩ := hW6.out k hk
          have hcL := (hwx.cell (World.block_lt_of_cell? _ _ hcL0)).trans hcL0
          have hP := hP0.aft hwx
          have hcW := (hwx.cell (World.block_lt_of_cell? _ _ hcW0)).trans hcW0
          go_upto_region 10 with fail
          refine wp_region_flow _ (Aft.refl _) [FV.is (.slice (some ⟨g1, 0, none⟩) 4 4), FV.is (.int .i64 i), FV.is (.pointer (some ⟨g1, i, none⟩)), FV.is (.slice aL nL cL), FV.is (.slice (some ⟨g2, 0, none⟩) 4 4), FV.is (.int .i64 k), FV.is (.pointer (some ⟨g2, k, none⟩)), FV.is (.int .i64 x), fvSplit (rSplit L x), fvSplit (rSplit L x), fvInts (rSplit L x).1, fvInts (rSplit L x).2.1, FV.is (.int .i64 (rSplit L x).2.2), fvInts (rSplit L x).1, fvInts (rSplit L x).2.1, FV.is (.int .i64 (rSplit L x).2.2)]
            [(0, 56), (1, 57), (2, 58), (3, 59), (4, 60), (5, 61), (6, 62), (7, 63), (8, 64), (9, 55), (10, 65), (11, 66), (12, 67), (13, 16), (14, 17), (15, 18)]
            [[], [], [(0, 56), (1, 57)], [(2, 58)], [], [], [(4, 60), (5, 61)], [(6, 62)], [(3, 59), (7, 63)], [(8, 64)], [(9, 55)], [(9, 55)], [(9, 55)], [(10, 65)], [(11, 66)], [(12, 67)]] (by kernel_rfl) (by kernel_rfl) ?_ ?_
          · refine flowObs_cons (fun W hW => flowOb_nil ?_) ?_
            · go_wp2
              exact ⟨rfl, Aft.refl W⟩
            refine flowObs_cons (fun W hW => flowOb_nil ?_) ?_
            · go_wp2
              exact ⟨rfl, Aft.refl W⟩
            refine flowObs_cons (fun W hW => flowOb_cons fun v h => flowOb_cons fun v' h' => flowOb_nil ?_) ?_
            · obtain rfl := h
              obtain rfl := h'
              go_wp2
              exact ⟨rfl, Aft.refl W⟩
            refine flowObs_cons (fun W hW => flowOb_cons fun v h => flowOb_nil ?_) ?_
            · obtain rfl := h
              have e0 := (hW.cell (World.block_lt_of_cell? _ _ hcL)).trans hcL
              go_wp2
              exact ⟨rfl, Aft.refl W⟩
            refine flowObs_cons (fun W hW => flowOb_nil ?_) ?_
            · go_wp2
              exact ⟨rfl, Aft.refl W⟩
            refine flowObs_cons (fun W hW => flowOb_nil ?_) ?_
            · go_wp2
              exact ⟨rfl, Aft.refl W⟩
            refine flowObs_cons (fun W hW => flowOb_cons fun v h => flowOb_cons fun v' h' => flowOb_nil ?_) ?_
            · obtain rfl := h
              obtain rfl := h'
              go_wp2
              exact ⟨rfl, Aft.refl W⟩
            refine flowObs_cons (fun W hW => flowOb_cons fun v h => flowOb_nil ?_) ?_
            · obtain rfl := h
              have e0 := (hW.cell (World.block_lt_of_cell? _ _ hcW)).trans hcW
              go_wp2
              exact ⟨rfl, Aft.refl W⟩
            refine flowObs_cons (fun W hW => flowOb_cons fun v h => flowOb_cons fun v' h' => flowOb_nil ?_) ?_
            · obtain rfl := h
              obtain rfl := h'
              go_wp2_with fail
              refine (split_any _ L x W (hP.aft hW)).mono ?_
              rintro e w' ⟨va, vp, rfl, ha, hp, hw'⟩
              go_wp2
              exact ⟨va, vp, rfl, ha, hp⟩
            refine flowObs_cons (fun W hW => flowOb_cons fun v h => flowOb_nil ?_) ?_
            · obtain ⟨va, vp, rfl, ha, hp⟩ := h
              go_wp2
              exact ⟨⟨va, vp, rfl, ha, hp⟩, Aft.refl W⟩
            refine flowObs_cons (fun W hW => flowOb_cons fun v h => flowOb_nil ?_) ?_
            · obtain ⟨va, vp, rfl, ha, hp⟩ := h
              go_wp2
              exact ⟨ha, Aft.refl W⟩
            refine flowObs_cons (fun W hW => flowOb_cons fun v h => flowOb_nil ?_) ?_
            · obtain ⟨va, vp, rfl, ha, hp⟩ := h
              go_wp2
              exact ⟨hp, Aft.refl W⟩
            refine flowObs_cons (fun W hW => flowOb_cons fun v h => flowOb_nil ?_) ?_
            · obtain ⟨va, vp, rfl, ha, hp⟩ := h
              go_wp2
              exact ⟨rfl, Aft.refl W⟩
            refine flowObs_cons (fun W hW => flowOb_cons fun v h => flowOb_nil ?_) ?_
            · go_wp2
              exact ⟨h, Aft.refl W⟩
            refine flowObs_cons (fun W hW => flowOb_cons fun v h => flowOb_nil ?_) ?_
            · go_wp2
              exact ⟨h, Aft.refl W⟩
            refine flowObs_cons (fun W hW => flowOb_cons fun v h => flowOb_nil ?_) flowObs_nil
            · go_wp2
              exact ⟨h, Aft.refl W⟩
          · intro W hW
            iterate 13 refine flowEnd_cons fun _ _ => ?_
            refine flowEnd_cons fun va ha => flowEnd_cons fun vp hp => flowEnd_cons fun ve he => flowEnd_nil ?_
            obtain rfl := he
            replace hcL := (hW.cell (World.block_lt_of_cell? _ _ hcL)).trans hcL
            replace hcW := (hW.cell (World.block_lt_of_cell? _ _ hcW)).trans hcW
            replace hP := hP.aft hW
            have hwW := hwx.trans hW
            go_upto_region 11 with fail
            refine wp_region_flow _ (Aft.refl _) [FV.is (.slice (some ⟨g1, 0, none⟩) 4 4), FV.is (.int .i64 i), FV.is (.pointer (some ⟨g1, i, none⟩)), FV.is (.slice aL nL cL), FV.is (.slice (some ⟨g2, 0, none⟩) 4 4), FV.is (.int .i64 k), FV.is (.pointer (some ⟨g2, k, none⟩)), FV.is (.int .i64 x), fvSplit (rSplit L x), fvSplit (rSplit L x), fvInts (rSplit L x).1, fvInts (rSplit L x).2.1, FV.is (.int .i64 (rSplit L x).2.2), fvInts (rSplit L x).1, fvInts (rSplit L x).2.1, FV.is (.int .i64 (rSplit L x).2.2)]
              [(0, 69), (1, 70), (2, 71), (3, 72), (4, 73), (5, 74), (6, 75), (7, 76), (8, 77), (9, 68), (10, 78), (11, 79), (12, 80), (13, 19), (14, 20), (15, 21)]
              [[], [], [(0, 69), (1, 70)], [(2, 71)], [], [], [(4, 73), (5, 74)], [(6, 75)], [(3, 72), (7, 76)], [(8, 77)], [(9, 68)], [(9, 68)], [(9, 68)], [(10, 78)], [(11, 79)], [(12, 80)]] (by kernel_rfl) (by kernel_rfl) ?_ ?_
            · refine flowObs_cons (fun W hW => flowOb_nil ?_) ?_
              · go_wp2
                exact ⟨rfl, Aft.refl W⟩
              refine flowObs_cons (fun W hW => flowOb_nil ?_) ?_
              · go_wp2
                exact ⟨rfl, Aft.refl W⟩
              refine flowObs_cons (fun W hW => flowOb_cons fun v h => flowOb_cons fun v' h' => flowOb_nil ?_) ?_
              · obtain rfl := h
                obtain rfl := h'
                go_wp2
                exact ⟨rfl, Aft.refl W⟩
              refine flowObs_cons (fun W hW => flowOb_cons fun v h => flowOb_nil ?_) ?_
              · obtain rfl := h
                have e0 := (hW.cell (World.block_lt_of_cell? _ _ hcL)).trans hcL
                go_wp2
                exact ⟨rfl, Aft.refl W⟩
              refine flowObs_cons (fun W hW => flowOb_nil ?_) ?_
              · go_wp2
                exact ⟨rfl, Aft.refl W⟩
              refine flowObs_cons (fun W hW => flowOb_nil ?_) ?_
              · go_wp2
                exact ⟨rfl, Aft.refl W⟩
              refine flowObs_cons (fun W hW => flowOb_cons fun v h => flowOb_cons fun v' h' => flowOb_nil ?_) ?_
              · obtain rfl := h
                obtain rfl := h'
                go_wp2
                exact ⟨rfl, Aft.refl W⟩
              refine flowObs_cons (fun W hW => flowOb_cons fun v h => flowOb_nil ?_) ?_
              · obtain rfl := h
                have e0 := (hW.cell (World.block_lt_of_cell? _ _ hcW)).trans hcW
                go_wp2
                exact ⟨rfl, Aft.refl W⟩
              refine flowObs_cons (fun W hW => flowOb_cons fun v h => flowOb_cons fun v' h' => flowOb_nil ?_) ?_
              · obtain rfl := h
                obtain rfl := h'
                go_wp2_with fail
                refine (rsplit_any _ L x W (hP.aft hW)).mono ?_
                rintro e w' ⟨va, vp, rfl, ha, hp, hw'⟩
                go_wp2
                exact ⟨va, vp, rfl, ha, hp⟩
              refine flowObs_cons (fun W hW => flowOb_cons fun v h => flowOb_nil ?_) ?_
              · obtain ⟨va, vp, rfl, ha, hp⟩ := h
                go_wp2
                exact ⟨⟨va, vp, rfl, ha, hp⟩, Aft.refl W⟩
              refine flowObs_cons (fun W hW => flowOb_cons fun v h => flowOb_nil ?_) ?_
              · obtain ⟨va, vp, rfl, ha, hp⟩ := h
                go_wp2
                exact ⟨ha, Aft.refl W⟩
              refine flowObs_cons (fun W hW => flowOb_cons fun v h => flowOb_nil ?_) ?_
              · obtain ⟨va, vp, rfl, ha, hp⟩ := h
                go_wp2
                exact ⟨hp, Aft.refl W⟩
              refine flowObs_cons (fun W hW => flowOb_cons fun v h => flowOb_nil ?_) ?_
              · obtain ⟨va, vp, rfl, ha, hp⟩ := h
                go_wp2
                exact ⟨rfl, Aft.refl W⟩
              refine flowObs_cons (fun W hW => flowOb_cons fun v h => flowOb_nil ?_) ?_
              · go_wp2
                exact ⟨h, Aft.refl W⟩
              refine flowObs_cons (fun W hW => flowOb_cons fun v h => flowOb_nil ?_) ?_
              · go_wp2
                exact ⟨h, Aft.refl W⟩
              refine flowObs_cons (fun W hW => flowOb_cons fun v h => flowOb_nil ?_) flowObs_nil
              · go_wp2
                exact ⟨h, Aft.refl W⟩
            · intro W5 hW5
              iterate 13 refine flowEnd_cons fun _ _ => ?_
              refine flowEnd_cons fun va' ha' => flowEnd_cons fun vp' hp' => flowEnd_cons fun ve' he' => flowEnd_nil ?_
              obtain rfl := he'
              replace ha := Ints.aft ha hW5
              replace hp := Ints.aft hp hW5
              have hwW5 := hwW.trans hW5
              go_wp2_with fail
              refine (same_any va va' (rSplit L x).1 (rSplit L x).1 W5 ha ha').mono ?_
              rintro e w7 ⟨rfl, hw7⟩
              go_wp2_with fail
              refine (same_any vp vp' (rSplit L x).2.1 (rSplit L x).2.1 w7 (hp.aft hw7) (Ints.aft hp' hw7)).mono ?_
              rintro e w8 ⟨rfl, hw8⟩
              go_wp2
              go_roundw
              case rel => exact ⟨k + 1, by omega, by go_num, (hwW5.trans hw7).trans hw8⟩
              case measure => simp [intOf]; omega
        · go_wp2
          go_roundw
          case rel => exact ⟨i + 1, by omega, by go_num, hwx⟩
          case measure => simp [intOf]; omega
    · go_wp2_with (go_at_call 22; refine (lives_any _).mono ?_; rintro e w7 ⟨rfl, hw7⟩)
      go_ret
      exact ⟨rfl, (hw06.trans hwr).trans hw7⟩
end Go.Proofs.Ytokdclbfjlnnjaa
