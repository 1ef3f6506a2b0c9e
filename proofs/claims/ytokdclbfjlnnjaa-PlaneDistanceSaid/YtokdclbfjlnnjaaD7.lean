/- The walk of PlaneDistance. -/
import Derived.Test.YtokdclbfjlnnjaaA5
namespace Go.Proofs.Ytokdclbfjlnnjaa
open Go.RowKit Go.BigFrame

theorem rsquare_to {ax ay bx by_ s : Int} (h : sqZ (ax, ay) (bx, by_) = s) (w : World) (h1 : Sc ax) (h2 : Sc ay) (h3 : Sc bx) (h4 : Sc by_) :
    Calls Try.prog 32 #[.agg #[.int .i64 ax, .int .i64 ay], .agg #[.int .i64 bx, .int .i64 by_]] w fun e w' => e = .returned (.int .i64 s) ∧ Aft w w' := by rw [← h]; exact square_any w h1 h2 h3 h4
/-- Whether parts met so far. -/
def metUp (la lb : List Pt) (m' r q : Nat) : Bool := meets la lb r m' || (List.range q).any fun j => meetZ (sgZ la r) (sgZ lb j)
theorem metUp_zero (la lb : List Pt) (m' r : Nat) : metUp la lb m' r 0 = meets la lb r m' := by simp [metUp]
theorem metUp_succ (la lb : List Pt) (m' r q : Nat) : metUp la lb m' r (q + 1) = (metUp la lb m' r q || meetZ (sgZ la r) (sgZ lb q)) := by simp [metUp, List.range_succ, Bool.or_assoc]
theorem metUp_row (la lb : List Pt) (m' r : Nat) : metUp la lb m' r m' = meets la lb (r + 1) m' := by simp [metUp, meets, List.range_succ]

set_option maxRecDepth 100000 in
set_option maxHeartbeats 16000000 in
theorem distance_any (v1 v2 : Value) (l1 l2 : List Int) (w : World) (hl1 : Ints w v1 l1) (hl2 : Ints w v2 l2) :
    Calls Try.prog 7 #[v1, v2] w fun e w' => e = .returned (.bool true) ∧ Aft w w' := by
  have hI1 := hl1
  have hI2 := hl2
  obtain ⟨aa, ca0, rfl, hl1⟩ := hl1
  obtain ⟨ab, cb0, rfl, hl2⟩ := hl2
  obtain ⟨W0, eW0, hw0, hlt0⟩ : ∃ W0, w.alloc (.cells #[] 51) = W0 ∧ Aft w W0 ∧ W0.heap.size = w.heap.size + 1 ∧ W0.heap[w.heap.size]? = some (.cells #[] 51) := ⟨_, rfl, (Aft.refl w).alloc _, by simp, heap_alloc_new w _⟩
  obtain ⟨hlt0, hhp0⟩ := hlt0
  go_enter Try.func7, Try.ntmps7
  go_upto_region 1 with fail
  go_wp2_with fail
  clear eW0
  obtain ⟨g0, hg0⟩ : ∃ n, w.heap.size = n := ⟨_, rfl⟩
  rw [hg0] at hlt0 hhp0 ⊢
  refine (figure_any _ l1 W0 (hI1.aft hw0)).mono ?_
  rintro e W1 ⟨a1, c1, R1, L1, rfl, hB1, hG1, hn1, -, hw1⟩
  have hhp1 := (hw1.block g0 (by omega)).trans hhp0
  have hz1 := hw1.size
  rw [hlt0] at hB1
  have hfld := field_fig 62 62 a1 L1.length c1 W1
  go_wp2_with (at_builtin; refine wpList_app_empty _ rfl (.tmp 19) (.tmp 22) 43 rfl g0 51 (.agg #[.int .i64 0, .slice none 0 0]) 2 32 Try.underlying43 Try.info51 rfl (by decide) g0 rfl ⟨rfl, .inr ⟨g0, 0, #[], rfl, Nat.le_refl _, hhp1, Nat.le_refl _, by decide, rfl, rfl⟩⟩ a1 L1.length c1 (shCells R1) rfl hB1.sh.nil (by rw [shCells_length, hB1.sh.lenR]) hB1.sh.rd (shs_one hB1.sh) (by unfold maxLen; omega) (by omega) (by omega) ?_; intro v1 W2 ho1 hw2 hv1)
  have hz2 := hw2.size
  refine (figure_any _ l2 W2 (hI2.aft ((hw0.trans hw1).trans hw2))).mono ?_
  rintro e W3 ⟨a2, c2, R2, L2, rfl, hB2, hG2, hn2, -, hw3⟩
  have hz3 := hw3.size
  have ho3 := ownsRow_aft ho1 hw3
  have hfld2 := field_fig 62 62 a2 L2.length c2 W3
  go_wp2_with (at_builtin; refine wpList_app _ rfl (.tmp 23) (.tmp 26) 43 rfl g0 51 (.agg #[.int .i64 0, .slice none 0 0]) 2 32 Try.underlying43 Try.info51 rfl (by decide) _ L1.length (shCells R1) rfl ho3 a2 L2.length c2 (shCells R2) rfl hB2.sh.nil (by rw [shCells_length, hB2.sh.lenR]) hB2.sh.rd (shs_one hB2.sh) (by unfold maxLen; omega) (by omega) (by omega) ?_; intro v2 W4 ho4 hgrow hloc)
  clear hfld hfld2
  obtain ⟨a, c, rfl, -⟩ := ownsRow_at ho4
  have hw34 : Aft w W4 := (((hw0.trans hw1).trans hw2).trans hw3).grown hgrow (fun k hk => by have := (ho1.lt k hk).1; omega)
  have hSA := rows_join (n := L1.length + L2.length) hB1 hB2 hw2 hw3 hgrow (fun b hb => by rcases hv1 b hb with h | h <;> omega) (fun b hb => (ho1.lt b hb).2) ho4 rfl (by omega)
  have hGL := genL_append hG1 hG2
  have hlen : L1.length + L2.length = (L1 ++ L2).length := by simp
  generalize R1 ++ R2 = R at hSA
  rw [hlen] at hSA
  have hn : (L1 ++ L2).length ≤ 10 := by rw [← hlen]; omega
  have hlen' := hid hlen
  rw [hlen]
  generalize L1 ++ L2 = L at *
  clear hlen hlen' ho4 ho3 ho1 hgrow hB1 hB2 hloc hv1 hz1 hz2 hz3 hhp0 hhp1 hG1 hG2 hlt0
  clear hw0 hw1 hw2 hw3
  go_wp2
  go_loopw [6] (fun i wr => ∃ r : Nat, r ≤ L.length ∧ i = .int .i64 r ∧ Aft W4 wr) (fun i _ => L.length - (intOf i).toNat)
  case atStart => exact ⟨0, by omega, rfl, Aft.refl _⟩
  case round =>
    obtain ⟨i, hi, rfl, hwi⟩ := hrel
    rcases Nat.lt_or_ge i L.length with hlti | hgei
    · have hii : (i : Int) < L.length := by omega
      go_wp2
      go_loopw [7] (fun j wr => ∃ q : Nat, q ≤ L.length ∧ j = .int .i64 q ∧ Aft W4 wr) (fun j _ => L.length - (intOf j).toNat)
      case atStart => exact ⟨0, by omega, rfl, hwi⟩
      case round =>
        obtain ⟨q, hq, rfl, hwq⟩ := hrel
        rcases Nat.lt_or_ge q L.length with hltq | hgeq
        · have hqi : (q : Int) < L.length := by omega
          have hSr := hSA.aft hwq
          obtain ⟨b, off, ka, la, apa, cpa, rfl, x1, x2, hb, hga, hpa⟩ := hSr.get hlti
          obtain ⟨b', off', kb, lb, apb, cpb, e, y1, y2, -, hgb, hpb⟩ := hSr.get hltq
          simp only [Option.some.injEq, Addr.mk.injEq, and_true] at e
          obtain ⟨rfl, rfl⟩ := e
          have ga : Gen ka la := hGL _ (List.mem_of_getElem? hga.out)
          have gb : Gen kb lb := hGL _ (List.mem_of_getElem? hgb.out)
          have sa := gen_sm ga
          have sb := gen_sm gb
          obtain ⟨⟨n, d⟩, hnd⟩ : ∃ f, nearZ ka la kb lb = f := ⟨_, rfl⟩
          obtain ⟨f1, f2, f3, f4, f5, f6, f7, f8⟩ := pair_facts ga gb hnd
          have hpA : Prs wr (.slice apa la.length cpa) la := ⟨_, _, rfl, hpa⟩
          have hpB : Prs wr (.slice apb lb.length cpb) lb := ⟨_, _, rfl, hpb⟩
          clear hga hgb hpa hpb hSr
          have hpt : ∀ i, Sc (ptZ la i).1 ∧ Sc (ptZ la i).2 := fun i => sa.sc _ (ptZ_mem sa.ne i)
          obtain ⟨W5, hW5⟩ : ∃ W5, W5 = wr := ⟨_, rfl⟩
          subst hW5
          go_upto_region 8 with fail
          refine wp_region_lat W5 (Aft.refl _) (by kernel_rfl) (by kernel_rfl) ?_
          repeat (go_big_quiet_step ((go_at_call 28; exact Calls.lat (near_sm hnd _ (hpA.aft (Lat.aft _)) (hpB.aft (Lat.aft _)) sa sb))))
          refine wpQuiet_nil ?_
          intro _ hw'; obtain ⟨z, rfl⟩ := hw'
          have hw6 := z.aft
          obtain ⟨W6, hW6⟩ : ∃ W6, W6 = z.W := ⟨_, rfl⟩
          rw [← hW6] at hw6 ⊢
          clear hW6 z
          have tr : ∀ {b o : Nat} {v : Value}, W5.cell? ⟨b, o, none⟩ = some v → W6.cell? ⟨b, o, none⟩ = some v := fun h => (hw6.cell (World.block_lt_of_cell? _ _ h)).trans h
          replace x1 := tr x1
          replace x2 := tr x2
          replace y1 := tr y1
          replace y2 := tr y2
          clear tr
          replace hb : b < W6.heap.size := World.block_lt_of_cell? _ _ x1
          replace hpA := hpA.aft hw6
          replace hpB := hpB.aft hw6
          replace hwq := hwq.trans hw6
          clear hw6
          have g1 : ¬ d < 1 := by omega
          have g2 : ¬ n < 0 := by omega
          have hsym : (decide ((nearZ kb lb ka la).1 = n) && decide ((nearZ kb lb ka la).2 = d)) = true := by rw [f1]; simp
          go_upto_region 9 with fail
          refine wp_region_lat W6 (Aft.refl _) (by kernel_rfl) (by kernel_rfl) ?_
          repeat (go_big_quiet_step ((go_at_call 29; exact Calls.lat (nearIs_sm hsym _ (hpB.aft (Lat.aft _)) (hpA.aft (Lat.aft _)) sb sa))))
          refine wpQuiet_nil ?_
          intro _ hw'; obtain ⟨z, rfl⟩ := hw'
          have hw6 := z.aft
          obtain ⟨W7, hW7⟩ : ∃ W7, W7 = z.W := ⟨_, rfl⟩
          rw [← hW7] at hw6 ⊢
          clear hW7 z hsym
          have tr : ∀ {b o : Nat} {v : Value}, W6.cell? ⟨b, o, none⟩ = some v → W7.cell? ⟨b, o, none⟩ = some v := fun h => (hw6.cell (World.block_lt_of_cell? _ _ h)).trans h
          replace x1 := tr x1
          replace x2 := tr x2
          replace y1 := tr y1
          replace y2 := tr y2
          clear tr
          replace hb : b < W7.heap.size := World.block_lt_of_cell? _ _ x1
          replace hpA := hpA.aft hw6
          replace hpB := hpB.aft hw6
          replace hwq := hwq.trans hw6
          clear hw6
          go_wp2_with fail
          refine (parts_any ka _ la W7 hpA sa.le sa.dot).mono ?_
          rintro e W8 ⟨v8, rfl, hown8, hw8⟩
          have tr : ∀ {b o : Nat} {v : Value}, W7.cell? ⟨b, o, none⟩ = some v → W8.cell? ⟨b, o, none⟩ = some v := fun h => (hw8.cell (World.block_lt_of_cell? _ _ h)).trans h
          replace x1 := tr x1
          replace x2 := tr x2
          replace y1 := tr y1
          replace y2 := tr y2
          clear tr
          replace hb : b < W8.heap.size := World.block_lt_of_cell? _ _ x1
          go_wp2_with fail
          refine (parts_any kb _ lb W8 (hpB.aft hw8) sb.le sb.dot).mono ?_
          rintro e W9 ⟨v9, rfl, hown9, hw9⟩
          have hw89 := hw8.trans hw9
          have hown8' := ownsRow_aft hown8 hw9
          replace hpA := hpA.aft hw89
          replace hpB := hpB.aft hw89
          replace hwq := hwq.trans hw89
          have HX := hid (show W9.cell? ⟨b, off + i * 2, none⟩ = some (.int .i64 ka) ∧ W9.cell? ⟨b, off + i * 2 + 1, none⟩ = some (.slice apa la.length cpa) ∧ W9.cell? ⟨b, off + q * 2, none⟩ = some (.int .i64 kb) ∧ W9.cell? ⟨b, off + q * 2 + 1, none⟩ = some (.slice apb lb.length cpb) from
            ⟨(hw9.cell (World.block_lt_of_cell? _ _ x1)).trans x1, (hw9.cell (World.block_lt_of_cell? _ _ x2)).trans x2, (hw9.cell (World.block_lt_of_cell? _ _ y1)).trans y1, (hw9.cell (World.block_lt_of_cell? _ _ y2)).trans y2⟩)
          clear x1 x2 y1 y2 hown8 hw8 hw9 hw89
          have hma := nPart_le sa.dot
          have hmb := nPart_le sb.dot
          have hlA := sa.le
          have hlB := sb.le
          have HN := hid hnd
          clear hnd
          have F7 := hid f7
          have F6 := hid f6
          have F8 := hid f8
          clear f1 f6 f7 f8
          obtain ⟨m, hm⟩ : ∃ m, nPart ka la = m := ⟨_, rfl⟩
          obtain ⟨m', hm'⟩ : ∃ m, nPart kb lb = m := ⟨_, rfl⟩
          rw [hm] at hown8' hma F6 F7
          rw [hm'] at hown9 hmb F6 F7
          clear hm hm'
          obtain ⟨a8, c8, rfl, _⟩ := ownsRow_at hown8'
          obtain ⟨a9, c9, rfl, _⟩ := ownsRow_at hown9
          go_wp2
          go_loopw [12, 13] (fun o i wr => ∃ r : Nat, r ≤ m ∧ i = .int .i64 r ∧ o = .bool (meets la lb r m') ∧ Aft W9 wr) (fun _ i _ => m - (intOf i).toNat)
          case atStart => exact ⟨0, by omega, rfl, by simp [meets], Aft.refl _⟩
          case round =>
            obtain ⟨r, hr, rfl, rfl, hwr⟩ := hrel
            rcases Nat.lt_or_ge r m with hltr | hger
            · have hri : (r : Int) < m := by omega
              go_wp2
              go_loopw [12, 14] (fun o i wr => ∃ s : Nat, s ≤ m' ∧ i = .int .i64 s ∧ o = .bool (metUp la lb m' r s) ∧ Aft W9 wr) (fun _ i _ => m' - (intOf i).toNat)
              case atStart => exact ⟨0, by omega, rfl, by rw [metUp_zero], hwr⟩
              case round =>
                obtain ⟨s, hs, rfl, rfl, hws⟩ := hrel
                rcases Nat.lt_or_ge s m' with hlts | hges
                · have hsi : (s : Int) < m' := by omega
                  have o8 := ownsRow_aft hown8' hws
                  have o9 := ownsRow_aft hown9 hws
                  obtain ⟨g, cap, he, q1, q2, q3, q4, q5, q6⟩ := ends_cells o8 hltr
                  simp only [Value.slice.injEq, true_and] at he
                  obtain ⟨rfl, rfl⟩ := he
                  obtain ⟨g', cap', he', t1, t2, t3, t4, t5, t6⟩ := ends_cells o9 hlts
                  simp only [Value.slice.injEq, true_and] at he'
                  obtain ⟨rfl, rfl⟩ := he'
                  have hsa4 := sgZ_sc sa.sc r
                  have hsb4 := sgZ_sc sb.sc s
                  have hsq := F7.out r hltr s hlts
                  have hsn : Near1 0 0 (sgZ la r).1 := sa.near r
                  have hsn' : Near1 0 0 (sgZ lb s).1 := sb.near s
                  have hM := hid (metUp_succ la lb m' r s)
                  obtain ⟨⟨⟨ax, ay⟩, bx, by_⟩, hsE⟩ : ∃ x, sgZ la r = x := ⟨_, rfl⟩
                  obtain ⟨⟨⟨cx, cy⟩, dx, dy⟩, htE⟩ : ∃ x, sgZ lb s = x := ⟨_, rfl⟩
                  rw [hsE] at q1 q2 q3 q4 hsa4 hsq hM hsn
                  rw [htE] at t1 t2 t3 t4 hsb4 hsq hM hsn'
                  simp only at q1 q2 q3 q4 hsa4 t1 t2 t3 t4 hsb4 hsq
                  have hqb := sq_bd100 hsn hsn'
                  obtain ⟨s1, s2, s3, s4⟩ := hsa4
                  obtain ⟨s5, s6, s7, s8⟩ := hsb4
                  clear hsE htE hsn hsn'
                  have hg1 := World.block_lt_of_cell? _ _ q1
                  have hg2 := World.block_lt_of_cell? _ _ t1
                  obtain ⟨o, ho⟩ : ∃ o, meetZ ((ax, ay), (bx, by_)) ((cx, cy), (dx, dy)) = o := ⟨_, rfl⟩
                  obtain ⟨sq, hsqE⟩ : ∃ x, sqZ (ax, ay) (cx, cy) = x := ⟨_, rfl⟩
                  rw [hsqE] at hsq hqb
                  rw [ho] at hM
                  obtain ⟨mu, hmu⟩ : ∃ x, metUp la lb m' r s = x := ⟨_, rfl⟩
                  rw [hmu] at hM ⊢
                  clear hmu
                  have hmul : 0 ≤ sq * d ∧ sq * d ≤ 400000000 := by
                    have h1 : sq.natAbs ≤ 20000 := by omega
                    have h2 : d.natAbs ≤ 20000 := by omega
                    have h3 := Nat.mul_le_mul h1 h2
                    rw [← Int.natAbs_mul] at h3
                    have := Int.mul_nonneg hqb.1 (show 0 ≤ d by omega)
                    omega
                  have hng : ¬ sq * d < n := by omega
                  obtain ⟨W10, hW10⟩ : ∃ W, W = wr := ⟨_, rfl⟩
                  subst hW10
                  have hstep : ∀ (K : Prop), (∀ mu', mu = mu' → (mu' = true ∨ mu' = false) → K) → K := fun K h => h mu rfl (by cases mu <;> simp)
                  cases mu with
                  | true =>
                    go_upto_region 20 with fail
                    refine wp_region_lat W10 (Aft.refl _) (by kernel_rfl) (by kernel_rfl) ?_
                    repeat (go_big_quiet_step (fail))
                    refine wpQuiet_nil ?_
                    intro _ hw'; obtain ⟨z, rfl⟩ := hw'
                    have hwz := hws.trans z.aft
                    obtain ⟨W11, hW11⟩ : ∃ W, W = z.W := ⟨_, rfl⟩
                    have hw11 := z.aft
                    rw [← hW11] at hw11 hwz ⊢
                    clear hW11 z
                    have tr : ∀ {b o : Nat} {v : Value}, W10.cell? ⟨b, o, none⟩ = some v → W11.cell? ⟨b, o, none⟩ = some v := fun h => (hw11.cell (World.block_lt_of_cell? _ _ h)).trans h
                    replace q1 := tr q1
                    replace q2 := tr q2
                    replace t1 := tr t1
                    replace t2 := tr t2
                    clear tr q3 q4 q5 q6 t3 t4 t5 t6
                    replace hg1 : g < W11.heap.size := World.block_lt_of_cell? _ _ q1
                    replace hg2 : g' < W11.heap.size := World.block_lt_of_cell? _ _ t1
                    go_upto_region 21 with fail
                    refine wp_region_lat W11 (Aft.refl _) (by kernel_rfl) (by kernel_rfl) ?_
                    repeat (go_big_quiet_step ((go_at_call 32; exact Calls.lat (rsquare_to hsqE _ s1 s2 s5 s6))))
                    refine wpQuiet_nil ?_
                    intro _ hw'; obtain ⟨z, rfl⟩ := hw'
                    have hwz2 := hwz.trans z.aft
                    go_wp2
                    go_roundw
                    case rel => exact ⟨s + 1, by omega, by go_num, by rw [hM.out]; rfl, hwz2⟩
                    case measure => simp only [intOf]; omega
                  | false =>
                    go_upto_region 20 with fail
                    refine wp_region_lat W10 (Aft.refl _) (by kernel_rfl) (by kernel_rfl) ?_
                    repeat (go_big_quiet_step ((go_at_call 31; exact Calls.lat (rmeet_to ho _ s1 s2 s3 s4 s5 s6 s7 s8))))
                    refine wpQuiet_nil ?_
                    intro _ hw'; obtain ⟨z, rfl⟩ := hw'
                    have hwz := hws.trans z.aft
                    obtain ⟨W11, hW11⟩ : ∃ W, W = z.W := ⟨_, rfl⟩
                    have hw11 := z.aft
                    rw [← hW11] at hw11 hwz ⊢
                    clear hW11 z
                    have tr : ∀ {b o : Nat} {v : Value}, W10.cell? ⟨b, o, none⟩ = some v → W11.cell? ⟨b, o, none⟩ = some v := fun h => (hw11.cell (World.block_lt_of_cell? _ _ h)).trans h
                    replace q1 := tr q1
                    replace q2 := tr q2
                    replace t1 := tr t1
                    replace t2 := tr t2
                    clear tr q3 q4 q5 q6 t3 t4 t5 t6
                    replace hg1 : g < W11.heap.size := World.block_lt_of_cell? _ _ q1
                    replace hg2 : g' < W11.heap.size := World.block_lt_of_cell? _ _ t1
                    go_upto_region 21 with fail
                    refine wp_region_lat W11 (Aft.refl _) (by kernel_rfl) (by kernel_rfl) ?_
                    repeat (go_big_quiet_step ((go_at_call 32; exact Calls.lat (rsquare_to hsqE _ s1 s2 s5 s6))))
                    refine wpQuiet_nil ?_
                    intro _ hw'; obtain ⟨z, rfl⟩ := hw'
                    have hwz2 := hwz.trans z.aft
                    go_wp2
                    go_roundw
                    case rel => exact ⟨s + 1, by omega, by go_num, by rw [hM.out]; rfl, hwz2⟩
                    case measure => simp only [intOf]; omega
                · obtain rfl : s = m' := by omega
                  go_wp2
                  go_roundw
                  case rel => exact ⟨r + 1, by omega, by go_num, by rw [metUp_row], hws⟩
                  case measure => simp only [intOf]; omega
            · obtain rfl : r = m := by omega
              have hm6 := F6.out
              obtain ⟨mt, hmt⟩ : ∃ x, meets la lb r m' = x := ⟨_, rfl⟩
              rw [hmt] at hm6 ⊢
              clear hmt
              obtain ⟨⟨⟨lx, ly⟩, hx, hy⟩, hbE⟩ : ∃ x, boxZ la = x := ⟨_, rfl⟩
              obtain ⟨⟨⟨lx', ly'⟩, hx', hy'⟩, hbE'⟩ : ∃ x, boxZ lb = x := ⟨_, rfl⟩
              have bd1 := box_bd sa
              have bd2 := box_bd sb
              have hf8 := F8.out
              rw [hbE] at bd1 hf8
              rw [hbE'] at bd2 hf8
              simp only at bd1 bd2 hf8
              have hleft : leftZ la lb = decide (hx < lx') := by
                unfold leftZ
                rw [hbE, hbE']
                have h1 := List.length_pos_iff.2 sa.ne
                have h2 := List.length_pos_iff.2 sb.ne
                simp [h1, h2]
              have hpAr := hpA.aft hwr
              have hpBr := hpB.aft hwr
              obtain ⟨x1, x2, y1, y2⟩ := HX.out
              have tr : ∀ {b o : Nat} {v : Value}, W9.cell? ⟨b, o, none⟩ = some v → wr.cell? ⟨b, o, none⟩ = some v := fun h => (hwr.cell (World.block_lt_of_cell? _ _ h)).trans h
              replace x1 := tr x1
              replace x2 := tr x2
              replace y1 := tr y1
              replace y2 := tr y2
              clear tr
              go_wp2_with fail
              refine (box_sm hbE wr hpAr).mono ?_
              rintro e W11 ⟨rfl, hw11⟩
              have tr : ∀ {b o : Nat} {v : Value}, wr.cell? ⟨b, o, none⟩ = some v → W11.cell? ⟨b, o, none⟩ = some v := fun h => (hw11.cell (World.block_lt_of_cell? _ _ h)).trans h
              replace x1 := tr x1
              replace x2 := tr x2
              replace y1 := tr y1
              replace y2 := tr y2
              clear tr
              go_upto_region 24 with fail
              obtain ⟨W12, e12, hw12, hlt12, hbox12⟩ := two_boxes W11 #[.int .i64 lx, .int .i64 ly] #[.int .i64 hx, .int .i64 hy] 57 57
              rw [e12]
              clear e12
              have h16 := (hbox12.out W12 (Aft.refl _)).2 0 (.int .i64 hx) rfl
              clear hbox12
              obtain ⟨n16, hn16⟩ : ∃ n, W11.heap.size + 1 = n := ⟨_, rfl⟩
              rw [hn16] at h16 ⊢
              clear hn16 hlt12
              have tr : ∀ {b o : Nat} {v : Value}, W11.cell? ⟨b, o, none⟩ = some v → W12.cell? ⟨b, o, none⟩ = some v := fun h => (hw12.cell (World.block_lt_of_cell? _ _ h)).trans h
              replace x1 := tr x1
              replace x2 := tr x2
              replace y1 := tr y1
              replace y2 := tr y2
              clear tr
              have hpB12 := (hpBr.aft hw11).aft hw12
              go_wp2_with fail
              refine (box_sm hbE' W12 hpB12).mono ?_
              rintro e W13 ⟨rfl, hw13⟩
              have tr : ∀ {b o : Nat} {v : Value}, W12.cell? ⟨b, o, none⟩ = some v → W13.cell? ⟨b, o, none⟩ = some v := fun h => (hw13.cell (World.block_lt_of_cell? _ _ h)).trans h
              replace x1 := tr x1
              replace x2 := tr x2
              replace y1 := tr y1
              replace y2 := tr y2
              replace h16 := tr h16
              clear tr
              go_upto_region 25 with fail
              obtain ⟨W14, e14, hw14, hlt14, hbox14⟩ := two_boxes W13 #[.int .i64 lx', .int .i64 ly'] #[.int .i64 hx', .int .i64 hy'] 57 57
              rw [e14]
              clear e14
              have h17 := (hbox14.out W14 (Aft.refl _)).1 0 (.int .i64 lx') rfl
              clear hbox14
              obtain ⟨n17, hn17⟩ : ∃ n, W13.heap.size = n := ⟨_, rfl⟩
              rw [hn17] at h17 ⊢
              clear hn17 hlt14
              have tr : ∀ {b o : Nat} {v : Value}, W13.cell? ⟨b, o, none⟩ = some v → W14.cell? ⟨b, o, none⟩ = some v := fun h => (hw14.cell (World.block_lt_of_cell? _ _ h)).trans h
              replace x1 := tr x1
              replace x2 := tr x2
              replace y1 := tr y1
              replace y2 := tr y2
              replace h16 := tr h16
              clear tr
              have hw1114 := (hw12.trans hw13).trans hw14
              have hpA' := (hpAr.aft hw11).aft hw1114
              have hpB' := (hpB12.aft hw13).aft hw14
              have hfin := ((hwq.trans hwr).trans hw11).trans hw1114
              have l1 : b < W14.heap.size := World.block_lt_of_cell? _ _ x1
              have l2 : n16 < W14.heap.size := World.block_lt_of_cell? _ _ h16
              have l3 : n17 < W14.heap.size := World.block_lt_of_cell? _ _ h17
              clear hpA hpB hpAr hpBr hpB12 hown8' hown9 hbE hbE' hw11 hw12 hw13 hw14 hw1114 hwr
              by_cases hlt : hx < lx'
              · have hl1 : leftZ la lb = true := by rw [hleft]; simpa using hlt
                have hng : ¬ n < (lx' - hx) * (lx' - hx) * d := by have := hf8 hlt; omega
                have hsb : 0 ≤ lx' - hx ∧ lx' - hx ≤ 60 := by omega
                have hsq : 0 ≤ (lx' - hx) * (lx' - hx) ∧ (lx' - hx) * (lx' - hx) ≤ 3600 := by
                  have h1 : (lx' - hx).natAbs ≤ 60 := by omega
                  have h3 := Nat.mul_le_mul h1 h1
                  rw [← Int.natAbs_mul] at h3
                  have := sq_nonneg (lx' - hx)
                  omega
                have hmul : 0 ≤ (lx' - hx) * (lx' - hx) * d ∧ (lx' - hx) * (lx' - hx) * d ≤ 72000000 := by
                  have h1 : ((lx' - hx) * (lx' - hx)).natAbs ≤ 3600 := by omega
                  have h2 : d.natAbs ≤ 20000 := by omega
                  have h3 := Nat.mul_le_mul h1 h2
                  rw [← Int.natAbs_mul] at h3
                  have := Int.mul_nonneg hsq.1 (show 0 ≤ d by omega)
                  omega
                clear hlt hleft hf8
                cases mt with
                | true =>
                  obtain rfl : n = 0 := hm6.2 rfl
                  refine wp_region_lat W14 (Aft.refl _) (by kernel_rfl) (by kernel_rfl) ?_
                  repeat (go_big_quiet_step ((go_at_call 34; exact Calls.lat (left_sm (by assumption) _ (hpA'.aft (Lat.aft _)) (hpB'.aft (Lat.aft _))))))
                  refine wpQuiet_nil ?_
                  intro _ hw'; obtain ⟨z, rfl⟩ := hw'
                  have hfz := hfin.trans z.aft
                  go_wp2
                  go_roundw
                  case rel => exact ⟨q + 1, by omega, by go_num, hfz⟩
                  case measure => simp only [intOf]; omega
                | false =>
                  have hn0 : ¬ n = 0 := fun h => by have := hm6.1 h; cases this
                  have hn0' : (n == 0) = false := by rw [beq_eq_false_iff_ne]; exact hn0
                  refine wp_region_lat W14 (Aft.refl _) (by kernel_rfl) (by kernel_rfl) ?_
                  repeat (go_big_quiet_step ((go_at_call 34; exact Calls.lat (left_sm (by assumption) _ (hpA'.aft (Lat.aft _)) (hpB'.aft (Lat.aft _))))))
                  refine wpQuiet_nil ?_
                  intro _ hw'; obtain ⟨z, rfl⟩ := hw'
                  have hfz := hfin.trans z.aft
                  go_wp2
                  go_roundw
                  case rel => exact ⟨q + 1, by omega, by go_num, hfz⟩
                  case measure => simp only [intOf]; omega
              · have hl1 : leftZ la lb = false := by rw [hleft]; simpa using hlt
                clear hlt hleft hf8
                cases mt with
                | true =>
                  obtain rfl : n = 0 := hm6.2 rfl
                  refine wp_region_lat W14 (Aft.refl _) (by kernel_rfl) (by kernel_rfl) ?_
                  repeat (go_big_quiet_step ((go_at_call 34; exact Calls.lat (left_sm (by assumption) _ (hpA'.aft (Lat.aft _)) (hpB'.aft (Lat.aft _))))))
                  refine wpQuiet_nil ?_
                  intro _ hw'; obtain ⟨z, rfl⟩ := hw'
                  have hfz := hfin.trans z.aft
                  go_wp2
                  go_roundw
                  case rel => exact ⟨q + 1, by omega, by go_num, hfz⟩
                  case measure => simp only [intOf]; omega
                | false =>
                  have hn0 : ¬ n = 0 := fun h => by have := hm6.1 h; cases this
                  have hn0' : (n == 0) = false := by rw [beq_eq_false_iff_ne]; exact hn0
                  refine wp_region_lat W14 (Aft.refl _) (by kernel_rfl) (by kernel_rfl) ?_
                  repeat (go_big_quiet_step ((go_at_call 34; exact Calls.lat (left_sm (by assumption) _ (hpA'.aft (Lat.aft _)) (hpB'.aft (Lat.aft _))))))
                  refine wpQuiet_nil ?_
                  intro _ hw'; obtain ⟨z, rfl⟩ := hw'
                  have hfz := hfin.trans z.aft
                  go_wp2
                  go_roundw
                  case rel => exact ⟨q + 1, by omega, by go_num, hfz⟩
                  case measure => simp only [intOf]; omega
        · obtain rfl : q = L.length := by omega
          go_wp2
          go_roundw
          case rel => exact ⟨i + 1, by omega, by go_num, hwq⟩
          case measure => simp only [intOf]; omega
    · obtain rfl : i = L.length := by omega
      go_wp2_with fail
      refine (lives18 wr).mono ?_
      rintro e W5 ⟨rfl, hw5⟩
      have HE := hid ((hw34.trans hwi).trans hw5)
      go_wp2
      go_ret
      exact ⟨rfl, HE.out⟩
end Go.Proofs.Ytokdclbfjlnnjaa
