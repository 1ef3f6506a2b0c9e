/- The walk of PlaneMoved. -/
import Derived.Test.YtokdclbfjlnnjaaQ11
namespace Go.Proofs.Ytokdclbfjlnnjaa
open Go.RowKit Go.BigFrame

theorem nearIs_lat {w : World} {x : Lat w} {ka kb ox oy n d : Int} {va vb : Value} {la lb : List Pt} {o : Bool} (hla : Prs w va la) (hlb : Prs w vb lb) (h : (decide ((nearZ ka la kb lb).1 = n) && decide ((nearZ ka la kb lb).2 = d)) = o) (ha : Sm ox oy ka la) (hb : Sm ox oy kb lb) :
    Calls Try.prog 29 #[.agg #[.int .i64 ka, va], .agg #[.int .i64 kb, vb], .int .i64 n, .int .i64 d] x.W fun e w' => e = .returned (.bool o) ∧ ∃ y : Lat w, w' = y.W := Calls.lat (nearIs_sm h _ (hla.aft x.aft) (hlb.aft x.aft) ha hb)
theorem isNear {ka kb n d : Int} {la lb : List Pt} (h : nearZ ka la kb lb = (n, d)) : (decide ((nearZ ka la kb lb).1 = n) && decide ((nearZ ka la kb lb).2 = d)) = true := by rw [h]; simp
theorem sm_turn {back : Bool} {k : Int} {l : List Pt} (h : Sm 0 0 k l) : Sm 0 0 k (turnZ back l) :=
  ⟨turn_ne h.ne, by rw [turn_len]; exact h.len, fun hk => by rw [turn_len]; exact h.dot hk, by omega, fun p hp => by
    have : ∃ q ∈ l, p = swP q := by
      unfold turnZ at hp
      obtain ⟨q, hq, rfl⟩ := List.mem_map.1 hp
      cases back with
      | false => exact ⟨q, hq, rfl⟩
      | true => exact ⟨q, List.mem_reverse.1 hq, rfl⟩
    obtain ⟨q, hq, rfl⟩ := this
    have := h.box q hq
    simp only [swP]
    omega⟩
theorem sm_okP {ox oy k : Int} {l : List Pt} (h : Sm ox oy k l) : okP l := fun p hp => by have := h.box p hp; have := h.o; omega
theorem row_prs {ox oy k : Int} {W : World} {base n : Nat} {v : Value} {l : List Pt} (h : W.ownsRow base 57 2 v n (prs l)) (hn : n = l.length) (hs : Sm ox oy k l) : Prs W v l :=
  ownsRow_prs (by rw [← hn]; exact h) (sm_okP hs) (by have := hs.len; omega)

set_option maxRecDepth 100000 in
set_option maxHeartbeats 16000000 in
theorem moving_any (v1 : Value) (l1 : List Int) (v2 : Value) (l2 : List Int) (a2 a3 : Int) (w : World) (hl1 : Ints w v1 l1) (hl2 : Ints w v2 l2) (b2 : -9223372036854775808 ≤ a2 ∧ a2 ≤ 9223372036854775807) (b3 : -9223372036854775808 ≤ a3 ∧ a3 ≤ 9223372036854775807) :
    Calls Try.prog 10 #[v1, v2, .int .i64 a2, .int .i64 a3] w fun e w' => e = .returned (.bool true) ∧ Aft w w' := by
  have hI1 := hl1
  have hI2 := hl2
  obtain ⟨aa, ca0, rfl, hl1⟩ := hl1
  obtain ⟨ab, cb0, rfl, hl2⟩ := hl2
  obtain ⟨W0, eW0, hw0, hlt0, hhp0⟩ : ∃ W0, w.alloc (.cells #[] 51) = W0 ∧ Aft w W0 ∧ W0.heap.size = w.heap.size + 1 ∧ W0.heap[w.heap.size]? = some (.cells #[] 51) := ⟨_, rfl, (Aft.refl w).alloc _, by simp, heap_alloc_new w _⟩
  obtain ⟨dx, hdx⟩ : ∃ x, aroundI a2 900 = x := ⟨_, rfl⟩
  obtain ⟨dy, hdy⟩ : ∃ x, aroundI a3 900 = x := ⟨_, rfl⟩
  have bx : 0 ≤ dx ∧ dx < 900 := hdx ▸ aroundI_lt a2 900 (by omega)
  have by_ : 0 ≤ dy ∧ dy < 900 := hdy ▸ aroundI_lt a3 900 (by omega)
  go_enter Try.func10, Try.ntmps10
  go_upto_region 3 with (go_at_call 18; refine (around_any _ _ _ (by omega) (by omega)).mono ?_; rintro e w' ⟨rfl, rfl⟩; first | rw [hdx] | rw [hdy])
  go_wp2_with fail
  clear eW0 hdx hdy
  obtain ⟨g0, hg0⟩ : ∃ n, w.heap.size = n := ⟨_, rfl⟩
  rw [hg0] at hlt0 hhp0 ⊢
  refine (figure_any _ l1 W0 (hI1.aft hw0)).mono ?_
  rintro e W1 ⟨a1, c1, R1, L1, rfl, hB1, hG1, hn1, -, hw1⟩
  have hhp1 := (hw1.block g0 (by omega)).trans hhp0
  have hz1 := hw1.size
  rw [hlt0] at hB1
  have hfld := field_fig 62 62 a1 L1.length c1 W1
  go_wp2_with (at_builtin; refine wpList_app_empty _ rfl (.tmp 22) (.tmp 25) 43 rfl g0 51 (.agg #[.int .i64 0, .slice none 0 0]) 2 32 Try.underlying43 Try.info51 rfl (by decide) g0 rfl ⟨rfl, .inr ⟨g0, 0, #[], rfl, Nat.le_refl _, hhp1, Nat.le_refl _, by decide, rfl, rfl⟩⟩ a1 L1.length c1 (shCells R1) rfl hB1.sh.nil (by rw [shCells_length, hB1.sh.lenR]) hB1.sh.rd (shs_one hB1.sh) (by unfold maxLen; omega) (by omega) (by omega) ?_; intro v1 W2 ho1 hw2 hv1)
  have hz2 := hw2.size
  refine (figure_any _ l2 W2 (hI2.aft ((hw0.trans hw1).trans hw2))).mono ?_
  rintro e W3 ⟨a2', c2, R2, L2, rfl, hB2, hG2, hn2, -, hw3⟩
  have hz3 := hw3.size
  have ho3 := ownsRow_aft ho1 hw3
  have hfld2 := field_fig 62 62 a2' L2.length c2 W3
  go_wp2_with (at_builtin; refine wpList_app _ rfl (.tmp 26) (.tmp 29) 43 rfl g0 51 (.agg #[.int .i64 0, .slice none 0 0]) 2 32 Try.underlying43 Try.info51 rfl (by decide) _ L1.length (shCells R1) rfl ho3 a2' L2.length c2 (shCells R2) rfl hB2.sh.nil (by rw [shCells_length, hB2.sh.lenR]) hB2.sh.rd (shs_one hB2.sh) (by unfold maxLen; omega) (by omega) (by omega) ?_; intro v2 W4 ho4 hgrow hloc)
  clear hfld hfld2
  obtain ⟨a, c, rfl, -⟩ := ownsRow_at ho4
  have hw34 : Aft w W4 := (((hw0.trans hw1).trans hw2).trans hw3).grown hgrow (fun k hk => by have := (ho1.lt k hk).1; omega)
  have hSA := rows_join (n := L1.length + L2.length) hB1 hB2 hw2 hw3 hgrow (fun b hb => by rcases hv1 b hb with h | h <;> omega) (fun b hb => (ho1.lt b hb).2) ho4 rfl (by omega)
  have hGL := genL_append hG1 hG2
  have hlen : L1.length + L2.length = (L1 ++ L2).length := by simp
  generalize R1 ++ R2 = R at hSA
  rw [hlen] at hSA
  have hn : (L1 ++ L2).length ≤ 10 := by rw [← hlen]; omega
  rw [hlen]
  generalize L1 ++ L2 = L at *
  clear hlen ho4 ho3 ho1 hgrow hB1 hB2 hloc hv1 hz1 hz2 hz3 hhp0 hhp1 hG1 hG2 hlt0
  clear hw0 hw1 hw2 hw3
  go_wp2
  go_loopw [12] (fun i wr => ∃ r : Nat, r ≤ L.length ∧ i = .int .i64 r ∧ Aft W4 wr) (fun i _ => L.length - (intOf i).toNat)
  case atStart => exact ⟨0, by omega, rfl, Aft.refl _⟩
  case round =>
    obtain ⟨i, hi, rfl, hwi⟩ := hrel
    rcases Nat.lt_or_ge i L.length with hlti | hgei
    · have hii : (i : Int) < L.length := by omega
      obtain ⟨b, off, ka, la, apa, cpa, rfl, hga, HA⟩ := shs_fix hSA hlti
      have ga : Gen ka la := hGL _ (List.mem_of_getElem? hga.out)
      have sa := gen_sm ga
      go_wp2
      go_loopw [13] (fun j wr => ∃ q : Nat, q ≤ L.length ∧ j = .int .i64 q ∧ Aft W4 wr) (fun j _ => L.length - (intOf j).toNat)
      case atStart => exact ⟨0, by omega, rfl, hwi⟩
      case round =>
        obtain ⟨q, hq, rfl, hwq⟩ := hrel
        rcases Nat.lt_or_ge q L.length with hltq | hgeq
        · have hqi : (q : Int) < L.length := by omega
          obtain ⟨b', off', kb, lb, apb, cpb, e, hgb, HB⟩ := shs_fix hSA hltq
          simp only [Option.some.injEq, Addr.mk.injEq, and_true] at e
          obtain ⟨rfl, rfl⟩ := e
          have gb : Gen kb lb := hGL _ (List.mem_of_getElem? hgb.out)
          have sb := gen_sm gb
          have hAn := sa.ne
          have hBn := sb.ne
          obtain ⟨⟨n, d⟩, hnd⟩ : ∃ f, nearZ ka la kb lb = f := ⟨_, rfl⟩
          obtain ⟨o1, ho1⟩ : ∃ o, insideZ ka la kb lb = o := ⟨_, rfl⟩
          obtain ⟨o2, ho2⟩ : ∃ o, leftZ la lb = o := ⟨_, rfl⟩
          obtain ⟨o3, ho3⟩ : ∃ o, longerZ ka la kb lb = o := ⟨_, rfl⟩
          have sma := sm_tr (dx := dx) (dy := dy) sa (by omega) (by omega)
          have smb := sm_tr (dx := dx) (dy := dy) sb (by omega) (by omega)
          have q1 := isNear (show nearZ ka (la.map (trP dx dy)) kb (lb.map (trP dx dy)) = (n, d) by rw [near_tr hAn hBn, hnd])
          have q2 : insideZ ka (la.map (trP dx dy)) kb (lb.map (trP dx dy)) = o1 := by rw [inside_tr hAn hBn, ho1]
          have q3 : leftZ (la.map (trP dx dy)) (lb.map (trP dx dy)) = o2 := by rw [left_tr, ho2]
          have q4 : longerZ ka (la.map (trP dx dy)) kb (lb.map (trP dx dy)) = o3 := by rw [longer_tr hAn hBn, ho3]
          have sta := sm_turn (back := false) sa
          have stb := sm_turn (back := true) sb
          have q5 := isNear (show nearZ ka (turnZ false la) kb (turnZ true lb) = (n, d) by rw [near_turn hAn sb.dot, hnd])
          have q6 : insideZ ka (turnZ false la) kb (turnZ true lb) = o1 := by rw [inside_turn hAn gb, ho1]
          have q7 : longerZ ka (turnZ false la) kb (turnZ true lb) = o3 := by rw [longer_turn hAn hBn, ho3]
          have HML : Hid ((la.map (trP dx dy)).length = la.length ∧ (lb.map (trP dx dy)).length = lb.length ∧ (turnZ false la).length = la.length ∧ (turnZ true lb).length = lb.length) := hid ⟨by simp, by simp, turn_len _ _, turn_len _ _⟩
          obtain ⟨ma, hma⟩ : ∃ l, la.map (trP dx dy) = l := ⟨_, rfl⟩
          obtain ⟨mb, hmb⟩ : ∃ l, lb.map (trP dx dy) = l := ⟨_, rfl⟩
          obtain ⟨ta, hta⟩ : ∃ l, turnZ false la = l := ⟨_, rfl⟩
          obtain ⟨tb, htb⟩ : ∃ l, turnZ true lb = l := ⟨_, rfl⟩
          rw [hma] at sma q1 q2 q3 q4 HML
          rw [hmb] at smb q1 q2 q3 q4 HML
          rw [hta] at sta q5 q6 q7 HML
          rw [htb] at stb q5 q6 q7 HML
          have HMA := hid hma
          have HMB := hid hmb
          have HTA := hid hta
          have HTB := hid htb
          clear hma hmb hta htb
          obtain ⟨x1, x2, hb, hpA⟩ := HA.out wr hwq
          go_wp2_with fail
          refine (moved_any ka dx dy _ la wr hpA sa.le sa.sc (by omega) (by omega)).mono ?_
          rintro e Wa ⟨va, rfl, hoA, hwa⟩
          rw [HMA.out] at hoA
          clear x1 x2 hb hpA
          obtain ⟨aA, cA, rfl, -⟩ := ownsRow_at hoA
          go_upto_region 11 with fail
          obtain ⟨Wb, eb, hwb, hltb, hboxb⟩ := one_box Wa #[.int .i64 ka, .slice aA la.length cA] 51
          have fa : Wb.frozen? ⟨Wa.heap.size, 0, none⟩ = false ∧ Wb.frozen? ⟨Wa.heap.size, 1, none⟩ = false := eb ▸ ⟨frozen_new Wa _ _ 0, frozen_new Wa _ _ 1⟩
          rw [eb]
          clear eb
          have HX : Hid (∀ W, Aft Wb W → (W.cell? ⟨Wa.heap.size, 0, none⟩ = some (.int .i64 ka) ∧ W.cell? ⟨Wa.heap.size, 1, none⟩ = some (.slice aA la.length cA)) ∧ W.frozen? ⟨Wa.heap.size, 0, none⟩ = false ∧ W.frozen? ⟨Wa.heap.size, 1, none⟩ = false) := hid fun W hW => ⟨⟨hboxb.out W hW 0 _ rfl, hboxb.out W hW 1 _ rfl⟩, (hW.frozen hltb).trans fa.1, (hW.frozen hltb).trans fa.2⟩
          clear hboxb fa
          have hz14 := (hwq.trans hwa).size
          obtain ⟨n14, hn14⟩ : ∃ n, Wa.heap.size = n := ⟨_, rfl⟩
          rw [hn14] at HX hltb hz14 ⊢
          clear hn14
          have hw4b := (hwq.trans hwa).trans hwb
          obtain ⟨y1, y2, hb, hpB⟩ := HB.out Wb hw4b
          go_wp2_with fail
          refine (moved_any kb dx dy _ lb Wb hpB sb.le sb.sc (by omega) (by omega)).mono ?_
          rintro e Wc ⟨vb, rfl, hoB, hwc⟩
          rw [HMB.out] at hoB
          clear y1 y2 hb hpB
          obtain ⟨aB, cB, rfl, -⟩ := ownsRow_at hoB
          go_upto_region 12 with fail
          obtain ⟨Wd, ed, hwd, hltd, hboxd⟩ := one_box Wc #[.int .i64 kb, .slice aB lb.length cB] 51
          have fb : Wd.frozen? ⟨Wc.heap.size, 0, none⟩ = false ∧ Wd.frozen? ⟨Wc.heap.size, 1, none⟩ = false := ed ▸ ⟨frozen_new Wc _ _ 0, frozen_new Wc _ _ 1⟩
          rw [ed]
          clear ed
          have HY : Hid (∀ W, Aft Wd W → (W.cell? ⟨Wc.heap.size, 0, none⟩ = some (.int .i64 kb) ∧ W.cell? ⟨Wc.heap.size, 1, none⟩ = some (.slice aB lb.length cB)) ∧ W.frozen? ⟨Wc.heap.size, 0, none⟩ = false ∧ W.frozen? ⟨Wc.heap.size, 1, none⟩ = false) := hid fun W hW => ⟨⟨hboxd.out W hW 0 _ rfl, hboxd.out W hW 1 _ rfl⟩, (hW.frozen hltd).trans fb.1, (hW.frozen hltd).trans fb.2⟩
          clear hboxd fb
          have hz15 := hwc.size
          obtain ⟨n15, hn15⟩ : ∃ n, Wc.heap.size = n := ⟨_, rfl⟩
          rw [hn15] at HY hltd hz15 ⊢
          clear hn15
          have h1415 : n14 < n15 := by omega
          have hwbd := hwc.trans hwd
          have hw4d := hw4b.trans hwbd
          have hpMA : Prs Wd (.slice aA la.length cA) ma := (row_prs hoA HML.out.1.symm sma).aft (hwb.trans hwbd)
          have hpMB : Prs Wd (.slice aB lb.length cB) mb := (row_prs hoB HML.out.2.1.symm smb).aft hwd
          clear hoA hoB hwa hwb hwc hwd
          obtain ⟨x1, x2, hb, hpA⟩ := HA.out Wd hw4d
          obtain ⟨y1, y2, -, hpB⟩ := HB.out Wd hw4d
          refine wp_region_lat Wd (Aft.refl _) (by kernel_rfl) (by kernel_rfl) ?_
          repeat (go_big_quiet_step ((go_at_call 28; exact Calls.lat (near_sm hnd _ (hpA.aft (Lat.aft _)) (hpB.aft (Lat.aft _)) sa sb))))
          refine wpQuiet_nil ?_
          intro _ hw'; obtain ⟨z, rfl⟩ := hw'
          have hwde := z.aft
          obtain ⟨We, hWe⟩ : ∃ W, W = z.W := ⟨_, rfl⟩
          rw [← hWe] at hwde ⊢
          clear hWe z x1 x2 y1 y2 hb hpA hpB
          have hw4e := hw4d.trans hwde
          replace hpMA := hpMA.aft hwde
          replace hpMB := hpMB.aft hwde
          obtain ⟨x1, x2, hb, hpA⟩ := HA.out We hw4e
          obtain ⟨y1, y2, -, hpB⟩ := HB.out We hw4e
          obtain ⟨⟨r1, r2⟩, -, -⟩ := HX.out We (hwbd.trans hwde)
          obtain ⟨⟨s1, s2⟩, -, -⟩ := HY.out We hwde
          have k1 : n14 < We.heap.size := World.block_lt_of_cell? _ _ r1
          have k2 : n15 < We.heap.size := World.block_lt_of_cell? _ _ s1
          go_upto_region 13 with fail
          refine wp_region_lat We (Aft.refl _) (by kernel_rfl) (by kernel_rfl) ?_
          repeat (go_big_quiet_step (first | (go_at_call 29; exact nearIs_lat hpMA hpMB q1 sma smb) | (go_at_call 40; exact inside_lat (by assumption) (by assumption) (by assumption) (by assumption) (by assumption)) | (go_at_call 34; exact left_lat (by assumption) (by assumption) (by assumption)) | (go_at_call 43; exact longer_lat (by assumption) (by assumption) (by assumption) (by assumption) (by assumption))))
          refine wpQuiet_nil ?_
          intro _ hw'; obtain ⟨z, rfl⟩ := hw'
          have hwef := z.aft
          obtain ⟨Wf, hWf⟩ : ∃ W, W = z.W := ⟨_, rfl⟩
          rw [← hWf] at hwef ⊢
          clear hWf z x1 x2 y1 y2 hb hpA hpB r1 r2 s1 s2 k1 k2 hpMA hpMB
          have hw4f := hw4e.trans hwef
          have hX := HX.out Wf ((hwbd.trans hwde).trans hwef)
          have hY := HY.out Wf (hwde.trans hwef)
          clear HX HY hwbd hwde hwef
          obtain ⟨x1, x2, hb, hpA⟩ := HA.out Wf hw4f
          go_wp2_with fail
          refine (turned_any false ka _ la Wf hpA sa.le sa.sc).mono ?_
          rintro e Wg ⟨vt, rfl, hoA, hwg⟩
          rw [HTA.out] at hoA
          obtain ⟨aT, cT, rfl, -⟩ := ownsRow_at hoA
          clear x1 x2 hb hpA
          have hw4g := hw4f.trans hwg
          have l14 := World.block_lt_of_cell? _ _ hX.1.1
          have l15 := World.block_lt_of_cell? _ _ hY.1.1
          obtain ⟨⟨r1, r2⟩, r3, r4⟩ : (Wg.cell? ⟨n14, 0, none⟩ = some (.int .i64 ka) ∧ Wg.cell? ⟨n14, 1, none⟩ = some (.slice aA la.length cA)) ∧ Wg.frozen? ⟨n14, 0, none⟩ = false ∧ Wg.frozen? ⟨n14, 1, none⟩ = false := ⟨⟨(hwg.cell l14).trans hX.1.1, (hwg.cell l14).trans hX.1.2⟩, (hwg.frozen l14).trans hX.2.1, (hwg.frozen l14).trans hX.2.2⟩
          have hYg : (Wg.cell? ⟨n15, 0, none⟩ = some (.int .i64 kb) ∧ Wg.cell? ⟨n15, 1, none⟩ = some (.slice aB lb.length cB)) ∧ Wg.frozen? ⟨n15, 0, none⟩ = false ∧ Wg.frozen? ⟨n15, 1, none⟩ = false := ⟨⟨(hwg.cell l15).trans hY.1.1, (hwg.cell l15).trans hY.1.2⟩, (hwg.frozen l15).trans hY.2.1, (hwg.frozen l15).trans hY.2.2⟩
          obtain ⟨Wh, eWh, hh1, hh2, hoAh, hw4h, hkh⟩ : ∃ Wh, (Wg.setCell ⟨n14, 0, none⟩ (.int .i64 ka)).setCell ⟨n14, 1, none⟩ (.slice aT la.length cT) = Wh ∧ Wh.cell? ⟨n14, 0, none⟩ = some (.int .i64 ka) ∧ Wh.cell? ⟨n14, 1, none⟩ = some (.slice aT la.length cT) ∧ Wh.ownsRow Wf.heap.size 57 2 (.slice aT la.length cT) la.length (prs ta) ∧ Aft W4 Wh ∧ Kx (fun j => j = n14) Wg Wh := by
            obtain ⟨h1, h2, h3, h4⟩ := store2 hw4g hz14 r1 r2 (.int .i64 ka) (.slice aT la.length cT)
            exact ⟨_, rfl, h1, h2, ownsRow_kx hoA h3 (fun j hj => by subst hj; exact l14), h4, h3⟩
          go_upto_region 16 with fail
          try rw [eWh]
          clear eWh r1 r2 r3 r4
          have hpTA : Prs Wh (.slice aT la.length cT) ta := row_prs hoAh HML.out.2.2.1.symm sta
          have lYg := World.block_lt_of_cell? _ _ hYg.1.1
          have hYh : (Wh.cell? ⟨n15, 0, none⟩ = some (.int .i64 kb) ∧ Wh.cell? ⟨n15, 1, none⟩ = some (.slice aB lb.length cB)) ∧ Wh.frozen? ⟨n15, 0, none⟩ = false ∧ Wh.frozen? ⟨n15, 1, none⟩ = false :=
            ⟨⟨(hkh.cell lYg (show ¬ n15 = n14 by omega)).trans hYg.1.1, (hkh.cell lYg (show ¬ n15 = n14 by omega)).trans hYg.1.2⟩, (frozen_kx hkh lYg (show ¬ n15 = n14 by omega)).trans hYg.2.1, (frozen_kx hkh lYg (show ¬ n15 = n14 by omega)).trans hYg.2.2⟩
          obtain ⟨y1, y2, hb, hpB⟩ := HB.out Wh hw4h
          go_wp2_with fail
          refine (turned_any true kb _ lb Wh hpB sb.le sb.sc).mono ?_
          rintro e Wi ⟨vu, rfl, hoB, hwi2⟩
          rw [HTB.out] at hoB
          obtain ⟨aU, cU, rfl, -⟩ := ownsRow_at hoB
          clear y1 y2 hb hpB
          have hw4i := hw4h.trans hwi2
          have m14 := World.block_lt_of_cell? _ _ hh1
          have m15 := World.block_lt_of_cell? _ _ hYh.1.1
          obtain ⟨⟨r1, r2⟩, r3, r4⟩ : (Wi.cell? ⟨n15, 0, none⟩ = some (.int .i64 kb) ∧ Wi.cell? ⟨n15, 1, none⟩ = some (.slice aB lb.length cB)) ∧ Wi.frozen? ⟨n15, 0, none⟩ = false ∧ Wi.frozen? ⟨n15, 1, none⟩ = false := ⟨⟨(hwi2.cell m15).trans hYh.1.1, (hwi2.cell m15).trans hYh.1.2⟩, (hwi2.frozen m15).trans hYh.2.1, (hwi2.frozen m15).trans hYh.2.2⟩
          have hA1 := (hwi2.cell m14).trans hh1
          have hA2 := (hwi2.cell m14).trans hh2
          have hoAi := ownsRow_aft hoAh hwi2
          obtain ⟨Wj, eWj, s1, s2, hoBj, hw4j, hkj⟩ : ∃ Wj, (Wi.setCell ⟨n15, 0, none⟩ (.int .i64 kb)).setCell ⟨n15, 1, none⟩ (.slice aU lb.length cU) = Wj ∧ Wj.cell? ⟨n15, 0, none⟩ = some (.int .i64 kb) ∧ Wj.cell? ⟨n15, 1, none⟩ = some (.slice aU lb.length cU) ∧ Wj.ownsRow Wh.heap.size 57 2 (.slice aU lb.length cU) lb.length (prs tb) ∧ Aft W4 Wj ∧ Kx (fun j => j = n15) Wi Wj := by
            obtain ⟨h1, h2, h3, h4⟩ := store2 hw4i (show W4.heap.size ≤ n15 by omega) r1 r2 (.int .i64 kb) (.slice aU lb.length cU)
            exact ⟨_, rfl, h1, h2, ownsRow_kx hoB h3 (fun j hj => by subst hj; exact m15), h4, h3⟩
          go_upto_region 17 with fail
          try rw [eWj]
          clear eWj r1 r2 r3 r4
          have hpTB : Prs Wj (.slice aU lb.length cU) tb := row_prs hoBj HML.out.2.2.2.symm stb
          have hpTA' : Prs Wj (.slice aT la.length cT) ta := row_prs (ownsRow_kx hoAi hkj (fun j hj => by subst hj; exact l15)) HML.out.2.2.1.symm sta
          have li14 := World.block_lt_of_cell? _ _ hA1
          have t1 := (hkj.cell li14 (show ¬ n14 = n15 by omega)).trans hA1
          have t2 := (hkj.cell li14 (show ¬ n14 = n15 by omega)).trans hA2
          clear hpTA hoAi hoAh hoBj hoA hoB hA1 hA2 hh1 hh2 hX hY hYg hYh
          obtain ⟨x1, x2, hb, hpA⟩ := HA.out Wj hw4j
          obtain ⟨y1, y2, -, hpB⟩ := HB.out Wj hw4j
          have k1 : n14 < Wj.heap.size := World.block_lt_of_cell? _ _ t1
          have k2 : n15 < Wj.heap.size := World.block_lt_of_cell? _ _ s1
          refine wp_region_lat Wj (Aft.refl _) (by kernel_rfl) (by kernel_rfl) ?_
          repeat (go_big_quiet_step (first | (go_at_call 29; exact nearIs_lat hpTA' hpTB q5 sta stb) | (go_at_call 40; exact inside_lat (by assumption) (by assumption) (by assumption) (by assumption) (by assumption)) | (go_at_call 43; exact longer_lat (by assumption) (by assumption) (by assumption) (by assumption) (by assumption))))
          refine wpQuiet_nil ?_
          intro _ hw'; obtain ⟨z, rfl⟩ := hw'
          have hfz := hw4j.trans z.aft
          clear x1 x2 y1 y2 s1 s2 t1 t2 hb
          go_wp2
          go_roundw
          case rel => exact ⟨q + 1, by omega, by go_num, hfz⟩
          case measure => simp only [intOf]; omega
        · obtain rfl : q = L.length := by omega
          go_wp2
          go_roundw
          case rel => exact ⟨i + 1, by omega, by go_num, hwq⟩
          case measure => simp only [intOf]; omega
    · obtain rfl : i = L.length := by omega
      go_wp2_with fail
      refine (lives18 wr).mono ?_
      rintro e W5 ⟨rfl, hw5⟩
      have HE := hid ((hw34.trans hwi).trans hw5)
      go_wp2
      go_ret
      exact ⟨rfl, HE.out⟩
end Go.Proofs.Ytokdclbfjlnnjaa
