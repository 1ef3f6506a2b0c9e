/- The program's Cut. -/
import Derived.Test.YtokdclbfjlnnjaaR34
import Derived.Test.YtokdclbfjlnnjaaR15
namespace Go.Proofs.Ytokdclbfjlnnjaa
open Go.RowKit Go.BigFrame

theorem Try.underlying81 : Try.prog.underlying 81 = some (.slice 96) := by kernel_rfl
theorem Try.underlying132 : Try.prog.underlying 132 = some (.slice 4) := by kernel_rfl
theorem Try.info4 : (Try.prog.info? 4).map (fun i => (i.zero, i.size, i.bytes)) = some (some (.bool false), 1, 1) := by kernel_rfl
set_option maxRecDepth 100000 in
set_option maxHeartbeats 16000000 in
theorem cut_any (W H wd : Int) (v : Value) (L : List Sh) (w : World) (hv : Shs w v L) (hsc : ShSc L) (hkk : ∀ s ∈ L, -9223372036854775808 ≤ s.1 ∧ s.1 ≤ 9223372036854775807) :
    Calls Try.prog 55 #[.agg #[.int .i64 W, .int .i64 H, v], .int .i64 wd] w (CutPost 96 w (cutM W H L wd)) := by
  have hv0 := hid hv
  obtain ⟨av, cv, R0, rfl, hv⟩ := hv
  have hle := hv.le
  clear hv
  go_enter Try.func55, Try.ntmps55
  go_upto_region 1 with fail
  obtain ⟨W0, eW0, hw0, hlt, hbox⟩ := two_boxes w #[.int .i64 W, .int .i64 H, .slice av L.length cv] #[.int .i64 0, .int .i64 0, .slice none 0 0] 45 45
  have fz5 : F3 W0 (w.heap.size + 1) := by
    rw [← eW0]
    exact ⟨by simp, by simp, by simp⟩
  rw [eW0]
  clear eW0
  have HB : Hid (∀ X, Aft W0 X → B3 X w.heap.size W H (.slice av L.length cv) ∧ B3 X (w.heap.size + 1) 0 0 (.slice none 0 0)) :=
    hid fun X hX => ⟨⟨(hbox.out X hX).1 0 _ rfl, (hbox.out X hX).1 1 _ rfl, (hbox.out X hX).1 2 _ rfl⟩, (hbox.out X hX).2 0 _ rfl, (hbox.out X hX).2 1 _ rfl, (hbox.out X hX).2 2 _ rfl⟩
  clear hbox
  obtain ⟨n5, hn5⟩ : ∃ n, w.heap.size + 1 = n := ⟨_, rfl⟩
  rw [hn5] at HB fz5 hlt ⊢
  have hge5 : w.heap.size ≤ n5 := by omega
  obtain ⟨n2, hn2⟩ : ∃ n, w.heap.size = n := ⟨_, rfl⟩
  rw [hn2] at HB ⊢
  have h25 : n2 < n5 := by omega
  have FZ := hid fz5
  clear fz5 hn5
  have HV := hid (hv0.out.aft hw0)
  have HEND : Hid (∀ (X : World) (x y : Int) (a : Option Addr) (n c : Nat), Aft W0 X → B3 (((X.setCell ⟨n5, 0, none⟩ (.int .i64 x)).setCell ⟨n5, 1, none⟩ (.int .i64 y)).setCell ⟨n5, 2, none⟩ (.slice a n c)) n5 x y (.slice a n c) ∧
      Kx (fun j => j = n5) X (((X.setCell ⟨n5, 0, none⟩ (.int .i64 x)).setCell ⟨n5, 1, none⟩ (.int .i64 y)).setCell ⟨n5, 2, none⟩ (.slice a n c)) ∧ Aft w (((X.setCell ⟨n5, 0, none⟩ (.int .i64 x)).setCell ⟨n5, 1, none⟩ (.int .i64 y)).setCell ⟨n5, 2, none⟩ (.slice a n c))) := hid fun X x y a n c hX => by
    have p := put3 (HB.out X hX).2 x y (.slice a n c)
    exact ⟨p.1, p.2, (((hw0.trans hX).setCell (p := ⟨n5, 0, none⟩) hge5 _).setCell (p := ⟨n5, 1, none⟩) hge5 _).setCell (p := ⟨n5, 2, none⟩) hge5 _⟩
  obtain ⟨⟨x0, x1, x2⟩, -⟩ := HB.out W0 (Aft.refl _)
  go_wp2_with fail
  refine (valid_any W H _ L W0 HV.out hsc hkk).mono ?_
  rintro e w1 ⟨rfl, hw1⟩
  clear x0 x1 x2
  by_cases hval : validZ W H L = 0
  case neg =>
    have HM := hid (show cutM W H L wd = ([], (0, 0, []), validZ W H L) by unfold cutM; rw [if_pos hval])
    obtain ⟨o, ho⟩ : ∃ o, validZ W H L = o := ⟨_, rfl⟩
    rw [ho] at hval HM ⊢
    clear ho
    have ho' : (o == 0) = false := by rw [beq_eq_false_iff_ne]; exact hval
    obtain ⟨-, y0, y1, y2⟩ := HB.out w1 hw1
    have z0 := (hw1.frozen (o := 0) hlt).trans FZ.out.1
    have z1 := (hw1.frozen (o := 1) hlt).trans FZ.out.2.1
    have z2 := (hw1.frozen (o := 2) hlt).trans FZ.out.2.2
    have HE := hid (HEND.out w1 0 0 none 0 0 hw1)
    go_wp2
    refine bodyPost_ret (results_cut rfl _ _ n5 0 0 _ _ _ rfl rfl rfl HE.out.1) rfl ?_
    rw [HM.out]
    exact ⟨_, _, w.heap.size, w.heap.size, rfl, Nat.le_refl _, Nat.le_refl _, SX.nil _ _ _, by simp, ⟨none, 0, 0, [], rfl, GX.nil _ _, by omega⟩, HE.out.2.2⟩
  have HVal := hid hval
  have HPT := hid (fun s hs => valid_pts hval hs : ∀ s ∈ L, 0 < s.2.length)
  have hL8 : L.length ≤ 8 := by
    have hval' := hval
    unfold validZ at hval'
    split at hval'
    · cases hval'
    · rename_i h
      unfold limitZ at h
      simp at h
      omega
  have hM : Hid (cutM W H L wd = if (rSplit (spL L) wd).2.2 ≠ 0 then ([], (0, 0, []), (rSplit (spL L) wd).2.2) else (shtsM H L (rSplit (spL L) wd).1 wd (rSplit (spL L) wd).1.length, (W, H, allL L), 0)) := hid (by unfold cutM; rw [if_neg (by simpa using hval)])
  rw [hval]
  clear hval
  obtain ⟨⟨x0, x1, x2⟩, -⟩ := HB.out w1 hw1
  go_upto_region 6 with fail
  obtain ⟨W2, eW2, hw2, hlt2, hb2⟩ := one_box w1 #[.int .i64 W, .int .i64 H, .slice none 0 0] 45
  have fz9 : F3 W2 w1.heap.size := eW2 ▸ ⟨frozen_new w1 _ _ 0, frozen_new w1 _ _ 1, frozen_new w1 _ _ 2⟩
  rw [eW2]
  clear eW2 x0 x1 x2
  have b9 : B3 W2 w1.heap.size W H (.slice none 0 0) := ⟨hb2.out W2 (Aft.refl _) 0 _ rfl, hb2.out W2 (Aft.refl _) 1 _ rfl, hb2.out W2 (Aft.refl _) 2 _ rfl⟩
  clear hb2
  obtain ⟨n9, hn9⟩ : ∃ n, w1.heap.size = n := ⟨_, rfl⟩
  have hw1s := hw1.size
  rw [hn9] at b9 fz9 hlt2 hw1s ⊢
  have h59 : n5 < n9 := by omega
  have hw02 := hw1.trans hw2
  have hG0 := hid (GX.nil (n9 + 1) W2)
  have hP0 : Hid (W2.ownsRow (n9 + 1) 41 2 (.slice none 0 0) 0 (prs ((spL L).take 0))) := hid (World.ownsRow_nil _ _ _ _)
  have B90 := hid b9
  have F90 := hid fz9
  clear b9 fz9 hn9
  have HX0 := HB.out W2 (hw1.trans hw2)
  obtain ⟨⟨x0, x1, x2⟩, -⟩ := HX0
  go_wp2
  clear x0 x1 x2
  go_loopw [8, 38] (fun t i wr => ∃ r : Nat, r ≤ L.length ∧ i = .int .i64 r ∧ ∃ a8 c8 a' c' R, t = .slice a8 r c8 ∧ Hid (wr.ownsRow (n9 + 1) 41 2 (.slice a8 r c8) r (prs ((spL L).take r))) ∧ Hid (B3 wr n9 W H (.slice a' r c')) ∧ Hid (F3 wr n9) ∧ Hid (GX (n9 + 1) wr a' r c' R ((allL L).take r)) ∧ Aft W0 wr) (fun _ i _ => L.length - (intOf i).toNat)
  case atStart => exact ⟨0, by omega, rfl, none, 0, none, 0, [], rfl, hP0, B90, F90, hG0, hw02⟩
  case round =>
    clear B90 F90 hP0 hG0
    obtain ⟨r, hr, rfl, a8, c8, a', c', R, rfl, HP, HB9, HF9, HG, hwr⟩ := hrel
    rcases Nat.lt_or_ge r L.length with hltr | hger
    · have hri : (r : Int) < L.length := by omega
      obtain ⟨a1, c1, R1, e1, hat⟩ := HV.out
      simp only [Value.slice.injEq, true_and] at e1
      obtain ⟨rfl, rfl⟩ := e1
      obtain ⟨bb, off, ka, pa, aa, ca, rfl, s0', s1', hbb, hxa, hpa⟩ := hat.get hltr
      have s0 := (hwr.cell (World.block_lt_of_cell? _ _ s0')).trans s0'
      have s1 := (hwr.cell (World.block_lt_of_cell? _ _ s1')).trans s1'
      clear s0' s1'
      have hpos := HPT.out _ (List.mem_of_getElem? hxa.out)
      have hlen := (hsc _ (List.mem_of_getElem? hxa.out)).1
      have HSC := hid (hsc _ (List.mem_of_getElem? hxa.out)).2
      simp only at hpos hlen
      have HPa := hid hpa
      obtain ⟨⟨lx, ly⟩, hlo⟩ : ∃ q, loF pa pa.length = q := ⟨_, rfl⟩
      obtain ⟨⟨hx, hy⟩, hhi⟩ : ∃ q, hiF pa pa.length = q := ⟨_, rfl⟩
      have hne : pa ≠ [] := fun h => by rw [h] at hpos; simp at hpos
      have HBX : Hid (pr (boxZ pa).1 = .agg #[.int .i64 lx, .int .i64 ly] ∧ pr (boxZ pa).2 = .agg #[.int .i64 hx, .int .i64 hy]) := hid (by unfold boxZ; rw [if_neg hne, hlo, hhi]; exact ⟨rfl, rfl⟩)
      have hsp : Hid ((spL L).take (r + 1) = (spL L).take r ++ [(lx, hx)]) := hid (by have h := take_snoc (spL_get hxa.out); unfold spS at h; simp only [hlo, hhi] at h; exact h)
      have hal : Hid ((allL L).take (r + 1) = (allL L).take r ++ [boxS pa]) := hid (take_snoc (by unfold allL; rw [List.getElem?_map, hxa.out]; rfl))
      clear hat hpa hxa hlo hhi hne
      go_upto_region 9 with fail
      obtain ⟨Wb, eWb, hwb, hltb, hbb2⟩ := one_box wr #[.int .i64 ka, .slice aa pa.length ca] 51
      rw [eWb]
      clear eWb s0 s1 hbb
      have H11 := hid (fun X hX => And.intro (hbb2.out X hX 0 _ rfl) (hbb2.out X hX 1 _ rfl) : ∀ X, Aft Wb X → X.cell? ⟨wr.heap.size, 0, none⟩ = some (.int .i64 ka) ∧ X.cell? ⟨wr.heap.size, 1, none⟩ = some (.slice aa pa.length ca))
      clear hbb2
      have hPlt : Hid (∀ j, (Value.slice a8 r c8).ownBlock = some j → j < wr.heap.size) := hid (fun j hj => (HP.out.lt j hj).2)
      obtain ⟨n11, hn11⟩ : ∃ n, wr.heap.size = n := ⟨_, rfl⟩
      have hz0 := HB9.out.1
      have hn9r : n9 < wr.heap.size := World.block_lt_of_cell? _ _ hz0
      clear hz0
      have hn9r' := hn9r
      rw [hn11] at H11 hltb hPlt hn9r' ⊢
      obtain ⟨x0, x1⟩ := H11.out Wb (Aft.refl _)
      go_wp2_with fail
      refine (box_any ka _ pa Wb ⟨_, _, rfl, HPa.out.aft (hwr.trans hwb)⟩).mono ?_
      rintro e w3 ⟨rfl, hw3⟩
      clear x0 x1
      rw [HBX.out.1, HBX.out.2]
      go_upto_region 10 with fail
      obtain ⟨Wc, eWc, hwc, hltc, hbc⟩ := two_boxes w3 #[.int .i64 lx, .int .i64 ly] #[.int .i64 hx, .int .i64 hy] 57 57
      rw [eWc]
      clear eWc
      have t0 := (hbc.out Wc (Aft.refl _)).1 0 _ rfl
      have t1 := (hbc.out Wc (Aft.refl _)).1 1 _ rfl
      have t2 := (hbc.out Wc (Aft.refl _)).2 0 _ rfl
      have t3 := (hbc.out Wc (Aft.refl _)).2 1 _ rfl
      clear hbc
      obtain ⟨n12, hn12⟩ : ∃ n, w3.heap.size = n := ⟨_, rfl⟩
      rw [hn12] at t0 t1 t2 t3 hltc ⊢
      have hb3 := hwb.trans hw3
      have hwc' := hb3.trans hwc
      have hwr3 := hwr.trans hwc'
      have hAb := (hw3.trans hwc)
      have HP3 := ownsRow_aft HP.out hwc'
      have hzc := hwc'.size
      clear hn12
      go_upto_region 11 with (at_builtin; refine wpList_app _ rfl (.tmp 47) (.tmp 53) 23 rfl (n9 + 1) 41 (.agg #[.int .i64 0, .int .i64 0]) 2 16 Try.underlying23 Try.info41 rfl (by decide) _ r _ rfl (HP3.alloc _) (some ⟨Wc.heap.size, 0, none⟩) 1 1 (prs [(lx, hx)]) rfl (fun h => by cases h) rfl Rd.new (prs_one _) (by unfold maxLen; omega) (by omega) (by simp; omega) ?_; intro v4 w4 hown4 hgrow4 hloc4; obtain ⟨g8, d8, rfl⟩ := ownsRow_some' hown4 (by omega))
      have hal4 := (Aft.refl Wc).alloc (.cells #[.int .i64 lx, .int .i64 hx] 41)
      have hrow4 : ∀ j, (Value.slice a8 r c8).ownBlock = some j → n9 < j := fun j hj => by have := (HP3.lt j hj).1; omega
      have hA4 : Aft W0 w4 := (hwr3.alloc (.cells #[.int .i64 lx, .int .i64 hx] 41)).grown hgrow4 (fun j hj => by have := hrow4 j hj; omega)
      have hk4 := Kx.trans (aft_kx (hwc'.trans hal4)) (grown_kx hgrow4 n9 hrow4)
      have HB94 := hid (HB9.out.kx hk4 (by omega))
      have HF94 := hid (F3.kx HF9.out hk4 hn9r (by omega))
      have HG4 := hid ((HG.out.aft (hwc'.trans hal4)).grown (by decide) (by decide) (HP3.alloc (.cells #[.int .i64 lx, .int .i64 hx] 41)) hgrow4)
      have HP4 : Hid (w4.ownsRow (n9 + 1) 41 2 (.slice (some ⟨g8, 0, none⟩) (r + 1) d8) (r + 1) (prs ((spL L).take (r + 1)))) := hid (by rw [hsp.out, prs_append]; exact hown4)
      have hn94 : n9 < w4.heap.size := World.block_lt_of_cell? _ _ HB94.out.1
      have H114 : Hid (w4.cell? ⟨n11, 0, none⟩ = some (.int .i64 ka) ∧ w4.cell? ⟨n11, 1, none⟩ = some (.slice aa pa.length ca)) := hid (by
        have hA := hAb.trans hal4
        obtain ⟨q0, q1⟩ := H11.out _ hA
        have hbk := hgrow4.block n11 (World.block_lt_of_cell? _ _ q0) (fun e => by have := hPlt.out n11 e.symm; omega)
        exact ⟨(World.cell?_of_block (a := ⟨n11, 0, none⟩) hbk).trans q0, (World.cell?_of_block (a := ⟨n11, 1, none⟩) hbk).trans q1⟩)
      clear t0 t1 t2 t3 H11 hPlt hltb hltc hwb hwc hwc' hb3 hAb hn11 HP HB9 HF9 HG HP3 hown4 hal4 hrow4 hk4 hgrow4 hloc4 hw3 hwr3 hzc hn9r hn9r' hsp
      obtain ⟨u0, u1, u2⟩ := HB94.out
      have HPb := hid (HPa.out.aft hA4)
      obtain ⟨hbs, hb4⟩ := box_sc HSC.out
      have HBS := hid hbs
      clear hbs
      obtain ⟨s0, s1⟩ := H114.out
      refine wp_region_flow _ (Aft.refl _) [FV.is (.pointer (some ⟨n9, 2, none⟩)), FV.is (.slice a' r c'), FV.is (.agg #[.int .i64 ka, .slice aa pa.length ca]), fvShape (n9 + 1) (boxS pa).1 (boxS pa).2, fvShape1 (n9 + 1) (boxS pa).1 (boxS pa).2]
        [(0, 55), (1, 56), (2, 57), (3, 58), (4, 59)]
        [[], [(0, 55)], [], [(2, 57)], [(3, 58)]] (by kernel_rfl) (by kernel_rfl) ?_ ?_
      · refine flowObs_cons (fun W hW => flowOb_nil ?_) ?_
        · go_wp2
          exact ⟨rfl, Aft.refl W⟩
        refine flowObs_cons (fun W hW => flowOb_cons fun v0 h0 => flowOb_nil ?_) ?_
        · obtain rfl := h0
          have u2W := (hW.cell (World.block_lt_of_cell? _ _ u2)).trans u2
          have s0W := (hW.cell (World.block_lt_of_cell? _ _ s0)).trans s0
          have s1W := (hW.cell (World.block_lt_of_cell? _ _ s1)).trans s1
          go_wp2
          exact ⟨rfl, Aft.refl W⟩
        refine flowObs_cons (fun W hW => flowOb_nil ?_) ?_
        · have u2W := (hW.cell (World.block_lt_of_cell? _ _ u2)).trans u2
          have s0W := (hW.cell (World.block_lt_of_cell? _ _ s0)).trans s0
          have s1W := (hW.cell (World.block_lt_of_cell? _ _ s1)).trans s1
          go_wp2
          exact ⟨rfl, Aft.refl W⟩
        refine flowObs_cons (fun W hW => flowOb_cons fun v0 h0 => flowOb_nil ?_) ?_
        · obtain rfl := h0
          have hsW := hW.size
          go_wp2_with fail
          refine (boxs_any ka _ pa W ⟨_, _, rfl, HPb.out.aft hW⟩ hpos).mono ?_
          rintro e W' ⟨vx, rfl, hox, hw'⟩
          have hoy := hox
          obtain ⟨ax, cx, rfl, -⟩ := ownsRow_at hox
          go_wp2
          exact ⟨ax, cx, rfl, ownsRow_mono hoy (by omega)⟩
        refine flowObs_cons (fun W hW => flowOb_cons fun v0 h0 => flowOb_nil ?_) flowObs_nil
        · obtain ⟨ax, cx, rfl, hox⟩ := h0
          go_wp2
          exact ⟨⟨_, ax, cx, rfl, Rd.new, ownsRow_aft hox ((Aft.refl W).alloc _)⟩, (Aft.refl W).alloc _⟩
      intro U hU
      refine flowEnd_cons fun _ _ => ?_
      refine flowEnd_cons fun v0 h0 => ?_
      obtain rfl := h0
      iterate 2 refine flowEnd_cons fun _ _ => ?_
      refine flowEnd_cons fun v1 h1 => flowEnd_nil ?_
      obtain ⟨gn, ax, cx, rfl, hrd, hox⟩ := h1
      have HGU := hid (HG4.out.aft hU)
      have hgo := HGU.out.own
      have HOX := hid hox
      have hsU := hU.size
      clear hox
      simp only [Act.put, List.setIfInBounds_toArray, List.set_cons_succ, List.set_cons_zero]
      refine wpList_app _ rfl (.tmp 56) (.tmp 59) 43 rfl (n9 + 1) 51 (.agg #[.int .i64 0, .slice none 0 0]) 2 32 Try.underlying43 Try.info51 rfl (by decide) _ r _ rfl hgo (some ⟨gn, 0, none⟩) 1 1 [.int .i64 (boxS pa).1, .slice ax (boxS pa).2.length cx] rfl (fun h => by cases h) rfl hrd (by intro u hu; simp at hu; rcases hu with rfl | rfl <;> rfl) (by unfold maxLen; omega) (by omega) (by omega) ?_
      intro v5 w5 hown5 hgrow5 _
      rw [show shCells R ++ [.int .i64 (boxS pa).1, .slice ax (boxS pa).2.length cx] = shCells (R ++ [((boxS pa).1, .slice ax (boxS pa).2.length cx)]) by rw [shCells_append]; rfl] at hown5
      obtain ⟨g5, d5, rfl⟩ := ownsRow_some' hown5 (by omega)
      have hrow5 : ∀ j, (Value.slice a' r c').ownBlock = some j → n9 < j := fun j hj => by have := (hgo.lt j hj).1; omega
      have hk5 := Kx.trans (aft_kx hU) (grown_kx hgrow5 n9 hrow5)
      have HG5 : Hid (GX (n9 + 1) w5 (some ⟨g5, 0, none⟩) (r + 1) d5 (R ++ [((boxS pa).1, .slice ax (boxS pa).2.length cx)]) ((allL L).take (r + 1))) := hid (by
        rw [hal.out]
        have hh : (boxS pa).2.length ≤ 1000 := by omega
        exact GX.snoc (k := (boxS pa).1) (ps := (boxS pa).2) HGU.out HOX.out (okP_of_sc HBS.out) hh hgrow5 hown5)
      have HP5 := hid (Sep.kept (sep_any (by decide) HGU.out.own (ownsRow_aft HP4.out hU)).symm (ownsRow_aft HP4.out hU) hgrow5)
      have HB95 := hid (HB94.out.kx hk5 (by omega))
      have HF95 := hid (F3.kx HF94.out hk5 hn94 (by omega))
      have hA5 : Aft W0 w5 := (hA4.trans hU).grown hgrow5 (fun j hj => by have := hrow5 j hj; omega)
      have PB := put12 HB95.out (.slice (some ⟨g5, 0, none⟩) (r + 1) d5)
      have HPB := hid PB.1
      have HFB := hid (F3.set (c := ⟨n9, 2, none⟩) (u := .slice (some ⟨g5, 0, none⟩) (r + 1) d5) HF95.out)
      have HGB := hid (HG5.out.kx PB.2 (fun j h => by subst h; omega))
      have HP6 := hid (ownsRow_kx HP5.out PB.2 (fun j h => by subst h; omega))
      have hA6 := hA5.setCell (p := ⟨n9, 2, none⟩) (by show W0.heap.size ≤ n9; omega) (.slice (some ⟨g5, 0, none⟩) (r + 1) d5)
      obtain ⟨w0', w1', w2'⟩ := HB95.out
      obtain ⟨z0, z1, z2⟩ := HF95.out
      clear PB  u0 u1 u2 s0 s1 hgo hown5
      go_wp2
      go_roundw
      case rel => exact ⟨r + 1, by omega, by go_num, _, _, _, _, _, rfl, HP6, HPB, HFB, HGB, hA6⟩
      case measure => simp only [intOf]; omega
    · obtain rfl : r = L.length := by omega
      have hP := HP.out
      rw [List.take_of_length_le (by rw [spL_length]; exact Nat.le_refl _)] at hP
      have hG := HG.out
      rw [List.take_of_length_le (by rw [allL_length]; exact Nat.le_refl _)] at hG
      have hPr : Prs wr (.slice a8 L.length c8) (spL L) := ownsRow_prs (by rw [spL_length]; exact hP) (spL_ok hsc) (by rw [spL_length]; omega)
      have HPr := hid hPr
      have HGA := hid hG
      clear hP hG HP HG hPr hger
      obtain ⟨⟨x0, x1, x2⟩, -⟩ := HB.out wr hwr
      go_wp2_with fail
      refine (split_any _ (spL L) wd wr HPr.out).mono ?_
      rintro e w3 ⟨vat, vpin, rfl, hIa, -, hw3⟩
      have hcode := cSplit_code (spL L) wd
      have hA3 := hwr.trans hw3
      have hn9r : n9 < wr.heap.size := World.block_lt_of_cell? _ _ HB9.out.1
      have hk3 : Kx (fun _ => False) wr w3 := aft_kx hw3
      have HB93 := hid (HB9.out.kx hk3 (fun h => h))
      have HF93 := hid (F3.kx HF9.out hk3 hn9r (fun h => h))
      have HGA3 := hid (HGA.out.aft hw3)
      have HPr3 := hid (HPr.out.aft hw3)
      clear HB9 HF9 HGA HPr hk3 hn9r x0 x1 x2
      obtain ⟨o, ho⟩ : ∃ o, (rSplit (spL L) wd).2.2 = o := ⟨_, rfl⟩
      have HO := hid ho
      rw [ho] at hM ⊢
      by_cases hf : o = 0
      case neg =>
        have ho' : (o == 0) = false := by rw [beq_eq_false_iff_ne]; exact hf
        have HM := hid (hM.out.trans (if_pos hf))
        obtain ⟨-, y0, y1, y2⟩ := HB.out w3 hA3
        have z0 := (hA3.frozen (o := 0) hlt).trans FZ.out.1
        have z1 := (hA3.frozen (o := 1) hlt).trans FZ.out.2.1
        have z2 := (hA3.frozen (o := 2) hlt).trans FZ.out.2.2
        have HE := hid (HEND.out w3 0 0 none 0 0 hA3)
        clear ho
        go_wp2
        refine bodyPost_ret (results_cut rfl _ _ n5 0 0 _ _ _ rfl rfl rfl HE.out.1) rfl ?_
        rw [HM.out]
        exact ⟨_, _, w.heap.size, w.heap.size, rfl, Nat.le_refl _, Nat.le_refl _, SX.nil _ _ _, by simp, ⟨none, 0, 0, [], rfl, GX.nil _ _, by omega⟩, HE.out.2.2⟩
      subst hf
      have hfit : fitsE (spL L) wd = 0 := by rw [← hcode, ho]
      have HM := hid (hM.out.trans (if_neg (by simp)))
      have HAT := hid (fun k x hx => split_at hfit hx : ∀ (k : Nat) (x : Int), (rSplit (spL L) wd).1[k]? = some x → 0 ≤ x ∧ x ≤ 1000)
      obtain ⟨hf1, hf2, hf3, -, -⟩ := fits_ok hfit
      have hlat := (cSplit_lens (spL L) wd).2
      rw [spL_length] at hlat
      obtain ⟨at_, hat_⟩ : ∃ l, (rSplit (spL L) wd).1 = l := ⟨_, rfl⟩
      rw [hat_] at hIa HM HAT hlat
      clear ho HO hcode hM hfit hat_ hf1
      obtain ⟨aA, cA, rfl, hIA⟩ := hIa
      have HIA := hid hIA
      have HA3 := hid hA3
      obtain ⟨gd, hgd⟩ : ∃ n, w3.heap.size = n := ⟨_, rfl⟩
      obtain ⟨i4, hi, hz0, hz1, hz2⟩ := info_parts Try.info4
      clear hA3 hwr hw3
      go_upto_region 17 with (at_make; refine wpList_make_full _ rfl _ _ 132 rfl w3.heap.size 4 i4 _ 1 Try.underlying132 hi hz0 hz1 .i64 .i64 _ _ L.length rfl rfl rfl rfl (by rw [hz2]; omega) (by unfold maxLen; omega) (Nat.le_refl _) ?_; intro w4 hmade hgrow)
      have hw34 := (Aft.refl w3).grown hgrow (fun k hk => by cases hk)
      rw [show (Value.bool false).cells = #[.bool false] from rfl, Nat.mul_one, toList_madeCells_one, ← dnS_start L at_ wd] at hmade
      rw [hgd] at hmade
      have hgd3 : w3.heap.size ≤ gd := by omega
      have HD0 := hid hmade
      have H0 := hid (SX.nil 96 (gd + 1) w4)
      have hgs := hid hgd
      clear hmade hgrow hi hz0 hz1 hz2 hgd
      go_wp2
      go_loopw [18, 79] (fun t i wr => ∃ k : Nat, k ≤ at_.length ∧ i = .int .i64 k ∧ ∃ a18 c18, t = .slice a18 k c18 ∧ Hid (SX 96 (gd + 1) wr (.slice a18 k c18) (shtsM H L at_ wd k)) ∧ Hid (wr.ownsRow gd 4 1 (.slice (some ⟨gd, 0, none⟩) L.length L.length) L.length (dnS L at_ wd k 0)) ∧ Aft w3 wr) (fun _ i _ => at_.length - (intOf i).toNat)
      case atStart => exact ⟨0, by omega, rfl, none, 0, rfl, H0, HD0, hw34⟩
      case round =>
        clear H0 HD0 hw34
        obtain ⟨k, hk, rfl, a18, c18, rfl, HS, HD, hwr⟩ := hrel
        obtain ⟨wo, hwo⟩ : ∃ x, x = wr := ⟨wr, rfl⟩
        subst hwo
        rcases Nat.lt_or_ge k at_.length with hltk | hgek
        · have hki : (k : Int) < at_.length := by omega
          obtain ⟨bA, oA, x, rfl, ca, hbA, hx, hx1, hx2⟩ := (HIA.out.aft hwr).rd.int HIA.out.ok hltk
          have hx01 := HAT.out k x hx.out
          obtain ⟨⟨x0, x1, x2⟩, -⟩ := HB.out wo (HA3.out.trans hwr)
          have hgo : gd < wo.heap.size := (HD.out.lt gd rfl).2
          go_upto_region 22 with fail
          obtain ⟨Y, eY, hAY, hltY, hbY⟩ := one_box wo #[.int .i64 x, .int .i64 wd, .int .i64 H, .slice none 0 0, .slice none 0 0] 96
          have HF50 : Hid (F5 Y wo.heap.size) := hid (eY ▸ ⟨frozen_new wo _ _ 0, frozen_new wo _ _ 1, frozen_new wo _ _ 2, frozen_new wo _ _ 3, frozen_new wo _ _ 4⟩)
          rw [eY]
          have HB50 : Hid (B5 Y wo.heap.size x wd H (.slice none 0 0) (.slice none 0 0)) := hid ⟨hbY.out Y (Aft.refl _) 0 _ rfl, hbY.out Y (Aft.refl _) 1 _ rfl, hbY.out Y (Aft.refl _) 2 _ rfl, hbY.out Y (Aft.refl _) 3 _ rfl, hbY.out Y (Aft.refl _) 4 _ rfl⟩
          clear hbY eY
          obtain ⟨g, hg⟩ : ∃ n, wo.heap.size = n := ⟨_, rfl⟩
          have hnos : wo.heap.size ≤ g := by omega
          rw [hg] at HF50 HB50 hgo ⊢
          have HGs := hid hg
          clear hg
          have HKY := hid (aft_kx (X := fun j => j = gd) hAY)
          have HDY := hid (ownsRow_aft HD.out hAY)
          have HG50 := hid (GX.nil (g + 1) Y)
          have HO50 : Hid (Y.ownsRow (g + 1) 3 1 (.slice none 0 0) 0 (i64s [])) := hid (World.ownsRow_nil _ _ _ _)
          have HN0 : Hid (0 = (ofS L at_ wd k 0).length) := hid rfl
          have HCA := hid ca
          clear ca x0 x1 x2 hltY hAY HD
          go_wp2
          go_loopw [91] (fun i wr => ∃ m : Nat, m ≤ L.length ∧ i = .int .i64 m ∧ ∃ a3 n c3 ao co R, Hid (n = (ofS L at_ wd k m).length) ∧ Hid (B5 wr g x wd H (.slice a3 n c3) (.slice ao n co)) ∧ Hid (F5 wr g) ∧ Hid (GX (g + 1) wr a3 n c3 R ((ofS L at_ wd k m).map fun i => mvS x (L.getD i (0, [])))) ∧
            Hid (wr.ownsRow (g + 1) 3 1 (.slice ao n co) n (i64s ((ofS L at_ wd k m).map fun i : Nat => (i : Int)))) ∧ Hid (wr.ownsRow gd 4 1 (.slice (some ⟨gd, 0, none⟩) L.length L.length) L.length (dnS L at_ wd k m)) ∧ Hid (Kx (fun j => j = gd) wo wr)) (fun i _ => L.length - (intOf i).toNat)
          case atStart => exact ⟨0, by omega, rfl, none, 0, 0, none, 0, [], HN0, HB50, HF50, HG50, HO50, HDY, HKY⟩
          case round =>
            clear HB50 HF50 HG50 HO50 HN0 HDY HKY
            obtain ⟨m, hm, rfl, a3, n, c3, ao, co, R, HN, HBm, HFm, HGm, HOm, HDm, HKm⟩ := hrel
            obtain ⟨wm, hwm'⟩ : ∃ x, x = wr := ⟨wr, rfl⟩
            subst hwm'
            have hgm : g < wm.heap.size := HBm.out.lt
            have hnm : n ≤ m := by rw [HN.out]; exact ofS_le _ _ _ _ _
            have hA3m : Aft w3 wm := kx_aft hwr (fun j hj => by subst hj; exact hgd3) HKm.out
            rcases Nat.lt_or_ge m L.length with hltm | hgem
            · have hmi : (m : Int) < L.length := by omega
              obtain ⟨ap8, cp8, e8, hlm⟩ := HPr3.out.aft hA3m
              simp only [Value.slice.injEq] at e8
              obtain ⟨rfl, -, rfl⟩ := e8
              obtain ⟨b8, o8, p, q, rfl, c1, c2, hb8, hpq, hpb⟩ := hlm.rd.pair hlm.ok (i := m) (by rw [spL_length]; exact hltm)
              have HON := hid (onS_eq (k := k) (wd := wd) hpq.out hx.out)
              have HPQ := hid hpq.out
              clear hlm
              go_upto_region 25 with fail
              obtain ⟨Wb, eWb, hwb, hltb, hbb2⟩ := one_box wm #[.int .i64 p, .int .i64 q] 41
              rw [eWb]
              have t0 := hbb2.out Wb (Aft.refl _) 0 _ rfl
              have t1 := hbb2.out Wb (Aft.refl _) 1 _ rfl
              clear eWb hbb2 c1 c2 hb8 hpb hpq
              obtain ⟨n23, hn23⟩ : ∃ n, wm.heap.size = n := ⟨_, rfl⟩
              rw [hn23] at t0 t1 hltb ⊢
              clear hn23
              have HDb := hid (ownsRow_aft HDm.out hwb)
              obtain ⟨d0, d1⟩ := row_get HDb.out (dnS_get (k := k) (m := m) (at_ := at_) (wd := wd) hltm)
              rw [dnB_here HPQ.out] at d0
              cases hcv : covB (p, q) (at_.take k) wd
              case true =>
                have HOF0 := onS_eq (L := L) (at_ := at_) (wd := wd) (k := k) (m := m) HPQ.out hx.out
                rw [hcv] at d0
                have HOF := hid (ofS_no (L := L) (at_ := at_) (wd := wd) (k := k) (m := m) (by rw [HOF0, hcv]; simp))
                have HDK := hid (dnS_keep HPQ.out hx.out (by rw [HOF0, hcv]; simp))
                clear HOF0
                go_wp2
                go_roundw
                case rel => exact ⟨m + 1, by omega, by go_num, a3, n, c3, ao, co, R, hid (by rw [HOF.out]; exact HN.out), hid (HBm.out.kx (X := fun _ => False) (aft_kx hwb) (fun h => h)), hid (F5.kx (X := fun _ => False) HFm.out (aft_kx hwb) hgm (fun h => h)), hid (by rw [HOF.out]; exact HGm.out.aft hwb), hid (by rw [HOF.out]; exact ownsRow_aft HOm.out hwb), hid (by rw [HDK.out]; exact HDb.out), hid (HKm.out.trans (aft_kx hwb))⟩
                case measure => simp only [intOf]; omega
              rw [hcv] at d0
              go_wp2_with fail
              refine (sin_any (p, q) x wd Wb (by omega) (by omega)).mono ?_
              rintro e wz ⟨rfl, hwz⟩
              have hz := hwb.trans hwz
              have HDz := hid (ownsRow_aft HDm.out hz)
              have hd := row_get HDz.out (dnS_get (k := k) (m := m) (at_ := at_) (wd := wd) hltm)
              rw [dnB_here HPQ.out, hcv] at hd
              clear d0 d1 t0 t1 HDb
              cases hin : inB (p, q) x wd
              · have HOF := hid (ofS_no (L := L) (at_ := at_) (wd := wd) (k := k) (m := m) (by rw [HON.out, hin]; rfl))
                have HDK := hid (dnS_keep HPQ.out hx.out (by rw [HON.out, hin]; rfl))
                clear hd
                go_wp2
                go_roundw
                case rel => exact ⟨m + 1, by omega, by go_num, a3, n, c3, ao, co, R, hid (by rw [HOF.out]; exact HN.out), hid (HBm.out.kx (X := fun _ => False) (aft_kx hz) (fun h => h)), hid (F5.kx (X := fun _ => False) HFm.out (aft_kx hz) hgm (fun h => h)), hid (by rw [HOF.out]; exact HGm.out.aft hz), hid (by rw [HOF.out]; exact ownsRow_aft HOm.out hz), hid (by rw [HDK.out]; exact HDz.out), hid (HKm.out.trans (aft_kx hz))⟩
                case measure => simp only [intOf]; omega
              · have HOF := hid (ofS_yes (L := L) (at_ := at_) (wd := wd) (k := k) (m := m) (by rw [HON.out, hin, hcv]; rfl))
                obtain ⟨d0, d1⟩ := hd
                go_upto_region 27 with fail
                have hput0 := HDz.out.stored m (.bool true)
                rw [dnS_set HPQ.out hx.out hin hltm] at hput0
                obtain ⟨ws, es, hDs, hks⟩ : ∃ ws, wz.setCell ⟨gd, m, none⟩ (.bool true) = ws ∧ ws.ownsRow gd 4 1 (.slice (some ⟨gd, 0, none⟩) L.length L.length) L.length (dnS L at_ wd k (m + 1)) ∧ Kx (fun j => j = gd) wz ws := ⟨_, rfl, hput0.1, Kx.setCell (p := ⟨gd, m, none⟩) _ rfl⟩
                rw [es]
                have HDs := hid hDs
                clear d0 d1 hput0 es hDs HON HPQ
                have hk := (aft_kx (X := fun j => j = gd) hz).trans hks
                have HBz := hid (HBm.out.kx hk (by omega))
                have HFz := hid (F5.kx HFm.out hk hgm (by omega))
                have HGz := hid (HGm.out.kx hk (fun j h => by subst h; omega))
                have HOz := hid (ownsRow_kx HOm.out hk (fun j h => by subst h; omega))
                have hgz : g < ws.heap.size := HBz.out.lt
                have HKz := hid (HKm.out.trans hk)
                clear HBm HFm HGm HOm hgm hz HDz HDm HKm hk hks hwz hwb hA3m
                have hbz : g + 1 ≤ (ws.alloc (.cells #[.int .i64 m] 3)).heap.size := by have := ((Aft.refl ws).alloc (.cells #[.int .i64 (m : Int)] 3)).size; omega
                obtain ⟨y0, y1, y2, y3, y4⟩ := HBz.out
                go_upto_region 28 with (at_builtin; refine wpList_app _ rfl (.tmp 111) (.tmp 113) 22 rfl (g + 1) 3 (.int .i64 0) 1 8 Try.underlying22 Try.info3 rfl (by decide) _ n _ rfl (HOz.out.alloc (.cells #[.int .i64 m] 3)) (some ⟨ws.heap.size, 0, none⟩) 1 1 (i64s [(m : Int)]) rfl (fun h => by cases h) rfl Rd.new (i64s_one _) (by unfold maxLen; omega) (by omega) hbz ?_; intro v4 w4 hown4 hgrow4 hloc4; obtain ⟨g8, d8, rfl⟩ := ownsRow_some' hown4 (by omega); have hal4 := (Aft.refl ws).alloc (.cells #[.int .i64 m] 3); have hrow4 : ∀ j, (Value.slice ao n co).ownBlock = some j → g < j := (fun j hj => by have := (HOz.out.lt j hj).1; omega); have hk4 := Kx.trans (aft_kx hal4) (grown_kx hgrow4 g hrow4); have HB4 := hid (HBz.out.kx hk4 (by omega)); have HF4 := hid (F5.kx HFz.out hk4 hgz (by omega)); obtain ⟨r0, r1, r2, r3, r4⟩ := HB4.out; obtain ⟨s0, s1, s2, s3, s4⟩ := HF4.out)
                have HK4 := hid (kx_grown (HKz.out.trans (aft_kx hal4)) hgrow4 (fun j hj => by have := hrow4 j hj; omega))
                have HD4 := hid (ownsRow_kx3 HDs.out hk4 (fun j hj hx => by have e : gd = j := (by simpa [Value.ownBlock] using hj); omega))
                have HG4 := hid ((HGz.out.aft hal4).grown (by decide) (by decide) (HOz.out.alloc (.cells #[.int .i64 m] 3)) hgrow4)
                have hput := put54 HB4.out (.slice (some ⟨g8, 0, none⟩) (n + 1) d8)
                obtain ⟨w5, e5, hb5, hk5, hf5⟩ : ∃ w5, w4.setCell ⟨g, 4, none⟩ (.slice (some ⟨g8, 0, none⟩) (n + 1) d8) = w5 ∧ B5 w5 g x wd H (.slice a3 n c3) (.slice (some ⟨g8, 0, none⟩) (n + 1) d8) ∧ Kx (fun j => j = g) w4 w5 ∧ F5 w5 g := ⟨_, rfl, hput.1, hput.2, F5.set HF4.out⟩
                have HK5 : Hid (Kx (fun j => j = gd) wo w5) := hid (e5 ▸ kx_set HK4.out (p := ⟨g, 4, none⟩) hnos _)
                rw [e5]
                have hA35 : Aft w3 w5 := kx_aft hwr (fun j hj => by subst hj; exact hgd3) HK5.out
                have HB5 := hid hb5
                have HF5 := hid hf5
                have HG5 := hid (HG4.out.kx hk5 (fun j h => by subst h; omega))
                have HD5 := hid (ownsRow_kx3 HD4.out hk5 (fun j hj hx => by have e : gd = j := (by simpa [Value.ownBlock] using hj); omega))
                have HO5 : Hid (w5.ownsRow (g + 1) 3 1 (.slice (some ⟨g8, 0, none⟩) (n + 1) d8) (n + 1) (i64s ((ofS L at_ wd k (m + 1)).map fun i : Nat => (i : Int)))) := hid (by
                  rw [HOF.out, List.map_append, i64s_append]
                  exact ownsRow_kx hown4 hk5 (fun j h => by subst h; omega))
                clear y0 y1 y2 y3 y4 r0 r1 r2 r3 r4 s0 s1 s2 s3 s4 hput e5 hb5 hf5 hk5 hk4 hal4 hrow4 hown4 hgrow4 hloc4 HBz HFz HGz HOz HB4 HF4 HG4 hgz HK4 HD4 HDs HKz
                have hA05 := HA3.out.trans hA35
                have hg5 : g < w5.heap.size := HB5.out.lt
                obtain ⟨⟨x0, x1, x2⟩, -⟩ := HB.out w5 hA05
                obtain ⟨r0, r1, r2, r3, r4⟩ := HB5.out
                obtain ⟨a1, cc1, R1, e1, hat⟩ := (HV.out.aft hA05)
                simp only [Value.slice.injEq, true_and] at e1
                obtain ⟨rfl, rfl⟩ := e1
                obtain ⟨bb, off, ka, pa, ab, cb, rfl, s0, s1, hbb, hxa, hpa⟩ := hat.get hltm
                have HXA := hid hxa.out
                have HSC := hid (hsc _ (List.mem_of_getElem? hxa.out))
                have HPb := hid hpa
                have HMV : Hid ((ofS L at_ wd k (m + 1)).map (fun i => mvS x (L.getD i (0, []))) = (ofS L at_ wd k m).map (fun i => mvS x (L.getD i (0, []))) ++ [(ka, mvL (-x) pa)]) := hid (by
                  rw [HOF.out, List.map_append]
                  simp only [List.map_cons, List.map_nil, mvS]
                  rw [List.getD_eq_getElem?_getD, HXA.out]
                  rfl)
                have hple : pa.length ≤ 1000 := HSC.out.1
                clear hat hpa hxa hA05
                refine wp_region_flow _ (Aft.refl _) [FV.is (.pointer (some ⟨g, 1, none⟩)), FV.is (.pointer (some ⟨g, 3, none⟩)), FV.is (.slice a3 n c3), FV.is (.pointer (some ⟨n2, 2, none⟩)), FV.is (.slice (some ⟨bb, off, none⟩) L.length cv), FV.is (.int .i64 m), FV.is (.pointer (some ⟨bb, off + m * 2, none⟩)), FV.is (.agg #[.int .i64 ka, .slice ab pa.length cb]), FV.is (.int .i64 x), FV.is (.int .i64 (-x)), fvShape (g + 1) ka (mvL (-x) pa), fvShape1 (g + 1) ka (mvL (-x) pa)]
                  [(0, 116), (1, 117), (2, 118), (3, 119), (4, 120), (5, 121), (6, 122), (7, 123), (8, 124), (9, 125), (10, 126), (11, 127)]
                  [[], [(0, 116)], [(1, 117)], [], [(3, 119)], [], [(4, 120), (5, 121)], [(6, 122)], [], [(8, 124)], [(7, 123), (9, 125)], [(10, 126)]] (by kernel_rfl) (by kernel_rfl) ?_ ?_
                · refine flowObs_cons (fun W hW => flowOb_nil ?_) ?_
                  · go_wp2
                    exact ⟨rfl, Aft.refl W⟩
                  refine flowObs_cons (fun W hW => flowOb_cons fun v0 h0 => flowOb_nil ?_) ?_
                  · obtain rfl := h0
                    go_wp2
                    exact ⟨rfl, Aft.refl W⟩
                  refine flowObs_cons (fun W hW => flowOb_cons fun v0 h0 => flowOb_nil ?_) ?_
                  · obtain rfl := h0
                    have x2W := (hW.cell (World.block_lt_of_cell? _ _ x2)).trans x2
                    have r3W := (hW.cell (World.block_lt_of_cell? _ _ r3)).trans r3
                    have s0W := (hW.cell (World.block_lt_of_cell? _ _ s0)).trans s0
                    have s1W := (hW.cell (World.block_lt_of_cell? _ _ s1)).trans s1
                    go_wp2
                    exact ⟨rfl, Aft.refl W⟩
                  refine flowObs_cons (fun W hW => flowOb_nil ?_) ?_
                  · go_wp2
                    exact ⟨rfl, Aft.refl W⟩
                  refine flowObs_cons (fun W hW => flowOb_cons fun v0 h0 => flowOb_nil ?_) ?_
                  · obtain rfl := h0
                    have x2W := (hW.cell (World.block_lt_of_cell? _ _ x2)).trans x2
                    have r3W := (hW.cell (World.block_lt_of_cell? _ _ r3)).trans r3
                    have s0W := (hW.cell (World.block_lt_of_cell? _ _ s0)).trans s0
                    have s1W := (hW.cell (World.block_lt_of_cell? _ _ s1)).trans s1
                    go_wp2
                    exact ⟨rfl, Aft.refl W⟩
                  refine flowObs_cons (fun W hW => flowOb_nil ?_) ?_
                  · go_wp2
                    exact ⟨rfl, Aft.refl W⟩
                  refine flowObs_cons (fun W hW => flowOb_cons fun v0 h0 => flowOb_cons fun v1 h1 => flowOb_nil ?_) ?_
                  · obtain rfl := h0
                    obtain rfl := h1
                    go_wp2
                    exact ⟨rfl, Aft.refl W⟩
                  refine flowObs_cons (fun W hW => flowOb_cons fun v0 h0 => flowOb_nil ?_) ?_
                  · obtain rfl := h0
                    have x2W := (hW.cell (World.block_lt_of_cell? _ _ x2)).trans x2
                    have r3W := (hW.cell (World.block_lt_of_cell? _ _ r3)).trans r3
                    have s0W := (hW.cell (World.block_lt_of_cell? _ _ s0)).trans s0
                    have s1W := (hW.cell (World.block_lt_of_cell? _ _ s1)).trans s1
                    go_wp2
                    exact ⟨rfl, Aft.refl W⟩
                  refine flowObs_cons (fun W hW => flowOb_nil ?_) ?_
                  · go_wp2
                    exact ⟨rfl, Aft.refl W⟩
                  refine flowObs_cons (fun W hW => flowOb_cons fun v0 h0 => flowOb_nil ?_) ?_
                  · obtain rfl := h0
                    go_wp2
                    exact ⟨rfl, Aft.refl W⟩
                  refine flowObs_cons (fun W hW => flowOb_cons fun v0 h0 => flowOb_cons fun v1 h1 => flowOb_nil ?_) ?_
                  · obtain rfl := h0
                    obtain rfl := h1
                    have hsW := hW.size
                    go_wp2_with fail
                    refine (mov_any ka (-x) _ pa W ⟨_, _, rfl, HPb.out.aft hW⟩ hple).mono ?_
                    rintro e W' ⟨vx, rfl, hox, hw'⟩
                    rw [← mvL_length (-x) pa] at hox
                    have hoy := hox
                    obtain ⟨ax, cx, rfl, -⟩ := ownsRow_at hox
                    go_wp2
                    exact ⟨ax, cx, rfl, ownsRow_mono hoy (by omega)⟩
                  refine flowObs_cons (fun W hW => flowOb_cons fun v0 h0 => flowOb_nil ?_) flowObs_nil
                  · obtain ⟨ax, cx, rfl, hox⟩ := h0
                    go_wp2
                    exact ⟨⟨_, ax, cx, rfl, Rd.new, ownsRow_aft hox ((Aft.refl W).alloc _)⟩, (Aft.refl W).alloc _⟩
                intro U hU
                iterate 2 refine flowEnd_cons fun _ _ => ?_
                refine flowEnd_cons fun v0 h0 => ?_
                obtain rfl := h0
                iterate 8 refine flowEnd_cons fun _ _ => ?_
                refine flowEnd_cons fun v1 h1 => flowEnd_nil ?_
                obtain ⟨gn, ax, cx, rfl, hrd, hox⟩ := h1
                have HGU := hid (HG5.out.aft hU)
                have hgo' := HGU.out.own
                have HOX := hid hox
                have hsU := hU.size
                clear hox
                simp only [Act.put, List.setIfInBounds_toArray, List.set_cons_succ, List.set_cons_zero]
                refine wpList_app _ rfl (.tmp 118) (.tmp 127) 43 rfl (g + 1) 51 (.agg #[.int .i64 0, .slice none 0 0]) 2 32 Try.underlying43 Try.info51 rfl (by decide) _ n _ rfl hgo' (some ⟨gn, 0, none⟩) 1 1 [.int .i64 ka, .slice ax (mvL (-x) pa).length cx] rfl (fun h => by cases h) rfl hrd (by intro u hu; simp at hu; rcases hu with rfl | rfl <;> rfl) (by unfold maxLen; omega) (by omega) (by omega) ?_
                intro v6 w6 hown6 hgrow6 _
                rw [show shCells R ++ [.int .i64 ka, .slice ax (mvL (-x) pa).length cx] = shCells (R ++ [(ka, .slice ax (mvL (-x) pa).length cx)]) by rw [shCells_append]; rfl] at hown6
                obtain ⟨g6, d6, rfl⟩ := ownsRow_some' hown6 (by omega)
                have hrow6 : ∀ j, (Value.slice a3 n c3).ownBlock = some j → g < j := fun j hj => by have := (hgo'.lt j hj).1; omega
                have hk6 := Kx.trans (aft_kx hU) (grown_kx hgrow6 g hrow6)
                have HK6 := hid (kx_grown (HK5.out.trans (aft_kx hU)) hgrow6 (fun j hj => by have := hrow6 j hj; omega))
                have HG6 : Hid (GX (g + 1) w6 (some ⟨g6, 0, none⟩) (n + 1) d6 (R ++ [(ka, .slice ax (mvL (-x) pa).length cx)]) ((ofS L at_ wd k (m + 1)).map fun i => mvS x (L.getD i (0, [])))) := hid (by
                  rw [HMV.out]
                  have hh : (mvL (-x) pa).length ≤ 1000 := by rw [mvL_length]; exact hple
                  exact GX.snoc (k := ka) (ps := mvL (-x) pa) HGU.out HOX.out (mvL_ok _ (okP_of_sc HSC.out.2)) hh hgrow6 hown6)
                have HO6 := hid (Sep.kept (sep_any (by decide) HGU.out.own (ownsRow_aft HO5.out hU)).symm (ownsRow_aft HO5.out hU) hgrow6)
                have HD6 := hid (ownsRow_kx3 HD5.out hk6 (fun j hj hx => by have e : gd = j := (by simpa [Value.ownBlock] using hj); omega))
                have HB6 := hid (HB5.out.kx hk6 (by omega))
                have HF6 := hid (F5.kx HF5.out hk6 hg5 (by omega))
                have PB := put53 HB6.out (.slice (some ⟨g6, 0, none⟩) (n + 1) d6)
                have HPB := hid PB.1
                have HFB := hid (F5.set (c := ⟨g, 3, none⟩) (u := .slice (some ⟨g6, 0, none⟩) (n + 1) d6) HF6.out)
                have HGB := hid (HG6.out.kx PB.2 (fun j h => by subst h; omega))
                have HOB := hid (ownsRow_kx HO6.out PB.2 (fun j h => by subst h; omega))
                have HDB := hid (ownsRow_kx3 HD6.out PB.2 (fun j hj hx => by have e : gd = j := (by simpa [Value.ownBlock] using hj); omega))
                have HKB := hid (kx_set HK6.out (p := ⟨g, 3, none⟩) hnos (.slice (some ⟨g6, 0, none⟩) (n + 1) d6))
                have HNN : Hid (n + 1 = (ofS L at_ wd k (m + 1)).length) := hid (by rw [HOF.out, List.length_append, HN.out]; rfl)
                clear x0 x1 x2 r0 r1 r2 r3 r4 s0 s1 hgo' hown6 PB
                obtain ⟨r0, r1, r2, r3, r4⟩ := HB6.out
                obtain ⟨z0, z1, z2, z3, z4⟩ := HF6.out
                go_wp2
                go_roundw
                case rel => exact ⟨m + 1, by omega, by go_num, _, _, _, _, _, _, HNN, HPB, HFB, HGB, HOB, HDB, HKB⟩
                case measure => simp only [intOf]; omega
            · obtain rfl : m = L.length := by omega
              have HSm := hid (HS.out.kx HKm.out (fun j hj => by subst hj; omega))
              have HDn : Hid (wm.ownsRow gd 4 1 (.slice (some ⟨gd, 0, none⟩) L.length L.length) L.length (dnS L at_ wd (k + 1) 0)) := hid (by rw [← dnS_next]; exact HDm.out)
              obtain ⟨Q, hQ⟩ := HSm.out
              have HQ := hid hQ
              clear hQ HDm
              have hown := HQ.out.1
              rw [shtsM_len] at hown
              have HOQ := hid hown
              clear hown
              have hgx : at_.getD k 0 = x := by rw [List.getD_eq_getElem?_getD, hx.out]; rfl
              have HST : Hid (shtS H L at_ wd k L.length = ⟨x, wd, H, (ofS L at_ wd k L.length).map fun i => mvS x (L.getD i (0, [])), (ofS L at_ wd k L.length).map fun i : Nat => (i : Int)⟩) := hid (by unfold shtS; rw [hgx])
              have HFX : Hid (FX (gd + 1) wm (shtS H L at_ wd k L.length) (.slice a3 n c3) (.slice ao n co)) := hid (by
                rw [HST.out]
                refine ⟨⟨a3, n, c3, R, rfl, HGm.out.mono (by omega), by omega⟩, ?_, ofS_okI _ _ _ _ _ (by omega), ?_⟩
                · simp only [List.length_map, ← HN.out]
                  exact ownsRow_mono HOm.out (by omega)
                · simp only [List.length_map, ← HN.out]
                  omega)
              have hgb : gd + 1 ≤ (wm.alloc (.cells #[.int .i64 x, .int .i64 wd, .int .i64 H, .slice a3 n c3, .slice ao n co] 96)).heap.size := by have := ((Aft.refl wm).alloc (.cells #[.int .i64 x, .int .i64 wd, .int .i64 H, .slice a3 n c3, .slice ao n co] 96)).size; omega
              clear hgx
              obtain ⟨r0, r1, r2, r3, r4⟩ := HBm.out
              go_wp2_with (at_builtin; refine wpList_app _ rfl (.tmp 132) (.tmp 134) 81 rfl (gd + 1) 96 (.agg #[.int .i64 0, .int .i64 0, .int .i64 0, .slice none 0 0, .slice none 0 0]) 5 72 Try.underlying81 Try.info96 rfl (by decide) _ k _ rfl (HOQ.out.alloc (.cells #[.int .i64 x, .int .i64 wd, .int .i64 H, .slice a3 n c3, .slice ao n co] 96)) (some ⟨wm.heap.size, 0, none⟩) 1 1 [.int .i64 x, .int .i64 wd, .int .i64 H, .slice a3 n c3, .slice ao n co] rfl (fun h => by cases h) rfl Rd.new (by intro u hu; simp at hu; rcases hu with rfl | rfl | rfl | rfl | rfl <;> rfl) (by unfold maxLen; omega) (by omega) hgb ?_; intro v9 w9 hown9 hgrow9 hloc9; obtain ⟨g9, d9, rfl⟩ := ownsRow_some' hown9 (by omega))
              have hal := (Aft.refl wm).alloc (.cells #[.int .i64 x, .int .i64 wd, .int .i64 H, .slice a3 n c3, .slice ao n co] 96)
              have HS9 : Hid (SX 96 (gd + 1) w9 (.slice (some ⟨g9, 0, none⟩) (k + 1) d9) (shtsM H L at_ wd (k + 1))) := hid (by
                rw [shtsM_succ]
                refine SX.snoc (by decide) (X := wm.alloc (.cells #[.int .i64 x, .int .i64 wd, .int .i64 H, .slice a3 n c3, .slice ao n co] 96)) (Q := Q) (v := .slice a18 k c18) (by rw [shtsM_len]; exact HOQ.out.alloc _) HQ.out.2.1 (fun i q s hq hs => let ⟨e1, e2, e3, k4⟩ := HQ.out.2.2 i q s hq hs; ⟨e1, e2, e3, k4.aft hal⟩) (HFX.out.aft hal) hgrow9 ?_
                rw [shtsM_len, HST.out]
                exact hown9)
              have HD9 := hid (Sep.kept (sep_any (by decide) (HOQ.out.alloc _) (ownsRow_aft HDn.out hal)).symm (ownsRow_aft HDn.out hal) hgrow9)
              have hA9 : Aft w3 w9 := (hA3m.alloc (.cells #[.int .i64 x, .int .i64 wd, .int .i64 H, .slice a3 n c3, .slice ao n co] 96)).grown hgrow9 (fun j hj => by have := (HOQ.out.lt j hj).1; omega)
              go_wp2
              go_roundw
              case rel => exact ⟨k + 1, by omega, by go_num, _, _, rfl, HS9, HD9, hA9⟩
              case measure => simp only [intOf]; omega
        · obtain rfl : k = at_.length := by omega
          have hA0r := HA3.out.trans hwr
          obtain ⟨-, y0, y1, y2⟩ := HB.out wo hA0r
          have z0 := (hA0r.frozen (o := 0) hlt).trans FZ.out.1
          have z1 := (hA0r.frozen (o := 1) hlt).trans FZ.out.2.1
          have z2 := (hA0r.frozen (o := 2) hlt).trans FZ.out.2.2
          have HB9 := hid (HB93.out.kx (X := fun _ => False) (aft_kx hwr) (fun h => h))
          obtain ⟨u0, u1, u2⟩ := HB9.out
          have h5m : n5 < gd + 1 := by have := HA3.out.size; omega
          go_upto_region 32 with fail
          refine wp_region_flow _ (Aft.refl _) [FV.is (.slice a18 at_.length c18), FV.is (.agg #[.int .i64 W, .int .i64 H, .slice a' L.length c']), FV.is (.slice a18 at_.length c18)]
            [(0, 137), (1, 138), (2, 4)]
            [[], [], [(0, 137)]] (by kernel_rfl) (by kernel_rfl) ?_ ?_
          · refine flowObs_cons (fun W hW => flowOb_nil ?_) ?_
            · go_wp2
              exact ⟨rfl, Aft.refl W⟩
            refine flowObs_cons (fun W hW => flowOb_nil ?_) ?_
            · have u0W := (hW.cell (World.block_lt_of_cell? _ _ u0)).trans u0
              have u1W := (hW.cell (World.block_lt_of_cell? _ _ u1)).trans u1
              have u2W := (hW.cell (World.block_lt_of_cell? _ _ u2)).trans u2
              go_wp2
              exact ⟨rfl, Aft.refl W⟩
            refine flowObs_cons (fun W hW => flowOb_cons fun v0 h0 => flowOb_nil ?_) flowObs_nil
            · obtain rfl := h0
              go_wp2
              exact ⟨rfl, Aft.refl W⟩
          intro U hU
          refine flowEnd_cons fun v0 h0 => ?_
          refine flowEnd_cons fun v1 h1 => ?_
          refine flowEnd_cons fun v2 h2 => flowEnd_nil ?_
          obtain rfl := h0
          obtain rfl := h1
          obtain rfl := h2
          have hA0U := hA0r.trans hU
          have HE := hid (HEND.out U W H a' L.length c' hA0U)
          have HSE := hid (((HS.out.aft hU).kx HE.out.2.1 (fun j h => by subst h; exact h5m)))
          have HGE := hid (((HGA3.out.aft (hwr.trans hU)).kx HE.out.2.1 (fun j h => by subst h; omega)))
          clear y0 y1 y2 z0 z1 z2 u0 u1 u2
          obtain ⟨-, y0, y1, y2⟩ := HB.out U hA0U
          have z0 := (hA0U.frozen (o := 0) hlt).trans FZ.out.1
          have z1 := (hA0U.frozen (o := 1) hlt).trans FZ.out.2.1
          have z2 := (hA0U.frozen (o := 2) hlt).trans FZ.out.2.2
          go_wp2
          refine bodyPost_ret (results_cut rfl _ _ n5 W H _ _ _ rfl rfl rfl HE.out.1) rfl ?_
          rw [HM.out]
          exact ⟨_, _, (gd + 1), n9 + 1, rfl, by omega, by omega, HSE.out, by rw [shtsM_len]; omega, ⟨_, _, _, _, rfl, HGE.out, by omega⟩, HE.out.2.2⟩
end Go.Proofs.Ytokdclbfjlnnjaa
