/- The reference's Cut. -/
import Derived.Test.YtokdclbfjlnnjaaR35
import Derived.Test.YtokdclbfjlnnjaaA4
namespace Go.Proofs.Ytokdclbfjlnnjaa
open Go.RowKit Go.BigFrame

theorem results_cut {fn : Func} (h : fn.results = #[.tmp 4, .cell 5 45, .tmp 6]) (tmps : Array Value) (w : World) (b : Nat) (x y : Int) (v v4 v6 : Value) (h4 : tmps.getD 4 undef = v4) (h6 : tmps.getD 6 undef = v6) (hp : tmps.getD 5 undef = .pointer (some ⟨b, 0, none⟩)) (hc : B3 w b x y v) :
    (results fn tmps).run Try.prog w = .ok (.tuple #[v4, .agg #[.int .i64 x, .int .i64 y, v], v6]) w := by
  obtain ⟨h0, h1, h2⟩ := hc
  have hp' : tmps[5]?.getD undef = .pointer (some ⟨b, 0, none⟩) := by simpa using hp
  have h4' : tmps[4]?.getD undef = v4 := by simpa using h4
  have h6' : tmps[6]?.getD undef = v6 := by simpa using h6
  simp only [Go.results, h]
  simp [hp', h4', h6', asAddr, go_sem, h0, h1, h2]

set_option maxRecDepth 100000 in
set_option maxHeartbeats 16000000 in
theorem rcut_any (W H wd : Int) (v : Value) (L : List Sh) (w : World) (hv : Shs w v L) (hsc : ShSc L) :
    Calls Try.prog 56 #[.agg #[.int .i64 W, .int .i64 H, v], .int .i64 wd] w (CutPost 93 w (cutM W H L wd)) := by
  have hv0 := hid hv
  obtain ⟨av, cv, R0, rfl, hv⟩ := hv
  have hle := hv.le
  clear hv
  go_enter Try.func56, Try.ntmps56
  go_upto_region 1 with fail
  obtain ⟨W0, eW0, hw0, hlt, hbox⟩ := two_boxes w #[.int .i64 W, .int .i64 H, .slice av L.length cv] #[.int .i64 0, .int .i64 0, .slice none 0 0] 45 45
  have fz5 : F3 W0 (w.heap.size + 1) := by
    rw [← eW0]
    exact ⟨by simp, by simp, by simp⟩
  rw [eW0]
  clear eW0
  have HB : Hid (∀ X, Aft W0 X → B3 X w.heap.size W H (.slice av L.length cv) ∧ B3 X (w.heap.size + 1) 0 0 (.slice none 0 0)) :=
    hid fun X hX => ⟨⟨(hbox.out X hX).1 0 _ rfl, (hbox.out X hX).1 1 _ rfl, (hbox.out X hX).1 2 _ rfl⟩, (hbox.out X hX).2 0 _ rfl, (hbox.out X hX).2 1 _ rfl, (hbox.out X hX).2 2 _ rfl⟩
  clear hbox
  obtain ⟨n5, hn5⟩ : ∃ n, w.heap.size + 1 = n := ⟨_, rfl⟩
  rw [hn5] at HB fz5 hlt ⊢
  have hge5 : w.heap.size ≤ n5 := by omega
  obtain ⟨n2, hn2⟩ : ∃ n, w.heap.size = n := ⟨_, rfl⟩
  rw [hn2] at HB ⊢
  have h25 : n2 < n5 := by omega
  have FZ := hid fz5
  clear fz5 hn5
  have HV := hid (hv0.out.aft hw0)
  have HEND : Hid (∀ (X : World) (x y : Int) (a : Option Addr) (n c : Nat), Aft W0 X → B3 (((X.setCell ⟨n5, 0, none⟩ (.int .i64 x)).setCell ⟨n5, 1, none⟩ (.int .i64 y)).setCell ⟨n5, 2, none⟩ (.slice a n c)) n5 x y (.slice a n c) ∧
      Kx (fun j => j = n5) X (((X.setCell ⟨n5, 0, none⟩ (.int .i64 x)).setCell ⟨n5, 1, none⟩ (.int .i64 y)).setCell ⟨n5, 2, none⟩ (.slice a n c)) ∧ Aft w (((X.setCell ⟨n5, 0, none⟩ (.int .i64 x)).setCell ⟨n5, 1, none⟩ (.int .i64 y)).setCell ⟨n5, 2, none⟩ (.slice a n c))) := hid fun X x y a n c hX => by
    have p := put3 (HB.out X hX).2 x y (.slice a n c)
    exact ⟨p.1, p.2, (((hw0.trans hX).setCell (p := ⟨n5, 0, none⟩) hge5 _).setCell (p := ⟨n5, 1, none⟩) hge5 _).setCell (p := ⟨n5, 2, none⟩) hge5 _⟩
  obtain ⟨⟨x0, x1, x2⟩, -⟩ := HB.out W0 (Aft.refl _)
  go_wp2_with fail
  refine (rvalid_any W H _ L W0 HV.out hsc).mono ?_
  rintro e w1 ⟨rfl, hw1⟩
  clear x0 x1 x2
  by_cases hval : validZ W H L = 0
  case neg =>
    have HM := hid (show cutM W H L wd = ([], (0, 0, []), validZ W H L) by unfold cutM; rw [if_pos hval])
    obtain ⟨o, ho⟩ : ∃ o, validZ W H L = o := ⟨_, rfl⟩
    rw [ho] at hval HM ⊢
    clear ho
    have ho' : (o == 0) = false := by rw [beq_eq_false_iff_ne]; exact hval
    obtain ⟨-, y0, y1, y2⟩ := HB.out w1 hw1
    have z0 := (hw1.frozen (o := 0) hlt).trans FZ.out.1
    have z1 := (hw1.frozen (o := 1) hlt).trans FZ.out.2.1
    have z2 := (hw1.frozen (o := 2) hlt).trans FZ.out.2.2
    have HE := hid (HEND.out w1 0 0 none 0 0 hw1)
    go_wp2
    refine bodyPost_ret (results_cut rfl _ _ n5 0 0 _ _ _ rfl rfl rfl HE.out.1) rfl ?_
    rw [HM.out]
    exact ⟨_, _, w.heap.size, w.heap.size, rfl, Nat.le_refl _, Nat.le_refl _, SX.nil _ _ _, by simp, ⟨none, 0, 0, [], rfl, GX.nil _ _, by omega⟩, HE.out.2.2⟩
  have HVal := hid hval
  have HPT := hid (fun s hs => valid_pts hval hs : ∀ s ∈ L, 0 < s.2.length)
  have hL8 : L.length ≤ 8 := by
    have hval' := hval
    unfold validZ at hval'
    split at hval'
    · cases hval'
    · rename_i h
      unfold limitZ at h
      simp at h
      omega
  have hM : Hid (cutM W H L wd = if (rSplit (spL L) wd).2.2 ≠ 0 then ([], (0, 0, []), (rSplit (spL L) wd).2.2) else (shtsM H L (rSplit (spL L) wd).1 wd (rSplit (spL L) wd).1.length, (W, H, allL L), 0)) := hid (by unfold cutM; rw [if_neg (by simpa using hval)])
  rw [hval]
  clear hval
  obtain ⟨⟨x0, x1, x2⟩, -⟩ := HB.out w1 hw1
  go_upto_region 6 with fail
  obtain ⟨W2, eW2, hw2, hlt2, hb2⟩ := one_box w1 #[.int .i64 W, .int .i64 H, .slice none 0 0] 45
  have fz9 : F3 W2 w1.heap.size := eW2 ▸ ⟨frozen_new w1 _ _ 0, frozen_new w1 _ _ 1, frozen_new w1 _ _ 2⟩
  rw [eW2]
  clear eW2 x0 x1 x2
  have b9 : B3 W2 w1.heap.size W H (.slice none 0 0) := ⟨hb2.out W2 (Aft.refl _) 0 _ rfl, hb2.out W2 (Aft.refl _) 1 _ rfl, hb2.out W2 (Aft.refl _) 2 _ rfl⟩
  clear hb2
  obtain ⟨n9, hn9⟩ : ∃ n, w1.heap.size = n := ⟨_, rfl⟩
  have hw1s := hw1.size
  rw [hn9] at b9 fz9 hlt2 hw1s ⊢
  have h59 : n5 < n9 := by omega
  have hw02 := hw1.trans hw2
  have hG0 := hid (GX.nil (n9 + 1) W2)
  have hP0 : Hid (W2.ownsRow (n9 + 1) 41 2 (.slice none 0 0) 0 (prs ((spL L).take 0))) := hid (World.ownsRow_nil _ _ _ _)
  have B90 := hid b9
  have F90 := hid fz9
  clear b9 fz9 hn9
  go_wp2
  go_loopw [8, 10] (fun t i wr => ∃ r : Nat, r ≤ L.length ∧ i = .int .i64 r ∧ ∃ a8 c8 a' c' R, t = .slice a8 r c8 ∧ Hid (wr.ownsRow (n9 + 1) 41 2 (.slice a8 r c8) r (prs ((spL L).take r))) ∧ Hid (B3 wr n9 W H (.slice a' r c')) ∧ Hid (F3 wr n9) ∧ Hid (GX (n9 + 1) wr a' r c' R ((allL L).take r)) ∧ Aft W0 wr) (fun _ i _ => L.length - (intOf i).toNat)
  case atStart => exact ⟨0, by omega, rfl, none, 0, none, 0, [], rfl, hP0, B90, F90, hG0, hw02⟩
  case round =>
    clear B90 F90 hP0 hG0
    obtain ⟨r, hr, rfl, a8, c8, a', c', R, rfl, HP, HB9, HF9, HG, hwr⟩ := hrel
    rcases Nat.lt_or_ge r L.length with hltr | hger
    · have hri : (r : Int) < L.length := by omega
      obtain ⟨⟨x0, x1, x2⟩, -⟩ := HB.out wr hwr
      obtain ⟨a1, c1, R1, e1, hat⟩ := (HV.out.aft hwr)
      simp only [Value.slice.injEq, true_and] at e1
      obtain ⟨rfl, rfl⟩ := e1
      obtain ⟨bb, off, ka, pa, aa, ca, rfl, s0, s1, hbb, hxa, hpa⟩ := hat.get hltr
      have hpos := HPT.out _ (List.mem_of_getElem? hxa.out)
      have hlen := (hsc _ (List.mem_of_getElem? hxa.out)).1
      have HSC := hid (hsc _ (List.mem_of_getElem? hxa.out)).2
      simp only at hpos hlen
      have HPa := hid hpa
      have hsp : Hid ((spL L).take (r + 1) = (spL L).take r ++ [((loF pa pa.length).1, (hiF pa pa.length).1)]) := hid (take_snoc (spL_get hxa.out))
      have hal : Hid ((allL L).take (r + 1) = (allL L).take r ++ [boxS pa]) := hid (take_snoc (by unfold allL; rw [List.getElem?_map, hxa.out]; rfl))
      have hxa' := hxa
      clear hat hpa hxa
      go_wp2_with fail
      refine (span_any ka _ pa wr ⟨_, _, rfl, HPa.out⟩ hpos).mono ?_
      rintro e w3 ⟨rfl, hw3⟩
      clear x0 x1 x2 s0 s1
      obtain ⟨lx, hlx⟩ : ∃ q, (loF pa pa.length).1 = q := ⟨_, rfl⟩
      obtain ⟨hx, hhx⟩ : ∃ q, (hiF pa pa.length).1 = q := ⟨_, rfl⟩
      rw [hlx, hhx] at hsp ⊢
      clear hlx hhx
      have hwr3 := hwr.trans hw3
      have HP3 := ownsRow_aft HP.out hw3
      have hz0 := HB9.out.1
      have hz3 := hw3.size
      have hn9r : n9 < wr.heap.size := World.block_lt_of_cell? _ _ hz0
      clear hz0
      go_upto_region 10 with (at_builtin; refine wpList_app _ rfl (.tmp 36) (.tmp 43) 23 rfl (n9 + 1) 41 (.agg #[.int .i64 0, .int .i64 0]) 2 16 Try.underlying23 Try.info41 rfl (by decide) _ r _ rfl (HP3.alloc _) (some ⟨w3.heap.size, 0, none⟩) 1 1 (prs [(lx, hx)]) rfl (fun h => by cases h) rfl Rd.new (prs_one _) (by unfold maxLen; omega) (by omega) (by simp; omega) ?_; intro v4 w4 hown4 hgrow4 hloc4; obtain ⟨g8, d8, rfl⟩ := ownsRow_some' hown4 (by omega))
      have hal4 := (Aft.refl w3).alloc (.cells #[.int .i64 lx, .int .i64 hx] 41)
      have hrow4 : ∀ j, (Value.slice a8 r c8).ownBlock = some j → n9 < j := fun j hj => by have := (HP3.lt j hj).1; omega
      have hA4 : Aft W0 w4 := (hwr3.alloc (.cells #[.int .i64 lx, .int .i64 hx] 41)).grown hgrow4 (fun j hj => by have := hrow4 j hj; omega)
      have hk4 := Kx.trans (aft_kx (hw3.trans hal4)) (grown_kx hgrow4 n9 hrow4)
      have HB94 := hid (HB9.out.kx hk4 (by omega))
      have HF94 := hid (F3.kx HF9.out hk4 hn9r (by omega))
      have HG4 := hid ((HG.out.aft (hw3.trans hal4)).grown (by decide) (by decide) (HP3.alloc (.cells #[.int .i64 lx, .int .i64 hx] 41)) hgrow4)
      have HP4 : Hid (w4.ownsRow (n9 + 1) 41 2 (.slice (some ⟨g8, 0, none⟩) (r + 1) d8) (r + 1) (prs ((spL L).take (r + 1)))) := hid (by rw [hsp.out, prs_append]; exact hown4)
      have hn94 : n9 < w4.heap.size := World.block_lt_of_cell? _ _ HB94.out.1
      clear HP HB9 HF9 HG HP3 hown4 hal4 hrow4 hk4 hgrow4 hloc4 hw3 hwr3 hz3 hn9r hsp
      obtain ⟨⟨x0, x1, x2⟩, -⟩ := HB.out w4 hA4
      obtain ⟨u0, u1, u2⟩ := HB94.out
      obtain ⟨a1, c1, R1, e1, hat⟩ := (HV.out.aft hA4)
      simp only [Value.slice.injEq, true_and] at e1
      obtain ⟨rfl, rfl⟩ := e1
      obtain ⟨b2, off2, kb, pb, ab, cb, e2, s0, s1, hbb, hxb, hpb⟩ := hat.get hltr
      simp only [Option.some.injEq, Addr.mk.injEq, and_true] at e2
      obtain ⟨rfl, rfl⟩ := e2
      have exy := hxa'.out.symm.trans hxb.out
      simp only [Option.some.injEq, Prod.mk.injEq] at exy
      obtain ⟨rfl, rfl⟩ := exy
      have HPb := hid hpb
      obtain ⟨hbs, hb4⟩ := box_sc HSC.out
      have HBS := hid hbs
      clear hat hpb hxb hxa' HPa hbs
      refine wp_region_flow _ (Aft.refl _) [FV.is (.pointer (some ⟨n9, 2, none⟩)), FV.is (.slice a' r c'), FV.is (.pointer (some ⟨n2, 2, none⟩)), FV.is (.slice (some ⟨bb, off, none⟩) L.length cv), FV.is (.int .i64 r), FV.is (.pointer (some ⟨bb, off + r * 2, none⟩)), FV.is (.agg #[.int .i64 ka, .slice ab pa.length cb]), fvShape (n9 + 1) (boxS pa).1 (boxS pa).2, fvShape1 (n9 + 1) (boxS pa).1 (boxS pa).2]
        [(0, 45), (1, 46), (2, 47), (3, 48), (4, 49), (5, 50), (6, 51), (7, 52), (8, 53)]
        [[], [(0, 45)], [], [(2, 47)], [], [(3, 48), (4, 49)], [(5, 50)], [(6, 51)], [(7, 52)]] (by kernel_rfl) (by kernel_rfl) ?_ ?_
      · refine flowObs_cons (fun W hW => flowOb_nil ?_) ?_
        · go_wp2
          exact ⟨rfl, Aft.refl W⟩
        refine flowObs_cons (fun W hW => flowOb_cons fun v0 h0 => flowOb_nil ?_) ?_
        · obtain rfl := h0
          have x2W := (hW.cell (World.block_lt_of_cell? _ _ x2)).trans x2
          have u2W := (hW.cell (World.block_lt_of_cell? _ _ u2)).trans u2
          have s0W := (hW.cell (World.block_lt_of_cell? _ _ s0)).trans s0
          have s1W := (hW.cell (World.block_lt_of_cell? _ _ s1)).trans s1
          go_wp2
          exact ⟨rfl, Aft.refl W⟩
        refine flowObs_cons (fun W hW => flowOb_nil ?_) ?_
        · go_wp2
          exact ⟨rfl, Aft.refl W⟩
        refine flowObs_cons (fun W hW => flowOb_cons fun v0 h0 => flowOb_nil ?_) ?_
        · obtain rfl := h0
          have x2W := (hW.cell (World.block_lt_of_cell? _ _ x2)).trans x2
          have u2W := (hW.cell (World.block_lt_of_cell? _ _ u2)).trans u2
          have s0W := (hW.cell (World.block_lt_of_cell? _ _ s0)).trans s0
          have s1W := (hW.cell (World.block_lt_of_cell? _ _ s1)).trans s1
          go_wp2
          exact ⟨rfl, Aft.refl W⟩
        refine flowObs_cons (fun W hW => flowOb_nil ?_) ?_
        · go_wp2
          exact ⟨rfl, Aft.refl W⟩
        refine flowObs_cons (fun W hW => flowOb_cons fun v0 h0 => flowOb_cons fun v1 h1 => flowOb_nil ?_) ?_
        · obtain rfl := h0
          obtain rfl := h1
          go_wp2
          exact ⟨rfl, Aft.refl W⟩
        refine flowObs_cons (fun W hW => flowOb_cons fun v0 h0 => flowOb_nil ?_) ?_
        · obtain rfl := h0
          have x2W := (hW.cell (World.block_lt_of_cell? _ _ x2)).trans x2
          have u2W := (hW.cell (World.block_lt_of_cell? _ _ u2)).trans u2
          have s0W := (hW.cell (World.block_lt_of_cell? _ _ s0)).trans s0
          have s1W := (hW.cell (World.block_lt_of_cell? _ _ s1)).trans s1
          go_wp2
          exact ⟨rfl, Aft.refl W⟩
        refine flowObs_cons (fun W hW => flowOb_cons fun v0 h0 => flowOb_nil ?_) ?_
        · obtain rfl := h0
          have hsW := hW.size
          go_wp2_with fail
          refine (rboxs_any ka _ pa W ⟨_, _, rfl, HPb.out.aft hW⟩ hpos).mono ?_
          rintro e W' ⟨vx, rfl, hox, hw'⟩
          have hoy := hox
          obtain ⟨ax, cx, rfl, -⟩ := ownsRow_at hox
          go_wp2
          exact ⟨ax, cx, rfl, ownsRow_mono hoy (by omega)⟩
        refine flowObs_cons (fun W hW => flowOb_cons fun v0 h0 => flowOb_nil ?_) flowObs_nil
        · obtain ⟨ax, cx, rfl, hox⟩ := h0
          go_wp2
          exact ⟨⟨_, ax, cx, rfl, Rd.new, ownsRow_aft hox ((Aft.refl W).alloc _)⟩, (Aft.refl W).alloc _⟩
      intro U hU
      refine flowEnd_cons fun _ _ => ?_
      refine flowEnd_cons fun v0 h0 => ?_
      obtain rfl := h0
      iterate 6 refine flowEnd_cons fun _ _ => ?_
      refine flowEnd_cons fun v1 h1 => flowEnd_nil ?_
      obtain ⟨gn, ax, cx, rfl, hrd, hox⟩ := h1
      have HGU := hid (HG4.out.aft hU)
      have hgo := HGU.out.own
      have HOX := hid hox
      have hsU := hU.size
      clear hox
      simp only [Act.put, List.setIfInBounds_toArray, List.set_cons_succ, List.set_cons_zero]
      refine wpList_app _ rfl (.tmp 46) (.tmp 53) 43 rfl (n9 + 1) 51 (.agg #[.int .i64 0, .slice none 0 0]) 2 32 Try.underlying43 Try.info51 rfl (by decide) _ r _ rfl hgo (some ⟨gn, 0, none⟩) 1 1 [.int .i64 (boxS pa).1, .slice ax (boxS pa).2.length cx] rfl (fun h => by cases h) rfl hrd (by intro u hu; simp at hu; rcases hu with rfl | rfl <;> rfl) (by unfold maxLen; omega) (by omega) (by omega) ?_
      intro v5 w5 hown5 hgrow5 _
      rw [show shCells R ++ [.int .i64 (boxS pa).1, .slice ax (boxS pa).2.length cx] = shCells (R ++ [((boxS pa).1, .slice ax (boxS pa).2.length cx)]) by rw [shCells_append]; rfl] at hown5
      obtain ⟨g5, d5, rfl⟩ := ownsRow_some' hown5 (by omega)
      have hrow5 : ∀ j, (Value.slice a' r c').ownBlock = some j → n9 < j := fun j hj => by have := (hgo.lt j hj).1; omega
      have hk5 := Kx.trans (aft_kx hU) (grown_kx hgrow5 n9 hrow5)
      have HG5 : Hid (GX (n9 + 1) w5 (some ⟨g5, 0, none⟩) (r + 1) d5 (R ++ [((boxS pa).1, .slice ax (boxS pa).2.length cx)]) ((allL L).take (r + 1))) := hid (by
        rw [hal.out]
        have hh : (boxS pa).2.length ≤ 1000 := by omega
        exact GX.snoc (k := (boxS pa).1) (ps := (boxS pa).2) HGU.out HOX.out (okP_of_sc HBS.out) hh hgrow5 hown5)
      have HP5 := hid (Sep.kept (sep_any (by decide) HGU.out.own (ownsRow_aft HP4.out hU)).symm (ownsRow_aft HP4.out hU) hgrow5)
      have HB95 := hid (HB94.out.kx hk5 (by omega))
      have HF95 := hid (F3.kx HF94.out hk5 hn94 (by omega))
      have hA5 : Aft W0 w5 := (hA4.trans hU).grown hgrow5 (fun j hj => by have := hrow5 j hj; omega)
      have PB := put12 HB95.out (.slice (some ⟨g5, 0, none⟩) (r + 1) d5)
      have HPB := hid PB.1
      have HFB := hid (F3.set (c := ⟨n9, 2, none⟩) (u := .slice (some ⟨g5, 0, none⟩) (r + 1) d5) HF95.out)
      have HGB := hid (HG5.out.kx PB.2 (fun j h => by subst h; omega))
      have HP6 := hid (ownsRow_kx HP5.out PB.2 (fun j h => by subst h; omega))
      have hA6 := hA5.setCell (p := ⟨n9, 2, none⟩) (by show W0.heap.size ≤ n9; omega) (.slice (some ⟨g5, 0, none⟩) (r + 1) d5)
      obtain ⟨w0', w1', w2'⟩ := HB95.out
      obtain ⟨z0, z1, z2⟩ := HF95.out
      clear PB x0 x1 x2 u0 u1 u2 s0 s1 hgo hown5
      go_wp2
      go_roundw
      case rel => exact ⟨r + 1, by omega, by go_num, _, _, _, _, _, rfl, HP6, HPB, HFB, HGB, hA6⟩
      case measure => simp only [intOf]; omega
    · obtain rfl : r = L.length := by omega
      have hP := HP.out
      rw [List.take_of_length_le (by rw [spL_length]; exact Nat.le_refl _)] at hP
      have hG := HG.out
      rw [List.take_of_length_le (by rw [allL_length]; exact Nat.le_refl _)] at hG
      have hPr : Prs wr (.slice a8 L.length c8) (spL L) := ownsRow_prs (by rw [spL_length]; exact hP) (spL_ok hsc) (by rw [spL_length]; omega)
      have HPr := hid hPr
      have HGA := hid hG
      clear hP hG HP HG hPr hger
      obtain ⟨⟨x0, x1, x2⟩, -⟩ := HB.out wr hwr
      go_wp2_with fail
      refine (rsplit_any _ (spL L) wd wr HPr.out).mono ?_
      rintro e w3 ⟨vat, vpin, rfl, hIa, -, hw3⟩
      have hcode := cSplit_code (spL L) wd
      have hA3 := hwr.trans hw3
      have hn9r : n9 < wr.heap.size := World.block_lt_of_cell? _ _ HB9.out.1
      have hk3 : Kx (fun _ => False) wr w3 := aft_kx hw3
      have HB93 := hid (HB9.out.kx hk3 (fun h => h))
      have HF93 := hid (F3.kx HF9.out hk3 hn9r (fun h => h))
      have HGA3 := hid (HGA.out.aft hw3)
      have HPr3 := hid (HPr.out.aft hw3)
      clear HB9 HF9 HGA HPr hk3 hn9r x0 x1 x2
      obtain ⟨o, ho⟩ : ∃ o, (rSplit (spL L) wd).2.2 = o := ⟨_, rfl⟩
      have HO := hid ho
      rw [ho] at hM ⊢
      by_cases hf : o = 0
      case neg =>
        have ho' : (o == 0) = false := by rw [beq_eq_false_iff_ne]; exact hf
        have HM := hid (hM.out.trans (if_pos hf))
        obtain ⟨-, y0, y1, y2⟩ := HB.out w3 hA3
        have z0 := (hA3.frozen (o := 0) hlt).trans FZ.out.1
        have z1 := (hA3.frozen (o := 1) hlt).trans FZ.out.2.1
        have z2 := (hA3.frozen (o := 2) hlt).trans FZ.out.2.2
        have HE := hid (HEND.out w3 0 0 none 0 0 hA3)
        clear ho
        go_wp2
        refine bodyPost_ret (results_cut rfl _ _ n5 0 0 _ _ _ rfl rfl rfl HE.out.1) rfl ?_
        rw [HM.out]
        exact ⟨_, _, w.heap.size, w.heap.size, rfl, Nat.le_refl _, Nat.le_refl _, SX.nil _ _ _, by simp, ⟨none, 0, 0, [], rfl, GX.nil _ _, by omega⟩, HE.out.2.2⟩
      subst hf
      have hfit : fitsE (spL L) wd = 0 := by rw [← hcode, ho]
      have HM := hid (hM.out.trans (if_neg (by simp)))
      have HAT := hid (fun k x hx => split_at hfit hx : ∀ (k : Nat) (x : Int), (rSplit (spL L) wd).1[k]? = some x → 0 ≤ x ∧ x ≤ 1000)
      obtain ⟨hf1, hf2, hf3, -, -⟩ := fits_ok hfit
      have hlat := (cSplit_lens (spL L) wd).2
      rw [spL_length] at hlat
      obtain ⟨at_, hat_⟩ : ∃ l, (rSplit (spL L) wd).1 = l := ⟨_, rfl⟩
      rw [hat_] at hIa HM HAT hlat
      clear ho HO hcode hM hfit hat_ hf1
      obtain ⟨aA, cA, rfl, hIA⟩ := hIa
      have HIA := hid hIA
      have HA3 := hid hA3
      have H0 := hid (SX.nil 93 w3.heap.size w3)
      obtain ⟨m3, hm3⟩ : ∃ n, w3.heap.size = n := ⟨_, rfl⟩
      have hm3' := hid hm3
      rw [hm3] at H0
      clear hm3 hA3 hwr hw3
      go_wp2
      go_loopw [14, 15] (fun t i wr => ∃ k : Nat, k ≤ at_.length ∧ i = .int .i64 k ∧ ∃ a14 c14, t = .slice a14 k c14 ∧ Hid (SX 93 m3 wr (.slice a14 k c14) (shtsM H L at_ wd k)) ∧ Aft w3 wr) (fun _ i _ => at_.length - (intOf i).toNat)
      case atStart => exact ⟨0, by omega, rfl, none, 0, rfl, H0, Aft.refl _⟩
      case round =>
        clear H0
        obtain ⟨k, hk, rfl, a14, c14, rfl, HS, hwr⟩ := hrel
        obtain ⟨wo, hwo⟩ : ∃ x, x = wr := ⟨wr, rfl⟩
        subst hwo
        rcases Nat.lt_or_ge k at_.length with hltk | hgek
        · have hki : (k : Int) < at_.length := by omega
          obtain ⟨bA, oA, x, rfl, ca, hbA, hx, hx1, hx2⟩ := (HIA.out.aft hwr).rd.int HIA.out.ok hltk
          have hx01 := HAT.out k x hx.out
          obtain ⟨⟨x0, x1, x2⟩, -⟩ := HB.out wo (HA3.out.trans hwr)
          obtain ⟨no, hno⟩ : ∃ n, wo.heap.size = n := ⟨_, rfl⟩
          have hnn : m3 ≤ no := by have := hwr.size; have := hm3'.out; omega
          go_upto_region 18 with fail
          refine wp_region_flow _ (Aft.refl _) [FV.is (.slice (some ⟨bA, oA, none⟩) at_.length cA), FV.is (.int .i64 k), FV.is (.pointer (some ⟨bA, oA + k, none⟩)), FV.is (.int .i64 x), FV.is (.int .i64 wd), FV.is (.pointer (some ⟨n2, 1, none⟩)), FV.is (.int .i64 H), FV.is (.agg #[.int .i64 wd, .int .i64 H, .slice none 0 0]), FV.is (.agg #[.int .i64 x, .int .i64 wd, .int .i64 H, .slice none 0 0, .slice none 0 0]), fvNew5 no]
            [(0, 73), (1, 74), (2, 75), (3, 76), (4, 77), (5, 78), (6, 79), (7, 80), (8, 81), (9, 16)]
            [[], [], [(0, 73), (1, 74)], [(2, 75)], [], [], [(5, 78)], [(4, 77), (6, 79)], [(3, 76), (7, 80)], []] (by kernel_rfl) (by kernel_rfl) ?_ ?_
          · refine flowObs_cons (fun W hW => flowOb_nil ?_) ?_
            · go_wp2
              exact ⟨rfl, Aft.refl W⟩
            refine flowObs_cons (fun W hW => flowOb_nil ?_) ?_
            · go_wp2
              exact ⟨rfl, Aft.refl W⟩
            refine flowObs_cons (fun W hW => flowOb_cons fun v0 h0 => flowOb_cons fun v1 h1 => flowOb_nil ?_) ?_
            · obtain rfl := h0
              obtain rfl := h1
              go_wp2
              exact ⟨rfl, Aft.refl W⟩
            refine flowObs_cons (fun W hW => flowOb_cons fun v0 h0 => flowOb_nil ?_) ?_
            · obtain rfl := h0
              have caW := (hW.cell (World.block_lt_of_cell? _ _ ca)).trans ca
              have x1W := (hW.cell (World.block_lt_of_cell? _ _ x1)).trans x1
              go_wp2
              exact ⟨rfl, Aft.refl W⟩
            refine flowObs_cons (fun W hW => flowOb_nil ?_) ?_
            · go_wp2
              exact ⟨rfl, Aft.refl W⟩
            refine flowObs_cons (fun W hW => flowOb_nil ?_) ?_
            · go_wp2
              exact ⟨rfl, Aft.refl W⟩
            refine flowObs_cons (fun W hW => flowOb_cons fun v0 h0 => flowOb_nil ?_) ?_
            · obtain rfl := h0
              have caW := (hW.cell (World.block_lt_of_cell? _ _ ca)).trans ca
              have x1W := (hW.cell (World.block_lt_of_cell? _ _ x1)).trans x1
              go_wp2
              exact ⟨rfl, Aft.refl W⟩
            refine flowObs_cons (fun W hW => flowOb_cons fun v0 h0 => flowOb_cons fun v1 h1 => flowOb_nil ?_) ?_
            · obtain rfl := h0
              obtain rfl := h1
              go_wp2
              exact ⟨rfl, Aft.refl W⟩
            refine flowObs_cons (fun W hW => flowOb_cons fun v0 h0 => flowOb_cons fun v1 h1 => flowOb_nil ?_) ?_
            · obtain rfl := h0
              obtain rfl := h1
              go_wp2
              exact ⟨rfl, Aft.refl W⟩
            refine flowObs_cons (fun W hW => flowOb_nil ?_) flowObs_nil
            · have hs := hW.size
              go_wp2
              exact ⟨⟨_, rfl, by omega, (new5 W 93).1, (new5 W 93).2⟩, (Aft.refl W).alloc _⟩
          intro W hW
          iterate 8 refine flowEnd_cons fun _ _ => ?_
          refine flowEnd_cons fun v1 h1 => ?_
          refine flowEnd_cons fun v2 h2 => flowEnd_nil ?_
          obtain rfl := h1
          obtain ⟨g, rfl, hgn, hg5, hgf⟩ := h2
          have hput := put5 hg5 x wd H (.slice none 0 0) (.slice none 0 0)
          obtain ⟨g0, g1, g2, g3, g4⟩ := hg5
          obtain ⟨z0, z1, z2, z3, z4⟩ := hgf
          have hgW : g < W.heap.size := World.block_lt_of_cell? _ _ g0
          go_upto_region 19 with fail
          obtain ⟨Y, eY, hB, hk5, hFz⟩ : ∃ Y, ((((W.setCell ⟨g, 0, none⟩ (.int .i64 x)).setCell ⟨g, 1, none⟩ (.int .i64 wd)).setCell ⟨g, 2, none⟩ (.int .i64 H)).setCell ⟨g, 3, none⟩ (.slice none 0 0)).setCell ⟨g, 4, none⟩ (.slice none 0 0) = Y ∧ B5 Y g x wd H (.slice none 0 0) (.slice none 0 0) ∧ Kx (fun j => j = g) W Y ∧ F5 Y g :=
            ⟨_, rfl, hput.1, hput.2, F5.set (F5.set (F5.set (F5.set (F5.set ⟨z0, z1, z2, z3, z4⟩))))⟩
          rw [eY]
          have hAY : Aft wo Y := kx_aft hW (fun j hj => by subst hj; rw [hno]; exact hgn) hk5
          have HB50 := hid hB
          have HF50 := hid hFz
          have HG50 := hid (GX.nil (g + 1) Y)
          have HO50 : Hid (Y.ownsRow (g + 1) 3 1 (.slice none 0 0) 0 (i64s [])) := hid (World.ownsRow_nil _ _ _ _)
          have HN0 : Hid (0 = (ofS L at_ wd k 0).length) := hid rfl
          have HBD := hid (fun y hy => by
            obtain ⟨i, hi⟩ := List.getElem?_of_mem (List.mem_of_mem_take hy)
            have := HAT.out i y hi
            omega : ∀ y ∈ at_.take k, -9223372036854775808 ≤ y + wd ∧ y + wd ≤ 9223372036854775807)
          have HCA := hid ca
          clear ca eY hput hB hk5 hFz z0 z1 z2 z3 z4 g0 g1 g2 g3 g4 x0 x1 x2 hgW hW
          go_wp2
          go_loopw [17] (fun i wr => ∃ m : Nat, m ≤ L.length ∧ i = .int .i64 m ∧ ∃ a3 n c3 ao co R, Hid (n = (ofS L at_ wd k m).length) ∧ Hid (B5 wr g x wd H (.slice a3 n c3) (.slice ao n co)) ∧ Hid (F5 wr g) ∧ Hid (GX (g + 1) wr a3 n c3 R ((ofS L at_ wd k m).map fun i => mvS x (L.getD i (0, [])))) ∧
            Hid (wr.ownsRow (g + 1) 3 1 (.slice ao n co) n (i64s ((ofS L at_ wd k m).map fun i : Nat => (i : Int)))) ∧ Aft wo wr) (fun i _ => L.length - (intOf i).toNat)
          case atStart => exact ⟨0, by omega, rfl, none, 0, 0, none, 0, [], HN0, HB50, HF50, HG50, HO50, hAY⟩
          case round =>
            clear HB50 HF50 HG50 HO50 HN0 hAY
            obtain ⟨m, hm, rfl, a3, n, c3, ao, co, R, HN, HBm, HFm, HGm, HOm, hwm⟩ := hrel
            obtain ⟨wm, hwm'⟩ : ∃ x, x = wr := ⟨wr, rfl⟩
            subst hwm'
            have hgm : g < wm.heap.size := HBm.out.lt
            have hnm : n ≤ m := by rw [HN.out]; exact ofS_le _ _ _ _ _
            rcases Nat.lt_or_ge m L.length with hltm | hgem
            · have hmi : (m : Int) < L.length := by omega
              obtain ⟨ap8, cp8, e8, hlm⟩ := HPr3.out.aft (hwr.trans hwm)
              simp only [Value.slice.injEq] at e8
              obtain ⟨rfl, -, rfl⟩ := e8
              obtain ⟨b8, o8, p, q, rfl, c1, c2, hb8, hpq, hpb⟩ := hlm.rd.pair hlm.ok (i := m) (by rw [spL_length]; exact hltm)
              have cam := (hwm.cell hbA).trans HCA.out
              have hkc : k ≤ cA := by have := HIA.out.cap; omega
              have hbAm := Nat.lt_of_lt_of_le hbA hwm.size
              have HON := hid (onS_eq (k := k) (wd := wd) hpq.out hx.out)
              have hIat := hid (Ints.pre (HIA.out.aft (hwr.trans hwm)) k (by omega))
              clear hlm
              cases hin : inB (p, q) x wd
              · have HOF := hid (ofS_no (L := L) (at_ := at_) (wd := wd) (k := k) (m := m) (by rw [HON.out, hin]; rfl))
                have hcv : True := trivial
                go_upto_region 22 with fail
                refine wp_region_lat wm (Aft.refl _) (by kernel_rfl) (by kernel_rfl) ?_
                repeat (go_big_quiet_step ((go_at_call 71; exact Calls.lat (hin ▸ in_any (p, q) x wd _ (by omega) (by omega)))))
                refine wpQuiet_nil ?_
                intro wz hw'
                have hz : Aft wm wz := by obtain ⟨y, rfl⟩ := hw'; exact y.aft
                clear hw'
                go_wp2
                go_roundw
                case rel => exact ⟨m + 1, by omega, by go_num, a3, n, c3, ao, co, R, hid (by rw [HOF.out]; exact HN.out), hid (HBm.out.kx (X := fun _ => False) (aft_kx hz) (fun h => h)), hid (F5.kx (X := fun _ => False) HFm.out (aft_kx hz) hgm (fun h => h)), hid (by rw [HOF.out]; exact HGm.out.aft hz), hid (by rw [HOF.out]; exact ownsRow_aft HOm.out hz), hwm.trans hz⟩
                case measure => simp only [intOf]; omega
              cases hcv : covB (p, q) (at_.take k) wd
              case true =>
                have HOF := hid (ofS_no (L := L) (at_ := at_) (wd := wd) (k := k) (m := m) (by rw [HON.out, hin, hcv]; rfl))
                go_upto_region 22 with fail
                refine wp_region_lat wm (Aft.refl _) (by kernel_rfl) (by kernel_rfl) ?_
                repeat (go_big_quiet_step (first | (go_at_call 71; exact Calls.lat (hin ▸ in_any (p, q) x wd _ (by omega) (by omega))) | (go_at_call 67; exact Calls.lat (hcv ▸ cov_any (p, q) _ (at_.take k) wd _ (hIat.out.aft (Lat.aft _)) HBD.out))))
                refine wpQuiet_nil ?_
                intro wz hw'
                have hz : Aft wm wz := by obtain ⟨y, rfl⟩ := hw'; exact y.aft
                clear hw'
                go_wp2
                go_roundw
                case rel => exact ⟨m + 1, by omega, by go_num, a3, n, c3, ao, co, R, hid (by rw [HOF.out]; exact HN.out), hid (HBm.out.kx (X := fun _ => False) (aft_kx hz) (fun h => h)), hid (F5.kx (X := fun _ => False) HFm.out (aft_kx hz) hgm (fun h => h)), hid (by rw [HOF.out]; exact HGm.out.aft hz), hid (by rw [HOF.out]; exact ownsRow_aft HOm.out hz), hwm.trans hz⟩
                case measure => simp only [intOf]; omega
              · have HOF := hid (ofS_yes (L := L) (at_ := at_) (wd := wd) (k := k) (m := m) (by rw [HON.out, hin, hcv]; rfl))
                go_upto_region 22 with fail
                refine wp_region_lat wm (Aft.refl _) (by kernel_rfl) (by kernel_rfl) ?_
                repeat (go_big_quiet_step (first | (go_at_call 71; exact Calls.lat (hin ▸ in_any (p, q) x wd _ (by omega) (by omega))) | (go_at_call 67; exact Calls.lat (hcv ▸ cov_any (p, q) _ (at_.take k) wd _ (hIat.out.aft (Lat.aft _)) HBD.out))))
                refine wpQuiet_nil ?_
                intro wz hw'
                have hz : Aft wm wz := by obtain ⟨y, rfl⟩ := hw'; exact y.aft
                clear hw'
                clear cam c1 c2 hpq HON hIat hb8 hpb
                have hAwz := (hwr.trans hwm).trans hz
                have HBz := hid (HBm.out.kx (X := fun _ => False) (aft_kx hz) (fun h => h))
                have HFz := hid (F5.kx (X := fun _ => False) HFm.out (aft_kx hz) hgm (fun h => h))
                have HGz := hid (HGm.out.aft hz)
                have HOz := hid (ownsRow_aft HOm.out hz)
                have hgz : g < wz.heap.size := HBz.out.lt
                have hwoz := hwm.trans hz
                have hnos : wo.heap.size ≤ g := by rw [hno]; exact hgn
                clear HBm HFm HGm HOm hgm hwm hz
                have hbz : g + 1 ≤ (wz.alloc (.cells #[.int .i64 m] 3)).heap.size := by have := ((Aft.refl wz).alloc (.cells #[.int .i64 (m : Int)] 3)).size; omega
                obtain ⟨y0, y1, y2, y3, y4⟩ := HBz.out
                go_upto_region 24 with (at_builtin; refine wpList_app _ rfl (.tmp 111) (.tmp 113) 22 rfl (g + 1) 3 (.int .i64 0) 1 8 Try.underlying22 Try.info3 rfl (by decide) _ n _ rfl (HOz.out.alloc (.cells #[.int .i64 m] 3)) (some ⟨wz.heap.size, 0, none⟩) 1 1 (i64s [(m : Int)]) rfl (fun h => by cases h) rfl Rd.new (i64s_one _) (by unfold maxLen; omega) (by omega) hbz ?_; intro v4 w4 hown4 hgrow4 hloc4; obtain ⟨g8, d8, rfl⟩ := ownsRow_some' hown4 (by omega); have hal4 := (Aft.refl wz).alloc (.cells #[.int .i64 m] 3); have hrow4 : ∀ j, (Value.slice ao n co).ownBlock = some j → g < j := (fun j hj => by have := (HOz.out.lt j hj).1; omega); have hk4 := Kx.trans (aft_kx hal4) (grown_kx hgrow4 g hrow4); have HB4 := hid (HBz.out.kx hk4 (by omega)); have HF4 := hid (F5.kx HFz.out hk4 hgz (by omega)); obtain ⟨r0, r1, r2, r3, r4⟩ := HB4.out; obtain ⟨s0, s1, s2, s3, s4⟩ := HF4.out)
                have hA4 : Aft wo w4 := (hwoz.alloc (.cells #[.int .i64 m] 3)).grown hgrow4 (fun j hj => by have := hrow4 j hj; omega)
                have HG4 := hid ((HGz.out.aft hal4).grown (by decide) (by decide) (HOz.out.alloc (.cells #[.int .i64 m] 3)) hgrow4)
                have hput := put54 HB4.out (.slice (some ⟨g8, 0, none⟩) (n + 1) d8)
                obtain ⟨w5, e5, hb5, hk5, hf5⟩ : ∃ w5, w4.setCell ⟨g, 4, none⟩ (.slice (some ⟨g8, 0, none⟩) (n + 1) d8) = w5 ∧ B5 w5 g x wd H (.slice a3 n c3) (.slice (some ⟨g8, 0, none⟩) (n + 1) d8) ∧ Kx (fun j => j = g) w4 w5 ∧ F5 w5 g := ⟨_, rfl, hput.1, hput.2, F5.set HF4.out⟩
                rw [e5]
                have hA5 : Aft wo w5 := kx_aft hA4 (fun j hj => by subst hj; exact hnos) hk5
                have HB5 := hid hb5
                have HF5 := hid hf5
                have HG5 := hid (HG4.out.kx hk5 (fun j h => by subst h; omega))
                have HO5 : Hid (w5.ownsRow (g + 1) 3 1 (.slice (some ⟨g8, 0, none⟩) (n + 1) d8) (n + 1) (i64s ((ofS L at_ wd k (m + 1)).map fun i : Nat => (i : Int)))) := hid (by
                  rw [HOF.out, List.map_append, i64s_append]
                  exact ownsRow_kx hown4 hk5 (fun j h => by subst h; omega))
                clear y0 y1 y2 y3 y4 r0 r1 r2 r3 r4 s0 s1 s2 s3 s4 hput e5 hb5 hf5 hk5 hA4 hk4 hal4 hrow4 hown4 hgrow4 hloc4 HBz HFz HGz HOz HB4 HF4 HG4 hwoz hgz
                have hA05 := HA3.out.trans (hwr.trans hA5)
                have hg5 : g < w5.heap.size := HB5.out.lt
                obtain ⟨⟨x0, x1, x2⟩, -⟩ := HB.out w5 hA05
                obtain ⟨r0, r1, r2, r3, r4⟩ := HB5.out
                obtain ⟨a1, cc1, R1, e1, hat⟩ := (HV.out.aft hA05)
                simp only [Value.slice.injEq, true_and] at e1
                obtain ⟨rfl, rfl⟩ := e1
                obtain ⟨bb, off, ka, pa, ab, cb, rfl, s0, s1, hbb, hxa, hpa⟩ := hat.get hltm
                have cak := (hA5.cell hbA).trans HCA.out
                have HXA := hid hxa.out
                have HSC := hid (hsc _ (List.mem_of_getElem? hxa.out))
                have HPb := hid hpa
                have HMV : Hid ((ofS L at_ wd k (m + 1)).map (fun i => mvS x (L.getD i (0, []))) = (ofS L at_ wd k m).map (fun i => mvS x (L.getD i (0, []))) ++ [(ka, mvL (-x) pa)]) := hid (by
                  rw [HOF.out, List.map_append]
                  simp only [List.map_cons, List.map_nil, mvS]
                  rw [List.getD_eq_getElem?_getD, HXA.out]
                  rfl)
                have hple : pa.length ≤ 1000 := HSC.out.1
                clear hat hpa hxa hA05
                refine wp_region_flow _ (Aft.refl _) [FV.is (.pointer (some ⟨g, 1, none⟩)), FV.is (.pointer (some ⟨g, 3, none⟩)), FV.is (.slice a3 n c3), FV.is (.pointer (some ⟨n2, 2, none⟩)), FV.is (.slice (some ⟨bb, off, none⟩) L.length cv), FV.is (.int .i64 m), FV.is (.pointer (some ⟨bb, off + m * 2, none⟩)), FV.is (.agg #[.int .i64 ka, .slice ab pa.length cb]), FV.is (.slice (some ⟨bA, oA, none⟩) at_.length cA), FV.is (.int .i64 k), FV.is (.pointer (some ⟨bA, oA + k, none⟩)), FV.is (.int .i64 x), FV.is (.int .i64 (-x)), fvShape (g + 1) ka (mvL (-x) pa), fvShape1 (g + 1) ka (mvL (-x) pa)]
                  [(0, 116), (1, 117), (2, 118), (3, 119), (4, 120), (5, 121), (6, 122), (7, 123), (8, 124), (9, 125), (10, 126), (11, 127), (12, 128), (13, 129), (14, 130)]
                  [[], [(0, 116)], [(1, 117)], [], [(3, 119)], [], [(4, 120), (5, 121)], [(6, 122)], [], [], [(8, 124), (9, 125)], [(10, 126)], [(11, 127)], [(7, 123), (12, 128)], [(13, 129)]] (by kernel_rfl) (by kernel_rfl) ?_ ?_
                · refine flowObs_cons (fun W hW => flowOb_nil ?_) ?_
                  · go_wp2
                    exact ⟨rfl, Aft.refl W⟩
                  refine flowObs_cons (fun W hW => flowOb_cons fun v0 h0 => flowOb_nil ?_) ?_
                  · obtain rfl := h0
                    go_wp2
                    exact ⟨rfl, Aft.refl W⟩
                  refine flowObs_cons (fun W hW => flowOb_cons fun v0 h0 => flowOb_nil ?_) ?_
                  · obtain rfl := h0
                    have x2W := (hW.cell (World.block_lt_of_cell? _ _ x2)).trans x2
                    have r3W := (hW.cell (World.block_lt_of_cell? _ _ r3)).trans r3
                    have s0W := (hW.cell (World.block_lt_of_cell? _ _ s0)).trans s0
                    have s1W := (hW.cell (World.block_lt_of_cell? _ _ s1)).trans s1
                    have cakW := (hW.cell (World.block_lt_of_cell? _ _ cak)).trans cak
                    go_wp2
                    exact ⟨rfl, Aft.refl W⟩
                  refine flowObs_cons (fun W hW => flowOb_nil ?_) ?_
                  · go_wp2
                    exact ⟨rfl, Aft.refl W⟩
                  refine flowObs_cons (fun W hW => flowOb_cons fun v0 h0 => flowOb_nil ?_) ?_
                  · obtain rfl := h0
                    have x2W := (hW.cell (World.block_lt_of_cell? _ _ x2)).trans x2
                    have r3W := (hW.cell (World.block_lt_of_cell? _ _ r3)).trans r3
                    have s0W := (hW.cell (World.block_lt_of_cell? _ _ s0)).trans s0
                    have s1W := (hW.cell (World.block_lt_of_cell? _ _ s1)).trans s1
                    have cakW := (hW.cell (World.block_lt_of_cell? _ _ cak)).trans cak
                    go_wp2
                    exact ⟨rfl, Aft.refl W⟩
                  refine flowObs_cons (fun W hW => flowOb_nil ?_) ?_
                  · go_wp2
                    exact ⟨rfl, Aft.refl W⟩
                  refine flowObs_cons (fun W hW => flowOb_cons fun v0 h0 => flowOb_cons fun v1 h1 => flowOb_nil ?_) ?_
                  · obtain rfl := h0
                    obtain rfl := h1
                    go_wp2
                    exact ⟨rfl, Aft.refl W⟩
                  refine flowObs_cons (fun W hW => flowOb_cons fun v0 h0 => flowOb_nil ?_) ?_
                  · obtain rfl := h0
                    have x2W := (hW.cell (World.block_lt_of_cell? _ _ x2)).trans x2
                    have r3W := (hW.cell (World.block_lt_of_cell? _ _ r3)).trans r3
                    have s0W := (hW.cell (World.block_lt_of_cell? _ _ s0)).trans s0
                    have s1W := (hW.cell (World.block_lt_of_cell? _ _ s1)).trans s1
                    have cakW := (hW.cell (World.block_lt_of_cell? _ _ cak)).trans cak
                    go_wp2
                    exact ⟨rfl, Aft.refl W⟩
                  refine flowObs_cons (fun W hW => flowOb_nil ?_) ?_
                  · go_wp2
                    exact ⟨rfl, Aft.refl W⟩
                  refine flowObs_cons (fun W hW => flowOb_nil ?_) ?_
                  · go_wp2
                    exact ⟨rfl, Aft.refl W⟩
                  refine flowObs_cons (fun W hW => flowOb_cons fun v0 h0 => flowOb_cons fun v1 h1 => flowOb_nil ?_) ?_
                  · obtain rfl := h0
                    obtain rfl := h1
                    go_wp2
                    exact ⟨rfl, Aft.refl W⟩
                  refine flowObs_cons (fun W hW => flowOb_cons fun v0 h0 => flowOb_nil ?_) ?_
                  · obtain rfl := h0
                    have x2W := (hW.cell (World.block_lt_of_cell? _ _ x2)).trans x2
                    have r3W := (hW.cell (World.block_lt_of_cell? _ _ r3)).trans r3
                    have s0W := (hW.cell (World.block_lt_of_cell? _ _ s0)).trans s0
                    have s1W := (hW.cell (World.block_lt_of_cell? _ _ s1)).trans s1
                    have cakW := (hW.cell (World.block_lt_of_cell? _ _ cak)).trans cak
                    go_wp2
                    exact ⟨rfl, Aft.refl W⟩
                  refine flowObs_cons (fun W hW => flowOb_cons fun v0 h0 => flowOb_nil ?_) ?_
                  · obtain rfl := h0
                    go_wp2
                    exact ⟨rfl, Aft.refl W⟩
                  refine flowObs_cons (fun W hW => flowOb_cons fun v0 h0 => flowOb_cons fun v1 h1 => flowOb_nil ?_) ?_
                  · obtain rfl := h0
                    obtain rfl := h1
                    have hsW := hW.size
                    go_wp2_with fail
                    refine (rmov_any ka (-x) _ pa W ⟨_, _, rfl, HPb.out.aft hW⟩ hple).mono ?_
                    rintro e W' ⟨vx, rfl, hox, hw'⟩
                    rw [← mvL_length (-x) pa] at hox
                    have hoy := hox
                    obtain ⟨ax, cx, rfl, -⟩ := ownsRow_at hox
                    go_wp2
                    exact ⟨ax, cx, rfl, ownsRow_mono hoy (by omega)⟩
                  refine flowObs_cons (fun W hW => flowOb_cons fun v0 h0 => flowOb_nil ?_) flowObs_nil
                  · obtain ⟨ax, cx, rfl, hox⟩ := h0
                    go_wp2
                    exact ⟨⟨_, ax, cx, rfl, Rd.new, ownsRow_aft hox ((Aft.refl W).alloc _)⟩, (Aft.refl W).alloc _⟩
                intro U hU
                iterate 2 refine flowEnd_cons fun _ _ => ?_
                refine flowEnd_cons fun v0 h0 => ?_
                obtain rfl := h0
                iterate 11 refine flowEnd_cons fun _ _ => ?_
                refine flowEnd_cons fun v1 h1 => flowEnd_nil ?_
                obtain ⟨gn, ax, cx, rfl, hrd, hox⟩ := h1
                have HGU := hid (HG5.out.aft hU)
                have hgo := HGU.out.own
                have HOX := hid hox
                have hsU := hU.size
                clear hox
                simp only [Act.put, List.setIfInBounds_toArray, List.set_cons_succ, List.set_cons_zero]
                refine wpList_app _ rfl (.tmp 118) (.tmp 130) 43 rfl (g + 1) 51 (.agg #[.int .i64 0, .slice none 0 0]) 2 32 Try.underlying43 Try.info51 rfl (by decide) _ n _ rfl hgo (some ⟨gn, 0, none⟩) 1 1 [.int .i64 ka, .slice ax (mvL (-x) pa).length cx] rfl (fun h => by cases h) rfl hrd (by intro u hu; simp at hu; rcases hu with rfl | rfl <;> rfl) (by unfold maxLen; omega) (by omega) (by omega) ?_
                intro v6 w6 hown6 hgrow6 _
                rw [show shCells R ++ [.int .i64 ka, .slice ax (mvL (-x) pa).length cx] = shCells (R ++ [(ka, .slice ax (mvL (-x) pa).length cx)]) by rw [shCells_append]; rfl] at hown6
                obtain ⟨g6, d6, rfl⟩ := ownsRow_some' hown6 (by omega)
                have hrow6 : ∀ j, (Value.slice a3 n c3).ownBlock = some j → g < j := fun j hj => by have := (hgo.lt j hj).1; omega
                have hk6 := Kx.trans (aft_kx hU) (grown_kx hgrow6 g hrow6)
                have HG6 : Hid (GX (g + 1) w6 (some ⟨g6, 0, none⟩) (n + 1) d6 (R ++ [(ka, .slice ax (mvL (-x) pa).length cx)]) ((ofS L at_ wd k (m + 1)).map fun i => mvS x (L.getD i (0, [])))) := hid (by
                  rw [HMV.out]
                  have hh : (mvL (-x) pa).length ≤ 1000 := by rw [mvL_length]; exact hple
                  exact GX.snoc (k := ka) (ps := mvL (-x) pa) HGU.out HOX.out (mvL_ok _ (okP_of_sc HSC.out.2)) hh hgrow6 hown6)
                have HO6 := hid (Sep.kept (sep_any (by decide) HGU.out.own (ownsRow_aft HO5.out hU)).symm (ownsRow_aft HO5.out hU) hgrow6)
                have HB6 := hid (HB5.out.kx hk6 (by omega))
                have HF6 := hid (F5.kx HF5.out hk6 hg5 (by omega))
                have hA6 : Aft wo w6 := (hA5.trans hU).grown hgrow6 (fun j hj => by have := hrow6 j hj; omega)
                have PB := put53 HB6.out (.slice (some ⟨g6, 0, none⟩) (n + 1) d6)
                have HPB := hid PB.1
                have HFB := hid (F5.set (c := ⟨g, 3, none⟩) (u := .slice (some ⟨g6, 0, none⟩) (n + 1) d6) HF6.out)
                have HGB := hid (HG6.out.kx PB.2 (fun j h => by subst h; omega))
                have HOB := hid (ownsRow_kx HO6.out PB.2 (fun j h => by subst h; omega))
                have hA7 := hA6.setCell (p := ⟨g, 3, none⟩) (by show wo.heap.size ≤ g; exact hnos) (.slice (some ⟨g6, 0, none⟩) (n + 1) d6)
                have HNN : Hid (n + 1 = (ofS L at_ wd k (m + 1)).length) := hid (by rw [HOF.out, List.length_append, HN.out]; rfl)
                clear x0 x1 x2 r0 r1 r2 r3 r4 s0 s1 hgo hown6 PB
                obtain ⟨r0, r1, r2, r3, r4⟩ := HB6.out
                obtain ⟨z0, z1, z2, z3, z4⟩ := HF6.out
                go_wp2
                go_roundw
                case rel => exact ⟨m + 1, by omega, by go_num, _, _, _, _, _, _, HNN, HPB, HFB, HGB, HOB, hA7⟩
                case measure => simp only [intOf]; omega
            · obtain rfl : m = L.length := by omega
              have HSm := hid (HS.out.aft hwm)
              obtain ⟨Q, hQ⟩ := HSm.out
              have HQ := hid hQ
              clear hQ
              have hown := HQ.out.1
              rw [shtsM_len] at hown
              have HOQ := hid hown
              clear hown
              have hgx : at_.getD k 0 = x := by rw [List.getD_eq_getElem?_getD, hx.out]; rfl
              have HST : Hid (shtS H L at_ wd k L.length = ⟨x, wd, H, (ofS L at_ wd k L.length).map fun i => mvS x (L.getD i (0, [])), (ofS L at_ wd k L.length).map fun i : Nat => (i : Int)⟩) := hid (by unfold shtS; rw [hgx])
              have HFX : Hid (FX m3 wm (shtS H L at_ wd k L.length) (.slice a3 n c3) (.slice ao n co)) := hid (by
                rw [HST.out]
                refine ⟨⟨a3, n, c3, R, rfl, HGm.out.mono (by omega), by omega⟩, ?_, ofS_okI _ _ _ _ _ (by omega), ?_⟩
                · simp only [List.length_map, ← HN.out]
                  exact ownsRow_mono HOm.out (by omega)
                · simp only [List.length_map, ← HN.out]
                  omega)
              have hzm := (hwr.trans hwm).size
              have hm3s := hm3'.out
              clear hgx
              obtain ⟨r0, r1, r2, r3, r4⟩ := HBm.out
              go_wp2_with (at_builtin; refine wpList_app _ rfl (.tmp 134) (.tmp 136) 84 rfl m3 93 (.agg #[.int .i64 0, .int .i64 0, .int .i64 0, .slice none 0 0, .slice none 0 0]) 5 72 Try.underlying84 Try.info93 rfl (by decide) _ k _ rfl (HOQ.out.alloc (.cells #[.int .i64 x, .int .i64 wd, .int .i64 H, .slice a3 n c3, .slice ao n co] 93)) (some ⟨wm.heap.size, 0, none⟩) 1 1 [.int .i64 x, .int .i64 wd, .int .i64 H, .slice a3 n c3, .slice ao n co] rfl (fun h => by cases h) rfl Rd.new (by intro u hu; simp at hu; rcases hu with rfl | rfl | rfl | rfl | rfl <;> rfl) (by unfold maxLen; omega) (by omega) (by simp; omega) ?_; intro v9 w9 hown9 hgrow9 hloc9; obtain ⟨g9, d9, rfl⟩ := ownsRow_some' hown9 (by omega))
              have hal := (Aft.refl wm).alloc (.cells #[.int .i64 x, .int .i64 wd, .int .i64 H, .slice a3 n c3, .slice ao n co] 93)
              have HS9 : Hid (SX 93 m3 w9 (.slice (some ⟨g9, 0, none⟩) (k + 1) d9) (shtsM H L at_ wd (k + 1))) := hid (by
                rw [shtsM_succ]
                refine SX.snoc (by decide) (X := wm.alloc (.cells #[.int .i64 x, .int .i64 wd, .int .i64 H, .slice a3 n c3, .slice ao n co] 93)) (Q := Q) (v := .slice a14 k c14) (by rw [shtsM_len]; exact HOQ.out.alloc _) HQ.out.2.1 (fun i q s hq hs => let ⟨e1, e2, e3, k4⟩ := HQ.out.2.2 i q s hq hs; ⟨e1, e2, e3, k4.aft hal⟩) (HFX.out.aft hal) hgrow9 ?_
                rw [shtsM_len, HST.out]
                exact hown9)
              have hA9 : Aft w3 w9 := ((hwr.trans hwm).alloc (.cells #[.int .i64 x, .int .i64 wd, .int .i64 H, .slice a3 n c3, .slice ao n co] 93)).grown hgrow9 (fun j hj => by have := (HOQ.out.lt j hj).1; omega)
              go_wp2
              go_roundw
              case rel => exact ⟨k + 1, by omega, by go_num, _, _, rfl, HS9, hA9⟩
              case measure => simp only [intOf]; omega
        · obtain rfl : k = at_.length := by omega
          have hA0r := HA3.out.trans hwr
          obtain ⟨-, y0, y1, y2⟩ := HB.out wo hA0r
          have z0 := (hA0r.frozen (o := 0) hlt).trans FZ.out.1
          have z1 := (hA0r.frozen (o := 1) hlt).trans FZ.out.2.1
          have z2 := (hA0r.frozen (o := 2) hlt).trans FZ.out.2.2
          have HB9 := hid (HB93.out.kx (X := fun _ => False) (aft_kx hwr) (fun h => h))
          obtain ⟨u0, u1, u2⟩ := HB9.out
          have h5m : n5 < m3 := by have := HA3.out.size; have := hm3'.out; omega
          go_upto_region 26 with fail
          refine wp_region_flow _ (Aft.refl _) [FV.is (.slice a14 at_.length c14), FV.is (.agg #[.int .i64 W, .int .i64 H, .slice a' L.length c']), FV.is (.slice a14 at_.length c14)]
            [(0, 138), (1, 139), (2, 4)]
            [[], [], [(0, 138)]] (by kernel_rfl) (by kernel_rfl) ?_ ?_
          · refine flowObs_cons (fun W hW => flowOb_nil ?_) ?_
            · go_wp2
              exact ⟨rfl, Aft.refl W⟩
            refine flowObs_cons (fun W hW => flowOb_nil ?_) ?_
            · have u0W := (hW.cell (World.block_lt_of_cell? _ _ u0)).trans u0
              have u1W := (hW.cell (World.block_lt_of_cell? _ _ u1)).trans u1
              have u2W := (hW.cell (World.block_lt_of_cell? _ _ u2)).trans u2
              go_wp2
              exact ⟨rfl, Aft.refl W⟩
            refine flowObs_cons (fun W hW => flowOb_cons fun v0 h0 => flowOb_nil ?_) flowObs_nil
            · obtain rfl := h0
              go_wp2
              exact ⟨rfl, Aft.refl W⟩
          intro U hU
          refine flowEnd_cons fun v0 h0 => ?_
          refine flowEnd_cons fun v1 h1 => ?_
          refine flowEnd_cons fun v2 h2 => flowEnd_nil ?_
          obtain rfl := h0
          obtain rfl := h1
          obtain rfl := h2
          have hA0U := hA0r.trans hU
          have HE := hid (HEND.out U W H a' L.length c' hA0U)
          have HSE := hid (((HS.out.aft hU).kx HE.out.2.1 (fun j h => by subst h; exact h5m)))
          have HGE := hid (((HGA3.out.aft (hwr.trans hU)).kx HE.out.2.1 (fun j h => by subst h; omega)))
          clear y0 y1 y2 z0 z1 z2 u0 u1 u2
          obtain ⟨-, y0, y1, y2⟩ := HB.out U hA0U
          have z0 := (hA0U.frozen (o := 0) hlt).trans FZ.out.1
          have z1 := (hA0U.frozen (o := 1) hlt).trans FZ.out.2.1
          have z2 := (hA0U.frozen (o := 2) hlt).trans FZ.out.2.2
          go_wp2
          refine bodyPost_ret (results_cut rfl _ _ n5 W H _ _ _ rfl rfl rfl HE.out.1) rfl ?_
          rw [HM.out]
          exact ⟨_, _, m3, n9 + 1, rfl, by omega, by omega, HSE.out, by rw [shtsM_len]; omega, ⟨_, _, _, _, rfl, HGE.out, by omega⟩, HE.out.2.2⟩
end Go.Proofs.Ytokdclbfjlnnjaa
