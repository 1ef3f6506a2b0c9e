/- Equal figures are the same, by the reference's word. -/
import Derived.Test.YtokdclbfjlnnjaaR29
namespace Go.Proofs.Ytokdclbfjlnnjaa
open Go.RowKit Go.BigFrame

set_option maxRecDepth 100000 in
set_option maxHeartbeats 8000000 in
theorem samefig_any (W H : Int) (v v' : Value) (L : List Sh) (w : World) (hv : Shs w v L) (hv' : Shs w v' L) :
    Calls Try.prog 59 #[.agg #[.int .i64 W, .int .i64 H, v], .agg #[.int .i64 W, .int .i64 H, v']] w fun e w' => e = .returned (.bool true) ∧ Aft w w' := by
  have hv0 := hid hv
  have hv0' := hid hv'
  obtain ⟨av, cv, R, rfl, hv⟩ := hv
  obtain ⟨av', cv', R', rfl, hv'⟩ := hv'
  have hle := hv.le
  clear hv hv'
  go_enter Try.func59, Try.ntmps59
  go_upto_region 1 with fail
  obtain ⟨W0, eW0, hw0, hlt, hbox⟩ := two_boxes w #[.int .i64 W, .int .i64 H, .slice av L.length cv] #[.int .i64 W, .int .i64 H, .slice av' L.length cv'] 45 45
  rw [eW0]
  clear eW0
  have HB : Hid (∀ X, Aft W0 X → B3 X w.heap.size W H (.slice av L.length cv) ∧ B3 X (w.heap.size + 1) W H (.slice av' L.length cv')) :=
    hid fun X hX => ⟨⟨(hbox.out X hX).1 0 _ rfl, (hbox.out X hX).1 1 _ rfl, (hbox.out X hX).1 2 _ rfl⟩, (hbox.out X hX).2 0 _ rfl, (hbox.out X hX).2 1 _ rfl, (hbox.out X hX).2 2 _ rfl⟩
  clear hbox
  obtain ⟨n3, hn3⟩ : ∃ n, w.heap.size + 1 = n := ⟨_, rfl⟩
  rw [hn3] at HB ⊢
  obtain ⟨n2, hn2⟩ : ∃ n, w.heap.size = n := ⟨_, rfl⟩
  rw [hn2] at HB ⊢
  clear hn2 hn3 hlt
  obtain ⟨⟨x0, x1, x2⟩, y0, y1, y2⟩ := HB.out W0 (Aft.refl _)
  go_wp2
  go_loopw [5] (fun i wr => ∃ r : Nat, r ≤ L.length ∧ i = .int .i64 r ∧ Aft W0 wr) (fun i _ => L.length - (intOf i).toNat)
  case atStart => exact ⟨0, by omega, rfl, Aft.refl _⟩
  case round =>
    clear x0 x1 x2 y0 y1 y2
    obtain ⟨r, hr, rfl, hwr⟩ := hrel
    obtain ⟨⟨x0, x1, x2⟩, y0, y1, y2⟩ := HB.out wr hwr
    rcases Nat.lt_or_ge r L.length with hltr | hger
    · have hri : (r : Int) < L.length := by omega
      obtain ⟨wo, hwo⟩ : ∃ x, x = wr := ⟨wr, rfl⟩
      subst hwo
      have hwwo := hw0.trans hwr
      obtain ⟨a1, c1, R1, e1, hat⟩ := hv0.out.aft hwwo
      simp only [Value.slice.injEq, true_and] at e1
      obtain ⟨rfl, rfl⟩ := e1
      obtain ⟨a2, c2, R2, e2, hat2⟩ := hv0'.out.aft hwwo
      simp only [Value.slice.injEq, true_and] at e2
      obtain ⟨rfl, rfl⟩ := e2
      obtain ⟨bb, off, ka, pa, aa, ca, rfl, s0, s1, hbb, hxa, hpa⟩ := hat.get hltr
      obtain ⟨b2, off2, kb, pb, ab, cb, rfl, t0, t1, hb2, hxb, hpb⟩ := hat2.get hltr
      have exy := hxa.out.symm.trans hxb.out
      simp only [Option.some.injEq, Prod.mk.injEq] at exy
      obtain ⟨rfl, rfl⟩ := exy
      have hpl := hpa.le
      have HPa := hid hpa
      have HPb := hid hpb
      clear hat hat2 hpa hpb hxa hxb
      have X2 := hid x2
      have Y2 := hid y2
      clear x0 x1 y0 y1
      go_upto_region 6 with fail
      refine wp_region_flow _ (Aft.refl _) [FV.is (.pointer (some ⟨n2, 2, none⟩)), FV.is (.slice (some ⟨bb, off, none⟩) L.length cv), FV.is (.int .i64 r), FV.is (.pointer (some ⟨bb, off + r * 2, none⟩)), FV.is (.pointer (some ⟨bb, off + r * 2, none⟩)), FV.is (.int .i64 ka), FV.is (.pointer (some ⟨n3, 2, none⟩)), FV.is (.slice (some ⟨b2, off2, none⟩) L.length cv'), FV.is (.int .i64 r), FV.is (.pointer (some ⟨b2, off2 + r * 2, none⟩)), FV.is (.pointer (some ⟨b2, off2 + r * 2, none⟩)), FV.is (.int .i64 ka), FV.is (.bool false), FV.is (.bool false), FV.is (.pointer (some ⟨n2, 2, none⟩)), FV.is (.slice (some ⟨bb, off, none⟩) L.length cv), FV.is (.int .i64 r), FV.is (.pointer (some ⟨bb, off + r * 2, none⟩)), FV.is (.pointer (some ⟨bb, off + r * 2 + 1, none⟩)), FV.is (.slice aa pa.length ca), FV.is (.int .i64 pa.length), FV.is (.pointer (some ⟨n3, 2, none⟩)), FV.is (.slice (some ⟨b2, off2, none⟩) L.length cv'), FV.is (.int .i64 r), FV.is (.pointer (some ⟨b2, off2 + r * 2, none⟩)), FV.is (.pointer (some ⟨b2, off2 + r * 2 + 1, none⟩)), FV.is (.slice ab pa.length cb), FV.is (.int .i64 pa.length), FV.is (.bool false), FV.is (.bool false)]
        [(0, 35), (1, 36), (2, 37), (3, 38), (4, 39), (5, 40), (6, 41), (7, 42), (8, 43), (9, 44), (10, 45), (11, 46), (12, 47), (13, 48), (14, 49), (15, 50), (16, 51), (17, 52), (18, 53), (19, 54), (20, 55), (21, 56), (22, 57), (23, 58), (24, 59), (25, 60), (26, 61), (27, 62), (28, 63), (29, 64)]
        [[], [(0, 35)], [], [(1, 36), (2, 37)], [(3, 38)], [(4, 39)], [], [(6, 41)], [], [(7, 42), (8, 43)], [(9, 44)], [(10, 45)], [(5, 40), (11, 46)], [(12, 47)], [(13, 48)], [(14, 49), (13, 48)], [(13, 48)], [(15, 50), (16, 51), (13, 48)], [(17, 52), (13, 48)], [(18, 53), (13, 48)], [(19, 54), (13, 48)], [(13, 48)], [(21, 56), (13, 48)], [(13, 48)], [(22, 57), (23, 58), (13, 48)], [(24, 59), (13, 48)], [(25, 60), (13, 48)], [(26, 61), (13, 48)], [(20, 55), (27, 62), (13, 48)], [(13, 48), (28, 63)]] (by kernel_rfl) (by kernel_rfl) ?_ ?_
      · refine flowObs_cons (fun W hW => flowOb_nil ?_) ?_
        · go_wp2
          exact ⟨rfl, Aft.refl W⟩
        refine flowObs_cons (fun W hW => flowOb_cons fun v0 h0 => flowOb_nil ?_) ?_
        · obtain rfl := h0
          have x2W := (hW.cell (World.block_lt_of_cell? _ _ x2)).trans x2
          have y2W := (hW.cell (World.block_lt_of_cell? _ _ y2)).trans y2
          have s0W := (hW.cell (World.block_lt_of_cell? _ _ s0)).trans s0
          have s1W := (hW.cell (World.block_lt_of_cell? _ _ s1)).trans s1
          have t0W := (hW.cell (World.block_lt_of_cell? _ _ t0)).trans t0
          have t1W := (hW.cell (World.block_lt_of_cell? _ _ t1)).trans t1
          go_wp2
          exact ⟨rfl, Aft.refl W⟩
        refine flowObs_cons (fun W hW => flowOb_nil ?_) ?_
        · go_wp2
          exact ⟨rfl, Aft.refl W⟩
        refine flowObs_cons (fun W hW => flowOb_cons fun v0 h0 => flowOb_cons fun v1 h1 => flowOb_nil ?_) ?_
        · obtain rfl := h0
          obtain rfl := h1
          go_wp2
          exact ⟨rfl, Aft.refl W⟩
        refine flowObs_cons (fun W hW => flowOb_cons fun v0 h0 => flowOb_nil ?_) ?_
        · obtain rfl := h0
          go_wp2
          exact ⟨rfl, Aft.refl W⟩
        refine flowObs_cons (fun W hW => flowOb_cons fun v0 h0 => flowOb_nil ?_) ?_
        · obtain rfl := h0
          have x2W := (hW.cell (World.block_lt_of_cell? _ _ x2)).trans x2
          have y2W := (hW.cell (World.block_lt_of_cell? _ _ y2)).trans y2
          have s0W := (hW.cell (World.block_lt_of_cell? _ _ s0)).trans s0
          have s1W := (hW.cell (World.block_lt_of_cell? _ _ s1)).trans s1
          have t0W := (hW.cell (World.block_lt_of_cell? _ _ t0)).trans t0
          have t1W := (hW.cell (World.block_lt_of_cell? _ _ t1)).trans t1
          go_wp2
          exact ⟨rfl, Aft.refl W⟩
        refine flowObs_cons (fun W hW => flowOb_nil ?_) ?_
        · go_wp2
          exact ⟨rfl, Aft.refl W⟩
        refine flowObs_cons (fun W hW => flowOb_cons fun v0 h0 => flowOb_nil ?_) ?_
        · obtain rfl := h0
          have x2W := (hW.cell (World.block_lt_of_cell? _ _ x2)).trans x2
          have y2W := (hW.cell (World.block_lt_of_cell? _ _ y2)).trans y2
          have s0W := (hW.cell (World.block_lt_of_cell? _ _ s0)).trans s0
          have s1W := (hW.cell (World.block_lt_of_cell? _ _ s1)).trans s1
          have t0W := (hW.cell (World.block_lt_of_cell? _ _ t0)).trans t0
          have t1W := (hW.cell (World.block_lt_of_cell? _ _ t1)).trans t1
          go_wp2
          exact ⟨rfl, Aft.refl W⟩
        refine flowObs_cons (fun W hW => flowOb_nil ?_) ?_
        · go_wp2
          exact ⟨rfl, Aft.refl W⟩
        refine flowObs_cons (fun W hW => flowOb_cons fun v0 h0 => flowOb_cons fun v1 h1 => flowOb_nil ?_) ?_
        · obtain rfl := h0
          obtain rfl := h1
          go_wp2
          exact ⟨rfl, Aft.refl W⟩
        refine flowObs_cons (fun W hW => flowOb_cons fun v0 h0 => flowOb_nil ?_) ?_
        · obtain rfl := h0
          go_wp2
          exact ⟨rfl, Aft.refl W⟩
        refine flowObs_cons (fun W hW => flowOb_cons fun v0 h0 => flowOb_nil ?_) ?_
        · obtain rfl := h0
          have x2W := (hW.cell (World.block_lt_of_cell? _ _ x2)).trans x2
          have y2W := (hW.cell (World.block_lt_of_cell? _ _ y2)).trans y2
          have s0W := (hW.cell (World.block_lt_of_cell? _ _ s0)).trans s0
          have s1W := (hW.cell (World.block_lt_of_cell? _ _ s1)).trans s1
          have t0W := (hW.cell (World.block_lt_of_cell? _ _ t0)).trans t0
          have t1W := (hW.cell (World.block_lt_of_cell? _ _ t1)).trans t1
          go_wp2
          exact ⟨rfl, Aft.refl W⟩
        refine flowObs_cons (fun W hW => flowOb_cons fun v0 h0 => flowOb_cons fun v1 h1 => flowOb_nil ?_) ?_
        · obtain rfl := h0
          obtain rfl := h1
          go_wp2
          exact ⟨rfl, Aft.refl W⟩
        refine flowObs_cons (fun W hW => flowOb_cons fun v0 h0 => flowOb_nil ?_) ?_
        · obtain rfl := h0
          go_wp2
          exact ⟨rfl, Aft.refl W⟩
        refine flowObs_cons (fun W hW => flowOb_cons fun v0 h0 => flowOb_nil ?_) ?_
        · obtain rfl := h0
          go_wp2
          exact ⟨rfl, Aft.refl W⟩
        refine flowObs_cons (fun W hW => flowOb_cons fun v0 h0 => flowOb_cons fun v1 h1 => flowOb_nil ?_) ?_
        · obtain rfl := h0
          obtain rfl := h1
          have x2W := (hW.cell (World.block_lt_of_cell? _ _ x2)).trans x2
          have y2W := (hW.cell (World.block_lt_of_cell? _ _ y2)).trans y2
          have s0W := (hW.cell (World.block_lt_of_cell? _ _ s0)).trans s0
          have s1W := (hW.cell (World.block_lt_of_cell? _ _ s1)).trans s1
          have t0W := (hW.cell (World.block_lt_of_cell? _ _ t0)).trans t0
          have t1W := (hW.cell (World.block_lt_of_cell? _ _ t1)).trans t1
          go_wp2
          exact ⟨rfl, Aft.refl W⟩
        refine flowObs_cons (fun W hW => flowOb_cons fun v0 h0 => flowOb_nil ?_) ?_
        · obtain rfl := h0
          go_wp2
          exact ⟨rfl, Aft.refl W⟩
        refine flowObs_cons (fun W hW => flowOb_cons fun v0 h0 => flowOb_cons fun v1 h1 => flowOb_cons fun v2 h2 => flowOb_nil ?_) ?_
        · obtain rfl := h0
          obtain rfl := h1
          obtain rfl := h2
          go_wp2
          exact ⟨rfl, Aft.refl W⟩
        refine flowObs_cons (fun W hW => flowOb_cons fun v0 h0 => flowOb_cons fun v1 h1 => flowOb_nil ?_) ?_
        · obtain rfl := h0
          obtain rfl := h1
          go_wp2
          exact ⟨rfl, Aft.refl W⟩
        refine flowObs_cons (fun W hW => flowOb_cons fun v0 h0 => flowOb_cons fun v1 h1 => flowOb_nil ?_) ?_
        · obtain rfl := h0
          obtain rfl := h1
          have x2W := (hW.cell (World.block_lt_of_cell? _ _ x2)).trans x2
          have y2W := (hW.cell (World.block_lt_of_cell? _ _ y2)).trans y2
          have s0W := (hW.cell (World.block_lt_of_cell? _ _ s0)).trans s0
          have s1W := (hW.cell (World.block_lt_of_cell? _ _ s1)).trans s1
          have t0W := (hW.cell (World.block_lt_of_cell? _ _ t0)).trans t0
          have t1W := (hW.cell (World.block_lt_of_cell? _ _ t1)).trans t1
          go_wp2
          exact ⟨rfl, Aft.refl W⟩
        refine flowObs_cons (fun W hW => flowOb_cons fun v0 h0 => flowOb_cons fun v1 h1 => flowOb_nil ?_) ?_
        · obtain rfl := h0
          obtain rfl := h1
          go_wp2
          exact ⟨rfl, Aft.refl W⟩
        refine flowObs_cons (fun W hW => flowOb_cons fun v0 h0 => flowOb_nil ?_) ?_
        · obtain rfl := h0
          go_wp2
          exact ⟨rfl, Aft.refl W⟩
        refine flowObs_cons (fun W hW => flowOb_cons fun v0 h0 => flowOb_cons fun v1 h1 => flowOb_nil ?_) ?_
        · obtain rfl := h0
          obtain rfl := h1
          have x2W := (hW.cell (World.block_lt_of_cell? _ _ x2)).trans x2
          have y2W := (hW.cell (World.block_lt_of_cell? _ _ y2)).trans y2
          have s0W := (hW.cell (World.block_lt_of_cell? _ _ s0)).trans s0
          have s1W := (hW.cell (World.block_lt_of_cell? _ _ s1)).trans s1
          have t0W := (hW.cell (World.block_lt_of_cell? _ _ t0)).trans t0
          have t1W := (hW.cell (World.block_lt_of_cell? _ _ t1)).trans t1
          go_wp2
          exact ⟨rfl, Aft.refl W⟩
        refine flowObs_cons (fun W hW => flowOb_cons fun v0 h0 => flowOb_nil ?_) ?_
        · obtain rfl := h0
          go_wp2
          exact ⟨rfl, Aft.refl W⟩
        refine flowObs_cons (fun W hW => flowOb_cons fun v0 h0 => flowOb_cons fun v1 h1 => flowOb_cons fun v2 h2 => flowOb_nil ?_) ?_
        · obtain rfl := h0
          obtain rfl := h1
          obtain rfl := h2
          go_wp2
          exact ⟨rfl, Aft.refl W⟩
        refine flowObs_cons (fun W hW => flowOb_cons fun v0 h0 => flowOb_cons fun v1 h1 => flowOb_nil ?_) ?_
        · obtain rfl := h0
          obtain rfl := h1
          go_wp2
          exact ⟨rfl, Aft.refl W⟩
        refine flowObs_cons (fun W hW => flowOb_cons fun v0 h0 => flowOb_cons fun v1 h1 => flowOb_nil ?_) ?_
        · obtain rfl := h0
          obtain rfl := h1
          have x2W := (hW.cell (World.block_lt_of_cell? _ _ x2)).trans x2
          have y2W := (hW.cell (World.block_lt_of_cell? _ _ y2)).trans y2
          have s0W := (hW.cell (World.block_lt_of_cell? _ _ s0)).trans s0
          have s1W := (hW.cell (World.block_lt_of_cell? _ _ s1)).trans s1
          have t0W := (hW.cell (World.block_lt_of_cell? _ _ t0)).trans t0
          have t1W := (hW.cell (World.block_lt_of_cell? _ _ t1)).trans t1
          go_wp2
          exact ⟨rfl, Aft.refl W⟩
        refine flowObs_cons (fun W hW => flowOb_cons fun v0 h0 => flowOb_cons fun v1 h1 => flowOb_nil ?_) ?_
        · obtain rfl := h0
          obtain rfl := h1
          go_wp2
          exact ⟨rfl, Aft.refl W⟩
        refine flowObs_cons (fun W hW => flowOb_cons fun v0 h0 => flowOb_cons fun v1 h1 => flowOb_cons fun v2 h2 => flowOb_nil ?_) ?_
        · obtain rfl := h0
          obtain rfl := h1
          obtain rfl := h2
          go_wp2
          exact ⟨rfl, Aft.refl W⟩
        refine flowObs_cons (fun W hW => flowOb_cons fun v0 h0 => flowOb_cons fun v1 h1 => flowOb_nil ?_) flowObs_nil
        · obtain rfl := h0
          obtain rfl := h1
          go_wp2
          exact ⟨rfl, Aft.refl W⟩
      intro U hU
      iterate 29 refine flowEnd_cons fun _ _ => ?_
      refine flowEnd_cons fun v1 h1 => flowEnd_nil ?_
      obtain rfl := h1
      have hwU := hwr.trans hU
      have tr : ∀ {b o : Nat} {v : Value}, wo.cell? ⟨b, o, none⟩ = some v → U.cell? ⟨b, o, none⟩ = some v := fun h => (hU.cell (World.block_lt_of_cell? _ _ h)).trans h
      have S1 := hid (tr s1)
      have T1 := hid (tr t1)
      have X2U := hid (tr X2.out)
      have Y2U := hid (tr Y2.out)
      have HPaU := hid (HPa.out.aft hU)
      have HPbU := hid (HPb.out.aft hU)
      clear tr s0 s1 t0 t1 x2 y2 X2 Y2 HPa HPb
      go_wp2
      go_loopw [6] (fun i wx => ∃ q : Nat, q ≤ pa.length ∧ i = .int .i64 q ∧ Aft U wx) (fun i _ => pa.length - (intOf i).toNat)
      case atStart => exact ⟨0, by omega, rfl, Aft.refl _⟩
      case round =>
        obtain ⟨wx, hwxe⟩ : ∃ x, x = wr := ⟨wr, rfl⟩
        subst hwxe
        obtain ⟨q, hq, rfl, hwx⟩ := hrel
        have tr : ∀ {b o : Nat} {v : Value}, U.cell? ⟨b, o, none⟩ = some v → wx.cell? ⟨b, o, none⟩ = some v := fun h => (hwx.cell (World.block_lt_of_cell? _ _ h)).trans h
        have s1 := tr S1.out
        have t1 := tr T1.out
        have x2 := tr X2U.out
        have y2 := tr Y2U.out
        clear tr
        rcases Nat.lt_or_ge q pa.length with hltq | hgeq
        · have hqi : (q : Int) < pa.length := by omega
          have pA := HPaU.out.aft hwx
          have pB := HPbU.out.aft hwx
          obtain ⟨ba, oa, x, y, rfl, c1, c2, -, hx, -⟩ := pA.rd.pair pA.ok hltq
          obtain ⟨bc, oc, x', y', rfl, d1, d2, -, hx', -⟩ := pB.rd.pair pB.ok hltq
          have exy := hx.out.symm.trans hx'.out
          simp only [Option.some.injEq, Prod.mk.injEq] at exy
          obtain ⟨rfl, rfl⟩ := exy
          have ex : (x == x) = true := by simp
          have ey : (y == y) = true := by simp
          clear pA pB hx hx'
          go_upto_region 11 with fail
          refine wp_region_flow _ (Aft.refl _) [FV.is (.pointer (some ⟨n2, 2, none⟩)), FV.is (.slice (some ⟨bb, off, none⟩) L.length cv), FV.is (.int .i64 r), FV.is (.pointer (some ⟨bb, off + r * 2, none⟩)), FV.is (.pointer (some ⟨bb, off + r * 2 + 1, none⟩)), FV.is (.slice (some ⟨ba, oa, none⟩) pa.length ca), FV.is (.int .i64 q), FV.is (.pointer (some ⟨ba, oa + q * 2, none⟩)), FV.is (.agg #[.int .i64 x, .int .i64 y]), FV.is (.pointer (some ⟨n3, 2, none⟩)), FV.is (.slice (some ⟨b2, off2, none⟩) L.length cv'), FV.is (.int .i64 r), FV.is (.pointer (some ⟨b2, off2 + r * 2, none⟩)), FV.is (.pointer (some ⟨b2, off2 + r * 2 + 1, none⟩)), FV.is (.slice (some ⟨bc, oc, none⟩) pa.length cb), FV.is (.int .i64 q), FV.is (.pointer (some ⟨bc, oc + q * 2, none⟩)), FV.is (.agg #[.int .i64 x, .int .i64 y]), FV.is (.bool false)]
            [(0, 76), (1, 77), (2, 78), (3, 79), (4, 80), (5, 81), (6, 82), (7, 83), (8, 84), (9, 85), (10, 86), (11, 87), (12, 88), (13, 89), (14, 90), (15, 91), (16, 92), (17, 93), (18, 94)]
            [[], [(0, 76)], [], [(1, 77), (2, 78)], [(3, 79)], [(4, 80)], [], [(5, 81), (6, 82)], [(7, 83)], [], [(9, 85)], [], [(10, 86), (11, 87)], [(12, 88)], [(13, 89)], [], [(14, 90), (15, 91)], [(16, 92)], [(8, 84), (17, 93)]] (by kernel_rfl) (by kernel_rfl) ?_ ?_
          · refine flowObs_cons (fun W hW => flowOb_nil ?_) ?_
            · go_wp2
              exact ⟨rfl, Aft.refl W⟩
            refine flowObs_cons (fun W hW => flowOb_cons fun v0 h0 => flowOb_nil ?_) ?_
            · obtain rfl := h0
              have x2W := (hW.cell (World.block_lt_of_cell? _ _ x2)).trans x2
              have y2W := (hW.cell (World.block_lt_of_cell? _ _ y2)).trans y2
              have s1W := (hW.cell (World.block_lt_of_cell? _ _ s1)).trans s1
              have t1W := (hW.cell (World.block_lt_of_cell? _ _ t1)).trans t1
              have c1W := (hW.cell (World.block_lt_of_cell? _ _ c1)).trans c1
              have c2W := (hW.cell (World.block_lt_of_cell? _ _ c2)).trans c2
              have d1W := (hW.cell (World.block_lt_of_cell? _ _ d1)).trans d1
              have d2W := (hW.cell (World.block_lt_of_cell? _ _ d2)).trans d2
              go_wp2
              exact ⟨rfl, Aft.refl W⟩
            refine flowObs_cons (fun W hW => flowOb_nil ?_) ?_
            · go_wp2
              exact ⟨rfl, Aft.refl W⟩
            refine flowObs_cons (fun W hW => flowOb_cons fun v0 h0 => flowOb_cons fun v1 h1 => flowOb_nil ?_) ?_
            · obtain rfl := h0
              obtain rfl := h1
              go_wp2
              exact ⟨rfl, Aft.refl W⟩
            refine flowObs_cons (fun W hW => flowOb_cons fun v0 h0 => flowOb_nil ?_) ?_
            · obtain rfl := h0
              go_wp2
              exact ⟨rfl, Aft.refl W⟩
            refine flowObs_cons (fun W hW => flowOb_cons fun v0 h0 => flowOb_nil ?_) ?_
            · obtain rfl := h0
              have x2W := (hW.cell (World.block_lt_of_cell? _ _ x2)).trans x2
              have y2W := (hW.cell (World.block_lt_of_cell? _ _ y2)).trans y2
              have s1W := (hW.cell (World.block_lt_of_cell? _ _ s1)).trans s1
              have t1W := (hW.cell (World.block_lt_of_cell? _ _ t1)).trans t1
              have c1W := (hW.cell (World.block_lt_of_cell? _ _ c1)).trans c1
              have c2W := (hW.cell (World.block_lt_of_cell? _ _ c2)).trans c2
              have d1W := (hW.cell (World.block_lt_of_cell? _ _ d1)).trans d1
              have d2W := (hW.cell (World.block_lt_of_cell? _ _ d2)).trans d2
              go_wp2
              exact ⟨rfl, Aft.refl W⟩
            refine flowObs_cons (fun W hW => flowOb_nil ?_) ?_
            · go_wp2
              exact ⟨rfl, Aft.refl W⟩
            refine flowObs_cons (fun W hW => flowOb_cons fun v0 h0 => flowOb_cons fun v1 h1 => flowOb_nil ?_) ?_
            · obtain rfl := h0
              obtain rfl := h1
              go_wp2
              exact ⟨rfl, Aft.refl W⟩
            refine flowObs_cons (fun W hW => flowOb_cons fun v0 h0 => flowOb_nil ?_) ?_
            · obtain rfl := h0
              have x2W := (hW.cell (World.block_lt_of_cell? _ _ x2)).trans x2
              have y2W := (hW.cell (World.block_lt_of_cell? _ _ y2)).trans y2
              have s1W := (hW.cell (World.block_lt_of_cell? _ _ s1)).trans s1
              have t1W := (hW.cell (World.block_lt_of_cell? _ _ t1)).trans t1
              have c1W := (hW.cell (World.block_lt_of_cell? _ _ c1)).trans c1
              have c2W := (hW.cell (World.block_lt_of_cell? _ _ c2)).trans c2
              have d1W := (hW.cell (World.block_lt_of_cell? _ _ d1)).trans d1
              have d2W := (hW.cell (World.block_lt_of_cell? _ _ d2)).trans d2
              go_wp2
              exact ⟨rfl, Aft.refl W⟩
            refine flowObs_cons (fun W hW => flowOb_nil ?_) ?_
            · go_wp2
              exact ⟨rfl, Aft.refl W⟩
            refine flowObs_cons (fun W hW => flowOb_cons fun v0 h0 => flowOb_nil ?_) ?_
            · obtain rfl := h0
              have x2W := (hW.cell (World.block_lt_of_cell? _ _ x2)).trans x2
              have y2W := (hW.cell (World.block_lt_of_cell? _ _ y2)).trans y2
              have s1W := (hW.cell (World.block_lt_of_cell? _ _ s1)).trans s1
              have t1W := (hW.cell (World.block_lt_of_cell? _ _ t1)).trans t1
              have c1W := (hW.cell (World.block_lt_of_cell? _ _ c1)).trans c1
              have c2W := (hW.cell (World.block_lt_of_cell? _ _ c2)).trans c2
              have d1W := (hW.cell (World.block_lt_of_cell? _ _ d1)).trans d1
              have d2W := (hW.cell (World.block_lt_of_cell? _ _ d2)).trans d2
              go_wp2
              exact ⟨rfl, Aft.refl W⟩
            refine flowObs_cons (fun W hW => flowOb_nil ?_) ?_
            · go_wp2
              exact ⟨rfl, Aft.refl W⟩
            refine flowObs_cons (fun W hW => flowOb_cons fun v0 h0 => flowOb_cons fun v1 h1 => flowOb_nil ?_) ?_
            · obtain rfl := h0
              obtain rfl := h1
              go_wp2
              exact ⟨rfl, Aft.refl W⟩
            refine flowObs_cons (fun W hW => flowOb_cons fun v0 h0 => flowOb_nil ?_) ?_
            · obtain rfl := h0
              go_wp2
              exact ⟨rfl, Aft.refl W⟩
            refine flowObs_cons (fun W hW => flowOb_cons fun v0 h0 => flowOb_nil ?_) ?_
            · obtain rfl := h0
              have x2W := (hW.cell (World.block_lt_of_cell? _ _ x2)).trans x2
              have y2W := (hW.cell (World.block_lt_of_cell? _ _ y2)).trans y2
              have s1W := (hW.cell (World.block_lt_of_cell? _ _ s1)).trans s1
              have t1W := (hW.cell (World.block_lt_of_cell? _ _ t1)).trans t1
              have c1W := (hW.cell (World.block_lt_of_cell? _ _ c1)).trans c1
              have c2W := (hW.cell (World.block_lt_of_cell? _ _ c2)).trans c2
              have d1W := (hW.cell (World.block_lt_of_cell? _ _ d1)).trans d1
              have d2W := (hW.cell (World.block_lt_of_cell? _ _ d2)).trans d2
              go_wp2
              exact ⟨rfl, Aft.refl W⟩
            refine flowObs_cons (fun W hW => flowOb_nil ?_) ?_
            · go_wp2
              exact ⟨rfl, Aft.refl W⟩
            refine flowObs_cons (fun W hW => flowOb_cons fun v0 h0 => flowOb_cons fun v1 h1 => flowOb_nil ?_) ?_
            · obtain rfl := h0
              obtain rfl := h1
              go_wp2
              exact ⟨rfl, Aft.refl W⟩
            refine flowObs_cons (fun W hW => flowOb_cons fun v0 h0 => flowOb_nil ?_) ?_
            · obtain rfl := h0
              have x2W := (hW.cell (World.block_lt_of_cell? _ _ x2)).trans x2
              have y2W := (hW.cell (World.block_lt_of_cell? _ _ y2)).trans y2
              have s1W := (hW.cell (World.block_lt_of_cell? _ _ s1)).trans s1
              have t1W := (hW.cell (World.block_lt_of_cell? _ _ t1)).trans t1
              have c1W := (hW.cell (World.block_lt_of_cell? _ _ c1)).trans c1
              have c2W := (hW.cell (World.block_lt_of_cell? _ _ c2)).trans c2
              have d1W := (hW.cell (World.block_lt_of_cell? _ _ d1)).trans d1
              have d2W := (hW.cell (World.block_lt_of_cell? _ _ d2)).trans d2
              go_wp2
              exact ⟨rfl, Aft.refl W⟩
            refine flowObs_cons (fun W hW => flowOb_cons fun v0 h0 => flowOb_cons fun v1 h1 => flowOb_nil ?_) flowObs_nil
            · obtain rfl := h0
              obtain rfl := h1
              go_wp2
              exact ⟨rfl, Aft.refl W⟩
          intro V hV
          iterate 18 refine flowEnd_cons fun _ _ => ?_
          refine flowEnd_cons fun v1 h1 => flowEnd_nil ?_
          obtain rfl := h1
          have hfin := hwx.trans hV
          clear c1 c2 d1 d2 s1 t1 x2 y2
          go_wp2
          go_roundw
          case rel => exact ⟨q + 1, by omega, by go_num, hfin⟩
          case measure => simp only [intOf]; omega
        · obtain rfl : q = pa.length := by omega
          have hfin := hwU.trans hwx
          go_wp2
          go_roundw
          case rel => exact ⟨r + 1, by omega, by go_num, hfin⟩
          case measure => simp only [intOf]; omega
    · obtain rfl : r = L.length := by omega
      go_wp2
      go_ret
      exact ⟨rfl, hw0.trans hwr⟩
end Go.Proofs.Ytokdclbfjlnnjaa
