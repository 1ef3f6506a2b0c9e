/- The law's own few: a figure of few shapes with few small points, whatever came in. -/
import Derived.Test.YtokdclbfjlnnjaaR19
import Derived.Test.YtokdclbfjlnnjaaR17
import Derived.Lib.MinMax
namespace Go.Proofs.Ytokdclbfjlnnjaa
open Go.RowKit Go.BigFrame

def fvPt1 (lo hi : Int) : FV := ⟨fun v W => ∃ g x y, v = .slice (some ⟨g, 0, none⟩) 1 1 ∧ Rd W (some ⟨g, 0, none⟩) (prs [(x, y)]) ∧ lo ≤ x ∧ x ≤ hi ∧ lo ≤ y ∧ y ≤ hi, fun _ _ _ ⟨g, x, y, h1, h2, h3⟩ hw => ⟨g, x, y, h1, h2.aft hw, h3⟩⟩

set_option maxRecDepth 100000 in
set_option maxHeartbeats 8000000 in
theorem few_any (W H : Int) (v : Value) (n : Nat) (w : World) (hv : ShsRaw w v n) :
    Calls Try.prog 48 #[.agg #[.int .i64 W, .int .i64 H, v]] w fun e w' => ∃ v' L, e = .returned (.agg #[.int .i64 W, .int .i64 H, v']) ∧ Shs w' v' L ∧ L.length ≤ 10 ∧ GoodL 14 L ∧ Aft w w' := by
  have hv0 := hid hv
  obtain ⟨a, c, rfl, hn, -⟩ := hv
  go_enter Try.func48, Try.ntmps48
  go_upto_region 1 with fail
  obtain ⟨W0, eW0, hw0, hlt, hbox⟩ := two_boxes w #[.int .i64 W, .int .i64 H, .slice a n c] #[.int .i64 0, .int .i64 0, .slice none 0 0] 45 45
  have fz2 : F3 W0 (w.heap.size + 1) := by
    rw [← eW0]
    exact ⟨by simp, by simp, by simp⟩
  rw [eW0]
  clear eW0
  have b1 : B3 W0 w.heap.size W H (.slice a n c) := ⟨(hbox.out W0 (Aft.refl _)).1 0 _ rfl, (hbox.out W0 (Aft.refl _)).1 1 _ rfl, (hbox.out W0 (Aft.refl _)).1 2 _ rfl⟩
  have b2 : B3 W0 (w.heap.size + 1) 0 0 (.slice none 0 0) := ⟨(hbox.out W0 (Aft.refl _)).2 0 _ rfl, (hbox.out W0 (Aft.refl _)).2 1 _ rfl, (hbox.out W0 (Aft.refl _)).2 2 _ rfl⟩
  clear hbox
  obtain ⟨n1, hn1⟩ : ∃ n, w.heap.size = n := ⟨_, rfl⟩
  have hge1 : w.heap.size ≤ n1 := by omega
  rw [hn1] at b1 b2 fz2 hlt ⊢
  obtain ⟨n2, hn2⟩ : ∃ n, n1 + 1 = n := ⟨_, rfl⟩
  rw [hn2] at b2 fz2 hlt ⊢
  have h12 : n1 < n2 := by omega
  clear hn1 hn2
  have B1 := hid b1
  have B2' := hid b2
  have Z2 := hid fz2
  obtain ⟨x0, x1, x2⟩ := b1
  clear b2 fz2
  go_upto_region 2 with fail
  obtain ⟨W1, eW1, hw1, hlt1, hbox1⟩ := one_box W0 #[.int .i64 W, .int .i64 H, .slice none 0 0] 45
  have fz3 : F3 W1 W0.heap.size := eW1 ▸ ⟨frozen_new W0 _ _ 0, frozen_new W0 _ _ 1, frozen_new W0 _ _ 2⟩
  rw [eW1]
  clear eW1 x0 x1 x2
  have b3 : B3 W1 W0.heap.size W H (.slice none 0 0) := ⟨hbox1.out W1 (Aft.refl _) 0 _ rfl, hbox1.out W1 (Aft.refl _) 1 _ rfl, hbox1.out W1 (Aft.refl _) 2 _ rfl⟩
  clear hbox1
  obtain ⟨n3, hn3⟩ : ∃ n, W0.heap.size = n := ⟨_, rfl⟩
  rw [hn3] at b3 fz3 hlt1 hlt ⊢
  clear hn3
  have hw01 := hw0.trans hw1
  have hk1 : Kx (fun _ => False) W0 W1 := aft_kx hw1
  have B1' := hid (B3.kx B1.out hk1 (fun h => h))
  have B2'' := hid (B3.kx B2'.out hk1 (fun h => h))
  have hl2 : n2 < W0.heap.size := World.block_lt_of_cell? _ _ B2'.out.1
  have Z2' := hid (F3.kx Z2.out hk1 hl2 (fun h => h))
  have HG0 := hid (GS.nil (n3 + 1) 14 W1)
  clear hl2 hk1 B1 B2' Z2
  go_wp2
  go_loopw [4] (fun i wr => ∃ r : Nat, r ≤ 10 ∧ r ≤ n ∧ i = .int .i64 r ∧ ∃ a' c' R, B3 wr n3 W H (.slice a' r c') ∧ F3 wr n3 ∧ Hid (B3 wr n1 W H (.slice a n c)) ∧ Hid (B3 wr n2 0 0 (.slice none 0 0)) ∧ Hid (F3 wr n2) ∧ Hid (GS (n3 + 1) 14 wr a' r c' R) ∧ Aft w wr) (fun i _ => 10 - (intOf i).toNat)
  case atStart => exact ⟨0, by omega, by omega, rfl, none, 0, [], b3, fz3, B1', B2'', Z2', HG0, hw01⟩
  case round =>
    clear b3 fz3 B1' B2'' Z2' HG0
    obtain ⟨r, hr, hrn, rfl, a', c', R, b3, fz3, B1, B2', Z2, HG, hwr⟩ := hrel
    have hl3 : n3 < wr.heap.size := World.block_lt_of_cell? _ _ b3.1
    have hgo : ∀ {Q : Prop}, ((r : Int) < n → (r : Int) < 10 → Q) → (¬ (r : Int) < n → True → Q) → ((r : Int) < n → ¬ (r : Int) < 10 → Q) → Q := fun h1 h2 h3 => by
      by_cases h : (r : Int) < n
      · by_cases h' : (r : Int) < 10
        · exact h1 h h'
        · exact h3 h h'
      · exact h2 h trivial
    refine hgo ?_ ?_ ?_
    · intro o1 o2
      clear hgo
      obtain ⟨a0, c0, e0, _, hel⟩ := hv0.out
      simp only [Value.slice.injEq, true_and] at e0
      obtain ⟨rfl, rfl⟩ := e0
      obtain ⟨b, off, k, u, m, rfl, q0, q1, hb, hk, hpts⟩ := hel r (by omega)
      have tr : ∀ {o : Nat} {v : Value}, w.cell? ⟨b, o, none⟩ = some v → wr.cell? ⟨b, o, none⟩ = some v := fun h => (hwr.cell hb).trans h
      have s0 := tr q0
      have s1 := tr q1
      replace hpts := hpts.aft hwr
      clear tr q0 q1 hel hb
      have HP := hid hpts
      obtain ⟨ap, cp, rfl, hm, hpt⟩ := hpts
      clear hpt
      have b3k := hid b3
      have fz3k := hid fz3
      obtain ⟨y0, y1, y2⟩ := b3
      obtain ⟨x0, x1, x2⟩ := B1.out
      clear fz3
      go_upto_region 6 with fail
      obtain ⟨W2, eW2, hw2, hlt2, hbox2⟩ := one_box wr #[.int .i64 k, .slice ap m cp] 51
      have hz2 : W2.heap.size = wr.heap.size + 1 := by rw [← eW2]; simp
      rw [eW2]
      clear eW2 s0 s1 x0 x1 x2 y0 y1 y2
      have t0 := hbox2.out W2 (Aft.refl _) 0 _ rfl
      have t1 := hbox2.out W2 (Aft.refl _) 1 _ rfl
      clear hbox2
      obtain ⟨n5, hn5⟩ : ∃ n, wr.heap.size = n := ⟨_, rfl⟩
      rw [hn5] at t0 t1 hlt2 hl3 hz2 ⊢
      have T0 := hid t0
      have T1 := hid t1
      clear t0 t1
      obtain ⟨wo, hwo⟩ : ∃ x, x = wr := ⟨wr, rfl⟩
      subst hwo
      go_wp2
      go_loopw [6, 7] (fun v i wx => ∃ q : Nat, q ≤ 14 ∧ q ≤ m ∧ i = .int .i64 q ∧ ∃ av cv, v = .slice av q cv ∧ ∃ l : List Pt, l.length = q ∧ Hid (ScL l) ∧ wx.ownsRow (n5 + 1) 57 2 v q (prs l) ∧ Aft W2 wx) (fun _ i _ => 14 - (intOf i).toNat)
      case atStart => exact ⟨0, by omega, by omega, rfl, none, 0, rfl, [], rfl, hid (fun p h => by cases h), World.ownsRow_nil _ _ _ _, Aft.refl _⟩
      case round =>
        obtain ⟨wx, hwxe⟩ : ∃ x, x = wr := ⟨wr, rfl⟩
        subst hwxe
        obtain ⟨q, hq, hqm, rfl, av, cv, rfl, l, rfl, HS, hown, hwx⟩ := hrel
        have t0 := (hwx.cell hlt2).trans T0.out
        have t1 := (hwx.cell hlt2).trans T1.out
        have hgo : ∀ {Q : Prop}, ((l.length : Int) < m → (l.length : Int) < 14 → Q) → (¬ (l.length : Int) < m → True → Q) → ((l.length : Int) < m → ¬ (l.length : Int) < 14 → Q) → Q := fun h1 h2 h3 => by
          by_cases h : (l.length : Int) < m
          · by_cases h' : (l.length : Int) < 14
            · exact h1 h h'
            · exact h3 h h'
          · exact h2 h trivial
        refine hgo ?_ ?_ ?_
        · intro o3 o4
          clear hgo
          obtain ⟨ap', cp', e', _, hpt⟩ := (HP.out.aft hw2).aft hwx
          simp only [Value.slice.injEq, true_and] at e'
          obtain ⟨rfl, rfl⟩ := e'
          obtain ⟨b', off', x, y, rfl, u0, u1, hb', hx, hy⟩ := hpt l.length (by omega)
          unfold kOk at hx hy
          clear hpt
          go_upto_region 10 with fail
          refine wp_region_flow _ (Aft.refl _) [FV.is (.slice av l.length cv), FV.is (.pointer (some ⟨n5, 1, none⟩)), FV.is (.slice (some ⟨b', off', none⟩) m cp), FV.is (.int .i64 l.length), FV.is (.pointer (some ⟨b', off' + l.length * 2, none⟩)), FV.is (.pointer (some ⟨b', off' + l.length * 2, none⟩)), FV.is (.int .i64 x), fvNum (-9223372036854775808) 2000, fvNum (-2000) 2000, FV.is (.pointer (some ⟨n5, 1, none⟩)), FV.is (.slice (some ⟨b', off', none⟩) m cp), FV.is (.int .i64 l.length), FV.is (.pointer (some ⟨b', off' + l.length * 2, none⟩)), FV.is (.pointer (some ⟨b', off' + l.length * 2 + 1, none⟩)), FV.is (.int .i64 y), fvNum (-9223372036854775808) 2000, fvNum (-2000) 2000, fvPair (-2000) 2000, fvPt1 (-2000) 2000]
            [(0, 40), (1, 41), (2, 42), (3, 43), (4, 44), (5, 45), (6, 46), (7, 47), (8, 48), (9, 49), (10, 50), (11, 51), (12, 52), (13, 53), (14, 54), (15, 55), (16, 56), (17, 57), (18, 58)]
            [[], [], [(1, 41)], [], [(2, 42), (3, 43)], [(4, 44)], [(5, 45)], [(6, 46)], [(7, 47)], [], [(9, 49)], [], [(10, 50), (11, 51)], [(12, 52)], [(13, 53)], [(14, 54)], [(15, 55)], [(8, 48), (16, 56)], [(17, 57)]] (by kernel_rfl) (by kernel_rfl) ?_ ?_
          · refine flowObs_cons (fun W hW => flowOb_nil ?_) ?_
            · go_wp2
              exact ⟨rfl, Aft.refl W⟩
            refine flowObs_cons (fun W hW => flowOb_nil ?_) ?_
            · go_wp2
              exact ⟨rfl, Aft.refl W⟩
            refine flowObs_cons (fun W hW => flowOb_cons fun v0 h0 => flowOb_nil ?_) ?_
            · obtain rfl := h0
              have t0W := (hW.cell (World.block_lt_of_cell? _ _ t0)).trans t0
              have t1W := (hW.cell (World.block_lt_of_cell? _ _ t1)).trans t1
              have u0W := (hW.cell (World.block_lt_of_cell? _ _ u0)).trans u0
              have u1W := (hW.cell (World.block_lt_of_cell? _ _ u1)).trans u1
              go_wp2
              exact ⟨rfl, Aft.refl W⟩
            refine flowObs_cons (fun W hW => flowOb_nil ?_) ?_
            · go_wp2
              exact ⟨rfl, Aft.refl W⟩
            refine flowObs_cons (fun W hW => flowOb_cons fun v0 h0 => flowOb_cons fun v1 h1 => flowOb_nil ?_) ?_
            · obtain rfl := h0
              obtain rfl := h1
              go_wp2
              exact ⟨rfl, Aft.refl W⟩
            refine flowObs_cons (fun W hW => flowOb_cons fun v0 h0 => flowOb_nil ?_) ?_
            · obtain rfl := h0
              go_wp2
              exact ⟨rfl, Aft.refl W⟩
            refine flowObs_cons (fun W hW => flowOb_cons fun v0 h0 => flowOb_nil ?_) ?_
            · obtain rfl := h0
              have t0W := (hW.cell (World.block_lt_of_cell? _ _ t0)).trans t0
              have t1W := (hW.cell (World.block_lt_of_cell? _ _ t1)).trans t1
              have u0W := (hW.cell (World.block_lt_of_cell? _ _ u0)).trans u0
              have u1W := (hW.cell (World.block_lt_of_cell? _ _ u1)).trans u1
              go_wp2
              exact ⟨rfl, Aft.refl W⟩
            refine flowObs_cons (fun W hW => flowOb_cons fun v0 h0 => flowOb_nil ?_) ?_
            · obtain rfl := h0
              go_wp2
              exact ⟨⟨_, rfl, by omega, by omega⟩, Aft.refl W⟩
            refine flowObs_cons (fun W hW => flowOb_cons fun v0 h0 => flowOb_nil ?_) ?_
            · obtain ⟨z, rfl, z1, z2⟩ := h0
              go_wp2
              exact ⟨⟨_, rfl, by omega, by omega⟩, Aft.refl W⟩
            refine flowObs_cons (fun W hW => flowOb_nil ?_) ?_
            · go_wp2
              exact ⟨rfl, Aft.refl W⟩
            refine flowObs_cons (fun W hW => flowOb_cons fun v0 h0 => flowOb_nil ?_) ?_
            · obtain rfl := h0
              have t0W := (hW.cell (World.block_lt_of_cell? _ _ t0)).trans t0
              have t1W := (hW.cell (World.block_lt_of_cell? _ _ t1)).trans t1
              have u0W := (hW.cell (World.block_lt_of_cell? _ _ u0)).trans u0
              have u1W := (hW.cell (World.block_lt_of_cell? _ _ u1)).trans u1
              go_wp2
              exact ⟨rfl, Aft.refl W⟩
            refine flowObs_cons (fun W hW => flowOb_nil ?_) ?_
            · go_wp2
              exact ⟨rfl, Aft.refl W⟩
            refine flowObs_cons (fun W hW => flowOb_cons fun v0 h0 => flowOb_cons fun v1 h1 => flowOb_nil ?_) ?_
            · obtain rfl := h0
              obtain rfl := h1
              go_wp2
              exact ⟨rfl, Aft.refl W⟩
            refine flowObs_cons (fun W hW => flowOb_cons fun v0 h0 => flowOb_nil ?_) ?_
            · obtain rfl := h0
              go_wp2
              exact ⟨rfl, Aft.refl W⟩
            refine flowObs_cons (fun W hW => flowOb_cons fun v0 h0 => flowOb_nil ?_) ?_
            · obtain rfl := h0
              have t0W := (hW.cell (World.block_lt_of_cell? _ _ t0)).trans t0
              have t1W := (hW.cell (World.block_lt_of_cell? _ _ t1)).trans t1
              have u0W := (hW.cell (World.block_lt_of_cell? _ _ u0)).trans u0
              have u1W := (hW.cell (World.block_lt_of_cell? _ _ u1)).trans u1
              go_wp2
              exact ⟨rfl, Aft.refl W⟩
            refine flowObs_cons (fun W hW => flowOb_cons fun v0 h0 => flowOb_nil ?_) ?_
            · obtain rfl := h0
              go_wp2
              exact ⟨⟨_, rfl, by omega, by omega⟩, Aft.refl W⟩
            refine flowObs_cons (fun W hW => flowOb_cons fun v0 h0 => flowOb_nil ?_) ?_
            · obtain ⟨z, rfl, z1, z2⟩ := h0
              go_wp2
              exact ⟨⟨_, rfl, by omega, by omega⟩, Aft.refl W⟩
            refine flowObs_cons (fun W hW => flowOb_cons fun v0 h0 => flowOb_cons fun v1 h1 => flowOb_nil ?_) ?_
            · obtain ⟨z, rfl, z1, z2⟩ := h0
              obtain ⟨z', rfl, z3, z4⟩ := h1
              go_wp2
              exact ⟨⟨_, _, rfl, z1, z2, z3, z4⟩, Aft.refl W⟩
            refine flowObs_cons (fun W hW => flowOb_cons fun v0 h0 => flowOb_nil ?_) flowObs_nil
            · obtain ⟨z, z', rfl, hz⟩ := h0
              go_wp2
              exact ⟨⟨_, _, _, rfl, Rd.new, hz⟩, (Aft.refl W).alloc _⟩
          intro V hV
          refine flowEnd_cons fun v0 h0 => ?_
          obtain rfl := h0
          iterate 17 refine flowEnd_cons fun _ _ => ?_
          refine flowEnd_cons fun v1 h1 => flowEnd_nil ?_
          obtain ⟨g, x', y', rfl, hrd, d1, d2, d3, d4⟩ := h1
          have hownV := ownsRow_aft hown hV
          have hsz := hV.size
          have hsx := hwx.size
          simp only [Act.put, List.setIfInBounds_toArray, List.set_cons_succ, List.set_cons_zero]
          refine wpList_app _ rfl (.tmp 40) (.tmp 58) 49 rfl (n5 + 1) 57 (.agg #[.int .i64 0, .int .i64 0]) 2 16 Try.underlying49 Try.info57 rfl (by decide) _ l.length _ rfl hownV (some ⟨g, 0, none⟩) 1 1 (prs [(x', y')]) rfl (fun h => by cases h) rfl hrd (prs_one _) (by unfold maxLen; omega) (by omega) (by omega) ?_
          intro v' w' hown' hgrow _
          rw [← prs_append] at hown'
          have hfin := (hwx.trans hV).grown hgrow (fun j hj => by have := (hownV.lt j hj).1; omega)
          have HS' : Hid (ScL (l ++ [(x', y')])) := hid (fun p hp => by
            rcases List.mem_append.1 hp with hp | hp
            · exact HS.out p hp
            · simp at hp; subst hp; unfold Sc; simp only; omega)
          obtain ⟨gv, cw, rfl⟩ := ownsRow_some' hown' (by omega)
          go_wp2
          go_roundw
          case rel => exact ⟨l.length + 1, by omega, by omega, by go_num, _, _, rfl, l ++ [(x', y')], by simp, HS', hown', hfin⟩
          case measure => simp only [intOf]; omega
        all_goals
          intro o3 o4
          clear hgo
          have hlen : l.length ≤ 14 := hq
          have HPR : Hid (PRow (n3 + 1) 14 wx (.slice av l.length cv)) := hid ⟨l, ownsRow_mono hown (by omega), hlen, HS.out⟩
          have hwrx := hw2.trans hwx
          have hkx : Kx (fun _ => False) wo wx := aft_kx hwrx
          have B3X := hid (B3.kx b3k.out hkx (fun h => h))
          have F3X := hid (F3.kx fz3k.out hkx (by omega) (fun h => h))
          obtain ⟨y0, y1, y2⟩ := B3X.out
          have HGx := hid (HG.out.aft hwrx)
          have hgo1 := HGx.out.own
          have hsx := hwx.size
          have B1X := hid (B3.kx B1.out hkx (fun h => h))
          have B2X := hid (B3.kx B2'.out hkx (fun h => h))
          have Z2X := hid (F3.kx Z2.out hkx (by have := World.block_lt_of_cell? _ _ B2'.out.1; exact this) (fun h => h))
          have hwwx := hwr.trans hwrx
          have hal := (Aft.refl wx).alloc (.cells #[.int .i64 k, .slice av l.length cv] 51)
          have hrow : ∀ k, (Value.slice a' r c').ownBlock = some k → n3 < k := fun k hk => by have := (hgo1.lt k hk).1; omega
          go_wp2_with (at_builtin; refine wpList_app _ rfl (.tmp 61) (.tmp 66) 43 rfl (n3 + 1) 51 (.agg #[.int .i64 0, .slice none 0 0]) 2 32 Try.underlying43 Try.info51 rfl (by decide) _ r _ rfl (hgo1.alloc _) (some ⟨wx.heap.size, 0, none⟩) 1 1 [.int .i64 k, .slice av l.length cv] rfl (fun h => by cases h) rfl Rd.new (by intro u hu; simp at hu; rcases hu with rfl | rfl <;> rfl) (by unfold maxLen; omega) (by omega) (by simp; omega) ?_; intro v' w' hown' hgrow hloc; rw [show shCells R ++ [.int .i64 k, .slice av l.length cv] = shCells (R ++ [(k, .slice av l.length cv)]) by rw [shCells_append]; rfl] at hown'; obtain ⟨g', cap', rfl⟩ := ownsRow_some' hown' (by omega); have hkg := Kx.trans (aft_kx hal) (grown_kx hgrow n3 hrow); have B3Y := hid (B3.kx B3X.out hkg (by omega)); have F3Y := hid (F3.kx F3X.out hkg (by omega) (by omega)); obtain ⟨y0', y1', y2'⟩ := B3Y.out; obtain ⟨z0', z1', z2'⟩ := F3Y.out)
          have hkg := Kx.trans (aft_kx hal) (grown_kx hgrow n3 hrow)
          have HG' := hid (GS.snoc (HGx.out.aft hal) hk (HPR.out.aft hal) hgrow hown')
          have hfin := (hwwx.alloc (.cells #[.int .i64 k, .slice av l.length cv] 51)).grown hgrow (fun k hk => by have := hrow k hk; omega)
          have P3 := put12 B3Y.out (.slice (some ⟨g', 0, none⟩) (r + 1) cap')
          have hkf := Kx.trans (X := fun j => n3 < j ∨ j = n3) (hkg.sub fun j h => .inl h) (P3.2.sub fun j h => .inr h)
          go_roundw
          case rel => exact ⟨r + 1, by omega, by omega, by go_num, _, _, _, P3.1, F3.set F3Y.out, hid (B1X.out.kx hkf (by omega)), hid (B2X.out.kx hkf (by omega)), hid (F3.kx Z2X.out hkf (World.block_lt_of_cell? _ _ B2X.out.1) (by omega)), hid (HG'.out.kx P3.2 (fun j h => by subst h; omega)), hfin.setCell (p := ⟨n3, 2, none⟩) (by show w.heap.size ≤ n3; omega) _⟩
          case measure => simp only [intOf]; omega
    all_goals
      intro o1 o2
      clear hgo
      have HE := bent_end B2'.out (HG.out.mono (show n2 + 1 ≤ n3 + 1 by omega) (Nat.le_refl _)) hwr (by omega) (by omega) (by omega) W H
      obtain ⟨x0, x1, x2⟩ := b3
      obtain ⟨y0, y1, y2⟩ := B2'.out
      obtain ⟨z0, z1, z2⟩ := Z2.out
      obtain ⟨p0, p1, p2⟩ := B1.out
      clear fz3
      go_wp2
      refine bodyPost_ret (results_fig rfl _ _ n2 W H _ rfl HE.out.1) rfl ?_
      obtain ⟨_, L', e1, e2, e3, e4⟩ := HE.out
      exact ⟨_, rfl, L', e2, by omega, e3, e4⟩
end Go.Proofs.Ytokdclbfjlnnjaa
