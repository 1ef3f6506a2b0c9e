/- The reference's Span and rise. -/
import Derived.Test.YtokdclbfjlnnjaaR27
import Derived.Lib.MinMax
namespace Go.Proofs.Ytokdclbfjlnnjaa
open Go.RowKit Go.BigFrame

theorem results_arr {fn : Func} {p : Tmp} (h : fn.results = #[.cell p 41]) (tmps : Array Value) (w : World) (b : Nat) (x y : Int) (hp : tmps.getD p undef = .pointer (some ⟨b, 0, none⟩)) (hc : B2 w b x y) :
    (results fn tmps).run Try.prog w = .ok (.agg #[.int .i64 x, .int .i64 y]) w := by
  obtain ⟨h0, h1⟩ := hc
  have hp' : tmps[p]?.getD undef = .pointer (some ⟨b, 0, none⟩) := by simpa using hp
  simp only [Go.results, h]
  simp [hp', asAddr, go_sem, h0, h1]
set_option maxRecDepth 100000 in
set_option maxHeartbeats 8000000 in
theorem span_any (k : Int) (vp : Value) (l : List Pt) (w : World) (hl : Prs w vp l) (hne : 0 < l.length) :
    Calls Try.prog 104 #[.agg #[.int .i64 k, vp]] w fun e w' => e = .returned (.agg #[.int .i64 (loF l l.length).1, .int .i64 (hiF l l.length).1]) ∧ Aft w w' := by
  obtain ⟨a, c, rfl, hl⟩ := hl
  have hn := hl.le
  go_enter Try.func104, Try.ntmps104
  go_upto_region 1 with fail
  obtain ⟨W0, eW0, hw0, hlt0, hbox0⟩ := two_boxes w #[.int .i64 k, .slice a l.length c] #[.int .i64 0, .int .i64 0] 51 41
  have hf2 : W0.frozen? ⟨w.heap.size + 1, 0, none⟩ = false ∧ W0.frozen? ⟨w.heap.size + 1, 1, none⟩ = false := by
    rw [← eW0]
    exact ⟨by simp, by simp⟩
  rw [eW0]
  clear eW0
  have hF : Hid (∀ W, Aft W0 W → W.cell? ⟨w.heap.size, 1, none⟩ = some (.slice a l.length c) ∧ B2 W (w.heap.size + 1) 0 0) := hid fun W hW =>
    ⟨(hbox0.out W hW).1 1 _ rfl, (hbox0.out W hW).2 0 _ rfl, (hbox0.out W hW).2 1 _ rfl⟩
  clear hbox0
  obtain ⟨n2, hn2⟩ : ∃ n, w.heap.size + 1 = n := ⟨_, rfl⟩
  rw [hn2] at hF hf2 hlt0 ⊢
  have hn2w : w.heap.size ≤ n2 := by omega
  obtain ⟨n1, hn1⟩ : ∃ n, w.heap.size = n := ⟨_, rfl⟩
  rw [hn1] at hF ⊢
  obtain ⟨n3, hn3⟩ : ∃ n, W0.heap.size = n := ⟨_, rfl⟩
  have HF2 := hid hf2
  clear hn2 hf2
  obtain ⟨p2, -⟩ := hF.out W0 (Aft.refl _)
  have hl0 := hl.aft hw0
  obtain ⟨b, off, x0, y0, rfl, c1, c2, hb, hx0, _⟩ := hl0.rd.pair hl0.ok hne
  rw [Nat.zero_mul, Nat.add_zero] at c1 c2
  have h0 : ptZ l 0 = (x0, y0) := ptZ_get hx0.out
  have hne' : (0 : Int) < l.length := by omega
  go_upto_region 1 with fail
  refine wp_region_flow _ (Aft.refl _) [FV.is (.pointer (some ⟨n1, 1, none⟩)), FV.is (.slice (some ⟨b, off, none⟩) l.length c), FV.is (.pointer (some ⟨b, off, none⟩)), FV.is (.pointer (some ⟨b, off, none⟩)), FV.is (.int .i64 x0), FV.is (.pointer (some ⟨n1, 1, none⟩)), FV.is (.slice (some ⟨b, off, none⟩) l.length c), FV.is (.pointer (some ⟨b, off, none⟩)), FV.is (.pointer (some ⟨b, off, none⟩)), FV.is (.int .i64 x0), FV.is (.agg #[.int .i64 x0, .int .i64 x0]), fvNew2 n3]
    [(0, 5), (1, 6), (2, 7), (3, 8), (4, 9), (5, 10), (6, 11), (7, 12), (8, 13), (9, 14), (10, 15), (11, 3)]
    [[], [(0, 5)], [(1, 6)], [(2, 7)], [(3, 8)], [], [(5, 10)], [(6, 11)], [(7, 12)], [(8, 13)], [(4, 9), (9, 14)], []] (by kernel_rfl) (by kernel_rfl) ?_ ?_
  · refine flowObs_cons (fun W hW => flowOb_nil ?_) ?_
    · go_wp2
      exact ⟨rfl, Aft.refl W⟩
    refine flowObs_cons (fun W hW => flowOb_cons fun v0 h0 => flowOb_nil ?_) ?_
    · obtain rfl := h0
      have p2W := (hW.cell (World.block_lt_of_cell? _ _ p2)).trans p2
      have c1W := (hW.cell (World.block_lt_of_cell? _ _ c1)).trans c1
      have c2W := (hW.cell (World.block_lt_of_cell? _ _ c2)).trans c2
      go_wp2
      exact ⟨rfl, Aft.refl W⟩
    refine flowObs_cons (fun W hW => flowOb_cons fun v0 h0 => flowOb_nil ?_) ?_
    · obtain rfl := h0
      go_wp2
      exact ⟨rfl, Aft.refl W⟩
    refine flowObs_cons (fun W hW => flowOb_cons fun v0 h0 => flowOb_nil ?_) ?_
    · obtain rfl := h0
      go_wp2
      exact ⟨rfl, Aft.refl W⟩
    refine flowObs_cons (fun W hW => flowOb_cons fun v0 h0 => flowOb_nil ?_) ?_
    · obtain rfl := h0
      have p2W := (hW.cell (World.block_lt_of_cell? _ _ p2)).trans p2
      have c1W := (hW.cell (World.block_lt_of_cell? _ _ c1)).trans c1
      have c2W := (hW.cell (World.block_lt_of_cell? _ _ c2)).trans c2
      go_wp2
      exact ⟨rfl, Aft.refl W⟩
    refine flowObs_cons (fun W hW => flowOb_nil ?_) ?_
    · go_wp2
      exact ⟨rfl, Aft.refl W⟩
    refine flowObs_cons (fun W hW => flowOb_cons fun v0 h0 => flowOb_nil ?_) ?_
    · obtain rfl := h0
      have p2W := (hW.cell (World.block_lt_of_cell? _ _ p2)).trans p2
      have c1W := (hW.cell (World.block_lt_of_cell? _ _ c1)).trans c1
      have c2W := (hW.cell (World.block_lt_of_cell? _ _ c2)).trans c2
      go_wp2
      exact ⟨rfl, Aft.refl W⟩
    refine flowObs_cons (fun W hW => flowOb_cons fun v0 h0 => flowOb_nil ?_) ?_
    · obtain rfl := h0
      go_wp2
      exact ⟨rfl, Aft.refl W⟩
    refine flowObs_cons (fun W hW => flowOb_cons fun v0 h0 => flowOb_nil ?_) ?_
    · obtain rfl := h0
      go_wp2
      exact ⟨rfl, Aft.refl W⟩
    refine flowObs_cons (fun W hW => flowOb_cons fun v0 h0 => flowOb_nil ?_) ?_
    · obtain rfl := h0
      have p2W := (hW.cell (World.block_lt_of_cell? _ _ p2)).trans p2
      have c1W := (hW.cell (World.block_lt_of_cell? _ _ c1)).trans c1
      have c2W := (hW.cell (World.block_lt_of_cell? _ _ c2)).trans c2
      go_wp2
      exact ⟨rfl, Aft.refl W⟩
    refine flowObs_cons (fun W hW => flowOb_cons fun v0 h0 => flowOb_cons fun v1 h1 => flowOb_nil ?_) ?_
    · obtain rfl := h0
      obtain rfl := h1
      go_wp2
      exact ⟨rfl, Aft.refl W⟩
    refine flowObs_cons (fun W hW => flowOb_nil ?_) flowObs_nil
    · have hs := hW.size
      go_wp2
      exact ⟨⟨_, rfl, by omega, by simp, cell_new W _ 41 0 _ rfl, cell_new W _ 41 1 _ rfl, frozen_new W _ 41 0, frozen_new W _ 41 1⟩, (Aft.refl W).alloc _⟩
  intro W hW
  iterate 10 refine flowEnd_cons fun _ _ => ?_
  refine flowEnd_cons fun v1 h1 => ?_
  refine flowEnd_cons fun v2 h2 => flowEnd_nil ?_
  obtain rfl := h1
  obtain ⟨g, rfl, hg3, hgW, g0, g1, z0, z1⟩ := h2
  have hput := put2 (W := W) (b := g) ⟨g0, g1⟩ x0 x0
  have hbg : b < g := by omega
  have hwg : w.heap.size ≤ n3 := by have := hw0.size; omega
  go_upto_region 2 with fail
  obtain ⟨Y, eY, hB, hk, hz⟩ : ∃ Y, (W.setCell ⟨g, 0, none⟩ (.int .i64 x0)).setCell ⟨g, 1, none⟩ (.int .i64 x0) = Y ∧ B2 Y g x0 x0 ∧ Kx (fun j => j = g) W Y ∧ (Y.frozen? ⟨g, 0, none⟩ = false ∧ Y.frozen? ⟨g, 1, none⟩ = false) :=
    ⟨_, rfl, hput.1, hput.2, by rw [World.frozen?_setCell, World.frozen?_setCell]; exact z0, by rw [World.frozen?_setCell, World.frozen?_setCell]; exact z1⟩
  rw [eY]
  have hA0 : Aft W0 Y := kx_aft hW (fun j hj => by subst hj; rw [hn3]; exact hg3) hk
  have HB0 : Hid (B2 Y g (loF l 0).1 (hiF l 0).1) := hid (by show B2 Y g (ptZ l 0).1 (ptZ l 0).1; rw [h0]; exact hB)
  have HZ0 := hid hz
  clear eY hput g0 g1 z0 z1 hk hB hz p2 c1 c2
  go_wp2
  go_loopw [4] (fun i wr => ∃ r : Nat, r ≤ l.length ∧ i = .int .i64 r ∧ Hid (B2 wr g (loF l r).1 (hiF l r).1) ∧ Hid (wr.frozen? ⟨g, 0, none⟩ = false ∧ wr.frozen? ⟨g, 1, none⟩ = false) ∧ Aft W0 wr) (fun i _ => l.length - (intOf i).toNat)
  case atStart => exact ⟨0, by omega, rfl, HB0, HZ0, hA0⟩
  case round =>
    clear HB0 HZ0
    obtain ⟨r, hr, rfl, HB, HZ, hwr⟩ := hrel
    obtain ⟨p2, u0, u1⟩ := hF.out wr hwr
    rcases Nat.lt_or_ge r l.length with hltr | hger
    · have hri : (r : Int) < l.length := by omega
      have hlr := hl.aft (hw0.trans hwr)
      obtain ⟨b', off', x, y, e', c1, c2, hb', hx, _⟩ := hlr.rd.pair hlr.ok hltr
      simp only [Option.some.injEq, Addr.mk.injEq, and_true] at e'
      obtain ⟨rfl, rfl⟩ := e'
      have HN : Hid (∀ A : World, B2 A g (min (loF l r).1 x) (max (hiF l r).1 x) → B2 A g (loF l (r + 1)).1 (hiF l (r + 1)).1) := hid fun A h => by
        simp only [loF, hiF, ptZ_get hx.out]
        exact h
      obtain ⟨lo, hlo⟩ : ∃ q, (loF l r).1 = q := ⟨_, rfl⟩
      obtain ⟨hi, hhi⟩ : ∃ q, (hiF l r).1 = q := ⟨_, rfl⟩
      rw [hlo, hhi] at HB HN
      clear hlo hhi
      obtain ⟨d0, d1⟩ := HB.out
      clear u0 u1
      go_upto_region 5 with fail
      refine wp_region_flow _ (Aft.refl _) [FV.is (.pointer (some ⟨g, 0, none⟩)), FV.is (.int .i64 lo), FV.is (.pointer (some ⟨n1, 1, none⟩)), FV.is (.slice (some ⟨b, off, none⟩) l.length c), FV.is (.int .i64 r), FV.is (.pointer (some ⟨b, off + r * 2, none⟩)), FV.is (.pointer (some ⟨b, off + r * 2, none⟩)), FV.is (.int .i64 x), FV.is (.int .i64 (min lo x)), FV.is (.pointer (some ⟨g, 1, none⟩)), FV.is (.int .i64 hi), FV.is (.pointer (some ⟨n1, 1, none⟩)), FV.is (.slice (some ⟨b, off, none⟩) l.length c), FV.is (.int .i64 r), FV.is (.pointer (some ⟨b, off + r * 2, none⟩)), FV.is (.pointer (some ⟨b, off + r * 2, none⟩)), FV.is (.int .i64 x), FV.is (.int .i64 (max hi x)), FV.is (.agg #[.int .i64 (min lo x), .int .i64 (max hi x)])]
        [(0, 23), (1, 24), (2, 25), (3, 26), (4, 27), (5, 28), (6, 29), (7, 30), (8, 31), (9, 32), (10, 33), (11, 34), (12, 35), (13, 36), (14, 37), (15, 38), (16, 39), (17, 40), (18, 41)]
        [[], [(0, 23)], [], [(2, 25)], [], [(3, 26), (4, 27)], [(5, 28)], [(6, 29)], [(1, 24), (7, 30)], [], [(9, 32)], [], [(11, 34)], [], [(12, 35), (13, 36)], [(14, 37)], [(15, 38)], [(10, 33), (16, 39)], [(8, 31), (17, 40)]] (by kernel_rfl) (by kernel_rfl) ?_ ?_
      · refine flowObs_cons (fun W hW => flowOb_nil ?_) ?_
        · go_wp2
          exact ⟨rfl, Aft.refl W⟩
        refine flowObs_cons (fun W hW => flowOb_cons fun v0 h0 => flowOb_nil ?_) ?_
        · obtain rfl := h0
          have p2W := (hW.cell (World.block_lt_of_cell? _ _ p2)).trans p2
          have c1W := (hW.cell (World.block_lt_of_cell? _ _ c1)).trans c1
          have c2W := (hW.cell (World.block_lt_of_cell? _ _ c2)).trans c2
          have d0W := (hW.cell (World.block_lt_of_cell? _ _ d0)).trans d0
          have d1W := (hW.cell (World.block_lt_of_cell? _ _ d1)).trans d1
          go_wp2
          exact ⟨rfl, Aft.refl W⟩
        refine flowObs_cons (fun W hW => flowOb_nil ?_) ?_
        · go_wp2
          exact ⟨rfl, Aft.refl W⟩
        refine flowObs_cons (fun W hW => flowOb_cons fun v0 h0 => flowOb_nil ?_) ?_
        · obtain rfl := h0
          have p2W := (hW.cell (World.block_lt_of_cell? _ _ p2)).trans p2
          have c1W := (hW.cell (World.block_lt_of_cell? _ _ c1)).trans c1
          have c2W := (hW.cell (World.block_lt_of_cell? _ _ c2)).trans c2
          have d0W := (hW.cell (World.block_lt_of_cell? _ _ d0)).trans d0
          have d1W := (hW.cell (World.block_lt_of_cell? _ _ d1)).trans d1
          go_wp2
          exact ⟨rfl, Aft.refl W⟩
        refine flowObs_cons (fun W hW => flowOb_nil ?_) ?_
        · go_wp2
          exact ⟨rfl, Aft.refl W⟩
        refine flowObs_cons (fun W hW => flowOb_cons fun v0 h0 => flowOb_cons fun v1 h1 => flowOb_nil ?_) ?_
        · obtain rfl := h0
          obtain rfl := h1
          go_wp2
          exact ⟨rfl, Aft.refl W⟩
        refine flowObs_cons (fun W hW => flowOb_cons fun v0 h0 => flowOb_nil ?_) ?_
        · obtain rfl := h0
          go_wp2
          exact ⟨rfl, Aft.refl W⟩
        refine flowObs_cons (fun W hW => flowOb_cons fun v0 h0 => flowOb_nil ?_) ?_
        · obtain rfl := h0
          have p2W := (hW.cell (World.block_lt_of_cell? _ _ p2)).trans p2
          have c1W := (hW.cell (World.block_lt_of_cell? _ _ c1)).trans c1
          have c2W := (hW.cell (World.block_lt_of_cell? _ _ c2)).trans c2
          have d0W := (hW.cell (World.block_lt_of_cell? _ _ d0)).trans d0
          have d1W := (hW.cell (World.block_lt_of_cell? _ _ d1)).trans d1
          go_wp2
          exact ⟨rfl, Aft.refl W⟩
        refine flowObs_cons (fun W hW => flowOb_cons fun v0 h0 => flowOb_cons fun v1 h1 => flowOb_nil ?_) ?_
        · obtain rfl := h0
          obtain rfl := h1
          go_wp2
          exact ⟨rfl, Aft.refl W⟩
        refine flowObs_cons (fun W hW => flowOb_nil ?_) ?_
        · go_wp2
          exact ⟨rfl, Aft.refl W⟩
        refine flowObs_cons (fun W hW => flowOb_cons fun v0 h0 => flowOb_nil ?_) ?_
        · obtain rfl := h0
          have p2W := (hW.cell (World.block_lt_of_cell? _ _ p2)).trans p2
          have c1W := (hW.cell (World.block_lt_of_cell? _ _ c1)).trans c1
          have c2W := (hW.cell (World.block_lt_of_cell? _ _ c2)).trans c2
          have d0W := (hW.cell (World.block_lt_of_cell? _ _ d0)).trans d0
          have d1W := (hW.cell (World.block_lt_of_cell? _ _ d1)).trans d1
          go_wp2
          exact ⟨rfl, Aft.refl W⟩
        refine flowObs_cons (fun W hW => flowOb_nil ?_) ?_
        · go_wp2
          exact ⟨rfl, Aft.refl W⟩
        refine flowObs_cons (fun W hW => flowOb_cons fun v0 h0 => flowOb_nil ?_) ?_
        · obtain rfl := h0
          have p2W := (hW.cell (World.block_lt_of_cell? _ _ p2)).trans p2
          have c1W := (hW.cell (World.block_lt_of_cell? _ _ c1)).trans c1
          have c2W := (hW.cell (World.block_lt_of_cell? _ _ c2)).trans c2
          have d0W := (hW.cell (World.block_lt_of_cell? _ _ d0)).trans d0
          have d1W := (hW.cell (World.block_lt_of_cell? _ _ d1)).trans d1
          go_wp2
          exact ⟨rfl, Aft.refl W⟩
        refine flowObs_cons (fun W hW => flowOb_nil ?_) ?_
        · go_wp2
          exact ⟨rfl, Aft.refl W⟩
        refine flowObs_cons (fun W hW => flowOb_cons fun v0 h0 => flowOb_cons fun v1 h1 => flowOb_nil ?_) ?_
        · obtain rfl := h0
          obtain rfl := h1
          go_wp2
          exact ⟨rfl, Aft.refl W⟩
        refine flowObs_cons (fun W hW => flowOb_cons fun v0 h0 => flowOb_nil ?_) ?_
        · obtain rfl := h0
          go_wp2
          exact ⟨rfl, Aft.refl W⟩
        refine flowObs_cons (fun W hW => flowOb_cons fun v0 h0 => flowOb_nil ?_) ?_
        · obtain rfl := h0
          have p2W := (hW.cell (World.block_lt_of_cell? _ _ p2)).trans p2
          have c1W := (hW.cell (World.block_lt_of_cell? _ _ c1)).trans c1
          have c2W := (hW.cell (World.block_lt_of_cell? _ _ c2)).trans c2
          have d0W := (hW.cell (World.block_lt_of_cell? _ _ d0)).trans d0
          have d1W := (hW.cell (World.block_lt_of_cell? _ _ d1)).trans d1
          go_wp2
          exact ⟨rfl, Aft.refl W⟩
        refine flowObs_cons (fun W hW => flowOb_cons fun v0 h0 => flowOb_cons fun v1 h1 => flowOb_nil ?_) ?_
        · obtain rfl := h0
          obtain rfl := h1
          go_wp2
          exact ⟨rfl, Aft.refl W⟩
        refine flowObs_cons (fun W hW => flowOb_cons fun v0 h0 => flowOb_cons fun v1 h1 => flowOb_nil ?_) flowObs_nil
        · obtain rfl := h0
          obtain rfl := h1
          go_wp2
          exact ⟨rfl, Aft.refl W⟩
      intro V hV
      iterate 18 refine flowEnd_cons fun _ _ => ?_
      refine flowEnd_cons fun v3 h3 => flowEnd_nil ?_
      obtain rfl := h3
      have e0 := (hV.cell (World.block_lt_of_cell? _ _ d0)).trans d0
      have e1 := (hV.cell (World.block_lt_of_cell? _ _ d1)).trans d1
      have hgr : g < wr.heap.size := World.block_lt_of_cell? _ _ d0
      have z0 := (hV.frozen (o := 0) hgr).trans HZ.out.1
      have z1 := (hV.frozen (o := 1) hgr).trans HZ.out.2
      have hput := put2 (W := V) (b := g) ⟨e0, e1⟩ (min lo x) (max hi x)
      have HB' := hid (HN.out _ hput.1)
      have HZ' : Hid (((V.setCell ⟨g, 0, none⟩ (.int .i64 (min lo x))).setCell ⟨g, 1, none⟩ (.int .i64 (max hi x))).frozen? ⟨g, 0, none⟩ = false ∧ ((V.setCell ⟨g, 0, none⟩ (.int .i64 (min lo x))).setCell ⟨g, 1, none⟩ (.int .i64 (max hi x))).frozen? ⟨g, 1, none⟩ = false) :=
        hid ⟨by rw [World.frozen?_setCell, World.frozen?_setCell]; exact z0, by rw [World.frozen?_setCell, World.frozen?_setCell]; exact z1⟩
      have hA : Aft W0 ((V.setCell ⟨g, 0, none⟩ (.int .i64 (min lo x))).setCell ⟨g, 1, none⟩ (.int .i64 (max hi x))) := kx_aft (hwr.trans hV) (fun j hj => by subst hj; rw [hn3]; exact hg3) hput.2
      clear hput d0 d1 c1 c2 p2
      go_wp2
      go_roundw
      case rel => exact ⟨r + 1, by omega, by go_num, HB', HZ', hA⟩
      case measure => simp only [intOf]; omega
    · obtain rfl : r = l.length := by omega
      obtain ⟨d0, d1⟩ := HB.out
      obtain ⟨lo, hlo⟩ : ∃ q, (loF l l.length).1 = q := ⟨_, rfl⟩
      obtain ⟨hi, hhi⟩ : ∃ q, (hiF l l.length).1 = q := ⟨_, rfl⟩
      rw [hlo] at d0
      rw [hhi] at d1
      have HLO := hid hlo
      have HHI := hid hhi
      clear hlo hhi
      have f0 := (hwr.frozen (o := 0) (show n2 < W0.heap.size by omega)).trans HF2.out.1
      have f1 := (hwr.frozen (o := 1) (show n2 < W0.heap.size by omega)).trans HF2.out.2
      have HP := hid (put2 (W := wr) (b := n2) ⟨u0, u1⟩ lo hi)
      have hfin := hid (((hw0.trans hwr).setCell (p := ⟨n2, 0, none⟩) (by rw [hn1] at hn2w ⊢; exact hn2w) (.int .i64 lo)).setCell (p := ⟨n2, 1, none⟩) (by rw [hn1] at hn2w ⊢; exact hn2w) (.int .i64 hi))
      go_wp2
      refine bodyPost_ret (results_arr rfl _ _ n2 lo hi rfl HP.out.1) rfl ?_
      exact ⟨by rw [HLO.out, HHI.out], hfin.out⟩

set_option maxRecDepth 100000 in
set_option maxHeartbeats 8000000 in
theorem rise_any (k : Int) (vp : Value) (l : List Pt) (w : World) (hl : Prs w vp l) (hne : 0 < l.length) :
    Calls Try.prog 120 #[.agg #[.int .i64 k, vp]] w fun e w' => e = .returned (.agg #[.int .i64 (loF l l.length).2, .int .i64 (hiF l l.length).2]) ∧ Aft w w' := by
  obtain ⟨a, c, rfl, hl⟩ := hl
  have hn := hl.le
  go_enter Try.func120, Try.ntmps120
  go_upto_region 1 with fail
  obtain ⟨W0, eW0, hw0, hlt0, hbox0⟩ := two_boxes w #[.int .i64 k, .slice a l.length c] #[.int .i64 0, .int .i64 0] 51 41
  have hf2 : W0.frozen? ⟨w.heap.size + 1, 0, none⟩ = false ∧ W0.frozen? ⟨w.heap.size + 1, 1, none⟩ = false := by
    rw [← eW0]
    exact ⟨by simp, by simp⟩
  rw [eW0]
  clear eW0
  have hF : Hid (∀ W, Aft W0 W → W.cell? ⟨w.heap.size, 1, none⟩ = some (.slice a l.length c) ∧ B2 W (w.heap.size + 1) 0 0) := hid fun W hW =>
    ⟨(hbox0.out W hW).1 1 _ rfl, (hbox0.out W hW).2 0 _ rfl, (hbox0.out W hW).2 1 _ rfl⟩
  clear hbox0
  obtain ⟨n2, hn2⟩ : ∃ n, w.heap.size + 1 = n := ⟨_, rfl⟩
  rw [hn2] at hF hf2 hlt0 ⊢
  have hn2w : w.heap.size ≤ n2 := by omega
  obtain ⟨n1, hn1⟩ : ∃ n, w.heap.size = n := ⟨_, rfl⟩
  rw [hn1] at hF ⊢
  obtain ⟨n3, hn3⟩ : ∃ n, W0.heap.size = n := ⟨_, rfl⟩
  have HF2 := hid hf2
  clear hn2 hf2
  obtain ⟨p2, -⟩ := hF.out W0 (Aft.refl _)
  have hl0 := hl.aft hw0
  obtain ⟨b, off, x0, y0, rfl, c1, c2, hb, hx0, _⟩ := hl0.rd.pair hl0.ok hne
  rw [Nat.zero_mul, Nat.add_zero] at c1 c2
  have h0 : ptZ l 0 = (x0, y0) := ptZ_get hx0.out
  have hne' : (0 : Int) < l.length := by omega
  go_upto_region 1 with fail
  refine wp_region_flow _ (Aft.refl _) [FV.is (.pointer (some ⟨n1, 1, none⟩)), FV.is (.slice (some ⟨b, off, none⟩) l.length c), FV.is (.pointer (some ⟨b, off, none⟩)), FV.is (.pointer (some ⟨b, off + 1, none⟩)), FV.is (.int .i64 y0), FV.is (.pointer (some ⟨n1, 1, none⟩)), FV.is (.slice (some ⟨b, off, none⟩) l.length c), FV.is (.pointer (some ⟨b, off, none⟩)), FV.is (.pointer (some ⟨b, off + 1, none⟩)), FV.is (.int .i64 y0), FV.is (.agg #[.int .i64 y0, .int .i64 y0]), fvNew2 n3]
    [(0, 5), (1, 6), (2, 7), (3, 8), (4, 9), (5, 10), (6, 11), (7, 12), (8, 13), (9, 14), (10, 15), (11, 3)]
    [[], [(0, 5)], [(1, 6)], [(2, 7)], [(3, 8)], [], [(5, 10)], [(6, 11)], [(7, 12)], [(8, 13)], [(4, 9), (9, 14)], []] (by kernel_rfl) (by kernel_rfl) ?_ ?_
  · refine flowObs_cons (fun W hW => flowOb_nil ?_) ?_
    · go_wp2
      exact ⟨rfl, Aft.refl W⟩
    refine flowObs_cons (fun W hW => flowOb_cons fun v0 h0 => flowOb_nil ?_) ?_
    · obtain rfl := h0
      have p2W := (hW.cell (World.block_lt_of_cell? _ _ p2)).trans p2
      have c1W := (hW.cell (World.block_lt_of_cell? _ _ c1)).trans c1
      have c2W := (hW.cell (World.block_lt_of_cell? _ _ c2)).trans c2
      go_wp2
      exact ⟨rfl, Aft.refl W⟩
    refine flowObs_cons (fun W hW => flowOb_cons fun v0 h0 => flowOb_nil ?_) ?_
    · obtain rfl := h0
      go_wp2
      exact ⟨rfl, Aft.refl W⟩
    refine flowObs_cons (fun W hW => flowOb_cons fun v0 h0 => flowOb_nil ?_) ?_
    · obtain rfl := h0
      go_wp2
      exact ⟨rfl, Aft.refl W⟩
    refine flowObs_cons (fun W hW => flowOb_cons fun v0 h0 => flowOb_nil ?_) ?_
    · obtain rfl := h0
      have p2W := (hW.cell (World.block_lt_of_cell? _ _ p2)).trans p2
      have c1W := (hW.cell (World.block_lt_of_cell? _ _ c1)).trans c1
      have c2W := (hW.cell (World.block_lt_of_cell? _ _ c2)).trans c2
      go_wp2
      exact ⟨rfl, Aft.refl W⟩
    refine flowObs_cons (fun W hW => flowOb_nil ?_) ?_
    · go_wp2
      exact ⟨rfl, Aft.refl W⟩
    refine flowObs_cons (fun W hW => flowOb_cons fun v0 h0 => flowOb_nil ?_) ?_
    · obtain rfl := h0
      have p2W := (hW.cell (World.block_lt_of_cell? _ _ p2)).trans p2
      have c1W := (hW.cell (World.block_lt_of_cell? _ _ c1)).trans c1
      have c2W := (hW.cell (World.block_lt_of_cell? _ _ c2)).trans c2
      go_wp2
      exact ⟨rfl, Aft.refl W⟩
    refine flowObs_cons (fun W hW => flowOb_cons fun v0 h0 => flowOb_nil ?_) ?_
    · obtain rfl := h0
      go_wp2
      exact ⟨rfl, Aft.refl W⟩
    refine flowObs_cons (fun W hW => flowOb_cons fun v0 h0 => flowOb_nil ?_) ?_
    · obtain rfl := h0
      go_wp2
      exact ⟨rfl, Aft.refl W⟩
    refine flowObs_cons (fun W hW => flowOb_cons fun v0 h0 => flowOb_nil ?_) ?_
    · obtain rfl := h0
      have p2W := (hW.cell (World.block_lt_of_cell? _ _ p2)).trans p2
      have c1W := (hW.cell (World.block_lt_of_cell? _ _ c1)).trans c1
      have c2W := (hW.cell (World.block_lt_of_cell? _ _ c2)).trans c2
      go_wp2
      exact ⟨rfl, Aft.refl W⟩
    refine flowObs_cons (fun W hW => flowOb_cons fun v0 h0 => flowOb_cons fun v1 h1 => flowOb_nil ?_) ?_
    · obtain rfl := h0
      obtain rfl := h1
      go_wp2
      exact ⟨rfl, Aft.refl W⟩
    refine flowObs_cons (fun W hW => flowOb_nil ?_) flowObs_nil
    · have hs := hW.size
      go_wp2
      exact ⟨⟨_, rfl, by omega, by simp, cell_new W _ 41 0 _ rfl, cell_new W _ 41 1 _ rfl, frozen_new W _ 41 0, frozen_new W _ 41 1⟩, (Aft.refl W).alloc _⟩
  intro W hW
  iterate 10 refine flowEnd_cons fun _ _ => ?_
  refine flowEnd_cons fun v1 h1 => ?_
  refine flowEnd_cons fun v2 h2 => flowEnd_nil ?_
  obtain rfl := h1
  obtain ⟨g, rfl, hg3, hgW, g0, g1, z0, z1⟩ := h2
  have hput := put2 (W := W) (b := g) ⟨g0, g1⟩ y0 y0
  have hbg : b < g := by omega
  have hwg : w.heap.size ≤ n3 := by have := hw0.size; omega
  go_upto_region 2 with fail
  obtain ⟨Y, eY, hB, hk, hz⟩ : ∃ Y, (W.setCell ⟨g, 0, none⟩ (.int .i64 y0)).setCell ⟨g, 1, none⟩ (.int .i64 y0) = Y ∧ B2 Y g y0 y0 ∧ Kx (fun j => j = g) W Y ∧ (Y.frozen? ⟨g, 0, none⟩ = false ∧ Y.frozen? ⟨g, 1, none⟩ = false) :=
    ⟨_, rfl, hput.1, hput.2, by rw [World.frozen?_setCell, World.frozen?_setCell]; exact z0, by rw [World.frozen?_setCell, World.frozen?_setCell]; exact z1⟩
  rw [eY]
  have hA0 : Aft W0 Y := kx_aft hW (fun j hj => by subst hj; rw [hn3]; exact hg3) hk
  have HB0 : Hid (B2 Y g (loF l 0).2 (hiF l 0).2) := hid (by show B2 Y g (ptZ l 0).2 (ptZ l 0).2; rw [h0]; exact hB)
  have HZ0 := hid hz
  clear eY hput g0 g1 z0 z1 hk hB hz p2 c1 c2
  go_wp2
  go_loopw [4] (fun i wr => ∃ r : Nat, r ≤ l.length ∧ i = .int .i64 r ∧ Hid (B2 wr g (loF l r).2 (hiF l r).2) ∧ Hid (wr.frozen? ⟨g, 0, none⟩ = false ∧ wr.frozen? ⟨g, 1, none⟩ = false) ∧ Aft W0 wr) (fun i _ => l.length - (intOf i).toNat)
  case atStart => exact ⟨0, by omega, rfl, HB0, HZ0, hA0⟩
  case round =>
    clear HB0 HZ0
    obtain ⟨r, hr, rfl, HB, HZ, hwr⟩ := hrel
    obtain ⟨p2, u0, u1⟩ := hF.out wr hwr
    rcases Nat.lt_or_ge r l.length with hltr | hger
    · have hri : (r : Int) < l.length := by omega
      have hlr := hl.aft (hw0.trans hwr)
      obtain ⟨b', off', x, y, e', c1, c2, hb', hx, _⟩ := hlr.rd.pair hlr.ok hltr
      simp only [Option.some.injEq, Addr.mk.injEq, and_true] at e'
      obtain ⟨rfl, rfl⟩ := e'
      have HN : Hid (∀ A : World, B2 A g (min (loF l r).2 y) (max (hiF l r).2 y) → B2 A g (loF l (r + 1)).2 (hiF l (r + 1)).2) := hid fun A h => by
        simp only [loF, hiF, ptZ_get hx.out]
        exact h
      obtain ⟨lo, hlo⟩ : ∃ q, (loF l r).2 = q := ⟨_, rfl⟩
      obtain ⟨hi, hhi⟩ : ∃ q, (hiF l r).2 = q := ⟨_, rfl⟩
      rw [hlo, hhi] at HB HN
      clear hlo hhi
      obtain ⟨d0, d1⟩ := HB.out
      clear u0 u1
      go_upto_region 5 with fail
      refine wp_region_flow _ (Aft.refl _) [FV.is (.pointer (some ⟨g, 0, none⟩)), FV.is (.int .i64 lo), FV.is (.pointer (some ⟨n1, 1, none⟩)), FV.is (.slice (some ⟨b, off, none⟩) l.length c), FV.is (.int .i64 r), FV.is (.pointer (some ⟨b, off + r * 2, none⟩)), FV.is (.pointer (some ⟨b, off + r * 2 + 1, none⟩)), FV.is (.int .i64 y), FV.is (.int .i64 (min lo y)), FV.is (.pointer (some ⟨g, 1, none⟩)), FV.is (.int .i64 hi), FV.is (.pointer (some ⟨n1, 1, none⟩)), FV.is (.slice (some ⟨b, off, none⟩) l.length c), FV.is (.int .i64 r), FV.is (.pointer (some ⟨b, off + r * 2, none⟩)), FV.is (.pointer (some ⟨b, off + r * 2 + 1, none⟩)), FV.is (.int .i64 y), FV.is (.int .i64 (max hi y)), FV.is (.agg #[.int .i64 (min lo y), .int .i64 (max hi y)])]
        [(0, 23), (1, 24), (2, 25), (3, 26), (4, 27), (5, 28), (6, 29), (7, 30), (8, 31), (9, 32), (10, 33), (11, 34), (12, 35), (13, 36), (14, 37), (15, 38), (16, 39), (17, 40), (18, 41)]
        [[], [(0, 23)], [], [(2, 25)], [], [(3, 26), (4, 27)], [(5, 28)], [(6, 29)], [(1, 24), (7, 30)], [], [(9, 32)], [], [(11, 34)], [], [(12, 35), (13, 36)], [(14, 37)], [(15, 38)], [(10, 33), (16, 39)], [(8, 31), (17, 40)]] (by kernel_rfl) (by kernel_rfl) ?_ ?_
      · refine flowObs_cons (fun W hW => flowOb_nil ?_) ?_
        · go_wp2
          exact ⟨rfl, Aft.refl W⟩
        refine flowObs_cons (fun W hW => flowOb_cons fun v0 h0 => flowOb_nil ?_) ?_
        · obtain rfl := h0
          have p2W := (hW.cell (World.block_lt_of_cell? _ _ p2)).trans p2
          have c1W := (hW.cell (World.block_lt_of_cell? _ _ c1)).trans c1
          have c2W := (hW.cell (World.block_lt_of_cell? _ _ c2)).trans c2
          have d0W := (hW.cell (World.block_lt_of_cell? _ _ d0)).trans d0
          have d1W := (hW.cell (World.block_lt_of_cell? _ _ d1)).trans d1
          go_wp2
          exact ⟨rfl, Aft.refl W⟩
        refine flowObs_cons (fun W hW => flowOb_nil ?_) ?_
        · go_wp2
          exact ⟨rfl, Aft.refl W⟩
        refine flowObs_cons (fun W hW => flowOb_cons fun v0 h0 => flowOb_nil ?_) ?_
        · obtain rfl := h0
          have p2W := (hW.cell (World.block_lt_of_cell? _ _ p2)).trans p2
          have c1W := (hW.cell (World.block_lt_of_cell? _ _ c1)).trans c1
          have c2W := (hW.cell (World.block_lt_of_cell? _ _ c2)).trans c2
          have d0W := (hW.cell (World.block_lt_of_cell? _ _ d0)).trans d0
          have d1W := (hW.cell (World.block_lt_of_cell? _ _ d1)).trans d1
          go_wp2
          exact ⟨rfl, Aft.refl W⟩
        refine flowObs_cons (fun W hW => flowOb_nil ?_) ?_
        · go_wp2
          exact ⟨rfl, Aft.refl W⟩
        refine flowObs_cons (fun W hW => flowOb_cons fun v0 h0 => flowOb_cons fun v1 h1 => flowOb_nil ?_) ?_
        · obtain rfl := h0
          obtain rfl := h1
          go_wp2
          exact ⟨rfl, Aft.refl W⟩
        refine flowObs_cons (fun W hW => flowOb_cons fun v0 h0 => flowOb_nil ?_) ?_
        · obtain rfl := h0
          go_wp2
          exact ⟨rfl, Aft.refl W⟩
        refine flowObs_cons (fun W hW => flowOb_cons fun v0 h0 => flowOb_nil ?_) ?_
        · obtain rfl := h0
          have p2W := (hW.cell (World.block_lt_of_cell? _ _ p2)).trans p2
          have c1W := (hW.cell (World.block_lt_of_cell? _ _ c1)).trans c1
          have c2W := (hW.cell (World.block_lt_of_cell? _ _ c2)).trans c2
          have d0W := (hW.cell (World.block_lt_of_cell? _ _ d0)).trans d0
          have d1W := (hW.cell (World.block_lt_of_cell? _ _ d1)).trans d1
          go_wp2
          exact ⟨rfl, Aft.refl W⟩
        refine flowObs_cons (fun W hW => flowOb_cons fun v0 h0 => flowOb_cons fun v1 h1 => flowOb_nil ?_) ?_
        · obtain rfl := h0
          obtain rfl := h1
          go_wp2
          exact ⟨rfl, Aft.refl W⟩
        refine flowObs_cons (fun W hW => flowOb_nil ?_) ?_
        · go_wp2
          exact ⟨rfl, Aft.refl W⟩
        refine flowObs_cons (fun W hW => flowOb_cons fun v0 h0 => flowOb_nil ?_) ?_
        · obtain rfl := h0
          have p2W := (hW.cell (World.block_lt_of_cell? _ _ p2)).trans p2
          have c1W := (hW.cell (World.block_lt_of_cell? _ _ c1)).trans c1
          have c2W := (hW.cell (World.block_lt_of_cell? _ _ c2)).trans c2
          have d0W := (hW.cell (World.block_lt_of_cell? _ _ d0)).trans d0
          have d1W := (hW.cell (World.block_lt_of_cell? _ _ d1)).trans d1
          go_wp2
          exact ⟨rfl, Aft.refl W⟩
        refine flowObs_cons (fun W hW => flowOb_nil ?_) ?_
        · go_wp2
          exact ⟨rfl, Aft.refl W⟩
        refine flowObs_cons (fun W hW => flowOb_cons fun v0 h0 => flowOb_nil ?_) ?_
        · obtain rfl := h0
          have p2W := (hW.cell (World.block_lt_of_cell? _ _ p2)).trans p2
          have c1W := (hW.cell (World.block_lt_of_cell? _ _ c1)).trans c1
          have c2W := (hW.cell (World.block_lt_of_cell? _ _ c2)).trans c2
          have d0W := (hW.cell (World.block_lt_of_cell? _ _ d0)).trans d0
          have d1W := (hW.cell (World.block_lt_of_cell? _ _ d1)).trans d1
          go_wp2
          exact ⟨rfl, Aft.refl W⟩
        refine flowObs_cons (fun W hW => flowOb_nil ?_) ?_
        · go_wp2
          exact ⟨rfl, Aft.refl W⟩
        refine flowObs_cons (fun W hW => flowOb_cons fun v0 h0 => flowOb_cons fun v1 h1 => flowOb_nil ?_) ?_
        · obtain rfl := h0
          obtain rfl := h1
          go_wp2
          exact ⟨rfl, Aft.refl W⟩
        refine flowObs_cons (fun W hW => flowOb_cons fun v0 h0 => flowOb_nil ?_) ?_
        · obtain rfl := h0
          go_wp2
          exact ⟨rfl, Aft.refl W⟩
        refine flowObs_cons (fun W hW => flowOb_cons fun v0 h0 => flowOb_nil ?_) ?_
        · obtain rfl := h0
          have p2W := (hW.cell (World.block_lt_of_cell? _ _ p2)).trans p2
          have c1W := (hW.cell (World.block_lt_of_cell? _ _ c1)).trans c1
          have c2W := (hW.cell (World.block_lt_of_cell? _ _ c2)).trans c2
          have d0W := (hW.cell (World.block_lt_of_cell? _ _ d0)).trans d0
          have d1W := (hW.cell (World.block_lt_of_cell? _ _ d1)).trans d1
          go_wp2
          exact ⟨rfl, Aft.refl W⟩
        refine flowObs_cons (fun W hW => flowOb_cons fun v0 h0 => flowOb_cons fun v1 h1 => flowOb_nil ?_) ?_
        · obtain rfl := h0
          obtain rfl := h1
          go_wp2
          exact ⟨rfl, Aft.refl W⟩
        refine flowObs_cons (fun W hW => flowOb_cons fun v0 h0 => flowOb_cons fun v1 h1 => flowOb_nil ?_) flowObs_nil
        · obtain rfl := h0
          obtain rfl := h1
          go_wp2
          exact ⟨rfl, Aft.refl W⟩
      intro V hV
      iterate 18 refine flowEnd_cons fun _ _ => ?_
      refine flowEnd_cons fun v3 h3 => flowEnd_nil ?_
      obtain rfl := h3
      have e0 := (hV.cell (World.block_lt_of_cell? _ _ d0)).trans d0
      have e1 := (hV.cell (World.block_lt_of_cell? _ _ d1)).trans d1
      have hgr : g < wr.heap.size := World.block_lt_of_cell? _ _ d0
      have z0 := (hV.frozen (o := 0) hgr).trans HZ.out.1
      have z1 := (hV.frozen (o := 1) hgr).trans HZ.out.2
      have hput := put2 (W := V) (b := g) ⟨e0, e1⟩ (min lo y) (max hi y)
      have HB' := hid (HN.out _ hput.1)
      have HZ' : Hid (((V.setCell ⟨g, 0, none⟩ (.int .i64 (min lo y))).setCell ⟨g, 1, none⟩ (.int .i64 (max hi y))).frozen? ⟨g, 0, none⟩ = false ∧ ((V.setCell ⟨g, 0, none⟩ (.int .i64 (min lo y))).setCell ⟨g, 1, none⟩ (.int .i64 (max hi y))).frozen? ⟨g, 1, none⟩ = false) :=
        hid ⟨by rw [World.frozen?_setCell, World.frozen?_setCell]; exact z0, by rw [World.frozen?_setCell, World.frozen?_setCell]; exact z1⟩
      have hA : Aft W0 ((V.setCell ⟨g, 0, none⟩ (.int .i64 (min lo y))).setCell ⟨g, 1, none⟩ (.int .i64 (max hi y))) := kx_aft (hwr.trans hV) (fun j hj => by subst hj; rw [hn3]; exact hg3) hput.2
      clear hput d0 d1 c1 c2 p2
      go_wp2
      go_roundw
      case rel => exact ⟨r + 1, by omega, by go_num, HB', HZ', hA⟩
      case measure => simp only [intOf]; omega
    · obtain rfl : r = l.length := by omega
      obtain ⟨d0, d1⟩ := HB.out
      obtain ⟨lo, hlo⟩ : ∃ q, (loF l l.length).2 = q := ⟨_, rfl⟩
      obtain ⟨hi, hhi⟩ : ∃ q, (hiF l l.length).2 = q := ⟨_, rfl⟩
      rw [hlo] at d0
      rw [hhi] at d1
      have HLO := hid hlo
      have HHI := hid hhi
      clear hlo hhi
      have f0 := (hwr.frozen (o := 0) (show n2 < W0.heap.size by omega)).trans HF2.out.1
      have f1 := (hwr.frozen (o := 1) (show n2 < W0.heap.size by omega)).trans HF2.out.2
      have HP := hid (put2 (W := wr) (b := n2) ⟨u0, u1⟩ lo hi)
      have hfin := hid (((hw0.trans hwr).setCell (p := ⟨n2, 0, none⟩) (by rw [hn1] at hn2w ⊢; exact hn2w) (.int .i64 lo)).setCell (p := ⟨n2, 1, none⟩) (by rw [hn1] at hn2w ⊢; exact hn2w) (.int .i64 hi))
      go_wp2
      refine bodyPost_ret (results_arr rfl _ _ n2 lo hi rfl HP.out.1) rfl ?_
      exact ⟨by rw [HLO.out, HHI.out], hfin.out⟩
end Go.Proofs.Ytokdclbfjlnnjaa
