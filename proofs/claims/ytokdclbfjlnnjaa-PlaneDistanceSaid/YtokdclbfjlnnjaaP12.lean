/- The program's Box, Left, Longer. -/
import Derived.Test.YtokdclbfjlnnjaaP11
import Derived.Deep.RegionHeld3
namespace Go.Proofs.Ytokdclbfjlnnjaa
open Go.RowKit Go.BigFrame

theorem results_pts {fn : Func} {p q : Tmp} (h : fn.results = #[.cell p 57, .cell q 57]) (tmps : Array Value) (w : World) (b b' : Nat) (x y x' y' : Int) (hp : tmps.getD p undef = .pointer (some ⟨b, 0, none⟩)) (hq : tmps.getD q undef = .pointer (some ⟨b', 0, none⟩)) (hc : B2 w b x y) (hc' : B2 w b' x' y') :
    (results fn tmps).run Try.prog w = .ok (.tuple #[.agg #[.int .i64 x, .int .i64 y], .agg #[.int .i64 x', .int .i64 y']]) w := by
  have hp' : tmps[p]?.getD undef = .pointer (some ⟨b, 0, none⟩) := by simpa using hp
  have hq' : tmps[q]?.getD undef = .pointer (some ⟨b', 0, none⟩) := by simpa using hq
  obtain ⟨h1, h2⟩ := hc
  obtain ⟨h3, h4⟩ := hc'
  simp only [Go.results, h]
  simp [hp', hq', asAddr, go_sem, h1, h2, h3, h4]
def loF (l : List Pt) : Nat → Pt
  | 0 => ptZ l 0
  | r + 1 => (min (loF l r).1 (ptZ l r).1, min (loF l r).2 (ptZ l r).2)
def hiF (l : List Pt) : Nat → Pt
  | 0 => ptZ l 0
  | r + 1 => (max (hiF l r).1 (ptZ l r).1, max (hiF l r).2 (ptZ l r).2)
def boxZ (l : List Pt) : Pt × Pt := if l = [] then ((0, 0), (0, 0)) else (loF l l.length, hiF l l.length)

theorem two_fresh (W1 : World) (x y : Int) : B2 (((W1.alloc (.cells #[.int .i64 x, .int .i64 y] 57)).alloc (.cells #[.int .i64 x, .int .i64 y] 57)).drew) W1.heap.size x y ∧ B2 (((W1.alloc (.cells #[.int .i64 x, .int .i64 y] 57)).alloc (.cells #[.int .i64 x, .int .i64 y] 57)).drew) (W1.heap.size + 1) x y ∧
    ((((W1.alloc (.cells #[.int .i64 x, .int .i64 y] 57)).alloc (.cells #[.int .i64 x, .int .i64 y] 57)).drew).frozen? ⟨W1.heap.size, 0, none⟩ = false ∧ (((W1.alloc (.cells #[.int .i64 x, .int .i64 y] 57)).alloc (.cells #[.int .i64 x, .int .i64 y] 57)).drew).frozen? ⟨W1.heap.size, 1, none⟩ = false) ∧
    ((((W1.alloc (.cells #[.int .i64 x, .int .i64 y] 57)).alloc (.cells #[.int .i64 x, .int .i64 y] 57)).drew).frozen? ⟨W1.heap.size + 1, 0, none⟩ = false ∧ (((W1.alloc (.cells #[.int .i64 x, .int .i64 y] 57)).alloc (.cells #[.int .i64 x, .int .i64 y] 57)).drew).frozen? ⟨W1.heap.size + 1, 1, none⟩ = false) ∧
    Aft W1 (((W1.alloc (.cells #[.int .i64 x, .int .i64 y] 57)).alloc (.cells #[.int .i64 x, .int .i64 y] 57)).drew) := by
  have h := box_cells W1 #[.int .i64 x, .int .i64 y] #[.int .i64 x, .int .i64 y] 57 57 _ (Aft.refl _).drew
  have f1 := fun o => ((Aft.refl (W1.alloc (.cells #[.int .i64 x, .int .i64 y] 57))).alloc (.cells #[.int .i64 x, .int .i64 y] 57)).frozen (b := W1.heap.size) (o := o) (by simp)
  have f2 := fun o => frozen_new W1 #[.int .i64 x, .int .i64 y] 57 o
  have f3 := fun o => frozen_new (W1.alloc (.cells #[.int .i64 x, .int .i64 y] 57)) #[.int .i64 x, .int .i64 y] 57 o
  simp only [World.size_alloc] at f3
  exact ⟨⟨h.1 0 _ rfl, h.1 1 _ rfl⟩, ⟨h.2 0 _ rfl, h.2 1 _ rfl⟩, ⟨(f1 0).trans (f2 0), (f1 1).trans (f2 1)⟩, ⟨f3 0, f3 1⟩, (((Aft.refl W1).alloc _).alloc _).drew⟩
theorem held_store {W : World} {g n o : Nat} {v : Value} (h : W.cell? ⟨g, o, none⟩ = some v) (hne : n ≠ g) (u u' : Value) : ((W.setCell ⟨n, 0, none⟩ u).setCell ⟨n, 1, none⟩ u').drew.cell? ⟨g, o, none⟩ = some v :=
  (World.cell?_of_block (a := ⟨g, o, none⟩) ((Below.heap_setCell _ ⟨n, 1, none⟩ _ g (fun e => hne e.symm)).trans (Below.heap_setCell _ ⟨n, 0, none⟩ _ g (fun e => hne e.symm)))).trans h
theorem held_store2 {W : World} {g n m o : Nat} {v : Value} (h : W.cell? ⟨g, o, none⟩ = some v) (hne : n ≠ g) (hne' : m ≠ g) (u u' t t' : Value) : ((((W.setCell ⟨n, 0, none⟩ u).setCell ⟨n, 1, none⟩ u').setCell ⟨m, 0, none⟩ t).setCell ⟨m, 1, none⟩ t').drew.cell? ⟨g, o, none⟩ = some v :=
  held_store (held_store h hne u u' : (((W.setCell ⟨n, 0, none⟩ u).setCell ⟨n, 1, none⟩ u').cell? ⟨g, o, none⟩ = some v)) hne' t t'
theorem put2 {W : World} {b : Nat} {x0 y0 : Int} (h : B2 W b x0 y0) (x y : Int) :
    B2 ((W.setCell ⟨b, 0, none⟩ (.int .i64 x)).setCell ⟨b, 1, none⟩ (.int .i64 y)) b x y ∧ Kx (fun j => j = b) W ((W.setCell ⟨b, 0, none⟩ (.int .i64 x)).setCell ⟨b, 1, none⟩ (.int .i64 y)) := by
  refine ⟨⟨?_, World.cell?_setCell_same' _ _ _ (by rw [World.cell?_setCell_other _ _ _ _ (by simp), h.2]; rfl)⟩, Kx.trans (X := fun j => j = b) (Kx.setCell (p := ⟨b, 0, none⟩) _ rfl) (Kx.setCell (p := ⟨b, 1, none⟩) _ rfl)⟩
  rw [World.cell?_setCell_other _ _ _ _ (by simp)]
  exact World.cell?_setCell_same' _ _ _ (by rw [h.1]; rfl)
theorem B2.kx {X : Nat → Prop} {A B : World} {b : Nat} {x y : Int} (h : B2 A b x y) (hk : Kx X A B) (hb : ¬ X b) : B2 B b x y :=
  ⟨(hk.cell (World.block_lt_of_cell? _ _ h.1) hb).trans h.1, (hk.cell (World.block_lt_of_cell? _ _ h.2) hb).trans h.2⟩

set_option maxRecDepth 100000 in
set_option maxHeartbeats 4000000 in
theorem box_any (k : Int) (vp : Value) (l : List Pt) (w : World) (hl : Prs w vp l) :
    Calls Try.prog 33 #[.agg #[.int .i64 k, vp]] w fun e w' => e = .returned (.tuple #[pr (boxZ l).1, pr (boxZ l).2]) ∧ Aft w w' := by
  have hP := hl
  obtain ⟨a, c, rfl, hl⟩ := hl
  have hn := hl.le
  obtain ⟨W0, eW0, hw0, hlt, hbox⟩ := two_boxes w #[.int .i64 k, .slice a l.length c] #[.int .i64 0, .int .i64 0] 51 57
  obtain ⟨W1, eW1, hw1, hlt1, hbox1⟩ := one_box W0 #[.int .i64 0, .int .i64 0] 57
  have hfz : W1.frozen? ⟨w.heap.size + 1, 0, none⟩ = false ∧ W1.frozen? ⟨w.heap.size + 1, 1, none⟩ = false ∧ W1.frozen? ⟨W0.heap.size, 0, none⟩ = false ∧ W1.frozen? ⟨W0.heap.size, 1, none⟩ = false := by
    refine ⟨?_, ?_, eW1 ▸ frozen_new _ _ _ _, eW1 ▸ frozen_new _ _ _ _⟩
    · rw [hw1.frozen (by omega), ← eW0]
      simp
    · rw [hw1.frozen (by omega), ← eW0]
      simp
  go_enter Try.func33, Try.ntmps33
  go_upto_region 1 with fail
  clear eW0 eW1
  have hF : Hid (∀ W, Aft W0 W → W.cell? ⟨w.heap.size, 0, none⟩ = some (.int .i64 k) ∧ W.cell? ⟨w.heap.size, 1, none⟩ = some (.slice a l.length c)) := hid fun W hW => ⟨(hbox.out W hW).1 0 _ rfl, (hbox.out W hW).1 1 _ rfl⟩
  have hB2 : B2 W1 (w.heap.size + 1) 0 0 := ⟨(hbox.out W1 hw1).2 0 _ rfl, (hbox.out W1 hw1).2 1 _ rfl⟩
  have hB3 : B2 W1 W0.heap.size 0 0 := ⟨hbox1.out W1 (Aft.refl _) 0 _ rfl, hbox1.out W1 (Aft.refl _) 1 _ rfl⟩
  clear hbox hbox1
  have hz0 := hw0.size
  have hz1 := hw1.size
  have hw01 := hw0.trans hw1
  obtain ⟨p1, p2⟩ := hF.out W1 hw1
  generalize hn0 : w.heap.size = n0 at *
  generalize hn3 : W0.heap.size = n3 at *
  obtain ⟨f1, f2, f3, f4⟩ := hfz
  obtain ⟨d1, d2⟩ := hB2
  obtain ⟨d3, d4⟩ := hB3
  by_cases hl0 : l = []
  · subst hl0
    have P2 := put2 (W := W1) (b := n0 + 1) ⟨d1, d2⟩ 0 0
    have P3 := put2 (b := n3) (B2.kx ⟨d3, d4⟩ P2.2 (by omega)) 0 0
    have HE := hid (kx_aft (X := fun j => j = n0 + 1 ∨ j = n3) hw01 (fun j hj => by rcases hj with rfl | rfl <;> omega) ((P2.2.sub fun j h => .inl h).trans (P3.2.sub fun j h => .inr h)))
    have HA := hid (B2.kx P2.1 P3.2 (by omega))
    have HB := hid P3.1
    clear P2 P3
    go_wp2
    refine bodyPost_ret (results_pts rfl _ _ (n0 + 1) n3 0 0 0 0 rfl rfl HA.out HB.out) rfl ?_
    exact ⟨rfl, HE.out⟩
  · have hpos : 0 < l.length := List.length_pos_iff.2 hl0
    have hpi : (0 : Int) < l.length := by omega
    have hb0 : ((l.length : Int) == 0) = false := by simp; exact hl0
    have hlr := hl.aft hw01
    obtain ⟨b, off, x, y, rfl, c1, c2, hb, hx, _⟩ := hlr.rd.pair hlr.ok (show 0 < l.length by omega)
    rw [Nat.zero_mul, Nat.add_zero] at c1 c2
    go_upto_region 3 with fail
    go_cut [4, 5] (fun s4 s5 wx => ∃ g4 g5 : Nat, s4 = .pointer (some ⟨g4, 0, none⟩) ∧ s5 = .pointer (some ⟨g5, 0, none⟩) ∧ g4 ≠ g5 ∧ W1.heap.size ≤ g4 ∧ W1.heap.size ≤ g5 ∧ B2 wx g4 x y ∧ B2 wx g5 x y ∧ (wx.frozen? ⟨g4, 0, none⟩ = false ∧ wx.frozen? ⟨g4, 1, none⟩ = false) ∧ (wx.frozen? ⟨g5, 0, none⟩ = false ∧ wx.frozen? ⟨g5, 1, none⟩ = false) ∧ Aft W1 wx)
    case first =>
      go_region_held3 (fun W => W.cell? ⟨n0, 1, none⟩ = some (.slice (some ⟨b, off, none⟩) l.length c) ∧ W.cell? ⟨b, off, none⟩ = some (.int .i64 x) ∧ W.cell? ⟨b, off + 1, none⟩ = some (.int .i64 y))
        (go_keep)
        (fail)
      all_goals go_wp2
      all_goals go_meet
      · have hh := two_fresh W1 x y
        exact ⟨W1.heap.size, W1.heap.size + 1, rfl, rfl, by omega, by omega, by omega, hh⟩
      · obtain ⟨h1, h2, h3, h4, h5⟩ := two_fresh W1 x y
        exact ⟨W1.heap.size + 1, W1.heap.size, rfl, rfl, by omega, by omega, by omega, h2, h1, h4, h3, h5⟩
    case rest =>
      obtain ⟨g4, g5, rfl, rfl, hne, hg4, hg5, hb4, hb5, hf4, hf5, hwx⟩ := hcut
      have hw1x := hw01.trans hwx
      have hzx := hwx.size
      have hlx := hl.aft hw1x
      have hgB4 := World.block_lt_of_cell? _ _ hb4.1
      have hgB5 := World.block_lt_of_cell? _ _ hb5.1
      have e0 : ptZ l 0 = (x, y) := ptZ_get hx.out
      have hinit4 : B2 wc g4 (loF l 0).1 (loF l 0).2 := by rw [show loF l 0 = (x, y) from e0]; exact hb4
      have hinit5 : B2 wc g5 (hiF l 0).1 (hiF l 0).2 := by rw [show hiF l 0 = (x, y) from e0]; exact hb5
      clear hb4 hb5 e0
      have p1x := (hwx.cell (World.block_lt_of_cell? _ _ p1)).trans p1
      have p2x := (hwx.cell (World.block_lt_of_cell? _ _ p2)).trans p2
      have d1x := (hwx.cell (World.block_lt_of_cell? _ _ d1)).trans d1
      have d2x := (hwx.cell (World.block_lt_of_cell? _ _ d2)).trans d2
      have d3x := (hwx.cell (World.block_lt_of_cell? _ _ d3)).trans d3
      have d4x := (hwx.cell (World.block_lt_of_cell? _ _ d4)).trans d4
      have g1x := (hwx.frozen (World.block_lt_of_cell? _ _ d1)).trans f1
      have g2x := (hwx.frozen (World.block_lt_of_cell? _ _ d1)).trans f2
      have g3x := (hwx.frozen (World.block_lt_of_cell? _ _ d3)).trans f3
      have g4x := (hwx.frozen (World.block_lt_of_cell? _ _ d3)).trans f4
      clear p1 p2 d1 d2 d3 d4 f1 f2 f3 f4 c1 c2
      have HI4 := hid hinit4
      have HI5 := hid hinit5
      clear hinit4 hinit5
      go_wp2
      go_loopw [25] (fun i wr => ∃ r : Nat, r ≤ l.length ∧ i = .int .i64 r ∧ Kx (fun j => j = g4 ∨ j = g5) wc wr ∧ Hid (B2 wr g4 (loF l r).1 (loF l r).2) ∧ Hid (B2 wr g5 (hiF l r).1 (hiF l r).2) ∧ (wr.frozen? ⟨g4, 0, none⟩ = false ∧ wr.frozen? ⟨g4, 1, none⟩ = false) ∧ (wr.frozen? ⟨g5, 0, none⟩ = false ∧ wr.frozen? ⟨g5, 1, none⟩ = false)) (fun i _ => l.length - (intOf i).toNat)
      case atStart => exact ⟨0, by omega, rfl, Kx.refl _ _, HI4, HI5, hf4, hf5⟩
      case round =>
        obtain ⟨r, hr, rfl, hkx, hB4, hB5, ⟨z1, z2⟩, ⟨z3, z4⟩⟩ := hrel
        have hzr := hkx.size
        rcases Nat.lt_or_ge r l.length with hlt' | hge
        · have hri : (r : Int) < l.length := by omega
          obtain ⟨qx, qy, c1, c2, hxr, _⟩ := Rd.pair_at hlx.rd hlx.ok hlt'
          have hbW := World.block_lt_of_cell? _ _ c1
          have hbne : ¬ (b = g4 ∨ b = g5) := by omega
          have c1r := (hkx.cell hbW hbne).trans c1
          have c2r := (hkx.cell hbW hbne).trans c2
          have eq : ptZ l r = (qx, qy) := ptZ_get hxr.out
          have EQ := hid eq; clear eq
          obtain ⟨⟨lx, ly⟩, hlo⟩ : ∃ s, loF l r = s := ⟨_, rfl⟩
          obtain ⟨⟨ux, uy⟩, hhi⟩ : ∃ s, hiF l r = s := ⟨_, rfl⟩
          obtain ⟨x1, x2⟩ := hB4.out
          obtain ⟨x3, x4⟩ := hB5.out
          rw [hlo] at x1 x2
          rw [hhi] at x3 x4
          simp only at x1 x2 x3 x4
          clear hB4 hB5 c1 c2
          obtain ⟨m1, e1⟩ : ∃ m, (if qx < lx then qx else lx) = m := ⟨_, rfl⟩
          obtain ⟨m2, e2⟩ : ∃ m, (if qy < ly then qy else ly) = m := ⟨_, rfl⟩
          obtain ⟨m3, e3⟩ : ∃ m, (if ux < qx then qx else ux) = m := ⟨_, rfl⟩
          obtain ⟨m4, e4⟩ : ∃ m, (if uy < qy then qy else uy) = m := ⟨_, rfl⟩
          have hlo' : Hid (loF l (r + 1) = (m1, m2)) := hid (by
            show (min (loF l r).1 (ptZ l r).1, min (loF l r).2 (ptZ l r).2) = _
            rw [hlo, EQ.out, ← e1, ← e2, min_if, min_if])
          have hhi' : Hid (hiF l (r + 1) = (m3, m4)) := hid (by
            show (max (hiF l r).1 (ptZ l r).1, max (hiF l r).2 (ptZ l r).2) = _
            rw [hhi, EQ.out, ← e3, ← e4, max_if, max_if])
          clear hlo hhi
          obtain ⟨W7, eW7, hw7, hlt7, hbox7⟩ := one_box wr #[.int .i64 qx, .int .i64 qy] 57
          go_upto_region 7 with fail
          clear eW7
          have y1 := hbox7.out W7 (Aft.refl _) 0 (.int .i64 qx) rfl
          have y2 := hbox7.out W7 (Aft.refl _) 1 (.int .i64 qy) rfl
          clear hbox7
          have tr : ∀ {b o : Nat} {v : Value}, wr.cell? ⟨b, o, none⟩ = some v → W7.cell? ⟨b, o, none⟩ = some v := fun h => (hw7.cell (World.block_lt_of_cell? _ _ h)).trans h
          have x1' := tr x1
          have x2' := tr x2
          have x3' := tr x3
          have x4' := tr x4
          have k1 := (hw7.frozen (World.block_lt_of_cell? _ _ x1)).trans z1
          have k2 := (hw7.frozen (World.block_lt_of_cell? _ _ x1)).trans z2
          have k3 := (hw7.frozen (World.block_lt_of_cell? _ _ x3)).trans z3
          have k4 := (hw7.frozen (World.block_lt_of_cell? _ _ x3)).trans z4
          have hg4r := World.block_lt_of_cell? _ _ x1
          have hg5r := World.block_lt_of_cell? _ _ x3
          have hq7 : wr.heap.size ≠ g4 ∧ wr.heap.size ≠ g5 := by omega
          clear tr x1 x2 x3 x4 z1 z2 z3 z4
          have P4 := put2 (W := W7) (b := g4) ⟨x1', x2'⟩ m1 m2
          have P5 := put2 (b := g5) (B2.kx ⟨x3', x4'⟩ P4.2 (by omega)) m3 m4
          have HK := hid ((hkx.trans (aft_kx hw7)).trans ((P4.2.sub fun j h => .inl h).trans (P5.2.sub fun j h => .inr h)))
          have HA := hid (B2.kx P4.1 P5.2 (by omega))
          have HB := hid P5.1
          clear P4 P5
          generalize wr.heap.size = n7 at *
          obtain ⟨h7a, h7b⟩ := hq7
          go_wp2
          go_roundw
          case rel => exact ⟨r + 1, by omega, by go_num, HK.out, hid (by rw [hlo'.out]; exact HA.out), hid (by rw [hhi'.out]; exact HB.out), ⟨by simp only [World.frozen?_setCell]; exact k1, by simp only [World.frozen?_setCell]; exact k2⟩, ⟨by simp only [World.frozen?_setCell]; exact k3, by simp only [World.frozen?_setCell]; exact k4⟩⟩
          case measure => simp only [intOf]; omega
        · obtain rfl : r = l.length := by omega
          have hzz : n0 + 1 < wc.heap.size ∧ n3 < wc.heap.size := ⟨World.block_lt_of_cell? _ _ d1x, World.block_lt_of_cell? _ _ d3x⟩
          have a1 := (hkx.cell hzz.1 (show ¬ (n0 + 1 = g4 ∨ n0 + 1 = g5) by omega)).trans d1x
          have a2 := (hkx.cell hzz.1 (show ¬ (n0 + 1 = g4 ∨ n0 + 1 = g5) by omega)).trans d2x
          have a3 := (hkx.cell hzz.2 (show ¬ (n3 = g4 ∨ n3 = g5) by omega)).trans d3x
          have a4 := (hkx.cell hzz.2 (show ¬ (n3 = g4 ∨ n3 = g5) by omega)).trans d4x
          have fr : ∀ {b o : Nat}, b < wc.heap.size → ¬ (b = g4 ∨ b = g5) → wr.frozen? ⟨b, o, none⟩ = wc.frozen? ⟨b, o, none⟩ := fun h1 h2 => World.frozen?_of_block (a := ⟨_, _, none⟩) (hkx.block _ h1 h2)
          have j1 := (fr (o := 0) hzz.1 (by omega)).trans g1x
          have j2 := (fr (o := 1) hzz.1 (by omega)).trans g2x
          have j3 := (fr (o := 0) hzz.2 (by omega)).trans g3x
          have j4 := (fr (o := 1) hzz.2 (by omega)).trans g4x
          clear fr d1x d2x d3x d4x g1x g2x g3x g4x z1 z2 z3 z4
          obtain ⟨⟨lx, ly⟩, hlo⟩ : ∃ s, loF l l.length = s := ⟨_, rfl⟩
          obtain ⟨⟨ux, uy⟩, hhi⟩ : ∃ s, hiF l l.length = s := ⟨_, rfl⟩
          obtain ⟨x1, x2⟩ := hB4.out
          obtain ⟨x3, x4⟩ := hB5.out
          rw [hlo] at x1 x2
          rw [hhi] at x3 x4
          simp only at x1 x2 x3 x4
          have hres : Hid (boxZ l = ((lx, ly), (ux, uy))) := hid (by unfold boxZ; rw [if_neg hl0, hlo, hhi])
          clear hB4 hB5 hlo hhi
          have q1 := World.block_lt_of_cell? _ _ x1
          have q3 := World.block_lt_of_cell? _ _ x3
          have h1 : n0 + 1 ≠ g4 := by omega
          have h2 : n0 + 1 ≠ g5 := by omega
          have h3 : n3 ≠ g4 := by omega
          have h4 : n3 ≠ g5 := by omega
          go_upto_region 10 with fail
          go_region_held3 (fun W => (W.cell? ⟨g4, 0, none⟩ = some (.int .i64 lx) ∧ W.cell? ⟨g4, 1, none⟩ = some (.int .i64 ly)) ∧ W.cell? ⟨g5, 0, none⟩ = some (.int .i64 ux) ∧ W.cell? ⟨g5, 1, none⟩ = some (.int .i64 uy))
            (first | go_keep | exact ⟨⟨held_store x1 h1 _ _, held_store x2 h1 _ _⟩, held_store x3 h2 _ _, held_store x4 h2 _ _⟩ | exact ⟨⟨held_store2 x1 h1 h3 _ _ _ _, held_store2 x2 h1 h3 _ _ _ _⟩, held_store2 x3 h2 h4 _ _ _ _, held_store2 x4 h2 h4 _ _ _ _⟩)
            (fail)
          have P2 := put2 (W := wr) (b := n0 + 1) ⟨a1, a2⟩ lx ly
          have P3 := put2 (b := n3) (B2.kx ⟨a3, a4⟩ P2.2 (by omega)) ux uy
          have hk0 := (hkx.sub (Y := fun j => (j = n0 + 1 ∨ j = n3) ∨ (j = g4 ∨ j = g5)) fun j h => .inr h).trans ((P2.2.sub fun j h => .inl (.inl h)).trans (P3.2.sub fun j h => .inl (.inr h)))
          have HE := hid (kx_aft hw1x (fun j hj => by rcases hj with (rfl | rfl) | (rfl | rfl) <;> omega) hk0)
          have HA := hid (B2.kx P2.1 P3.2 (by omega))
          have HB := hid P3.1
          clear P2 P3 hk0
          go_wp2
          refine bodyPost_ret (results_pts rfl _ _ (n0 + 1) n3 lx ly ux uy rfl rfl HA.out HB.out) rfl ?_
          exact ⟨by rw [hres.out]; rfl, HE.out.drew⟩
end Go.Proofs.Ytokdclbfjlnnjaa
