/- The reference's Box. -/
import Derived.Test.YtokdclbfjlnnjaaP16
namespace Go.Proofs.Ytokdclbfjlnnjaa
open Go.RowKit Go.BigFrame

def loG (l : List Pt) (r : Nat) : Pt := if r = 0 then (0, 0) else loF l r
def hiG (l : List Pt) (r : Nat) : Pt := if r = 0 then (0, 0) else hiF l r
theorem loF_one (l : List Pt) : loF l 1 = ptZ l 0 := by show (min (ptZ l 0).1 (ptZ l 0).1, min (ptZ l 0).2 (ptZ l 0).2) = _; simp
theorem hiF_one (l : List Pt) : hiF l 1 = ptZ l 0 := by show (max (ptZ l 0).1 (ptZ l 0).1, max (ptZ l 0).2 (ptZ l 0).2) = _; simp
theorem boxZ_G (l : List Pt) : boxZ l = (loG l l.length, hiG l l.length) := by
  unfold boxZ loG hiG
  by_cases h : l = []
  · subst h; rfl
  · have : l.length ≠ 0 := fun e => h (List.length_eq_zero_iff.1 e)
    rw [if_neg h, if_neg this, if_neg this]

set_option maxRecDepth 100000 in
set_option maxHeartbeats 8000000 in
theorem rbox_any (k : Int) (vp : Value) (l : List Pt) (w : World) (hl : Prs w vp l) :
    Calls Try.prog 36 #[.agg #[.int .i64 k, vp]] w fun e w' => e = .returned (.tuple #[pr (boxZ l).1, pr (boxZ l).2]) ∧ Aft w w' := by
  have hP := hl
  obtain ⟨a, c, rfl, hl⟩ := hl
  have hn := hl.le
  obtain ⟨W0, eW0, hw0, hlt, hbox⟩ := two_boxes w #[.int .i64 k, .slice a l.length c] #[.int .i64 0, .int .i64 0] 51 57
  obtain ⟨W1, eW1, hw1, hlt1, hbox1⟩ := one_box W0 #[.int .i64 0, .int .i64 0] 57
  have hfz : W1.frozen? ⟨w.heap.size + 1, 0, none⟩ = false ∧ W1.frozen? ⟨w.heap.size + 1, 1, none⟩ = false ∧ W1.frozen? ⟨W0.heap.size, 0, none⟩ = false ∧ W1.frozen? ⟨W0.heap.size, 1, none⟩ = false := by
    refine ⟨?_, ?_, eW1 ▸ frozen_new _ _ _ _, eW1 ▸ frozen_new _ _ _ _⟩
    · rw [hw1.frozen (by omega), ← eW0]
      simp
    · rw [hw1.frozen (by omega), ← eW0]
      simp
  go_enter Try.func36, Try.ntmps36
  go_upto_region 1 with fail
  clear eW0 eW1
  have hF : Hid (∀ W, Aft W0 W → W.cell? ⟨w.heap.size, 0, none⟩ = some (.int .i64 k) ∧ W.cell? ⟨w.heap.size, 1, none⟩ = some (.slice a l.length c)) := hid fun W hW => ⟨(hbox.out W hW).1 0 _ rfl, (hbox.out W hW).1 1 _ rfl⟩
  have hB2 : B2 W1 (w.heap.size + 1) 0 0 := ⟨(hbox.out W1 hw1).2 0 _ rfl, (hbox.out W1 hw1).2 1 _ rfl⟩
  have hB3 : B2 W1 W0.heap.size 0 0 := ⟨hbox1.out W1 (Aft.refl _) 0 _ rfl, hbox1.out W1 (Aft.refl _) 1 _ rfl⟩
  clear hbox hbox1
  have hz0 := hw0.size
  have hz1 := hw1.size
  have hw01 := hw0.trans hw1
  obtain ⟨p1, p2⟩ := hF.out W1 hw1
  generalize hn0 : w.heap.size = n0 at *
  generalize hn3 : W0.heap.size = n3 at *
  obtain ⟨f1, f2, f3, f4⟩ := hfz
  obtain ⟨d1, d2⟩ := hB2
  obtain ⟨d3, d4⟩ := hB3
  have hfr := two_fresh W1 0 0
  go_upto_region 3 with fail
  generalize eW2 : (W1.alloc (.cells #[.int .i64 0, .int .i64 0] 57)).alloc (.cells #[.int .i64 0, .int .i64 0] 57) = W2 at *
  obtain ⟨hb4, hb5, hf4, hf5, hw2⟩ := hfr
  replace hb4 : B2 W2 W1.heap.size 0 0 := eW2 ▸ hb4
  replace hb5 : B2 W2 (W1.heap.size + 1) 0 0 := eW2 ▸ hb5
  replace hf4 : W2.frozen? ⟨W1.heap.size, 0, none⟩ = false ∧ W2.frozen? ⟨W1.heap.size, 1, none⟩ = false := eW2 ▸ hf4
  replace hf5 : W2.frozen? ⟨W1.heap.size + 1, 0, none⟩ = false ∧ W2.frozen? ⟨W1.heap.size + 1, 1, none⟩ = false := eW2 ▸ hf5
  replace hw2 : Aft W1 W2 := eW2 ▸ ((Aft.refl W1).alloc _).alloc _
  clear eW2
  have hw12 := hw01.trans hw2
  have hlx := hl.aft hw12
  have hz2 := hw2.size
  have d1x := (hw2.cell (World.block_lt_of_cell? _ _ d1)).trans d1
  have d2x := (hw2.cell (World.block_lt_of_cell? _ _ d2)).trans d2
  have d3x := (hw2.cell (World.block_lt_of_cell? _ _ d3)).trans d3
  have d4x := (hw2.cell (World.block_lt_of_cell? _ _ d4)).trans d4
  have g1x := (hw2.frozen (World.block_lt_of_cell? _ _ d1)).trans f1
  have g2x := (hw2.frozen (World.block_lt_of_cell? _ _ d1)).trans f2
  have g3x := (hw2.frozen (World.block_lt_of_cell? _ _ d3)).trans f3
  have g4x := (hw2.frozen (World.block_lt_of_cell? _ _ d3)).trans f4
  have p1x := (hw2.cell (World.block_lt_of_cell? _ _ p1)).trans p1
  have p2x := (hw2.cell (World.block_lt_of_cell? _ _ p2)).trans p2
  have hl4 := World.block_lt_of_cell? _ _ hb4.1
  have hl5 := World.block_lt_of_cell? _ _ hb5.1
  have hs0 : n0 < W1.heap.size := World.block_lt_of_cell? _ _ p1
  clear p1 p2 d1 d2 d3 d4 f1 f2 f3 f4
  have HI4 := hid (show B2 W2 W1.heap.size (loG l 0).1 (loG l 0).2 from hb4)
  have HI5 := hid (show B2 W2 (W1.heap.size + 1) (hiG l 0).1 (hiG l 0).2 from hb5)
  clear hb4 hb5
  generalize hn4 : W1.heap.size = n4 at *
  go_wp2
  go_loopw [6] (fun i wr => ∃ r : Nat, r ≤ l.length ∧ i = .int .i64 r ∧ Kx (fun j => j = n4 ∨ j = n4 + 1) W2 wr ∧ Hid (B2 wr n4 (loG l r).1 (loG l r).2) ∧ Hid (B2 wr (n4 + 1) (hiG l r).1 (hiG l r).2) ∧ (wr.frozen? ⟨n4, 0, none⟩ = false ∧ wr.frozen? ⟨n4, 1, none⟩ = false) ∧ (wr.frozen? ⟨n4 + 1, 0, none⟩ = false ∧ wr.frozen? ⟨n4 + 1, 1, none⟩ = false)) (fun i _ => l.length - (intOf i).toNat)
  case atStart => exact ⟨0, by omega, rfl, Kx.refl _ _, HI4, HI5, hf4, hf5⟩
  case round =>
    obtain ⟨r, hr, rfl, hkx, hB4, hB5, ⟨z1, z2⟩, ⟨z3, z4⟩⟩ := hrel
    have hzr := hkx.size
    have hn0W : n0 < W2.heap.size := World.block_lt_of_cell? _ _ p1x
    have p1r := (hkx.cell hn0W (show ¬ (n0 = n4 ∨ n0 = n4 + 1) by omega)).trans p1x
    have p2r := (hkx.cell hn0W (show ¬ (n0 = n4 ∨ n0 = n4 + 1) by omega)).trans p2x
    rcases Nat.lt_or_ge r l.length with hlt' | hge
    · have hri : (r : Int) < l.length := by omega
      obtain ⟨b, off, qx, qy, rfl, c1, c2, hb, hxr, _⟩ := hlx.rd.pair hlx.ok hlt'
      have hbW1 : b < n4 := by
        obtain ⟨b', off', _, _, e, c1', _, hb', _⟩ := (hl.aft hw01).rd.pair hl.ok hlt'
        simp only [Option.some.injEq, Addr.mk.injEq, and_true] at e
        obtain ⟨rfl, _⟩ := e
        omega
      have hbne : ¬ (b = n4 ∨ b = n4 + 1) := by omega
      have c1r := (hkx.cell hb hbne).trans c1
      have c2r := (hkx.cell hb hbne).trans c2
      have EQ := hid (show ptZ l r = (qx, qy) from ptZ_get hxr.out)
      clear c1 c2
      obtain ⟨W7, eW7, hw7, hlt7, hbox7⟩ := one_box wr #[.int .i64 qx, .int .i64 qy] 57
      go_upto_region 7 with fail
      clear eW7
      have y1 := hbox7.out W7 (Aft.refl _) 0 (.int .i64 qx) rfl
      have y2 := hbox7.out W7 (Aft.refl _) 1 (.int .i64 qy) rfl
      clear hbox7 p1r p2r c1r c2r
      obtain ⟨x1, x2⟩ := hB4.out
      obtain ⟨x3, x4⟩ := hB5.out
      have tr : ∀ {b o : Nat} {v : Value}, wr.cell? ⟨b, o, none⟩ = some v → W7.cell? ⟨b, o, none⟩ = some v := fun h => (hw7.cell (World.block_lt_of_cell? _ _ h)).trans h
      have k1 := (hw7.frozen (World.block_lt_of_cell? _ _ x1)).trans z1
      have k2 := (hw7.frozen (World.block_lt_of_cell? _ _ x1)).trans z2
      have k3 := (hw7.frozen (World.block_lt_of_cell? _ _ x3)).trans z3
      have k4 := (hw7.frozen (World.block_lt_of_cell? _ _ x3)).trans z4
      have hq7 : n4 + 1 < wr.heap.size := World.block_lt_of_cell? _ _ x3
      replace x1 := tr x1
      replace x2 := tr x2
      replace x3 := tr x3
      replace x4 := tr x4
      clear tr z1 z2 z3 z4 hB4 hB5
      have hk7 := hkx.trans (aft_kx hw7)
      rcases Nat.eq_zero_or_pos r with h0 | h0
      · subst h0
        have P4 := put2 (W := W7) (b := n4) ⟨x1, x2⟩ qx qy
        have P5 := put2 (b := n4 + 1) (B2.kx ⟨x3, x4⟩ P4.2 (by omega)) qx qy
        have P6 := put2 (b := n4) (B2.kx P4.1 P5.2 (by omega)) qx qy
        have P7 := put2 (b := n4 + 1) (B2.kx P5.1 P6.2 (by omega)) qx qy
        have HK := hid (hk7.trans ((P4.2.sub (Y := fun j => j = n4 ∨ j = n4 + 1) fun j h => .inl h).trans ((P5.2.sub fun j h => .inr h).trans ((P6.2.sub fun j h => .inl h).trans (P7.2.sub fun j h => .inr h)))))
        have HA := hid (B2.kx P6.1 P7.2 (by omega))
        have HB := hid P7.1
        clear P4 P5 P6 P7
        have L1 := hid (show loG l 1 = (qx, qy) from (loF_one l).trans EQ.out)
        have L2 := hid (show hiG l 1 = (qx, qy) from (hiF_one l).trans EQ.out)
        generalize wr.heap.size = n7 at *
        go_wp2
        go_roundw
        case rel => exact ⟨1, by omega, by go_num, HK.out, hid (by rw [L1.out]; exact HA.out), hid (by rw [L2.out]; exact HB.out), ⟨by simp only [World.frozen?_setCell]; exact k1, by simp only [World.frozen?_setCell]; exact k2⟩, ⟨by simp only [World.frozen?_setCell]; exact k3, by simp only [World.frozen?_setCell]; exact k4⟩⟩
        case measure => simp only [intOf]; omega
      · obtain ⟨⟨lx, ly⟩, hlo⟩ : ∃ s, loG l r = s := ⟨_, rfl⟩
        obtain ⟨⟨ux, uy⟩, hhi⟩ : ∃ s, hiG l r = s := ⟨_, rfl⟩
        have hr0 : r ≠ 0 := by omega
        rw [hlo] at x1 x2
        rw [hhi] at x3 x4
        simp only at x1 x2 x3 x4
        obtain ⟨m1, e1⟩ : ∃ m, (if qx < lx then qx else lx) = m := ⟨_, rfl⟩
        obtain ⟨m2, e2⟩ : ∃ m, (if qy < ly then qy else ly) = m := ⟨_, rfl⟩
        obtain ⟨m3, e3⟩ : ∃ m, (if ux < qx then qx else ux) = m := ⟨_, rfl⟩
        obtain ⟨m4, e4⟩ : ∃ m, (if uy < qy then qy else uy) = m := ⟨_, rfl⟩
        have hlF : loF l r = (lx, ly) := by unfold loG at hlo; rwa [if_neg hr0] at hlo
        have hhF : hiF l r = (ux, uy) := by unfold hiG at hhi; rwa [if_neg hr0] at hhi
        have L1 : Hid (loG l (r + 1) = (m1, m2)) := hid (by
          show (min (loF l r).1 (ptZ l r).1, min (loF l r).2 (ptZ l r).2) = _
          rw [hlF, EQ.out, ← e1, ← e2, min_if, min_if])
        have L2 : Hid (hiG l (r + 1) = (m3, m4)) := hid (by
          show (max (hiF l r).1 (ptZ l r).1, max (hiF l r).2 (ptZ l r).2) = _
          rw [hhF, EQ.out, ← e3, ← e4, max_if, max_if])
        clear hlo hhi hlF hhF
        have hne0 : ¬ ((r : Int) = 0) := by omega
        have P4 := put2 (W := W7) (b := n4) ⟨x1, x2⟩ m1 m2
        have P5 := put2 (b := n4 + 1) (B2.kx ⟨x3, x4⟩ P4.2 (by omega)) m3 m4
        have HK := hid (hk7.trans ((P4.2.sub (Y := fun j => j = n4 ∨ j = n4 + 1) fun j h => .inl h).trans (P5.2.sub fun j h => .inr h)))
        have HA := hid (B2.kx P4.1 P5.2 (by omega))
        have HB := hid P5.1
        clear P4 P5
        generalize wr.heap.size = n7 at *
        go_wp2
        go_roundw
        case rel => exact ⟨r + 1, by omega, by go_num, HK.out, hid (by rw [L1.out]; exact HA.out), hid (by rw [L2.out]; exact HB.out), ⟨by simp only [World.frozen?_setCell]; exact k1, by simp only [World.frozen?_setCell]; exact k2⟩, ⟨by simp only [World.frozen?_setCell]; exact k3, by simp only [World.frozen?_setCell]; exact k4⟩⟩
        case measure => simp only [intOf]; omega
    · obtain rfl : r = l.length := by omega
      have q1 : n0 + 1 < W2.heap.size := World.block_lt_of_cell? _ _ d1x
      have q3 : n3 < W2.heap.size := World.block_lt_of_cell? _ _ d3x
      have h1 : n0 + 1 ≠ n4 := by omega
      have h2 : n0 + 1 ≠ n4 + 1 := by omega
      have h3 : n3 ≠ n4 := by omega
      have h4 : n3 ≠ n4 + 1 := by omega
      have a1 := (hkx.cell q1 (show ¬ (n0 + 1 = n4 ∨ n0 + 1 = n4 + 1) by omega)).trans d1x
      have a2 := (hkx.cell q1 (show ¬ (n0 + 1 = n4 ∨ n0 + 1 = n4 + 1) by omega)).trans d2x
      have a3 := (hkx.cell q3 (show ¬ (n3 = n4 ∨ n3 = n4 + 1) by omega)).trans d3x
      have a4 := (hkx.cell q3 (show ¬ (n3 = n4 ∨ n3 = n4 + 1) by omega)).trans d4x
      have fr : ∀ {b o : Nat}, b < W2.heap.size → ¬ (b = n4 ∨ b = n4 + 1) → wr.frozen? ⟨b, o, none⟩ = W2.frozen? ⟨b, o, none⟩ := fun h1 h2 => World.frozen?_of_block (a := ⟨_, _, none⟩) (hkx.block _ h1 h2)
      have j1 := (fr (o := 0) q1 (by omega)).trans g1x
      have j2 := (fr (o := 1) q1 (by omega)).trans g2x
      have j3 := (fr (o := 0) q3 (by omega)).trans g3x
      have j4 := (fr (o := 1) q3 (by omega)).trans g4x
      clear fr d1x d2x d3x d4x g1x g2x g3x g4x z1 z2 z3 z4
      obtain ⟨⟨lx, ly⟩, hlo⟩ : ∃ s, loG l l.length = s := ⟨_, rfl⟩
      obtain ⟨⟨ux, uy⟩, hhi⟩ : ∃ s, hiG l l.length = s := ⟨_, rfl⟩
      obtain ⟨x1, x2⟩ := hB4.out
      obtain ⟨x3, x4⟩ := hB5.out
      rw [hlo] at x1 x2
      rw [hhi] at x3 x4
      simp only at x1 x2 x3 x4
      have hres : Hid (boxZ l = ((lx, ly), (ux, uy))) := hid (by rw [boxZ_G, hlo, hhi])
      clear hB4 hB5 hlo hhi
      have q1' := World.block_lt_of_cell? _ _ x1
      have q3' := World.block_lt_of_cell? _ _ x3
      generalize hn5 : n4 + 1 = n5 at *
      go_upto_region 14 with fail
      go_region_held3 (fun W => (W.cell? ⟨n4, 0, none⟩ = some (.int .i64 lx) ∧ W.cell? ⟨n4, 1, none⟩ = some (.int .i64 ly)) ∧ W.cell? ⟨n5, 0, none⟩ = some (.int .i64 ux) ∧ W.cell? ⟨n5, 1, none⟩ = some (.int .i64 uy))
        (first | go_keep | exact ⟨⟨held_store x1 h1 _ _, held_store x2 h1 _ _⟩, held_store x3 h2 _ _, held_store x4 h2 _ _⟩ | exact ⟨⟨held_store2 x1 h1 h3 _ _ _ _, held_store2 x2 h1 h3 _ _ _ _⟩, held_store2 x3 h2 h4 _ _ _ _, held_store2 x4 h2 h4 _ _ _ _⟩)
        (fail)
      have P2 := put2 (W := wr) (b := n0 + 1) ⟨a1, a2⟩ lx ly
      have P3 := put2 (b := n3) (B2.kx ⟨a3, a4⟩ P2.2 (by omega)) ux uy
      have hk0 := (hkx.sub (Y := fun j => (j = n0 + 1 ∨ j = n3) ∨ (j = n4 ∨ j = n5)) fun j h => .inr h).trans ((P2.2.sub fun j h => .inl (.inl h)).trans (P3.2.sub fun j h => .inl (.inr h)))
      have HE := hid (kx_aft hw12 (fun j hj => by rcases hj with (rfl | rfl) | (rfl | rfl) <;> omega) hk0)
      have HA := hid (B2.kx P2.1 P3.2 (by omega))
      have HB := hid P3.1
      clear P2 P3 hk0
      go_wp2
      refine bodyPost_ret (results_pts rfl _ _ (n0 + 1) n3 lx ly ux uy rfl rfl HA.out HB.out) rfl ?_
      exact ⟨by rw [hres.out]; rfl, HE.out.drew⟩
end Go.Proofs.Ytokdclbfjlnnjaa
