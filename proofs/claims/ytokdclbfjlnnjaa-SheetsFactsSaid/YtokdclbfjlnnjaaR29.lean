/- The shape of the box of a shape: the sheets' own, and the reference's. -/
import Derived.Test.YtokdclbfjlnnjaaR28
import Derived.Laws.StructEq
namespace Go.Proofs.Ytokdclbfjlnnjaa
open Go.RowKit Go.BigFrame

def boxS (l : List Pt) : Int × List Pt :=
  if (loF l l.length).1 = (hiF l l.length).1 ∧ (loF l l.length).2 = (hiF l l.length).2 then (0, [((loF l l.length).1, (loF l l.length).2)])
  else if (loF l l.length).1 = (hiF l l.length).1 ∨ (loF l l.length).2 = (hiF l l.length).2 then (1, [((loF l l.length).1, (loF l l.length).2), ((hiF l l.length).1, (hiF l l.length).2)])
  else (2, [((loF l l.length).1, (loF l l.length).2), ((hiF l l.length).1, (loF l l.length).2), ((hiF l l.length).1, (hiF l l.length).2), ((loF l l.length).1, (hiF l l.length).2)])
theorem lit_end {w W : World} {n m : Nat} {cs : Array Value} {u0 u1 : Value} (hW : Aft w W) (hn : w.heap.size ≤ n) (c0 : W.cell? ⟨n, 0, none⟩ = some u0) (c1 : W.cell? ⟨n, 1, none⟩ = some u1) (hs : cs.size = m * 2) (hm : m ≤ 10) (k : Int) :
    Hid ((((W.setCell ⟨n, 0, none⟩ (.int .i64 k)).setCell ⟨n, 1, none⟩ (.slice (some ⟨W.heap.size, 0, none⟩) m m)).alloc (.cells cs 57)).cell? ⟨n, 0, none⟩ = some (.int .i64 k) ∧ (((W.setCell ⟨n, 0, none⟩ (.int .i64 k)).setCell ⟨n, 1, none⟩ (.slice (some ⟨W.heap.size, 0, none⟩) m m)).alloc (.cells cs 57)).cell? ⟨n, 1, none⟩ = some (.slice (some ⟨W.heap.size, 0, none⟩) m m) ∧
      (((W.setCell ⟨n, 0, none⟩ (.int .i64 k)).setCell ⟨n, 1, none⟩ (.slice (some ⟨W.heap.size, 0, none⟩) m m)).alloc (.cells cs 57)).ownsRow w.heap.size 57 2 (.slice (some ⟨W.heap.size, 0, none⟩) m m) m cs.toList ∧ Aft w (((W.setCell ⟨n, 0, none⟩ (.int .i64 k)).setCell ⟨n, 1, none⟩ (.slice (some ⟨W.heap.size, 0, none⟩) m m)).alloc (.cells cs 57))) := by
  obtain ⟨h1, h2, h3, h4⟩ := store2 hW hn c0 c1 (.int .i64 k) (.slice (some ⟨W.heap.size, 0, none⟩) m m)
  have e : ((W.setCell ⟨n, 0, none⟩ (.int .i64 k)).setCell ⟨n, 1, none⟩ (.slice (some ⟨W.heap.size, 0, none⟩) m m)).heap.size = W.heap.size := by simp
  generalize (W.setCell ⟨n, 0, none⟩ (.int .i64 k)).setCell ⟨n, 1, none⟩ (.slice (some ⟨W.heap.size, 0, none⟩) m m) = Y at *
  have hA := (Aft.refl Y).alloc (.cells cs 57)
  have ho := ownsRow_mono (ownsRow_lit Y cs m 57 2 hs (by unfold maxLen; omega)) h4.size
  rw [e] at ho
  exact hid ⟨(hA.cell (World.block_lt_of_cell? _ _ h1)).trans h1, (hA.cell (World.block_lt_of_cell? _ _ h2)).trans h2, ho, h4.trans hA⟩

set_option maxRecDepth 100000 in
set_option maxHeartbeats 8000000 in
theorem boxs_any (k : Int) (vp : Value) (l : List Pt) (w : World) (hl : Prs w vp l) (hne : 0 < l.length) :
    Calls Try.prog 102 #[.agg #[.int .i64 k, vp]] w fun e w' => ∃ v, e = .returned (.agg #[.int .i64 (boxS l).1, v]) ∧ w'.ownsRow w.heap.size 57 2 v (boxS l).2.length (prs (boxS l).2) ∧ Aft w w' := by
  have hl0 := hl
  obtain ⟨a, c, rfl, hl⟩ := hl
  clear hl
  go_enter Try.func102, Try.ntmps102
  go_upto_region 1 with fail
  obtain ⟨W0, eW0, hw0, hlt0, hbox0⟩ := two_boxes w #[.int .i64 k, .slice a l.length c] #[.int .i64 0, .slice none 0 0] 51 51
  have hf2 : W0.frozen? ⟨w.heap.size + 1, 0, none⟩ = false ∧ W0.frozen? ⟨w.heap.size + 1, 1, none⟩ = false := by
    rw [← eW0]
    exact ⟨by simp, by simp⟩
  rw [eW0]
  clear eW0
  have hF : Hid (∀ W, Aft W0 W → (W.cell? ⟨w.heap.size, 0, none⟩ = some (.int .i64 k) ∧ W.cell? ⟨w.heap.size, 1, none⟩ = some (.slice a l.length c)) ∧ W.cell? ⟨w.heap.size + 1, 0, none⟩ = some (.int .i64 0) ∧ W.cell? ⟨w.heap.size + 1, 1, none⟩ = some (.slice none 0 0)) := hid fun W hW =>
    ⟨⟨(hbox0.out W hW).1 0 _ rfl, (hbox0.out W hW).1 1 _ rfl⟩, (hbox0.out W hW).2 0 _ rfl, (hbox0.out W hW).2 1 _ rfl⟩
  clear hbox0
  obtain ⟨n2, hn2⟩ : ∃ n, w.heap.size + 1 = n := ⟨_, rfl⟩
  rw [hn2] at hF hf2 hlt0 ⊢
  have hn2w : w.heap.size ≤ n2 := by omega
  obtain ⟨n1, hn1⟩ : ∃ n, w.heap.size = n := ⟨_, rfl⟩
  rw [hn1] at hF ⊢
  have HF0 := hid hf2
  clear hn2 hf2
  obtain ⟨⟨p1, p2⟩, -, -⟩ := hF.out W0 (Aft.refl _)
  have hl1 := hid (hl0.aft hw0)
  go_wp2_with fail
  refine (box_any k _ l W0 hl1.out).mono ?_
  rintro e W1 ⟨rfl, hw1⟩
  clear p1 p2
  have hbz : boxZ l = (loF l l.length, hiF l l.length) := by unfold boxZ; rw [if_neg (by intro h; rw [h] at hne; simp at hne)]
  rw [hbz]
  clear hbz
  obtain ⟨x0, hx0⟩ : ∃ q, (loF l l.length).1 = q := ⟨_, rfl⟩
  obtain ⟨x1, hx1⟩ : ∃ q, (hiF l l.length).1 = q := ⟨_, rfl⟩
  obtain ⟨y0, hy0⟩ : ∃ q, (loF l l.length).2 = q := ⟨_, rfl⟩
  obtain ⟨y1, hy1⟩ : ∃ q, (hiF l l.length).2 = q := ⟨_, rfl⟩
  simp only [pr]
  rw [hx0, hx1, hy0, hy1]
  have HD : Hid (boxS l = if x0 = x1 ∧ y0 = y1 then (0, [(x0, y0)]) else if x0 = x1 ∨ y0 = y1 then (1, [(x0, y0), (x1, y1)]) else (2, [(x0, y0), (x1, y0), (x1, y1), (x0, y1)])) := hid (by rw [← hx0, ← hx1, ← hy0, ← hy1]; rfl)
  clear hx0 hx1 hy0 hy1
  go_upto_region 2 with fail
  obtain ⟨W6, eW6, hw6, hlt6', hb6⟩ := two_boxes W1 #[.int .i64 x0, .int .i64 y0] #[.int .i64 x1, .int .i64 y1] 57 57
  rw [eW6]
  clear eW6
  have s0 := (hb6.out W6 (Aft.refl _)).1 0 _ rfl
  have s1 := (hb6.out W6 (Aft.refl _)).1 1 _ rfl
  have t0 := (hb6.out W6 (Aft.refl _)).2 0 _ rfl
  have t1 := (hb6.out W6 (Aft.refl _)).2 1 _ rfl
  clear hb6
  obtain ⟨n6, hn6⟩ : ∃ n, W1.heap.size + 1 = n := ⟨_, rfl⟩
  rw [hn6] at t0 t1 ⊢
  obtain ⟨n5, hn5⟩ : ∃ n, W1.heap.size = n := ⟨_, rfl⟩
  rw [hn5] at s0 s1 ⊢
  clear hn6 hn5
  have hA06 : Aft W0 W6 := hw1.trans hw6
  obtain ⟨-, c0, c1⟩ := hF.out W6 hA06
  have hlt6 : n2 < W6.heap.size := World.block_lt_of_cell? _ _ c0
  have HF := hid (And.intro ((hA06.frozen (o := 0) hlt0).trans HF0.out.1) ((hA06.frozen (o := 1) hlt0).trans HF0.out.2))
  have hAW := hw0.trans hA06
  clear hF HF0 hl1 hw1 hw6 hlt6'
  · skip
    by_cases ex : x0 = x1 <;> by_cases ey : y0 = y1
    · have hx : (x0 == x1) = true := by rw [ex]; simp
      have hy : (y0 == y1) = true := by rw [ey]; simp
      have HP := lit_end (cs := #[.int .i64 x0, .int .i64 y0]) (m := 1) hAW (by omega) c0 c1 rfl (by omega) 0
      obtain ⟨q2, q3⟩ := HF.out
      have HQ := hid (show boxS l = (0, [(x0, y0)]) by rw [HD.out]; rw [if_pos ⟨ex, ey⟩])
      clear ex ey
      go_wp2
      obtain ⟨h1, h2, h3, h4⟩ := HP.out
      refine bodyPost_ret (results_shape rfl _ _ n2 0 _ rfl h1 h2) rfl ?_
      rw [HQ.out]
      rw [hn1] at h3
      exact ⟨_, rfl, h3, h4⟩
    · have hx : (x0 == x1) = true := by rw [ex]; simp
      have hy : (y0 == y1) = false := by rw [beq_eq_false_iff_ne]; exact ey
      have HP := lit_end (cs := #[.int .i64 x0, .int .i64 y0, .int .i64 x1, .int .i64 y1]) (m := 2) hAW (by omega) c0 c1 rfl (by omega) 1
      obtain ⟨q2, q3⟩ := HF.out
      have HQ := hid (show boxS l = (1, [(x0, y0), (x1, y1)]) by rw [HD.out]; rw [if_neg (fun h => ey h.2), if_pos (.inl ex)])
      clear ex ey
      go_wp2
      obtain ⟨h1, h2, h3, h4⟩ := HP.out
      refine bodyPost_ret (results_shape rfl _ _ n2 1 _ rfl h1 h2) rfl ?_
      rw [HQ.out]
      rw [hn1] at h3
      exact ⟨_, rfl, h3, h4⟩
    · have hx : (x0 == x1) = false := by rw [beq_eq_false_iff_ne]; exact ex
      have hy : (y0 == y1) = true := by rw [ey]; simp
      have HP := lit_end (cs := #[.int .i64 x0, .int .i64 y0, .int .i64 x1, .int .i64 y1]) (m := 2) hAW (by omega) c0 c1 rfl (by omega) 1
      obtain ⟨q2, q3⟩ := HF.out
      have HQ := hid (show boxS l = (1, [(x0, y0), (x1, y1)]) by rw [HD.out]; rw [if_neg (fun h => ex h.1), if_pos (.inr ey)])
      clear ex ey
      go_wp2
      obtain ⟨h1, h2, h3, h4⟩ := HP.out
      refine bodyPost_ret (results_shape rfl _ _ n2 1 _ rfl h1 h2) rfl ?_
      rw [HQ.out]
      rw [hn1] at h3
      exact ⟨_, rfl, h3, h4⟩
    · have hx : (x0 == x1) = false := by rw [beq_eq_false_iff_ne]; exact ex
      have hy : (y0 == y1) = false := by rw [beq_eq_false_iff_ne]; exact ey
      have HP := lit_end (cs := #[.int .i64 x0, .int .i64 y0, .int .i64 x1, .int .i64 y0, .int .i64 x1, .int .i64 y1, .int .i64 x0, .int .i64 y1]) (m := 4) hAW (by omega) c0 c1 rfl (by omega) 2
      obtain ⟨q2, q3⟩ := HF.out
      have HQ := hid (show boxS l = (2, [(x0, y0), (x1, y0), (x1, y1), (x0, y1)]) by rw [HD.out]; rw [if_neg (fun h => ex h.1), if_neg (by omega)])
      clear ex ey
      go_wp2
      obtain ⟨h1, h2, h3, h4⟩ := HP.out
      refine bodyPost_ret (results_shape rfl _ _ n2 2 _ rfl h1 h2) rfl ?_
      rw [HQ.out]
      rw [hn1] at h3
      exact ⟨_, rfl, h3, h4⟩
end Go.Proofs.Ytokdclbfjlnnjaa
