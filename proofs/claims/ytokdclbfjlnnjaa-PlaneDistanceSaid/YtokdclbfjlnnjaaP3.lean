/- Segments of a shape: the reference's list, the program's iterator and list. -/
import Derived.Test.YtokdclbfjlnnjaaP2
import Derived.Test.YtokdclbfjlnnjaaS9
namespace Go.Proofs.Ytokdclbfjlnnjaa
open Go.RowKit Go.BigFrame

theorem Try.info59 : (Try.prog.info? 59).map (fun i => (i.zero, i.size, i.bytes)) = some (some (.agg #[.int .i64 0, .int .i64 0, .int .i64 0, .int .i64 0, .int .i64 0, .int .i64 0]), 6, 48) := by kernel_rfl
theorem Try.info112 : (Try.prog.info? 112).map (fun i => (i.zero, i.size, i.bytes)) = some (some (.agg #[.int .i64 0, .int .i64 0, .int .i64 0, .int .i64 0]), 4, 32) := by kernel_rfl

/-- Point number i, around. -/
def ptZ (l : List Pt) (i : Nat) : Pt := l.getD (i % l.length) (0, 0)
def sgZ (l : List Pt) (i : Nat) : Pt × Pt := (ptZ l i, ptZ l (i + 1))
def nSeg (k : Int) (l : List Pt) : Nat := if k = 0 ∨ l.length < 2 then 0 else if k = 2 then l.length else l.length - 1
def segsZ (k : Int) (l : List Pt) : List (Pt × Pt) := (List.range (nSeg k l)).map (sgZ l)
def ecells (s : Pt × Pt) (f t : Int) : List Value := [.int .i64 s.1.1, .int .i64 s.1.2, .int .i64 s.2.1, .int .i64 s.2.2, .int .i64 f, .int .i64 t]
def scells (s : Pt × Pt) : List Value := [.int .i64 s.1.1, .int .i64 s.1.2, .int .i64 s.2.1, .int .i64 s.2.2]
def endsC (l : List Pt) (m : Nat) : List Value := (List.range m).flatMap fun i => ecells (sgZ l i) i ((i + 1) % l.length : Nat)
def segC (l : List Pt) (m : Nat) : List Value := (List.range m).flatMap fun i => scells (sgZ l i)

theorem endsC_succ (l : List Pt) (m : Nat) : endsC l (m + 1) = endsC l m ++ ecells (sgZ l m) m ((m + 1) % l.length : Nat) := by simp [endsC, List.range_succ]
theorem segC_succ (l : List Pt) (m : Nat) : segC l (m + 1) = segC l m ++ scells (sgZ l m) := by simp [segC, List.range_succ]
theorem endsC_length (l : List Pt) (m : Nat) : (endsC l m).length = m * 6 := by
  induction m with
  | zero => rfl
  | succ m ih => rw [endsC_succ, List.length_append, ih]; simp [ecells]; omega
theorem segC_length (l : List Pt) (m : Nat) : (segC l m).length = m * 4 := by
  induction m with
  | zero => rfl
  | succ m ih => rw [segC_succ, List.length_append, ih]; simp [scells]; omega
theorem endsC_get (l : List Pt) : ∀ (m i : Nat), i < m → ∀ j, j < 6 → (endsC l m)[i * 6 + j]? = (ecells (sgZ l i) i ((i + 1) % l.length : Nat))[j]?
  | m + 1, i, h, j, hj => by
    rw [endsC_succ]
    by_cases he : i = m
    · subst he
      rw [List.getElem?_append_right (by rw [endsC_length]; omega), endsC_length]
      congr 1; omega
    · rw [List.getElem?_append_left (by rw [endsC_length]; omega)]
      exact endsC_get l m i (by omega) j hj
theorem segC_get (l : List Pt) : ∀ (m i : Nat), i < m → ∀ j, j < 4 → (segC l m)[i * 4 + j]? = (scells (sgZ l i))[j]?
  | m + 1, i, h, j, hj => by
    rw [segC_succ]
    by_cases he : i = m
    · subst he
      rw [List.getElem?_append_right (by rw [segC_length]; omega), segC_length]
      congr 1; omega
    · rw [List.getElem?_append_left (by rw [segC_length]; omega)]
      exact segC_get l m i (by omega) j hj
theorem ptZ_get {l : List Pt} {i : Nat} {p : Pt} (h : l[i]? = some p) : ptZ l i = p := by
  have hlt := (List.getElem?_eq_some_iff.1 h).1
  unfold ptZ
  rw [Nat.mod_eq_of_lt hlt]
  simp [List.getD, h]
theorem ptZ_round {l : List Pt} {p : Pt} (h : l[0]? = some p) : ptZ l l.length = p := by
  unfold ptZ
  rw [Nat.mod_self]
  simp [List.getD, h]
theorem cells_one (s : Pt × Pt) (f t : Int) : ∀ u ∈ ecells s f t, u.oneCell' = true := by intro u hu; simp [ecells] at hu; rcases hu with rfl | rfl | rfl | rfl | rfl | rfl <;> rfl
theorem scells_one (s : Pt × Pt) : ∀ u ∈ scells s, u.oneCell' = true := by intro u hu; simp [scells] at hu; rcases hu with rfl | rfl | rfl | rfl <;> rfl
def fvNew (cs : List Value) : FV := ⟨fun v W => ∃ g, v = .slice (some ⟨g, 0, none⟩) 1 1 ∧ Rd W (some ⟨g, 0, none⟩) cs, fun _ _ _ ⟨g, h1, h2⟩ hw => ⟨g, h1, h2.aft hw⟩⟩

theorem one_box (w : World) (c1 : Array Value) (t1 : TypeId) : ∃ W0, w.alloc (.cells c1 t1) = W0 ∧ Aft w W0 ∧ w.heap.size < W0.heap.size ∧ Hid (∀ W, Aft W0 W →
    (∀ i v, c1[i]? = some v → W.cell? ⟨w.heap.size, i, none⟩ = some v)) :=
  ⟨_, rfl, (Aft.refl w).alloc _, by simp, hid fun W hW i v h => by
    have h1 : (w.alloc (.cells c1 t1)).heap.size = w.heap.size + 1 := by simp
    rw [hW.cell (by rw [h1]; omega)]
    simp only [World.cell?, heap_alloc_new]
    exact h⟩

theorem ownsRow_mono {w : World} {base base' : Nat} {e : TypeId} {size n : Nat} {v : Value} {xs : List Value} (h : w.ownsRow base e size v n xs) (hb : base' ≤ base) : w.ownsRow base' e size v n xs := by
  refine ⟨h.1, h.2.imp id ?_⟩
  rintro ⟨g, cap, cur, h1, h2, h3⟩
  exact ⟨g, cap, cur, h1, by omega, h3⟩

theorem ownsRow_lit (W : World) (cs : Array Value) (n : Nat) (e : TypeId) (size : Nat) (hs : cs.size = n * size) (hm : n ≤ maxLen) : (W.alloc (.cells cs e)).ownsRow W.heap.size e size (.slice (some ⟨W.heap.size, 0, none⟩) n n) n cs.toList :=
  ⟨by simpa using hs, .inr ⟨W.heap.size, n, cs, rfl, Nat.le_refl _, heap_alloc_new W _, Nat.le_refl _, hm, hs, by rw [List.take_of_length_le (by simp; omega)]⟩⟩

set_option maxRecDepth 100000 in
set_option maxHeartbeats 2000000 in
theorem segments_any (k : Int) (vp : Value) (l : List Pt) (w : World) (hl : Prs w vp l) (hsm : l.length ≤ 1000) :
    Calls Try.prog 78 #[.agg #[.int .i64 k, vp]] w fun e w' => ∃ v, e = .returned v ∧ w'.ownsRow w.heap.size 59 6 v (nSeg k l) (endsC l (nSeg k l)) ∧ Aft w w' := by
  obtain ⟨a, c, rfl, hl⟩ := hl
  have hn := hl.le
  obtain ⟨W0, eW0, hw0, hlt, hbox⟩ := one_box w #[.int .i64 k, .slice a l.length c] 51
  go_enter Try.func78, Try.ntmps78
  go_upto_region 2 with fail
  clear eW0
  have hF : Hid (∀ W, Aft W0 W → W.cell? ⟨w.heap.size, 0, none⟩ = some (.int .i64 k) ∧ W.cell? ⟨w.heap.size, 1, none⟩ = some (.slice a l.length c)) := hid fun W hW => ⟨hbox.out W hW 0 _ rfl, hbox.out W hW 1 _ rfl⟩
  clear hbox
  generalize hn0 : w.heap.size = n0 at *
  have hnil : ∀ W : World, W.ownsRow W0.heap.size 59 6 (.slice none 0 0) 0 (endsC l 0) := fun W => World.ownsRow_nil _ _ _ _
  obtain ⟨p1, p2⟩ := hF.out W0 (Aft.refl _)
  have hl0 := hl.aft hw0
  clear hl
  by_cases hk : k = 0
  · have e0 : nSeg k l = 0 := by unfold nSeg; rw [if_pos (.inl hk)]
    have E0 := hid e0; clear e0
    have hni := hid (hnil W0); clear hnil
    go_wp2
    go_ret
    exact ⟨_, rfl, by rw [E0.out]; exact ownsRow_mono hni.out hw0.size, hw0⟩
  have ek : (k == 0) = false := by simpa using hk
  by_cases h2 : l.length < 2
  · have e0 : nSeg k l = 0 := by unfold nSeg; rw [if_pos (.inr h2)]
    have E0 := hid e0; clear e0
    have hni := hid (hnil W0); clear hnil
    go_wp2
    go_ret
    exact ⟨_, rfl, by rw [E0.out]; exact ownsRow_mono hni.out hw0.size, hw0⟩
  have h2' : 2 ≤ l.length := by omega
  have hni := hid (hnil W0); clear hnil
  go_wp2
  clear p1 p2
  go_loopw [3, 5] (fun v i wr => ∃ r : Nat, r + 1 ≤ l.length ∧ i = .int .i64 r ∧ wr.ownsRow W0.heap.size 59 6 v r (endsC l r) ∧ Aft W0 wr) (fun _ i _ => l.length - (intOf i).toNat)
  case atStart => exact ⟨0, by omega, rfl, hni.out, Aft.refl _⟩
  case round =>
    obtain ⟨r, hr, rfl, hown, hwr⟩ := hrel
    have hww := hw0.trans hwr
    have hz1 := hww.size
    have hz2 := hwr.size
    obtain ⟨p1, p2⟩ := hF.out wr hwr
    have hlr := hl0.aft hwr
    rcases Nat.lt_or_ge (r + 1) l.length with hlt' | hge
    · have hlt2 : (r : Int) + 1 < l.length := by omega
      have hlt3 : (r : Int) < l.length := by omega
      obtain ⟨b, off, x, y, rfl, c1, c2, hb, hx, _⟩ := hlr.rd.pair hlr.ok (show r < l.length by omega)
      obtain ⟨x', y', c3, c4, hx', _⟩ := Rd.pair_at hlr.rd hlr.ok hlt'
      have hsg : sgZ l r = ((x, y), (x', y')) := by unfold sgZ; rw [ptZ_get hx.out, ptZ_get hx'.out]
      have hmod : (r + 1) % l.length = r + 1 := Nat.mod_eq_of_lt hlt'
      have SG := hid hsg; clear hsg
      have MD := hid hmod; clear hmod
      go_upto_region 8 with fail
      refine wp_region_flow _ (Aft.refl _) [FV.is (u3), FV.is (.pointer (some ⟨n0, 1, none⟩)), FV.is (.slice (some ⟨b, off, none⟩) l.length c), FV.is (.int .i64 r), FV.is (.pointer (some ⟨b, off + r * 2, none⟩)), FV.is (.agg #[.int .i64 x, .int .i64 y]), FV.is (.pointer (some ⟨n0, 1, none⟩)), FV.is (.slice (some ⟨b, off, none⟩) l.length c), FV.is (.int .i64 r), FV.is (.int .i64 ((r : Int) + 1)), FV.is (.pointer (some ⟨b, off + (r + 1) * 2, none⟩)), FV.is (.agg #[.int .i64 x', .int .i64 y']), FV.is (.int .i64 r), FV.is (.int .i64 r), FV.is (.int .i64 ((r : Int) + 1)), FV.is (.agg #[.int .i64 x, .int .i64 y, .int .i64 x', .int .i64 y', .int .i64 r, .int .i64 ((r : Int) + 1)]), fvNew (ecells ((x, y), (x', y')) r ((r : Int) + 1))]
        [(0, 22), (1, 23), (2, 24), (3, 25), (4, 26), (5, 27), (6, 28), (7, 29), (8, 30), (9, 31), (10, 32), (11, 33), (12, 34), (13, 35), (14, 36), (15, 37), (16, 38)]
        [[], [], [(1, 23)], [], [(2, 24), (3, 25)], [(4, 26)], [], [(6, 28)], [], [(8, 30)], [(7, 29), (9, 31)], [(10, 32)], [], [], [(13, 35)], [(5, 27), (11, 33), (12, 34), (14, 36)], [(15, 37)]] (by kernel_rfl) (by kernel_rfl) ?_ ?_
      · refine flowObs_cons (fun W hW => flowOb_nil ?_) ?_
        · go_wp2
          exact ⟨rfl, Aft.refl W⟩
        refine flowObs_cons (fun W hW => flowOb_nil ?_) ?_
        · go_wp2
          exact ⟨rfl, Aft.refl W⟩
        refine flowObs_cons (fun W hW => flowOb_cons fun v0 h0 => flowOb_nil ?_) ?_
        · obtain rfl := h0
          have p2W := (hW.cell (World.block_lt_of_cell? _ _ p2)).trans p2
          have c1W := (hW.cell (World.block_lt_of_cell? _ _ c1)).trans c1
          have c2W := (hW.cell (World.block_lt_of_cell? _ _ c2)).trans c2
          have c3W := (hW.cell (World.block_lt_of_cell? _ _ c3)).trans c3
          have c4W := (hW.cell (World.block_lt_of_cell? _ _ c4)).trans c4
          go_wp2
          exact ⟨rfl, Aft.refl W⟩
        refine flowObs_cons (fun W hW => flowOb_nil ?_) ?_
        · go_wp2
          exact ⟨rfl, Aft.refl W⟩
        refine flowObs_cons (fun W hW => flowOb_cons fun v0 h0 => flowOb_cons fun v1 h1 => flowOb_nil ?_) ?_
        · obtain rfl := h0
          obtain rfl := h1
          go_wp2
          exact ⟨rfl, Aft.refl W⟩
        refine flowObs_cons (fun W hW => flowOb_cons fun v0 h0 => flowOb_nil ?_) ?_
        · obtain rfl := h0
          have p2W := (hW.cell (World.block_lt_of_cell? _ _ p2)).trans p2
          have c1W := (hW.cell (World.block_lt_of_cell? _ _ c1)).trans c1
          have c2W := (hW.cell (World.block_lt_of_cell? _ _ c2)).trans c2
          have c3W := (hW.cell (World.block_lt_of_cell? _ _ c3)).trans c3
          have c4W := (hW.cell (World.block_lt_of_cell? _ _ c4)).trans c4
          go_wp2
          exact ⟨rfl, Aft.refl W⟩
        refine flowObs_cons (fun W hW => flowOb_nil ?_) ?_
        · go_wp2
          exact ⟨rfl, Aft.refl W⟩
        refine flowObs_cons (fun W hW => flowOb_cons fun v0 h0 => flowOb_nil ?_) ?_
        · obtain rfl := h0
          have p2W := (hW.cell (World.block_lt_of_cell? _ _ p2)).trans p2
          have c1W := (hW.cell (World.block_lt_of_cell? _ _ c1)).trans c1
          have c2W := (hW.cell (World.block_lt_of_cell? _ _ c2)).trans c2
          have c3W := (hW.cell (World.block_lt_of_cell? _ _ c3)).trans c3
          have c4W := (hW.cell (World.block_lt_of_cell? _ _ c4)).trans c4
          go_wp2
          exact ⟨rfl, Aft.refl W⟩
        refine flowObs_cons (fun W hW => flowOb_nil ?_) ?_
        · go_wp2
          exact ⟨rfl, Aft.refl W⟩
        refine flowObs_cons (fun W hW => flowOb_cons fun v0 h0 => flowOb_nil ?_) ?_
        · obtain rfl := h0
          go_wp2
          exact ⟨rfl, Aft.refl W⟩
        refine flowObs_cons (fun W hW => flowOb_cons fun v0 h0 => flowOb_cons fun v1 h1 => flowOb_nil ?_) ?_
        · obtain rfl := h0
          obtain rfl := h1
          go_wp2
          exact ⟨rfl, Aft.refl W⟩
        refine flowObs_cons (fun W hW => flowOb_cons fun v0 h0 => flowOb_nil ?_) ?_
        · obtain rfl := h0
          have p2W := (hW.cell (World.block_lt_of_cell? _ _ p2)).trans p2
          have c1W := (hW.cell (World.block_lt_of_cell? _ _ c1)).trans c1
          have c2W := (hW.cell (World.block_lt_of_cell? _ _ c2)).trans c2
          have c3W := (hW.cell (World.block_lt_of_cell? _ _ c3)).trans c3
          have c4W := (hW.cell (World.block_lt_of_cell? _ _ c4)).trans c4
          go_wp2
          exact ⟨rfl, Aft.refl W⟩
        refine flowObs_cons (fun W hW => flowOb_nil ?_) ?_
        · go_wp2
          exact ⟨rfl, Aft.refl W⟩
        refine flowObs_cons (fun W hW => flowOb_nil ?_) ?_
        · go_wp2
          exact ⟨rfl, Aft.refl W⟩
        refine flowObs_cons (fun W hW => flowOb_cons fun v0 h0 => flowOb_nil ?_) ?_
        · obtain rfl := h0
          go_wp2
          exact ⟨rfl, Aft.refl W⟩
        refine flowObs_cons (fun W hW => flowOb_cons fun v0 h0 => flowOb_cons fun v1 h1 => flowOb_cons fun v2 h2 => flowOb_cons fun v3 h3 => flowOb_nil ?_) ?_
        · obtain rfl := h0
          obtain rfl := h1
          obtain rfl := h2
          obtain rfl := h3
          go_wp2
          exact ⟨rfl, Aft.refl W⟩
        refine flowObs_cons (fun W hW => flowOb_cons fun v0 h0 => flowOb_nil ?_) flowObs_nil
        · obtain rfl := h0
          go_wp2
          exact ⟨⟨_, rfl, Rd.new⟩, (Aft.refl W).alloc _⟩
      · intro W hW
        refine flowEnd_cons fun v0 h0 => ?_
        obtain rfl := h0
        iterate 15 refine flowEnd_cons fun _ _ => ?_
        refine flowEnd_cons fun v h => flowEnd_nil ?_
        obtain ⟨g, rfl, hrd⟩ := h
        have hownW := ownsRow_aft hown hW
        have hz3 := hW.size
        simp only [Act.put, List.setIfInBounds_toArray, List.set_cons_succ, List.set_cons_zero]
        refine wpList_app _ rfl (.tmp 22) (.tmp 38) 53 rfl W0.heap.size 59 (.agg #[.int .i64 0, .int .i64 0, .int .i64 0, .int .i64 0, .int .i64 0, .int .i64 0]) 6 48 Try.underlying53 Try.info59 rfl (by decide) _ r (endsC l r) rfl hownW (some ⟨g, 0, none⟩) 1 1 (ecells ((x, y), (x', y')) r ((r : Int) + 1)) rfl (fun h => by cases h) rfl hrd (cells_one _ _ _) (by unfold maxLen; omega) (by omega) (by omega) ?_
        intro v' w' hown' hgrow hloc
        go_wp2
        have hfin := (hwr.trans hW).grown hgrow (fun j hj => (hownW.lt j hj).1)
        go_roundw
        case rel => exact ⟨r + 1, by omega, by go_num, by rw [endsC_succ, SG.out, MD.out]; exact hown', hfin⟩
        case measure => simp only [intOf]; omega
    · have hre : l.length = r + 1 := by omega
      have hge2 : ¬ ((r : Int) + 1 < (l.length : Int)) := by omega
      by_cases hk2 : k = 2
      · have em : nSeg k l = l.length := by unfold nSeg; rw [if_neg (by omega), if_pos hk2]
        have EM := hid em; clear em
        obtain ⟨b, off, x, y, rfl, c1, c2, hb, hx, _⟩ := hlr.rd.pair hlr.ok (show l.length - 1 < l.length by omega)
        obtain ⟨x', y', c3, c4, hx', _⟩ := Rd.pair_at hlr.rd hlr.ok (show 0 < l.length by omega)
        have hsg : sgZ l r = ((x, y), (x', y')) := by
          unfold sgZ
          have h1 : l.length - 1 = r := by omega
          have h2 := hx.out
          rw [h1] at h2
          rw [ptZ_get h2, ← hre, ptZ_round hx'.out]
        have hmod : (r + 1) % l.length = 0 := by rw [← hre, Nat.mod_self]
        have SG := hid hsg; clear hsg
        have MD := hid hmod; clear hmod
        rw [Nat.zero_mul, Nat.add_zero] at c3 c4
        have hr1 : l.length - 1 = r := by omega
        rw [hr1] at c1 c2
        clear hr1
        have ht4 : (l.length : Int) - 1 = r := by omega
        have hgl : (r : Int) < l.length := by omega
        have hg0 : (0 : Int) < l.length := by omega
        subst hk2
        go_upto_region 10 with fail
        refine wp_region_flow _ (Aft.refl _) [FV.is (u3), FV.is (.pointer (some ⟨n0, 1, none⟩)), FV.is (.slice (some ⟨b, off, none⟩) l.length c), FV.is (.int .i64 l.length), FV.is (.int .i64 r), FV.is (.pointer (some ⟨b, off + r * 2, none⟩)), FV.is (.agg #[.int .i64 x, .int .i64 y]), FV.is (.pointer (some ⟨n0, 1, none⟩)), FV.is (.slice (some ⟨b, off, none⟩) l.length c), FV.is (.pointer (some ⟨b, off, none⟩)), FV.is (.agg #[.int .i64 x', .int .i64 y']), FV.is (.int .i64 l.length), FV.is (.int .i64 r), FV.is (.agg #[.int .i64 x, .int .i64 y, .int .i64 x', .int .i64 y', .int .i64 r, .int .i64 0]), fvNew (ecells ((x, y), (x', y')) r 0)]
          [(0, 43), (1, 44), (2, 45), (3, 46), (4, 47), (5, 48), (6, 49), (7, 50), (8, 51), (9, 52), (10, 53), (11, 54), (12, 55), (13, 56), (14, 57)]
          [[], [], [(1, 44)], [], [(3, 46)], [(2, 45), (4, 47)], [(5, 48)], [], [(7, 50)], [(8, 51)], [(9, 52)], [], [(11, 54)], [(6, 49), (10, 53), (12, 55)], [(13, 56)]] (by kernel_rfl) (by kernel_rfl) ?_ ?_
        · refine flowObs_cons (fun W hW => flowOb_nil ?_) ?_
          · go_wp2
            exact ⟨rfl, Aft.refl W⟩
          refine flowObs_cons (fun W hW => flowOb_nil ?_) ?_
          · go_wp2
            exact ⟨rfl, Aft.refl W⟩
          refine flowObs_cons (fun W hW => flowOb_cons fun v0 h0 => flowOb_nil ?_) ?_
          · obtain rfl := h0
            have p2W := (hW.cell (World.block_lt_of_cell? _ _ p2)).trans p2
            have c1W := (hW.cell (World.block_lt_of_cell? _ _ c1)).trans c1
            have c2W := (hW.cell (World.block_lt_of_cell? _ _ c2)).trans c2
            have c3W := (hW.cell (World.block_lt_of_cell? _ _ c3)).trans c3
            have c4W := (hW.cell (World.block_lt_of_cell? _ _ c4)).trans c4
            go_wp2
            exact ⟨rfl, Aft.refl W⟩
          refine flowObs_cons (fun W hW => flowOb_nil ?_) ?_
          · go_wp2
            exact ⟨rfl, Aft.refl W⟩
          refine flowObs_cons (fun W hW => flowOb_cons fun v0 h0 => flowOb_nil ?_) ?_
          · obtain rfl := h0
            go_wp2
            exact ⟨rfl, Aft.refl W⟩
          refine flowObs_cons (fun W hW => flowOb_cons fun v0 h0 => flowOb_cons fun v1 h1 => flowOb_nil ?_) ?_
          · obtain rfl := h0
            obtain rfl := h1
            go_wp2
            exact ⟨rfl, Aft.refl W⟩
          refine flowObs_cons (fun W hW => flowOb_cons fun v0 h0 => flowOb_nil ?_) ?_
          · obtain rfl := h0
            have p2W := (hW.cell (World.block_lt_of_cell? _ _ p2)).trans p2
            have c1W := (hW.cell (World.block_lt_of_cell? _ _ c1)).trans c1
            have c2W := (hW.cell (World.block_lt_of_cell? _ _ c2)).trans c2
            have c3W := (hW.cell (World.block_lt_of_cell? _ _ c3)).trans c3
            have c4W := (hW.cell (World.block_lt_of_cell? _ _ c4)).trans c4
            go_wp2
            exact ⟨rfl, Aft.refl W⟩
          refine flowObs_cons (fun W hW => flowOb_nil ?_) ?_
          · go_wp2
            exact ⟨rfl, Aft.refl W⟩
          refine flowObs_cons (fun W hW => flowOb_cons fun v0 h0 => flowOb_nil ?_) ?_
          · obtain rfl := h0
            have p2W := (hW.cell (World.block_lt_of_cell? _ _ p2)).trans p2
            have c1W := (hW.cell (World.block_lt_of_cell? _ _ c1)).trans c1
            have c2W := (hW.cell (World.block_lt_of_cell? _ _ c2)).trans c2
            have c3W := (hW.cell (World.block_lt_of_cell? _ _ c3)).trans c3
            have c4W := (hW.cell (World.block_lt_of_cell? _ _ c4)).trans c4
            go_wp2
            exact ⟨rfl, Aft.refl W⟩
          refine flowObs_cons (fun W hW => flowOb_cons fun v0 h0 => flowOb_nil ?_) ?_
          · obtain rfl := h0
            go_wp2
            exact ⟨rfl, Aft.refl W⟩
          refine flowObs_cons (fun W hW => flowOb_cons fun v0 h0 => flowOb_nil ?_) ?_
          · obtain rfl := h0
            have p2W := (hW.cell (World.block_lt_of_cell? _ _ p2)).trans p2
            have c1W := (hW.cell (World.block_lt_of_cell? _ _ c1)).trans c1
            have c2W := (hW.cell (World.block_lt_of_cell? _ _ c2)).trans c2
            have c3W := (hW.cell (World.block_lt_of_cell? _ _ c3)).trans c3
            have c4W := (hW.cell (World.block_lt_of_cell? _ _ c4)).trans c4
            go_wp2
            exact ⟨rfl, Aft.refl W⟩
          refine flowObs_cons (fun W hW => flowOb_nil ?_) ?_
          · go_wp2
            exact ⟨rfl, Aft.refl W⟩
          refine flowObs_cons (fun W hW => flowOb_cons fun v0 h0 => flowOb_nil ?_) ?_
          · obtain rfl := h0
            go_wp2
            exact ⟨rfl, Aft.refl W⟩
          refine flowObs_cons (fun W hW => flowOb_cons fun v0 h0 => flowOb_cons fun v1 h1 => flowOb_cons fun v2 h2 => flowOb_nil ?_) ?_
          · obtain rfl := h0
            obtain rfl := h1
            obtain rfl := h2
            go_wp2
            exact ⟨rfl, Aft.refl W⟩
          refine flowObs_cons (fun W hW => flowOb_cons fun v0 h0 => flowOb_nil ?_) flowObs_nil
          · obtain rfl := h0
            go_wp2
            exact ⟨⟨_, rfl, Rd.new⟩, (Aft.refl W).alloc _⟩
        · intro W hW
          refine flowEnd_cons fun v0 h0 => ?_
          obtain rfl := h0
          iterate 13 refine flowEnd_cons fun _ _ => ?_
          refine flowEnd_cons fun v h => flowEnd_nil ?_
          obtain ⟨g, rfl, hrd⟩ := h
          have hownW := ownsRow_aft hown hW
          have hz3 := hW.size
          simp only [Act.put, List.setIfInBounds_toArray, List.set_cons_succ, List.set_cons_zero]
          refine wpList_app _ rfl (.tmp 43) (.tmp 57) 53 rfl W0.heap.size 59 (.agg #[.int .i64 0, .int .i64 0, .int .i64 0, .int .i64 0, .int .i64 0, .int .i64 0]) 6 48 Try.underlying53 Try.info59 rfl (by decide) _ r (endsC l r) rfl hownW (some ⟨g, 0, none⟩) 1 1 (ecells ((x, y), (x', y')) r 0) rfl (fun h => by cases h) rfl hrd (cells_one _ _ _) (by unfold maxLen; omega) (by omega) (by omega) ?_
          intro v' w' hown' hgrow hloc
          have hfin := (hwr.trans hW).grown hgrow (fun j hj => (hownW.lt j hj).1)
          go_wp2
          go_ret
          refine ⟨_, rfl, ?_, hw0.trans hfin⟩
          rw [EM.out, hre, endsC_succ, SG.out, MD.out]
          exact ownsRow_mono hown' (by have := hw0.size; omega)
      · have em : nSeg k l = r := by unfold nSeg; rw [if_neg (by omega), if_neg hk2]; omega
        have EM := hid em; clear em
        go_wp2
        go_ret
        exact ⟨_, rfl, by rw [EM.out]; exact ownsRow_mono hown (by have := hw0.size; omega), hww⟩

def nPart (k : Int) (l : List Pt) : Nat := if k = 0 then 1 else nSeg k l

set_option maxRecDepth 100000 in
set_option maxHeartbeats 2000000 in
theorem parts_any (k : Int) (vp : Value) (l : List Pt) (w : World) (hl : Prs w vp l) (hsm : l.length ≤ 1000) (hdot : k = 0 → l.length = 1) :
    Calls Try.prog 30 #[.agg #[.int .i64 k, vp]] w fun e w' => ∃ v, e = .returned v ∧ w'.ownsRow w.heap.size 59 6 v (nPart k l) (endsC l (nPart k l)) ∧ Aft w w' := by
  have hP := hl
  obtain ⟨a, c, rfl, hl⟩ := hl
  have hn := hl.le
  obtain ⟨W0, eW0, hw0, hlt, hbox⟩ := one_box w #[.int .i64 k, .slice a l.length c] 51
  go_enter Try.func30, Try.ntmps30
  go_upto_region 1 with fail
  clear eW0
  have hF : Hid (∀ W, Aft W0 W → W.cell? ⟨w.heap.size, 0, none⟩ = some (.int .i64 k) ∧ W.cell? ⟨w.heap.size, 1, none⟩ = some (.slice a l.length c)) := hid fun W hW => ⟨hbox.out W hW 0 _ rfl, hbox.out W hW 1 _ rfl⟩
  clear hbox
  obtain ⟨p1, p2⟩ := hF.out W0 (Aft.refl _)
  generalize hn0 : w.heap.size = n0 at *
  by_cases hk : k = 0
  · have h1 := hdot hk
    subst hk
    have h1i : (0 : Int) < l.length := by omega
    have hlr := hl.aft hw0
    obtain ⟨b, off, x, y, rfl, c1, c2, hb, hx, _⟩ := hlr.rd.pair hlr.ok (show 0 < l.length by omega)
    rw [Nat.zero_mul, Nat.add_zero] at c1 c2
    have hsg : endsC l 1 = ecells ((x, y), (x, y)) 0 0 := by
      have e0 : ptZ l 0 = (x, y) := ptZ_get hx.out
      have e1 : ptZ l 1 = (x, y) := by rw [← h1]; exact ptZ_round hx.out
      rw [endsC_succ]
      simp only [sgZ, e0, e1, h1]
      rfl
    have SG := hid hsg; clear hsg h1 hdot
    go_upto_region 2 with fail
    refine wp_region_flow _ (Aft.refl _) [FV.is (.pointer (some ⟨n0, 1, none⟩)), FV.is (.slice (some ⟨b, off, none⟩) l.length c), FV.is (.pointer (some ⟨b, off, none⟩)), FV.is (.agg #[.int .i64 x, .int .i64 y]), FV.is (.pointer (some ⟨n0, 1, none⟩)), FV.is (.slice (some ⟨b, off, none⟩) l.length c), FV.is (.pointer (some ⟨b, off, none⟩)), FV.is (.agg #[.int .i64 x, .int .i64 y]), FV.is (.agg #[.int .i64 x, .int .i64 y, .int .i64 x, .int .i64 y, .int .i64 0, .int .i64 0])]
      [(0, 12), (1, 13), (2, 14), (3, 15), (4, 16), (5, 17), (6, 18), (7, 19), (8, 20)]
      [[], [(0, 12)], [(1, 13)], [(2, 14)], [], [(4, 16)], [(5, 17)], [(6, 18)], [(3, 15), (7, 19)]] (by kernel_rfl) (by kernel_rfl) ?_ ?_
    · refine flowObs_cons (fun W hW => flowOb_nil ?_) ?_
      · go_wp2
        exact ⟨rfl, Aft.refl W⟩
      refine flowObs_cons (fun W hW => flowOb_cons fun v0 h0 => flowOb_nil ?_) ?_
      · obtain rfl := h0
        have p2W := (hW.cell (World.block_lt_of_cell? _ _ p2)).trans p2
        have c1W := (hW.cell (World.block_lt_of_cell? _ _ c1)).trans c1
        have c2W := (hW.cell (World.block_lt_of_cell? _ _ c2)).trans c2
        go_wp2
        exact ⟨rfl, Aft.refl W⟩
      refine flowObs_cons (fun W hW => flowOb_cons fun v0 h0 => flowOb_nil ?_) ?_
      · obtain rfl := h0
        go_wp2
        exact ⟨rfl, Aft.refl W⟩
      refine flowObs_cons (fun W hW => flowOb_cons fun v0 h0 => flowOb_nil ?_) ?_
      · obtain rfl := h0
        have p2W := (hW.cell (World.block_lt_of_cell? _ _ p2)).trans p2
        have c1W := (hW.cell (World.block_lt_of_cell? _ _ c1)).trans c1
        have c2W := (hW.cell (World.block_lt_of_cell? _ _ c2)).trans c2
        go_wp2
        exact ⟨rfl, Aft.refl W⟩
      refine flowObs_cons (fun W hW => flowOb_nil ?_) ?_
      · go_wp2
        exact ⟨rfl, Aft.refl W⟩
      refine flowObs_cons (fun W hW => flowOb_cons fun v0 h0 => flowOb_nil ?_) ?_
      · obtain rfl := h0
        have p2W := (hW.cell (World.block_lt_of_cell? _ _ p2)).trans p2
        have c1W := (hW.cell (World.block_lt_of_cell? _ _ c1)).trans c1
        have c2W := (hW.cell (World.block_lt_of_cell? _ _ c2)).trans c2
        go_wp2
        exact ⟨rfl, Aft.refl W⟩
      refine flowObs_cons (fun W hW => flowOb_cons fun v0 h0 => flowOb_nil ?_) ?_
      · obtain rfl := h0
        go_wp2
        exact ⟨rfl, Aft.refl W⟩
      refine flowObs_cons (fun W hW => flowOb_cons fun v0 h0 => flowOb_nil ?_) ?_
      · obtain rfl := h0
        have p2W := (hW.cell (World.block_lt_of_cell? _ _ p2)).trans p2
        have c1W := (hW.cell (World.block_lt_of_cell? _ _ c1)).trans c1
        have c2W := (hW.cell (World.block_lt_of_cell? _ _ c2)).trans c2
        go_wp2
        exact ⟨rfl, Aft.refl W⟩
      refine flowObs_cons (fun W hW => flowOb_cons fun v0 h0 => flowOb_cons fun v1 h1 => flowOb_nil ?_) flowObs_nil
      · obtain rfl := h0
        obtain rfl := h1
        go_wp2
        exact ⟨rfl, Aft.refl W⟩
    · intro W hW
      iterate 8 refine flowEnd_cons fun _ _ => ?_
      refine flowEnd_cons fun v h => flowEnd_nil ?_
      obtain rfl := h
      have hown : (W.alloc (.cells #[.int .i64 x, .int .i64 y, .int .i64 x, .int .i64 y, .int .i64 0, .int .i64 0] 59)).ownsRow W.heap.size 59 6 (.slice (some ⟨W.heap.size, 0, none⟩) 1 1) 1 [.int .i64 x, .int .i64 y, .int .i64 x, .int .i64 y, .int .i64 0, .int .i64 0] := ownsRow_lit W #[_, _, _, _, _, _] 1 59 6 rfl (by unfold maxLen; omega)
      have hz := hW.size
      have hz' := hw0.size
      have hw := (hw0.trans hW).alloc (.cells #[.int .i64 x, .int .i64 y, .int .i64 x, .int .i64 y, .int .i64 0, .int .i64 0] 59)
      have HO := hid hown
      clear hown
      go_wp2
      go_ret
      refine ⟨_, rfl, ?_, hw⟩
      rw [show nPart 0 l = 1 from rfl, SG.out]
      exact ownsRow_mono HO.out (by omega)
  · have ek : (k == 0) = false := by simpa using hk
    have ep : nPart k l = nSeg k l := by unfold nPart; rw [if_neg hk]
    have EP := hid ep; clear ep
    go_wp2_with fail
    refine (segments_any k _ l _ (hP.aft hw0) hsm).mono ?_
    rintro e w1 ⟨v, rfl, hown, hw1⟩
    have hz' := hw0.size
    have HO := hid (ownsRow_mono hown hz')
    clear hown
    have hw := hw0.trans hw1
    go_wp2
    go_ret
    exact ⟨_, rfl, by rw [EP.out]; exact ownsRow_mono HO.out (by omega), hw⟩
end Go.Proofs.Ytokdclbfjlnnjaa
