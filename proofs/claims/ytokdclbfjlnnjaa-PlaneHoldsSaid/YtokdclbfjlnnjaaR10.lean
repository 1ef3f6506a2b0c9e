/- The reference's Moved and Turned. -/
import Derived.Test.YtokdclbfjlnnjaaLa
namespace Go.Proofs.Ytokdclbfjlnnjaa
open Go.RowKit Go.BigFrame

def trP (dx dy : Int) (p : Pt) : Pt := (p.1 + dx, p.2 + dy)
/-- Kept in a box of the call's own: a row that grows. -/
theorem box_row {W0 W w' : World} {n7 r c' g' : Nat} {v : Value} {xs : List Value} {k : Int} (hn7 : W0.heap.size ≤ n7) (hW : Aft W0 W) (hown : W.ownsRow (n7 + 1) 57 2 v r xs) (hgrow : W.grownBy w' v.ownBlock) (e9 : W.cell? ⟨n7, 0, none⟩ = some (.int .i64 k)) (c9 : W.cell? ⟨n7, 1, none⟩ = some v) (f9 : W.frozen? ⟨n7, 1, none⟩ = false)
    {ys : List Value} (hown' : w'.ownsRow (n7 + 1) 57 2 (.slice (some ⟨g', 0, none⟩) (r + 1) c') (r + 1) ys) :
    (w'.cell? ⟨n7, 1, none⟩ = some v ∧ w'.frozen? ⟨n7, 1, none⟩ = false) ∧ Hid ((w'.setCell ⟨n7, 1, none⟩ (.slice (some ⟨g', 0, none⟩) (r + 1) c')).cell? ⟨n7, 0, none⟩ = some (.int .i64 k) ∧ (w'.setCell ⟨n7, 1, none⟩ (.slice (some ⟨g', 0, none⟩) (r + 1) c')).cell? ⟨n7, 1, none⟩ = some (.slice (some ⟨g', 0, none⟩) (r + 1) c') ∧
      (w'.setCell ⟨n7, 1, none⟩ (.slice (some ⟨g', 0, none⟩) (r + 1) c')).frozen? ⟨n7, 1, none⟩ = false ∧ (w'.setCell ⟨n7, 1, none⟩ (.slice (some ⟨g', 0, none⟩) (r + 1) c')).ownsRow (n7 + 1) 57 2 (.slice (some ⟨g', 0, none⟩) (r + 1) c') (r + 1) ys ∧ Aft W0 (w'.setCell ⟨n7, 1, none⟩ (.slice (some ⟨g', 0, none⟩) (r + 1) c'))) := by
  have hlt := World.block_lt_of_cell? _ _ c9
  have hb9 : w'.heap[n7]? = W.heap[n7]? := hgrow.block n7 hlt (fun e => by have := (hown.lt n7 e.symm).1; omega)
  have e9W := (World.cell?_of_block (a := ⟨n7, 0, none⟩) hb9).trans e9
  have c9W := (World.cell?_of_block (a := ⟨n7, 1, none⟩) hb9).trans c9
  have f9W := (World.frozen?_of_block (a := ⟨n7, 1, none⟩) hb9).trans f9
  have hA := hW.grown hgrow (fun j hj => by have := (hown.lt j hj).1; omega)
  have hg' := (hown'.lt g' rfl).1
  refine ⟨⟨c9W, f9W⟩, hid ⟨?_, ?_, ?_, ?_, ?_⟩⟩
  · rw [World.cell?_setCell_other _ _ _ _ (by simp)]; exact e9W
  · exact World.cell?_setCell_same' _ _ _ (by rw [c9W]; rfl)
  · rw [World.frozen?_setCell]; exact f9W
  · exact Sep.kept (v' := .slice (some ⟨n7, 1, none⟩) 0 0) (sep_ne'' (by omega)) hown' (grown_setCell w' ⟨n7, 1, none⟩ _)
  · exact hA.setCell (p := ⟨n7, 1, none⟩) (by show W0.heap.size ≤ n7; omega) _
theorem store2b {w W : World} {n base m e : Nat} {u0 u1 v : Value} {xs : List Value} (hW : Aft w W) (hn : w.heap.size ≤ n) (hb : n < base) (ho : W.ownsRow base e 2 v m xs) (c0 : W.cell? ⟨n, 0, none⟩ = some u0) (c1 : W.cell? ⟨n, 1, none⟩ = some u1) (x y : Value) :
    Hid (((W.setCell ⟨n, 0, none⟩ x).setCell ⟨n, 1, none⟩ y).cell? ⟨n, 0, none⟩ = some x ∧ ((W.setCell ⟨n, 0, none⟩ x).setCell ⟨n, 1, none⟩ y).cell? ⟨n, 1, none⟩ = some y ∧
      ((W.setCell ⟨n, 0, none⟩ x).setCell ⟨n, 1, none⟩ y).ownsRow base e 2 v m xs ∧ Aft w ((W.setCell ⟨n, 0, none⟩ x).setCell ⟨n, 1, none⟩ y)) := by
  obtain ⟨h1, h2, h3, h4⟩ := store2 hW hn c0 c1 x y
  exact hid ⟨h1, h2, ownsRow_kx ho h3 (fun j hj => by subst hj; exact hb), h4⟩

theorem ownsRow_kx3 {X : Nat → Prop} {A B : World} {base : Nat} {e : TypeId} {size n : Nat} {v : Value} {xs : List Value} (h : A.ownsRow base e size v n xs) (hk : Kx X A B) (hX : ∀ g, v.ownBlock = some g → ¬ X g) : B.ownsRow base e size v n xs := by
  refine ⟨h.1, h.2.imp id ?_⟩
  rintro ⟨g, cap, cur, h1, h2, h3, h4⟩
  exact ⟨g, cap, cur, h1, h2, (hk.block g (Array.getElem?_eq_some_iff.1 h3).1 (hX g (by rw [h1]; rfl))).trans h3, h4⟩

set_option maxRecDepth 100000 in
set_option maxHeartbeats 8000000 in
theorem moved_any (k dx dy : Int) (vp : Value) (l : List Pt) (w : World) (hl : Prs w vp l) (hsm : l.length ≤ 1000) (hsc : ScL l) (hdx : -1000 ≤ dx ∧ dx ≤ 1000) (hdy : -1000 ≤ dy ∧ dy ≤ 1000) :
    Calls Try.prog 45 #[.agg #[.int .i64 k, vp], .int .i64 dx, .int .i64 dy] w fun e w' => ∃ v, e = .returned (.agg #[.int .i64 k, v]) ∧ w'.ownsRow w.heap.size 57 2 v l.length (prs (l.map (trP dx dy))) ∧ Aft w w' := by
  obtain ⟨a, c, rfl, hl⟩ := hl
  go_enter Try.func45, Try.ntmps45
  go_upto_region 1 with fail
  obtain ⟨W0, eW0, hw0, hlt0, hbox0⟩ := two_boxes w #[.int .i64 k, .slice a l.length c] #[.int .i64 0, .slice none 0 0] 51 51
  have hf6 : W0.frozen? ⟨w.heap.size + 1, 0, none⟩ = false ∧ W0.frozen? ⟨w.heap.size + 1, 1, none⟩ = false := by
    rw [← eW0]
    exact ⟨by simp, by simp⟩
  rw [eW0]
  clear eW0
  have hF : Hid (∀ W, Aft W0 W → (W.cell? ⟨w.heap.size, 0, none⟩ = some (.int .i64 k) ∧ W.cell? ⟨w.heap.size, 1, none⟩ = some (.slice a l.length c)) ∧ W.cell? ⟨w.heap.size + 1, 0, none⟩ = some (.int .i64 0) ∧ W.cell? ⟨w.heap.size + 1, 1, none⟩ = some (.slice none 0 0)) := hid fun W hW =>
    ⟨⟨(hbox0.out W hW).1 0 _ rfl, (hbox0.out W hW).1 1 _ rfl⟩, (hbox0.out W hW).2 0 _ rfl, (hbox0.out W hW).2 1 _ rfl⟩
  clear hbox0
  obtain ⟨n6, hn6⟩ : ∃ n, w.heap.size + 1 = n := ⟨_, rfl⟩
  rw [hn6] at hF hf6 hlt0 ⊢
  have hn6w : w.heap.size ≤ n6 := by omega
  obtain ⟨n3, hn3⟩ : ∃ n, w.heap.size = n := ⟨_, rfl⟩
  rw [hn3] at hF ⊢
  clear hn6
  obtain ⟨⟨p1, p2⟩, -, -⟩ := hF.out W0 (Aft.refl _)
  go_upto_region 2 with fail
  obtain ⟨W1, eW1, hw1, hlt1, hbox1⟩ := one_box W0 #[.int .i64 k, .slice none 0 0] 51
  have f9 : W1.frozen? ⟨W0.heap.size, 1, none⟩ = false := eW1 ▸ frozen_new W0 _ _ 1
  rw [eW1]
  clear eW1 p1 p2
  have e9 := hbox1.out W1 (Aft.refl _) 0 (.int .i64 k) rfl
  have c9 := hbox1.out W1 (Aft.refl _) 1 (.slice none 0 0) rfl
  clear hbox1
  obtain ⟨n7, hn7⟩ : ∃ n, W0.heap.size = n := ⟨_, rfl⟩
  rw [hn7] at f9 e9 c9 hlt1 hlt0 ⊢
  have hnil : W1.ownsRow (n7 + 1) 57 2 (.slice none 0 0) 0 (prs ((List.range 0).map (fun i => trP dx dy (ptZ l i)))) := World.ownsRow_nil _ _ _ _
  go_wp2
  go_loopw [8] (fun i wr => ∃ r : Nat, r ≤ l.length ∧ i = .int .i64 r ∧ ∃ v, wr.cell? ⟨n7, 0, none⟩ = some (.int .i64 k) ∧ wr.cell? ⟨n7, 1, none⟩ = some v ∧ wr.frozen? ⟨n7, 1, none⟩ = false ∧ wr.ownsRow (n7 + 1) 57 2 v r (prs ((List.range r).map (fun i => trP dx dy (ptZ l i)))) ∧ Aft W0 wr) (fun i _ => l.length - (intOf i).toNat)
  case atStart => exact ⟨0, by omega, rfl, _, e9, c9, f9, hnil, hw1⟩
  case round =>
    clear e9 c9 f9 hnil
    obtain ⟨r, hr, rfl, v, e9, c9, f9, hown, hwr⟩ := hrel
    have hg9 : n7 < wr.heap.size := World.block_lt_of_cell? _ _ c9
    obtain ⟨⟨p1, p2⟩, p3, p4⟩ := hF.out wr hwr
    rcases Nat.lt_or_ge r l.length with hltr | hger
    · have hri : (r : Int) < l.length := by omega
      have hlr := hl.aft (hw0.trans hwr)
      obtain ⟨b, off, x, y, rfl, c1, c2, hb, hx, _⟩ := hlr.rd.pair hlr.ok hltr
      obtain ⟨hpx, hpy⟩ := hsc _ (List.mem_of_getElem? hx.out)
      unfold Sc at hpx hpy
      simp only at hpx hpy
      have HSN := hid (show prs ((List.range (r + 1)).map (fun i => trP dx dy (ptZ l i))) = prs ((List.range r).map (fun i => trP dx dy (ptZ l i))) ++ prs [(x + dx, y + dy)] by
        rw [List.range_succ, List.map_append, prs_append]
        simp only [List.map_cons, List.map_nil, ptZ_get hx.out, trP])
      clear p1 p3 p4
      go_upto_region 5 with fail
      refine wp_region_flow _ (Aft.refl _) [FV.is (.pointer (some ⟨n7, 1, none⟩)), FV.is (v), FV.is (.pointer (some ⟨n3, 1, none⟩)), FV.is (.slice (some ⟨b, off, none⟩) l.length c), FV.is (.int .i64 r), FV.is (.pointer (some ⟨b, off + r * 2, none⟩)), FV.is (.pointer (some ⟨b, off + r * 2, none⟩)), FV.is (.int .i64 x), FV.is (.int .i64 dx), FV.is (.int .i64 (x + dx)), FV.is (.pointer (some ⟨n3, 1, none⟩)), FV.is (.slice (some ⟨b, off, none⟩) l.length c), FV.is (.int .i64 r), FV.is (.pointer (some ⟨b, off + r * 2, none⟩)), FV.is (.pointer (some ⟨b, off + r * 2 + 1, none⟩)), FV.is (.int .i64 y), FV.is (.int .i64 dy), FV.is (.int .i64 (y + dy)), FV.is (.agg #[.int .i64 (x + dx), .int .i64 (y + dy)]), fvNew1 [(x + dx, y + dy)]]
        [(0, 19), (1, 20), (2, 21), (3, 22), (4, 23), (5, 24), (6, 25), (7, 26), (8, 27), (9, 28), (10, 29), (11, 30), (12, 31), (13, 32), (14, 33), (15, 34), (16, 35), (17, 36), (18, 37), (19, 38)]
        [[], [(0, 19)], [], [(2, 21)], [], [(3, 22), (4, 23)], [(5, 24)], [(6, 25)], [], [(7, 26), (8, 27)], [], [(10, 29)], [], [(11, 30), (12, 31)], [(13, 32)], [(14, 33)], [], [(15, 34), (16, 35)], [(9, 28), (17, 36)], [(18, 37)]] (by kernel_rfl) (by kernel_rfl) ?_ ?_
      · refine flowObs_cons (fun W hW => flowOb_nil ?_) ?_
        · go_wp2
          exact ⟨rfl, Aft.refl W⟩
        refine flowObs_cons (fun W hW => flowOb_cons fun v0 h0 => flowOb_nil ?_) ?_
        · obtain rfl := h0
          have c9W := (hW.cell (World.block_lt_of_cell? _ _ c9)).trans c9
          have p2W := (hW.cell (World.block_lt_of_cell? _ _ p2)).trans p2
          have c1W := (hW.cell (World.block_lt_of_cell? _ _ c1)).trans c1
          have c2W := (hW.cell (World.block_lt_of_cell? _ _ c2)).trans c2
          go_wp2
          exact ⟨rfl, Aft.refl W⟩
        refine flowObs_cons (fun W hW => flowOb_nil ?_) ?_
        · go_wp2
          exact ⟨rfl, Aft.refl W⟩
        refine flowObs_cons (fun W hW => flowOb_cons fun v0 h0 => flowOb_nil ?_) ?_
        · obtain rfl := h0
          have c9W := (hW.cell (World.block_lt_of_cell? _ _ c9)).trans c9
          have p2W := (hW.cell (World.block_lt_of_cell? _ _ p2)).trans p2
          have c1W := (hW.cell (World.block_lt_of_cell? _ _ c1)).trans c1
          have c2W := (hW.cell (World.block_lt_of_cell? _ _ c2)).trans c2
          go_wp2
          exact ⟨rfl, Aft.refl W⟩
        refine flowObs_cons (fun W hW => flowOb_nil ?_) ?_
        · go_wp2
          exact ⟨rfl, Aft.refl W⟩
        refine flowObs_cons (fun W hW => flowOb_cons fun v0 h0 => flowOb_cons fun v1 h1 => flowOb_nil ?_) ?_
        · obtain rfl := h0
          obtain rfl := h1
          go_wp2
          exact ⟨rfl, Aft.refl W⟩
        refine flowObs_cons (fun W hW => flowOb_cons fun v0 h0 => flowOb_nil ?_) ?_
        · obtain rfl := h0
          go_wp2
          exact ⟨rfl, Aft.refl W⟩
        refine flowObs_cons (fun W hW => flowOb_cons fun v0 h0 => flowOb_nil ?_) ?_
        · obtain rfl := h0
          have c9W := (hW.cell (World.block_lt_of_cell? _ _ c9)).trans c9
          have p2W := (hW.cell (World.block_lt_of_cell? _ _ p2)).trans p2
          have c1W := (hW.cell (World.block_lt_of_cell? _ _ c1)).trans c1
          have c2W := (hW.cell (World.block_lt_of_cell? _ _ c2)).trans c2
          go_wp2
          exact ⟨rfl, Aft.refl W⟩
        refine flowObs_cons (fun W hW => flowOb_nil ?_) ?_
        · go_wp2
          exact ⟨rfl, Aft.refl W⟩
        refine flowObs_cons (fun W hW => flowOb_cons fun v0 h0 => flowOb_cons fun v1 h1 => flowOb_nil ?_) ?_
        · obtain rfl := h0
          obtain rfl := h1
          go_wp2
          exact ⟨rfl, Aft.refl W⟩
        refine flowObs_cons (fun W hW => flowOb_nil ?_) ?_
        · go_wp2
          exact ⟨rfl, Aft.refl W⟩
        refine flowObs_cons (fun W hW => flowOb_cons fun v0 h0 => flowOb_nil ?_) ?_
        · obtain rfl := h0
          have c9W := (hW.cell (World.block_lt_of_cell? _ _ c9)).trans c9
          have p2W := (hW.cell (World.block_lt_of_cell? _ _ p2)).trans p2
          have c1W := (hW.cell (World.block_lt_of_cell? _ _ c1)).trans c1
          have c2W := (hW.cell (World.block_lt_of_cell? _ _ c2)).trans c2
          go_wp2
          exact ⟨rfl, Aft.refl W⟩
        refine flowObs_cons (fun W hW => flowOb_nil ?_) ?_
        · go_wp2
          exact ⟨rfl, Aft.refl W⟩
        refine flowObs_cons (fun W hW => flowOb_cons fun v0 h0 => flowOb_cons fun v1 h1 => flowOb_nil ?_) ?_
        · obtain rfl := h0
          obtain rfl := h1
          go_wp2
          exact ⟨rfl, Aft.refl W⟩
        refine flowObs_cons (fun W hW => flowOb_cons fun v0 h0 => flowOb_nil ?_) ?_
        · obtain rfl := h0
          go_wp2
          exact ⟨rfl, Aft.refl W⟩
        refine flowObs_cons (fun W hW => flowOb_cons fun v0 h0 => flowOb_nil ?_) ?_
        · obtain rfl := h0
          have c9W := (hW.cell (World.block_lt_of_cell? _ _ c9)).trans c9
          have p2W := (hW.cell (World.block_lt_of_cell? _ _ p2)).trans p2
          have c1W := (hW.cell (World.block_lt_of_cell? _ _ c1)).trans c1
          have c2W := (hW.cell (World.block_lt_of_cell? _ _ c2)).trans c2
          go_wp2
          exact ⟨rfl, Aft.refl W⟩
        refine flowObs_cons (fun W hW => flowOb_nil ?_) ?_
        · go_wp2
          exact ⟨rfl, Aft.refl W⟩
        refine flowObs_cons (fun W hW => flowOb_cons fun v0 h0 => flowOb_cons fun v1 h1 => flowOb_nil ?_) ?_
        · obtain rfl := h0
          obtain rfl := h1
          go_wp2
          exact ⟨rfl, Aft.refl W⟩
        refine flowObs_cons (fun W hW => flowOb_cons fun v0 h0 => flowOb_cons fun v1 h1 => flowOb_nil ?_) ?_
        · obtain rfl := h0
          obtain rfl := h1
          go_wp2
          exact ⟨rfl, Aft.refl W⟩
        refine flowObs_cons (fun W hW => flowOb_cons fun v0 h0 => flowOb_nil ?_) flowObs_nil
        · obtain rfl := h0
          go_wp2
          exact ⟨⟨_, rfl, Rd.new⟩, (Aft.refl W).alloc _⟩
      intro W hW
      refine flowEnd_cons fun _ _ => ?_
      refine flowEnd_cons fun v0 h0 => ?_
      obtain rfl := h0
      iterate 17 refine flowEnd_cons fun _ _ => ?_
      refine flowEnd_cons fun v1 h1 => flowEnd_nil ?_
      obtain ⟨g, rfl, hrd⟩ := h1
      have hownW := ownsRow_aft hown hW
      have hz3 := hW.size
      simp only [Act.put, List.setIfInBounds_toArray, List.set_cons_succ, List.set_cons_zero]
      refine wpList_app _ rfl (.tmp 20) (.tmp 38) 49 rfl (n7 + 1) 57 (.agg #[.int .i64 0, .int .i64 0]) 2 16 Try.underlying49 Try.info57 rfl (by decide) _ r _ rfl hownW (some ⟨g, 0, none⟩) 1 1 (prs [(x + dx, y + dy)]) rfl (fun h => by cases h) rfl hrd (prs_one _) (by unfold maxLen; omega) (by omega) (by omega) ?_
      intro v' w' hown' hgrow hloc
      rw [← HSN.out] at hown'
      obtain ⟨g', cap', rfl⟩ := ownsRow_some' hown' (by omega)
      obtain ⟨⟨c9W, f9W⟩, HK⟩ := box_row (by omega) (hwr.trans hW) hownW hgrow ((hW.cell hg9).trans e9) ((hW.cell hg9).trans c9) ((hW.frozen hg9).trans f9) hown'
      go_wp2
      go_roundw
      case rel => exact ⟨r + 1, by omega, by go_num, _, HK.out⟩
      case measure => simp only [intOf]; omega
    · obtain rfl : r = l.length := by omega
      obtain ⟨a', c', rfl, -⟩ := ownsRow_at hown
      have hf6r : wr.frozen? ⟨n6, 0, none⟩ = false ∧ wr.frozen? ⟨n6, 1, none⟩ = false := ⟨(hwr.frozen (by omega)).trans hf6.1, (hwr.frozen (by omega)).trans hf6.2⟩
      obtain ⟨r1, r2⟩ := hf6r
      have HP := store2b (hw0.trans hwr) (by rw [hn3] at hn6w ⊢; exact hn6w) (show n6 < n7 + 1 by omega) hown p3 p4 (.int .i64 k) (.slice a' l.length c')
      have HL := hid (show (List.range l.length).map (fun i => trP dx dy (ptZ l i)) = l.map (trP dx dy) from List.ext_getElem (by simp) (fun i h1 h2 => by
        simp at h1 h2
        simp only [List.getElem_map, List.getElem_range]
        rw [ptZ_get (List.getElem?_eq_getElem h2)]))
      clear p1 hown
      go_wp2
      obtain ⟨h1, h2, h3, h4⟩ := HP.out
      refine bodyPost_ret (results_shape rfl _ _ n6 k _ rfl h1 h2) rfl ?_
      rw [HL.out] at h3
      exact ⟨_, rfl, ownsRow_mono h3 (by omega), h4⟩

def swP (p : Pt) : Pt := (p.2, p.1)
def turnZ (back : Bool) (l : List Pt) : List Pt := (if back then l.reverse else l).map swP
def turnI (back : Bool) (l : List Pt) (i : Nat) : Pt := swP (ptZ l (if back then l.length - 1 - i else i))
theorem turnZ_map (back : Bool) (l : List Pt) : (List.range l.length).map (turnI back l) = turnZ back l := by
  cases back with
  | false =>
    show _ = l.map swP
    refine List.ext_getElem (by simp) (fun i h1 h2 => ?_)
    simp at h1
    simp only [List.getElem_map, List.getElem_range]
    show swP (ptZ l i) = _
    rw [ptZ_get (List.getElem?_eq_getElem h1)]
  | true =>
    show _ = l.reverse.map swP
    refine List.ext_getElem (by simp) (fun i h1 h2 => ?_)
    simp at h1
    simp only [List.getElem_map, List.getElem_range, List.getElem_reverse]
    show swP (ptZ l (l.length - 1 - i)) = _
    rw [ptZ_get (List.getElem?_eq_getElem (show l.length - 1 - i < l.length by omega))]

set_option maxRecDepth 100000 in
set_option maxHeartbeats 8000000 in
theorem turned_any (back : Bool) (k : Int) (vp : Value) (l : List Pt) (w : World) (hl : Prs w vp l) (hsm : l.length ≤ 1000) (_ : ScL l) :
    Calls Try.prog 46 #[.agg #[.int .i64 k, vp], .bool true, .bool back] w fun e w' => ∃ v, e = .returned (.agg #[.int .i64 k, v]) ∧ w'.ownsRow w.heap.size 57 2 v l.length (prs (turnZ back l)) ∧ Aft w w' := by
  obtain ⟨a, c, rfl, hl⟩ := hl
  go_enter Try.func46, Try.ntmps46
  go_upto_region 1 with fail
  obtain ⟨W0, eW0, hw0, hlt0, hbox0⟩ := two_boxes w #[.int .i64 k, .slice a l.length c] #[.int .i64 0, .slice none 0 0] 51 51
  have hf6 : W0.frozen? ⟨w.heap.size + 1, 0, none⟩ = false ∧ W0.frozen? ⟨w.heap.size + 1, 1, none⟩ = false := by
    rw [← eW0]
    exact ⟨by simp, by simp⟩
  rw [eW0]
  clear eW0
  have hF : Hid (∀ W, Aft W0 W → (W.cell? ⟨w.heap.size, 0, none⟩ = some (.int .i64 k) ∧ W.cell? ⟨w.heap.size, 1, none⟩ = some (.slice a l.length c)) ∧ W.cell? ⟨w.heap.size + 1, 0, none⟩ = some (.int .i64 0) ∧ W.cell? ⟨w.heap.size + 1, 1, none⟩ = some (.slice none 0 0)) := hid fun W hW =>
    ⟨⟨(hbox0.out W hW).1 0 _ rfl, (hbox0.out W hW).1 1 _ rfl⟩, (hbox0.out W hW).2 0 _ rfl, (hbox0.out W hW).2 1 _ rfl⟩
  clear hbox0
  obtain ⟨n6, hn6⟩ : ∃ n, w.heap.size + 1 = n := ⟨_, rfl⟩
  rw [hn6] at hF hf6 hlt0 ⊢
  have hn6w : w.heap.size ≤ n6 := by omega
  obtain ⟨n3, hn3⟩ : ∃ n, w.heap.size = n := ⟨_, rfl⟩
  rw [hn3] at hF ⊢
  clear hn6
  obtain ⟨⟨p1, p2⟩, -, -⟩ := hF.out W0 (Aft.refl _)
  go_upto_region 2 with fail
  obtain ⟨W1, eW1, hw1, hlt1, hbox1⟩ := one_box W0 #[.int .i64 k, .slice none 0 0] 51
  have f9 : W1.frozen? ⟨W0.heap.size, 1, none⟩ = false := eW1 ▸ frozen_new W0 _ _ 1
  rw [eW1]
  clear eW1 p1 p2
  have e9 := hbox1.out W1 (Aft.refl _) 0 (.int .i64 k) rfl
  have c9 := hbox1.out W1 (Aft.refl _) 1 (.slice none 0 0) rfl
  clear hbox1
  obtain ⟨n7, hn7⟩ : ∃ n, W0.heap.size = n := ⟨_, rfl⟩
  rw [hn7] at f9 e9 c9 hlt1 hlt0 ⊢
  have hnil : W1.ownsRow (n7 + 1) 57 2 (.slice none 0 0) 0 (prs ((List.range 0).map (turnI back l))) := World.ownsRow_nil _ _ _ _
  go_wp2
  go_loopw [8] (fun i wr => ∃ r : Nat, r ≤ l.length ∧ i = .int .i64 r ∧ ∃ v, wr.cell? ⟨n7, 0, none⟩ = some (.int .i64 k) ∧ wr.cell? ⟨n7, 1, none⟩ = some v ∧ wr.frozen? ⟨n7, 1, none⟩ = false ∧ wr.ownsRow (n7 + 1) 57 2 v r (prs ((List.range r).map (turnI back l))) ∧ Aft W0 wr) (fun i _ => l.length - (intOf i).toNat)
  case atStart => exact ⟨0, by omega, rfl, _, e9, c9, f9, hnil, hw1⟩
  case round =>
    clear e9 c9 f9 hnil
    obtain ⟨r, hr, rfl, v, e9, c9, f9, hown, hwr⟩ := hrel
    have hg9 : n7 < wr.heap.size := World.block_lt_of_cell? _ _ c9
    obtain ⟨⟨p1, p2⟩, p3, p4⟩ := hF.out wr hwr
    rcases Nat.lt_or_ge r l.length with hltr | hger
    · have hri : (r : Int) < l.length := by omega
      have hlr := hl.aft (hw0.trans hwr)
      obtain ⟨b, off, x, y, rfl, c1, c2, hb, hx, _⟩ := hlr.rd.pair hlr.ok hltr
      clear p1 p3 p4
      go_upto_region 6 with fail
      obtain ⟨W2, eW2, hw2, hlt2, hbox2⟩ := one_box wr #[.int .i64 x, .int .i64 y] 57
      have fz : W2.frozen? ⟨wr.heap.size, 0, none⟩ = false ∧ W2.frozen? ⟨wr.heap.size, 1, none⟩ = false := eW2 ▸ ⟨frozen_new wr _ _ 0, frozen_new wr _ _ 1⟩
      rw [eW2]
      clear eW2
      have b9 : B2 W2 wr.heap.size x y := ⟨hbox2.out W2 (Aft.refl _) 0 _ rfl, hbox2.out W2 (Aft.refl _) 1 _ rfl⟩
      clear hbox2
      obtain ⟨z1, z2⟩ := fz
      obtain ⟨n9, hn9⟩ : ∃ n, wr.heap.size = n := ⟨_, rfl⟩
      rw [hn9] at b9 z1 z2 hlt2 ⊢
      have h97 : n7 < n9 := by omega
      have hown2 := ownsRow_aft hown hw2
      cases back with
      | false =>
        have HSN := hid (show prs ((List.range (r + 1)).map (turnI false l)) = prs ((List.range r).map (turnI false l)) ++ prs [(y, x)] by
          rw [List.range_succ, List.map_append, prs_append]
          simp only [List.map_cons, List.map_nil]
          show prs _ ++ prs [swP (ptZ l r)] = _
          rw [ptZ_get hx.out]; rfl)
        obtain ⟨W3, eW3, ⟨q1, q2⟩, hk3⟩ : ∃ W3, (W2.setCell ⟨n9, 0, none⟩ (.int .i64 y)).setCell ⟨n9, 1, none⟩ (.int .i64 x) = W3 ∧ B2 W3 n9 y x ∧ Kx (fun j => j = n9) W2 W3 := ⟨_, rfl, (put2 b9 y x).1, (put2 b9 y x).2⟩
        obtain ⟨b91, b92⟩ := b9
        clear p2 c1 c2
        go_upto_region 10 with fail
        clear eW3
        have hw03 : Aft W0 W3 := kx_aft (hwr.trans hw2) (fun j hj => by subst hj; omega) hk3
        have hown3 := ownsRow_kx3 hown2 hk3 (fun g hg => by have := (hown.lt g hg).2; omega)
        have h93 : n7 < W3.heap.size := by have := hk3.size; omega
        have e93 := (hk3.cell (show n7 < W2.heap.size by omega) (show ¬ n7 = n9 by omega)).trans ((hw2.cell hg9).trans e9)
        have c93 := (hk3.cell (show n7 < W2.heap.size by omega) (show ¬ n7 = n9 by omega)).trans ((hw2.cell hg9).trans c9)
        have f93 := (frozen_kx hk3 (show n7 < W2.heap.size by omega) (show ¬ n7 = n9 by omega)).trans ((hw2.frozen hg9).trans f9)
        have hz3 : (W3.alloc (.cells #[.int .i64 y, .int .i64 x] 57)).heap.size = W3.heap.size + 1 := by simp
        go_wp2_with (at_builtin; refine wpList_app (W3.alloc (.cells #[.int .i64 y, .int .i64 x] 57)) rfl (.tmp 43) (.tmp 45) 49 rfl (n7 + 1) 57 (.agg #[.int .i64 0, .int .i64 0]) 2 16 Try.underlying49 Try.info57 rfl (by decide) _ r _ rfl (ownsRow_aft hown3 ((Aft.refl W3).alloc _)) (some ⟨W3.heap.size, 0, none⟩) 1 1 (prs [(y, x)]) rfl (fun h => by cases h) rfl Rd.new (prs_one _) (by unfold maxLen; omega) (by omega) (by omega) ?_; intro v' w' hown' hgrow hloc; rw [← HSN.out] at hown'; obtain ⟨g', cap', rfl⟩ := ownsRow_some' hown' (by omega); obtain ⟨⟨c9W, f9W⟩, HK⟩ := box_row (by omega) (hw03.alloc _) (ownsRow_aft hown3 ((Aft.refl W3).alloc _)) hgrow ((((Aft.refl W3).alloc _).cell h93).trans e93) ((((Aft.refl W3).alloc _).cell h93).trans c93) ((((Aft.refl W3).alloc _).frozen h93).trans f93) hown')
        go_roundw
        case rel => exact ⟨r + 1, by omega, by go_num, _, HK.out⟩
        case measure => simp only [intOf]; omega
      | true =>
        have hj : l.length - 1 - r < l.length := by omega
        obtain ⟨x', y', c3, c4, hx', _⟩ := Rd.pair_at hlr.rd hlr.ok hj
        have hji : (l.length : Int) - 1 - r = ((l.length - 1 - r : Nat) : Int) := by omega
        have hbN := World.block_lt_of_cell? _ _ c1
        have p2' := (hw2.cell (World.block_lt_of_cell? _ _ p2)).trans p2
        have c3' := (hw2.cell (World.block_lt_of_cell? _ _ c3)).trans c3
        have c4' := (hw2.cell (World.block_lt_of_cell? _ _ c4)).trans c4
        have HSN := hid (show prs ((List.range (r + 1)).map (turnI true l)) = prs ((List.range r).map (turnI true l)) ++ prs [(y', x')] by
          rw [List.range_succ, List.map_append, prs_append]
          simp only [List.map_cons, List.map_nil]
          show prs _ ++ prs [swP (ptZ l (l.length - 1 - r))] = _
          rw [ptZ_get hx'.out]; rfl)
        obtain ⟨Wm, eWm, bm, hkm⟩ : ∃ W3, (W2.setCell ⟨n9, 0, none⟩ (.int .i64 x')).setCell ⟨n9, 1, none⟩ (.int .i64 y') = W3 ∧ B2 W3 n9 x' y' ∧ Kx (fun j => j = n9) W2 W3 := ⟨_, rfl, (put2 b9 x' y').1, (put2 b9 x' y').2⟩
        obtain ⟨W3, eW3, ⟨q1, q2⟩, hk3'⟩ : ∃ W3, (Wm.setCell ⟨n9, 0, none⟩ (.int .i64 y')).setCell ⟨n9, 1, none⟩ (.int .i64 x') = W3 ∧ B2 W3 n9 y' x' ∧ Kx (fun j => j = n9) Wm W3 := ⟨_, rfl, (put2 bm y' x').1, (put2 bm y' x').2⟩
        have hk3 := hkm.trans hk3'
        have zm1 : Wm.frozen? ⟨n9, 0, none⟩ = false := by rw [← eWm]; simp only [World.frozen?_setCell]; exact z1
        have zm2 : Wm.frozen? ⟨n9, 1, none⟩ = false := by rw [← eWm]; simp only [World.frozen?_setCell]; exact z2
        obtain ⟨b91, b92⟩ := b9
        obtain ⟨m1, m2⟩ := bm
        clear p2 c1 c2 c3 c4
        obtain ⟨j, hjE⟩ : ∃ j, l.length - 1 - r = j := ⟨_, rfl⟩
        rw [hjE] at hji c3' c4' hj
        have hj0 : (0 : Int) ≤ j := by omega
        have hj1 : (j : Int) < l.length := by omega
        go_upto_region 10 with fail
        clear eW3 eWm
        have hw03 : Aft W0 W3 := kx_aft (hwr.trans hw2) (fun j hj => by subst hj; omega) hk3
        have hown3 := ownsRow_kx3 hown2 hk3 (fun g hg => by have := (hown.lt g hg).2; omega)
        have h93 : n7 < W3.heap.size := by have := hk3.size; omega
        have e93 := (hk3.cell (show n7 < W2.heap.size by omega) (show ¬ n7 = n9 by omega)).trans ((hw2.cell hg9).trans e9)
        have c93 := (hk3.cell (show n7 < W2.heap.size by omega) (show ¬ n7 = n9 by omega)).trans ((hw2.cell hg9).trans c9)
        have f93 := (frozen_kx hk3 (show n7 < W2.heap.size by omega) (show ¬ n7 = n9 by omega)).trans ((hw2.frozen hg9).trans f9)
        have hz3 : (W3.alloc (.cells #[.int .i64 y', .int .i64 x'] 57)).heap.size = W3.heap.size + 1 := by simp
        go_wp2_with (at_builtin; refine wpList_app (W3.alloc (.cells #[.int .i64 y', .int .i64 x'] 57)) rfl (.tmp 43) (.tmp 45) 49 rfl (n7 + 1) 57 (.agg #[.int .i64 0, .int .i64 0]) 2 16 Try.underlying49 Try.info57 rfl (by decide) _ r _ rfl (ownsRow_aft hown3 ((Aft.refl W3).alloc _)) (some ⟨W3.heap.size, 0, none⟩) 1 1 (prs [(y', x')]) rfl (fun h => by cases h) rfl Rd.new (prs_one _) (by unfold maxLen; omega) (by omega) (by omega) ?_; intro v' w' hown' hgrow hloc; rw [← HSN.out] at hown'; obtain ⟨g', cap', rfl⟩ := ownsRow_some' hown' (by omega); obtain ⟨⟨c9W, f9W⟩, HK⟩ := box_row (by omega) (hw03.alloc _) (ownsRow_aft hown3 ((Aft.refl W3).alloc _)) hgrow ((((Aft.refl W3).alloc _).cell h93).trans e93) ((((Aft.refl W3).alloc _).cell h93).trans c93) ((((Aft.refl W3).alloc _).frozen h93).trans f93) hown')
        go_roundw
        case rel => exact ⟨r + 1, by omega, by go_num, _, HK.out⟩
        case measure => simp only [intOf]; omega
    · obtain rfl : r = l.length := by omega
      obtain ⟨a', c', rfl, -⟩ := ownsRow_at hown
      have hf6r : wr.frozen? ⟨n6, 0, none⟩ = false ∧ wr.frozen? ⟨n6, 1, none⟩ = false := ⟨(hwr.frozen (by omega)).trans hf6.1, (hwr.frozen (by omega)).trans hf6.2⟩
      obtain ⟨r1, r2⟩ := hf6r
      have HP := store2b (hw0.trans hwr) (by rw [hn3] at hn6w ⊢; exact hn6w) (show n6 < n7 + 1 by omega) hown p3 p4 (.int .i64 k) (.slice a' l.length c')
      have HL := hid (turnZ_map back l)
      clear p1 hown
      go_wp2
      obtain ⟨h1, h2, h3, h4⟩ := HP.out
      refine bodyPost_ret (results_shape rfl _ _ n6 k _ rfl h1 h2) rfl ?_
      rw [HL.out] at h3
      exact ⟨_, rfl, ownsRow_mono h3 (by omega), h4⟩
end Go.Proofs.Ytokdclbfjlnnjaa
