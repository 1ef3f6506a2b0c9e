/- The reference's Shape: a simple shape made of numbers. -/
import Derived.Test.YtokdclbfjlnnjaaR4
import Derived.Test.YtokdclbfjlnnjaaQ2
namespace Go.Proofs.Ytokdclbfjlnnjaa
open Go.RowKit Go.BigFrame

/-- The shapes that are made of numbers. -/
def Gen (k : Int) (l : List Pt) : Prop :=
  (k = 0 ∧ ∃ x y, l = [(x, y)] ∧ 0 ≤ x ∧ x ≤ 60 ∧ 0 ≤ y ∧ y ≤ 60) ∨
  (k = 1 ∧ 2 ≤ l.length ∧ l.length ≤ 5 ∧ (∀ p ∈ l, 0 ≤ p.1 ∧ p.1 ≤ 60 ∧ 0 ≤ p.2 ∧ p.2 ≤ 60) ∧ ∀ i p q, l[i]? = some p → l[i + 1]? = some q → p.1 < q.1) ∨
  (k = 2 ∧ ∃ x y wd h, l = rectL x y wd h ∧ 0 ≤ x ∧ 0 ≤ y ∧ 2 ≤ wd ∧ 2 ≤ h ∧ x + wd ≤ 60 ∧ y + h ≤ 60) ∨
  (k = 2 ∧ ∃ x y wd t1 t2 h, l = triL x y wd t1 t2 h ∧ 0 ≤ x ∧ 0 ≤ y ∧ 2 ≤ wd ∧ 3 ≤ h ∧ x + wd ≤ 60 ∧ y + h ≤ 60 ∧ 0 ≤ t1 ∧ t1 ≤ 2 ∧ 0 ≤ t2 ∧ t2 ≤ wd) ∨
  (k = 2 ∧ ∃ x y wd h, l = braL x y wd h ∧ 0 ≤ x ∧ 0 ≤ y ∧ 2 ≤ wd ∧ 2 ≤ h ∧ x + wd ≤ 60 ∧ y + h ≤ 60)

def fvNew1 (l : List Pt) : FV := ⟨fun v W => ∃ g, v = .slice (some ⟨g, 0, none⟩) 1 1 ∧ Rd W (some ⟨g, 0, none⟩) (prs l), fun _ _ _ ⟨g, h1, h2⟩ hw => ⟨g, h1, h2.aft hw⟩⟩

theorem store2 {w W : World} {n : Nat} {u0 u1 : Value} (hW : Aft w W) (hn : w.heap.size ≤ n) (c0 : W.cell? ⟨n, 0, none⟩ = some u0) (c1 : W.cell? ⟨n, 1, none⟩ = some u1) (x y : Value) :
    ((W.setCell ⟨n, 0, none⟩ x).setCell ⟨n, 1, none⟩ y).cell? ⟨n, 0, none⟩ = some x ∧ ((W.setCell ⟨n, 0, none⟩ x).setCell ⟨n, 1, none⟩ y).cell? ⟨n, 1, none⟩ = some y ∧
    Kx (fun j => j = n) W ((W.setCell ⟨n, 0, none⟩ x).setCell ⟨n, 1, none⟩ y) ∧ Aft w ((W.setCell ⟨n, 0, none⟩ x).setCell ⟨n, 1, none⟩ y) := by
  refine ⟨?_, World.cell?_setCell_same' _ _ _ (by rw [World.cell?_setCell_other _ _ _ _ (by simp), c1]; rfl), Kx.trans (X := fun j => j = n) (Kx.setCell (p := ⟨n, 0, none⟩) _ rfl) (Kx.setCell (p := ⟨n, 1, none⟩) _ rfl), (hW.setCell (p := ⟨n, 0, none⟩) hn _).setCell (p := ⟨n, 1, none⟩) hn _⟩
  rw [World.cell?_setCell_other _ _ _ _ (by simp)]
  exact World.cell?_setCell_same' _ _ _ (by rw [c0]; rfl)
theorem Rd.kx {X : Nat → Prop} {A B : World} {g off : Nat} {cs : List Value} (h : Rd A (some ⟨g, off, none⟩) cs) (hk : Kx X A B) (hg : ¬ X g) : Rd B (some ⟨g, off, none⟩) cs := fun j v hj => by
  have hc := Rd.at0 h hj
  have hc' := (hk.cell (World.block_lt_of_cell? _ _ hc) hg).trans hc
  refine ⟨_, rfl, ?_⟩
  by_cases h0 : j = 0
  · subst h0; simpa [Addr.add] using hc'
  · simpa [Addr.add, h0] using hc'
theorem PrsAt.kx {X : Nat → Prop} {A B : World} {g off n c : Nat} {l : List Pt} (h : PrsAt A (some ⟨g, off, none⟩) n c l) (hk : Kx X A B) (hg : ¬ X g) : PrsAt B (some ⟨g, off, none⟩) n c l := { h with rd := Rd.kx h.rd hk hg }

set_option maxRecDepth 100000 in
set_option maxHeartbeats 2000000 in
theorem rect_new (x y wd h : Int) (w : World) (hx : 0 ≤ x ∧ x ≤ 1000) (hy : 0 ≤ y ∧ y ≤ 1000) (hw : 0 ≤ wd ∧ wd ≤ 1000) (hh : 0 ≤ h ∧ h ≤ 1000) :
    Calls Try.prog 113 #[.int .i64 x, .int .i64 y, .int .i64 wd, .int .i64 h] w fun e w' => ∃ g, e = .returned (.agg #[.int .i64 2, .slice (some ⟨g, 0, none⟩) 4 4]) ∧ w.heap.size ≤ g ∧ PrsAt w' (some ⟨g, 0, none⟩) 4 4 (rectL x y wd h) ∧ Aft w w' := by
  have hn := shape_new w 2 #[.int .i64 x, .int .i64 y, .int .i64 (x + wd), .int .i64 y, .int .i64 (x + wd), .int .i64 (y + h), .int .i64 x, .int .i64 (y + h)] (rectL x y wd h) rfl
    (by intro p hp; simp [rectL] at hp; rcases hp with rfl | rfl | rfl | rfl <;> (refine ⟨?_, ?_⟩ <;> simp <;> omega)) (by simp [rectL]) (.slice (some ⟨w.heap.size + 1, 0, none⟩) 4 4)
  have HN := hid hn
  clear hn
  go_enter Try.func113, Try.ntmps113
  go_wp2
  obtain ⟨h1, h2, h3, h4⟩ := HN.out
  refine bodyPost_ret (results_shape rfl _ _ w.heap.size 2 _ rfl h1 h2) rfl ?_
  obtain ⟨a, c, e, h3⟩ := h3
  simp only [Value.slice.injEq] at e
  obtain ⟨rfl, _, rfl⟩ := e
  exact ⟨w.heap.size + 1, rfl, by omega, h3, h4⟩

theorem shape_put {w W0 : World} {n : Nat} {u0 u1 : Value} (hW : Aft w W0) (hn : w.heap.size ≤ n) (c0 : W0.cell? ⟨n, 0, none⟩ = some u0) (c1 : W0.cell? ⟨n, 1, none⟩ = some u1) (k : Int) (cs : Array Value) (l : List Pt) (m : Nat) (hcs : cs.toList = prs l) (hln : m = l.length) (ok : okP l) (hs : l.length ≤ 1000) :
    Hid ((((W0.setCell ⟨n, 0, none⟩ (.int .i64 k)).setCell ⟨n, 1, none⟩ (.slice (some ⟨W0.heap.size, 0, none⟩) m m)).alloc (.cells cs 57)).cell? ⟨n, 0, none⟩ = some (.int .i64 k) ∧
      (((W0.setCell ⟨n, 0, none⟩ (.int .i64 k)).setCell ⟨n, 1, none⟩ (.slice (some ⟨W0.heap.size, 0, none⟩) m m)).alloc (.cells cs 57)).cell? ⟨n, 1, none⟩ = some (.slice (some ⟨W0.heap.size, 0, none⟩) m m) ∧
      Prs (((W0.setCell ⟨n, 0, none⟩ (.int .i64 k)).setCell ⟨n, 1, none⟩ (.slice (some ⟨W0.heap.size, 0, none⟩) m m)).alloc (.cells cs 57)) (.slice (some ⟨W0.heap.size, 0, none⟩) m m) l ∧
      Aft w (((W0.setCell ⟨n, 0, none⟩ (.int .i64 k)).setCell ⟨n, 1, none⟩ (.slice (some ⟨W0.heap.size, 0, none⟩) m m)).alloc (.cells cs 57))) := by
  obtain ⟨s0, s1, _, s3⟩ := store2 hW hn c0 c1 (.int .i64 k) (.slice (some ⟨W0.heap.size, 0, none⟩) m m)
  have hlt := World.block_lt_of_cell? _ _ c0
  have hsz : ((W0.setCell ⟨n, 0, none⟩ (.int .i64 k)).setCell ⟨n, 1, none⟩ (.slice (some ⟨W0.heap.size, 0, none⟩) m m)).heap.size = W0.heap.size := by simp
  generalize hV : (W0.setCell ⟨n, 0, none⟩ (.int .i64 k)).setCell ⟨n, 1, none⟩ (.slice (some ⟨W0.heap.size, 0, none⟩) m m) = V at *
  have hr := Rd.new (w := V) (cs := cs) (e := 57)
  rw [hcs, hsz] at hr
  have hA := (Aft.refl V).alloc (.cells cs 57)
  refine hid ⟨(hA.cell (World.block_lt_of_cell? _ _ s0)).trans s0, (hA.cell (World.block_lt_of_cell? _ _ s1)).trans s1, ?_, s3.alloc _⟩
  subst hln
  exact ⟨_, _, rfl, rfl, hr, ok, Nat.le_refl _, (fun h => by cases h), by omega⟩
theorem okP_small {l : List Pt} (h : ∀ p ∈ l, -1000 ≤ p.1 ∧ p.1 ≤ 1000 ∧ -1000 ≤ p.2 ∧ p.2 ≤ 1000) : okP l := fun p hp => by have := h p hp; omega

theorem Try.info57 : (Try.prog.info? 57).map (fun i => (i.zero, i.size, i.bytes)) = some (some (.agg #[.int .i64 0, .int .i64 0]), 2, 16) := by kernel_rfl
theorem sep_ne'' {g g' n c n' c' o o' : Nat} (h : g ≠ g') : Sep (.slice (some ⟨g, o, none⟩) n c) (.slice (some ⟨g', o', none⟩) n' c') := fun k a b => h (by
  simp [Value.ownBlock] at a b
  omega)
def lnZ (l : List Int) (at_ x : Int) (i : Nat) : Pt := (x + 3 * (i : Int) + atI l (at_ + 6 + (i : Int)) 3, atI l (at_ + 2 + (i : Int)) 61)

set_option maxRecDepth 100000 in
set_option maxHeartbeats 16000000 in
theorem shape_any (vl : Value) (l : List Int) (at_ : Int) (w : World) (hl : Ints w vl l) (hat : 0 ≤ at_ ∧ at_ ≤ 1000) :
    Calls Try.prog 72 #[vl, .int .i64 at_] w fun e w' => ∃ k g n c ps, e = .returned (.agg #[.int .i64 k, .slice (some ⟨g, 0, none⟩) n c]) ∧ w.heap.size ≤ g ∧ Prs w' (.slice (some ⟨g, 0, none⟩) n c) ps ∧ Gen k ps ∧ Aft w w' := by
  obtain ⟨W0, eW0, hw0, hlt, hbox⟩ := one_box w #[.int .i64 0, .slice none 0 0] 51
  have hf0 : W0.frozen? ⟨w.heap.size, 0, none⟩ = false := eW0 ▸ frozen_new w _ _ 0
  have hf1 : W0.frozen? ⟨w.heap.size, 1, none⟩ = false := eW0 ▸ frozen_new w _ _ 1
  have hIl := hl
  obtain ⟨a, c, rfl, hl⟩ := hl
  go_enter Try.func72, Try.ntmps72
  go_upto_region 1 with fail
  clear eW0
  have hI0 := hIl.aft hw0
  have c0 := hbox.out W0 (Aft.refl _) 0 (.int .i64 0) rfl
  have c1 := hbox.out W0 (Aft.refl _) 1 (.slice none 0 0) rfl
  clear hbox
  obtain ⟨n4, hn4⟩ : ∃ n, w.heap.size = n := ⟨_, rfl⟩
  have hge4 : w.heap.size ≤ n4 := by omega
  rw [hn4] at hf0 hf1 c0 c1 hlt ⊢
  clear hn4
  obtain ⟨x, hx⟩ : ∃ x, atI l (at_ + 1) 40 = x := ⟨_, rfl⟩
  obtain ⟨y, hy⟩ : ∃ x, atI l (at_ + 2) 40 = x := ⟨_, rfl⟩
  obtain ⟨wd, hwd⟩ : ∃ x, atI l (at_ + 3) 18 = x := ⟨_, rfl⟩
  obtain ⟨h, hh⟩ : ∃ x, atI l (at_ + 4) 18 = x := ⟨_, rfl⟩
  obtain ⟨s, hs⟩ : ∃ x, atI l at_ 8 = x := ⟨_, rfl⟩
  have bx : 0 ≤ x ∧ x < 40 := hx ▸ atI_lt l _ 40 (by omega)
  have by_ : 0 ≤ y ∧ y < 40 := hy ▸ atI_lt l _ 40 (by omega)
  have bw : 0 ≤ wd ∧ wd < 18 := hwd ▸ atI_lt l _ 18 (by omega)
  have bh : 0 ≤ h ∧ h < 18 := hh ▸ atI_lt l _ 18 (by omega)
  have bs : 0 ≤ s ∧ s < 8 := hs ▸ atI_lt l _ 8 (by omega)
  go_upto_region 5 with (go_at_call 63; refine (at_any _ l _ _ _ hI0).mono ?_; rintro e w' ⟨rfl, rfl⟩; first | rw [hx] | rw [hy] | rw [hwd] | rw [hh])
  have hss : s = 0 ∨ s = 1 ∨ s = 2 ∨ s = 3 ∨ s = 4 ∨ s = 5 ∨ s = 6 ∨ s = 7 := by omega
  clear bs
  clear hx hy hwd hh
  rcases hss with rfl | hss | hss | rfl | rfl | rfl | rfl | rfl
  · -- a dot
    have HP := shape_put hw0 hge4 c0 c1 0 #[.int .i64 x, .int .i64 y] [(x, y)] 1 rfl rfl (okP_small (by intro p hp; simp at hp; subst hp; simp; omega)) (by simp)
    go_wp2_with (go_at_call 63; refine (at_any _ l _ _ _ hI0).mono ?_; rintro e w' ⟨rfl, rfl⟩; first | rw [hs])
    obtain ⟨h1, h2, h3, h4⟩ := HP.out
    refine bodyPost_ret (results_shape rfl _ _ n4 0 _ rfl h1 h2) rfl ?_
    exact ⟨_, W0.heap.size, _, _, _, rfl, hw0.size, h3, .inl ⟨rfl, x, y, rfl, by omega, by omega, by omega, by omega⟩, h4⟩
  · -- a line
    obtain ⟨nn, hnn⟩ : ∃ x, atI l (at_ + 5) 4 = x := ⟨_, rfl⟩
    have bn : 0 ≤ nn ∧ nn < 4 := hnn ▸ atI_lt l _ 4 (by omega)
    obtain ⟨k, rfl⟩ : ∃ k : Nat, nn = k := ⟨nn.toNat, by omega⟩
    go_upto_region 11 with (go_at_call 63; refine (at_any _ l _ _ _ hI0).mono ?_; rintro e w' ⟨rfl, rfl⟩; first | rw [hs])
    obtain ⟨W1, eW1, hw1, hlt1, hbox1⟩ := one_box W0 #[.int .i64 1, .slice none 0 0] 51
    have hf9 : W1.frozen? ⟨W0.heap.size, 1, none⟩ = false := eW1 ▸ frozen_new W0 _ _ 1
    rw [eW1]
    clear eW1
    have e9 := hbox1.out W1 (Aft.refl _) 0 (.int .i64 1) rfl
    have c9 := hbox1.out W1 (Aft.refl _) 1 (.slice none 0 0) rfl
    clear hbox1
    obtain ⟨n9, hn9⟩ : ∃ n, W0.heap.size = n := ⟨_, rfl⟩
    rw [hn9] at hf9 e9 c9 hlt1 ⊢
    have hI1 := hI0.aft hw1
    have hlt4 : n4 < n9 := by omega
    have hnil : W1.ownsRow (n9 + 1) 57 2 (.slice none 0 0) 0 (prs ((List.range 0).map (lnZ l at_ x))) := World.ownsRow_nil _ _ _ _
    have hz1 := hw1.size
    go_wp2_with (go_at_call 63; refine (at_any _ l _ _ _ hI1).mono ?_; rintro e w' ⟨rfl, rfl⟩; first | rw [hnn])
    go_loopw [11] (fun i wr => ∃ r : Nat, r ≤ 2 + k ∧ i = .int .i64 r ∧ ∃ v, wr.cell? ⟨n9, 0, none⟩ = some (.int .i64 1) ∧ wr.cell? ⟨n9, 1, none⟩ = some v ∧ wr.frozen? ⟨n9, 1, none⟩ = false ∧ wr.ownsRow (n9 + 1) 57 2 v r (prs ((List.range r).map (lnZ l at_ x))) ∧ Aft W0 wr) (fun i _ => 2 + k - (intOf i).toNat)
    case atStart => exact ⟨0, by omega, rfl, _, e9, c9, hf9, hnil, hw1⟩
    case round =>
      clear e9 c9 hf9 hnil hI1
      obtain ⟨r, hr, rfl, v, e9, c9, hf9, hown, hwr⟩ := hrel
      have hI := hI0.aft hwr
      have hlr := hI
      have hg9 : n9 < wr.heap.size := World.block_lt_of_cell? _ _ c9
      rcases Nat.lt_or_ge r (2 + k) with hltr | hger
      · have hri : (r : Int) < 2 + k := by omega
        obtain ⟨u, hu⟩ : ∃ u, atI l (at_ + 6 + (r : Int)) 3 = u := ⟨_, rfl⟩
        obtain ⟨y2, hy2⟩ : ∃ u, atI l (at_ + 2 + (r : Int)) 61 = u := ⟨_, rfl⟩
        have bu : 0 ≤ u ∧ u < 3 := hu ▸ atI_lt l _ 3 (by omega)
        have by2 : 0 ≤ y2 ∧ y2 < 61 := hy2 ▸ atI_lt l _ 61 (by omega)
        have HSN := hid (show prs ((List.range (r + 1)).map (lnZ l at_ x)) = prs ((List.range r).map (lnZ l at_ x)) ++ prs [(x + 3 * (r : Int) + u, y2)] by
          rw [List.range_succ, List.map_append, prs_append]
          simp only [List.map_cons, List.map_nil]
          unfold lnZ
          rw [hu, hy2])
        go_upto_region 15 with fail
        refine wp_region_flow _ (Aft.refl _) [FV.is (.pointer (some ⟨n9, 1, none⟩)), FV.is (v), FV.is (.int .i64 x), FV.is (.int .i64 r), FV.is (.int .i64 (3 * (r : Int))), FV.is (.int .i64 (x + 3 * (r : Int))), FV.is (.slice a l.length c), FV.is (.int .i64 at_), FV.is (.int .i64 (at_ + 6)), FV.is (.int .i64 r), FV.is (.int .i64 (at_ + 6 + (r : Int))), FV.is (.int .i64 u), FV.is (.int .i64 (x + 3 * (r : Int) + u)), FV.is (.slice a l.length c), FV.is (.int .i64 at_), FV.is (.int .i64 (at_ + 2)), FV.is (.int .i64 r), FV.is (.int .i64 (at_ + 2 + (r : Int))), FV.is (.int .i64 y2), FV.is (.agg #[.int .i64 (x + 3 * (r : Int) + u), .int .i64 y2]), fvNew1 [(x + 3 * (r : Int) + u, y2)]]
          [(0, 54), (1, 55), (2, 56), (3, 57), (4, 58), (5, 59), (6, 60), (7, 61), (8, 62), (9, 63), (10, 64), (11, 65), (12, 66), (13, 67), (14, 68), (15, 69), (16, 70), (17, 71), (18, 72), (19, 73), (20, 74)]
          [[], [(0, 54)], [], [], [(3, 57)], [(2, 56), (4, 58)], [], [], [(7, 61)], [], [(8, 62), (9, 63)], [(6, 60), (10, 64)], [(5, 59), (11, 65)], [], [], [(14, 68)], [], [(15, 69), (16, 70)], [(13, 67), (17, 71)], [(12, 66), (18, 72)], [(19, 73)]] (by kernel_rfl) (by kernel_rfl) ?_ ?_
        · refine flowObs_cons (fun W hW => flowOb_nil ?_) ?_
          · go_wp2
            exact ⟨rfl, Aft.refl W⟩
          refine flowObs_cons (fun W hW => flowOb_cons fun v0 h0 => flowOb_nil ?_) ?_
          · obtain rfl := h0
            have c9W := (hW.cell (World.block_lt_of_cell? _ _ c9)).trans c9
            go_wp2
            exact ⟨rfl, Aft.refl W⟩
          refine flowObs_cons (fun W hW => flowOb_nil ?_) ?_
          · go_wp2
            exact ⟨rfl, Aft.refl W⟩
          refine flowObs_cons (fun W hW => flowOb_nil ?_) ?_
          · go_wp2
            exact ⟨rfl, Aft.refl W⟩
          refine flowObs_cons (fun W hW => flowOb_cons fun v0 h0 => flowOb_nil ?_) ?_
          · obtain rfl := h0
            go_wp2
            exact ⟨rfl, Aft.refl W⟩
          refine flowObs_cons (fun W hW => flowOb_cons fun v0 h0 => flowOb_cons fun v1 h1 => flowOb_nil ?_) ?_
          · obtain rfl := h0
            obtain rfl := h1
            go_wp2
            exact ⟨rfl, Aft.refl W⟩
          refine flowObs_cons (fun W hW => flowOb_nil ?_) ?_
          · go_wp2
            exact ⟨rfl, Aft.refl W⟩
          refine flowObs_cons (fun W hW => flowOb_nil ?_) ?_
          · go_wp2
            exact ⟨rfl, Aft.refl W⟩
          refine flowObs_cons (fun W hW => flowOb_cons fun v0 h0 => flowOb_nil ?_) ?_
          · obtain rfl := h0
            go_wp2
            exact ⟨rfl, Aft.refl W⟩
          refine flowObs_cons (fun W hW => flowOb_nil ?_) ?_
          · go_wp2
            exact ⟨rfl, Aft.refl W⟩
          refine flowObs_cons (fun W hW => flowOb_cons fun v0 h0 => flowOb_cons fun v1 h1 => flowOb_nil ?_) ?_
          · obtain rfl := h0
            obtain rfl := h1
            go_wp2
            exact ⟨rfl, Aft.refl W⟩
          refine flowObs_cons (fun W hW => flowOb_cons fun v0 h0 => flowOb_cons fun v1 h1 => flowOb_nil ?_) ?_
          · obtain rfl := h0
            obtain rfl := h1
            go_wp2_with (go_at_call 63; refine (at_any _ l _ _ _ (hlr.aft hW)).mono ?_; rintro e w' ⟨rfl, rfl⟩; rw [hu])
            exact ⟨rfl, Aft.refl W⟩
          refine flowObs_cons (fun W hW => flowOb_cons fun v0 h0 => flowOb_cons fun v1 h1 => flowOb_nil ?_) ?_
          · obtain rfl := h0
            obtain rfl := h1
            go_wp2
            exact ⟨rfl, Aft.refl W⟩
          refine flowObs_cons (fun W hW => flowOb_nil ?_) ?_
          · go_wp2
            exact ⟨rfl, Aft.refl W⟩
          refine flowObs_cons (fun W hW => flowOb_nil ?_) ?_
          · go_wp2
            exact ⟨rfl, Aft.refl W⟩
          refine flowObs_cons (fun W hW => flowOb_cons fun v0 h0 => flowOb_nil ?_) ?_
          · obtain rfl := h0
            go_wp2
            exact ⟨rfl, Aft.refl W⟩
          refine flowObs_cons (fun W hW => flowOb_nil ?_) ?_
          · go_wp2
            exact ⟨rfl, Aft.refl W⟩
          refine flowObs_cons (fun W hW => flowOb_cons fun v0 h0 => flowOb_cons fun v1 h1 => flowOb_nil ?_) ?_
          · obtain rfl := h0
            obtain rfl := h1
            go_wp2
            exact ⟨rfl, Aft.refl W⟩
          refine flowObs_cons (fun W hW => flowOb_cons fun v0 h0 => flowOb_cons fun v1 h1 => flowOb_nil ?_) ?_
          · obtain rfl := h0
            obtain rfl := h1
            go_wp2_with (go_at_call 63; refine (at_any _ l _ _ _ (hlr.aft hW)).mono ?_; rintro e w' ⟨rfl, rfl⟩; rw [hy2])
            exact ⟨rfl, Aft.refl W⟩
          refine flowObs_cons (fun W hW => flowOb_cons fun v0 h0 => flowOb_cons fun v1 h1 => flowOb_nil ?_) ?_
          · obtain rfl := h0
            obtain rfl := h1
            go_wp2
            exact ⟨rfl, Aft.refl W⟩
          refine flowObs_cons (fun W hW => flowOb_cons fun v0 h0 => flowOb_nil ?_) flowObs_nil
          · obtain rfl := h0
            go_wp2
            exact ⟨⟨_, rfl, Rd.new⟩, (Aft.refl W).alloc _⟩
        · intro W hW
          iterate 1 refine flowEnd_cons fun _ _ => ?_
          refine flowEnd_cons fun v0 h0 => ?_
          obtain rfl := h0
          iterate 18 refine flowEnd_cons fun _ _ => ?_
          refine flowEnd_cons fun v1 h1 => flowEnd_nil ?_
          obtain ⟨g, rfl, hrd⟩ := h1
          have hownW := ownsRow_aft hown hW
          have hz3 := hW.size
          have hzr := hwr.size
          simp only [Act.put, List.setIfInBounds_toArray, List.set_cons_succ, List.set_cons_zero]
          refine wpList_app _ rfl (.tmp 55) (.tmp 74) 49 rfl (n9 + 1) 57 (.agg #[.int .i64 0, .int .i64 0]) 2 16 Try.underlying49 Try.info57 rfl (by decide) _ r _ rfl hownW (some ⟨g, 0, none⟩) 1 1 (prs [(x + 3 * (r : Int) + u, y2)]) rfl (fun h => by cases h) rfl hrd (prs_one _) (by unfold maxLen; omega) (by omega) (by omega) ?_
          intro v' w' hown' hgrow hloc
          rw [← HSN.out] at hown'
          obtain ⟨g', cap', rfl⟩ := ownsRow_some' hown' (by omega)
          have hb9 : w'.heap[n9]? = W.heap[n9]? := hgrow.block n9 (by omega) (fun e => by have := (hownW.lt n9 e.symm).1; omega)
          have e9W := (World.cell?_of_block (a := ⟨n9, 0, none⟩) hb9).trans ((hW.cell hg9).trans e9)
          have c9W := (World.cell?_of_block (a := ⟨n9, 1, none⟩) hb9).trans ((hW.cell hg9).trans c9)
          have f9W := (World.frozen?_of_block (a := ⟨n9, 1, none⟩) hb9).trans ((hW.frozen hg9).trans hf9)
          have hA := ((hwr.trans hW).grown hgrow (fun j hj => by have := (hownW.lt j hj).1; omega))
          have HK := hid (show (w'.setCell ⟨n9, 1, none⟩ (.slice (some ⟨g', 0, none⟩) (r + 1) cap')).cell? ⟨n9, 0, none⟩ = some (.int .i64 1) ∧ (w'.setCell ⟨n9, 1, none⟩ (.slice (some ⟨g', 0, none⟩) (r + 1) cap')).cell? ⟨n9, 1, none⟩ = some (.slice (some ⟨g', 0, none⟩) (r + 1) cap') ∧ (w'.setCell ⟨n9, 1, none⟩ (.slice (some ⟨g', 0, none⟩) (r + 1) cap')).frozen? ⟨n9, 1, none⟩ = false ∧ (w'.setCell ⟨n9, 1, none⟩ (.slice (some ⟨g', 0, none⟩) (r + 1) cap')).ownsRow (n9 + 1) 57 2 (.slice (some ⟨g', 0, none⟩) (r + 1) cap') (r + 1) (prs ((List.range (r + 1)).map (lnZ l at_ x))) ∧ Aft W0 (w'.setCell ⟨n9, 1, none⟩ (.slice (some ⟨g', 0, none⟩) (r + 1) cap')) from
            ⟨by rw [World.cell?_setCell_other _ _ _ _ (by simp)]; exact e9W, World.cell?_setCell_same' _ _ _ (by rw [c9W]; rfl), by rw [World.frozen?_setCell]; exact f9W,
              by
                have hg' := (hown'.lt g' rfl).1
                exact Sep.kept (v' := .slice (some ⟨n9, 1, none⟩) 0 0) (sep_ne'' (by omega)) hown' (grown_setCell w' ⟨n9, 1, none⟩ _),
              hA.setCell (p := ⟨n9, 1, none⟩) (by show W0.heap.size ≤ n9; omega) _⟩)
          go_wp2
          go_roundw
          case rel => exact ⟨r + 1, by omega, by go_num, _, HK.out⟩
          case measure => simp only [intOf]; omega
      · obtain rfl : r = 2 + k := by omega
        obtain ⟨g, cap, rfl⟩ := ownsRow_some' hown (by omega)
        have hgb := (hown.lt g rfl).1
        have c0r := (hwr.cell (World.block_lt_of_cell? _ _ c0)).trans c0
        have c1r := (hwr.cell (World.block_lt_of_cell? _ _ c1)).trans c1
        have f0r := (hwr.frozen (World.block_lt_of_cell? _ _ c0)).trans hf0
        have f1r := (hwr.frozen (World.block_lt_of_cell? _ _ c0)).trans hf1
        have hA := hw0.trans hwr
        have HP := hid (store2 hA hge4 c0r c1r (.int .i64 1) (.slice (some ⟨g, 0, none⟩) (2 + k) cap))
        have hin : ∀ p ∈ (List.range (2 + k)).map (lnZ l at_ x), 0 ≤ p.1 ∧ p.1 ≤ 60 ∧ 0 ≤ p.2 ∧ p.2 ≤ 60 := by
          intro p hp
          obtain ⟨i, hi, rfl⟩ := List.mem_map.1 hp
          have hi' := List.mem_range.1 hi
          have b1 := atI_lt l (at_ + 6 + (i : Int)) 3 (by omega)
          have b2 := atI_lt l (at_ + 2 + (i : Int)) 61 (by omega)
          unfold lnZ
          simp only
          omega
        have hpr : Prs wr (.slice (some ⟨g, 0, none⟩) (2 + k) cap) ((List.range (2 + k)).map (lnZ l at_ x)) := ownsRow_prs (by rw [List.length_map, List.length_range]; exact hown) (okP_small fun p hp => by have := hin p hp; omega) (by simp; omega)
        have HPR := hid hpr
        have HG : Hid (Gen 1 ((List.range (2 + k)).map (lnZ l at_ x))) := hid (.inr (.inl ⟨rfl, by simp, by simp; omega, hin, fun i p q hp hq => by
          simp only [List.getElem?_map, Option.map_eq_some_iff] at hp hq
          obtain ⟨i', hi', rfl⟩ := hp
          obtain ⟨j', hj', rfl⟩ := hq
          obtain ⟨_, e1⟩ := List.getElem?_eq_some_iff.1 hi'
          obtain ⟨_, e2⟩ := List.getElem?_eq_some_iff.1 hj'
          simp at e1 e2
          subst e1 e2
          have b1 := atI_lt l (at_ + 6 + (i : Int)) 3 (by omega)
          have b2 := atI_lt l (at_ + 6 + ((i + 1 : Nat) : Int)) 3 (by omega)
          unfold lnZ
          simp only
          omega⟩))
        clear hpr hin hown
        go_wp2
        obtain ⟨h1, h2, h3, h4⟩ := HP.out
        refine bodyPost_ret (results_shape rfl _ _ n4 1 _ rfl h1 h2) rfl ?_
        refine ⟨1, g, 2 + k, cap, rfl, by omega, (List.range (2 + k)).map (lnZ l at_ x), ?_, HG.out, h4⟩
        obtain ⟨a', c', e', hp⟩ := HPR.out
        simp only [Value.slice.injEq] at e'
        obtain ⟨rfl, e2, rfl⟩ := e'
        exact ⟨_, _, by rw [← e2], PrsAt.kx hp h3 (show ¬ (g = n4) by omega)⟩
  · -- a line
    obtain ⟨nn, hnn⟩ : ∃ x, atI l (at_ + 5) 4 = x := ⟨_, rfl⟩
    have bn : 0 ≤ nn ∧ nn < 4 := hnn ▸ atI_lt l _ 4 (by omega)
    obtain ⟨k, rfl⟩ : ∃ k : Nat, nn = k := ⟨nn.toNat, by omega⟩
    go_upto_region 11 with (go_at_call 63; refine (at_any _ l _ _ _ hI0).mono ?_; rintro e w' ⟨rfl, rfl⟩; first | rw [hs])
    obtain ⟨W1, eW1, hw1, hlt1, hbox1⟩ := one_box W0 #[.int .i64 1, .slice none 0 0] 51
    have hf9 : W1.frozen? ⟨W0.heap.size, 1, none⟩ = false := eW1 ▸ frozen_new W0 _ _ 1
    rw [eW1]
    clear eW1
    have e9 := hbox1.out W1 (Aft.refl _) 0 (.int .i64 1) rfl
    have c9 := hbox1.out W1 (Aft.refl _) 1 (.slice none 0 0) rfl
    clear hbox1
    obtain ⟨n9, hn9⟩ : ∃ n, W0.heap.size = n := ⟨_, rfl⟩
    rw [hn9] at hf9 e9 c9 hlt1 ⊢
    have hI1 := hI0.aft hw1
    have hlt4 : n4 < n9 := by omega
    have hnil : W1.ownsRow (n9 + 1) 57 2 (.slice none 0 0) 0 (prs ((List.range 0).map (lnZ l at_ x))) := World.ownsRow_nil _ _ _ _
    have hz1 := hw1.size
    go_wp2_with (go_at_call 63; refine (at_any _ l _ _ _ hI1).mono ?_; rintro e w' ⟨rfl, rfl⟩; first | rw [hnn])
    go_loopw [11] (fun i wr => ∃ r : Nat, r ≤ 2 + k ∧ i = .int .i64 r ∧ ∃ v, wr.cell? ⟨n9, 0, none⟩ = some (.int .i64 1) ∧ wr.cell? ⟨n9, 1, none⟩ = some v ∧ wr.frozen? ⟨n9, 1, none⟩ = false ∧ wr.ownsRow (n9 + 1) 57 2 v r (prs ((List.range r).map (lnZ l at_ x))) ∧ Aft W0 wr) (fun i _ => 2 + k - (intOf i).toNat)
    case atStart => exact ⟨0, by omega, rfl, _, e9, c9, hf9, hnil, hw1⟩
    case round =>
      clear e9 c9 hf9 hnil hI1
      obtain ⟨r, hr, rfl, v, e9, c9, hf9, hown, hwr⟩ := hrel
      have hI := hI0.aft hwr
      have hlr := hI
      have hg9 : n9 < wr.heap.size := World.block_lt_of_cell? _ _ c9
      rcases Nat.lt_or_ge r (2 + k) with hltr | hger
      · have hri : (r : Int) < 2 + k := by omega
        obtain ⟨u, hu⟩ : ∃ u, atI l (at_ + 6 + (r : Int)) 3 = u := ⟨_, rfl⟩
        obtain ⟨y2, hy2⟩ : ∃ u, atI l (at_ + 2 + (r : Int)) 61 = u := ⟨_, rfl⟩
        have bu : 0 ≤ u ∧ u < 3 := hu ▸ atI_lt l _ 3 (by omega)
        have by2 : 0 ≤ y2 ∧ y2 < 61 := hy2 ▸ atI_lt l _ 61 (by omega)
        have HSN := hid (show prs ((List.range (r + 1)).map (lnZ l at_ x)) = prs ((List.range r).map (lnZ l at_ x)) ++ prs [(x + 3 * (r : Int) + u, y2)] by
          rw [List.range_succ, List.map_append, prs_append]
          simp only [List.map_cons, List.map_nil]
          unfold lnZ
          rw [hu, hy2])
        go_upto_region 15 with fail
        refine wp_region_flow _ (Aft.refl _) [FV.is (.pointer (some ⟨n9, 1, none⟩)), FV.is (v), FV.is (.int .i64 x), FV.is (.int .i64 r), FV.is (.int .i64 (3 * (r : Int))), FV.is (.int .i64 (x + 3 * (r : Int))), FV.is (.slice a l.length c), FV.is (.int .i64 at_), FV.is (.int .i64 (at_ + 6)), FV.is (.int .i64 r), FV.is (.int .i64 (at_ + 6 + (r : Int))), FV.is (.int .i64 u), FV.is (.int .i64 (x + 3 * (r : Int) + u)), FV.is (.slice a l.length c), FV.is (.int .i64 at_), FV.is (.int .i64 (at_ + 2)), FV.is (.int .i64 r), FV.is (.int .i64 (at_ + 2 + (r : Int))), FV.is (.int .i64 y2), FV.is (.agg #[.int .i64 (x + 3 * (r : Int) + u), .int .i64 y2]), fvNew1 [(x + 3 * (r : Int) + u, y2)]]
          [(0, 54), (1, 55), (2, 56), (3, 57), (4, 58), (5, 59), (6, 60), (7, 61), (8, 62), (9, 63), (10, 64), (11, 65), (12, 66), (13, 67), (14, 68), (15, 69), (16, 70), (17, 71), (18, 72), (19, 73), (20, 74)]
          [[], [(0, 54)], [], [], [(3, 57)], [(2, 56), (4, 58)], [], [], [(7, 61)], [], [(8, 62), (9, 63)], [(6, 60), (10, 64)], [(5, 59), (11, 65)], [], [], [(14, 68)], [], [(15, 69), (16, 70)], [(13, 67), (17, 71)], [(12, 66), (18, 72)], [(19, 73)]] (by kernel_rfl) (by kernel_rfl) ?_ ?_
        · refine flowObs_cons (fun W hW => flowOb_nil ?_) ?_
          · go_wp2
            exact ⟨rfl, Aft.refl W⟩
          refine flowObs_cons (fun W hW => flowOb_cons fun v0 h0 => flowOb_nil ?_) ?_
          · obtain rfl := h0
            have c9W := (hW.cell (World.block_lt_of_cell? _ _ c9)).trans c9
            go_wp2
            exact ⟨rfl, Aft.refl W⟩
          refine flowObs_cons (fun W hW => flowOb_nil ?_) ?_
          · go_wp2
            exact ⟨rfl, Aft.refl W⟩
          refine flowObs_cons (fun W hW => flowOb_nil ?_) ?_
          · go_wp2
            exact ⟨rfl, Aft.refl W⟩
          refine flowObs_cons (fun W hW => flowOb_cons fun v0 h0 => flowOb_nil ?_) ?_
          · obtain rfl := h0
            go_wp2
            exact ⟨rfl, Aft.refl W⟩
          refine flowObs_cons (fun W hW => flowOb_cons fun v0 h0 => flowOb_cons fun v1 h1 => flowOb_nil ?_) ?_
          · obtain rfl := h0
            obtain rfl := h1
            go_wp2
            exact ⟨rfl, Aft.refl W⟩
          refine flowObs_cons (fun W hW => flowOb_nil ?_) ?_
          · go_wp2
            exact ⟨rfl, Aft.refl W⟩
          refine flowObs_cons (fun W hW => flowOb_nil ?_) ?_
          · go_wp2
            exact ⟨rfl, Aft.refl W⟩
          refine flowObs_cons (fun W hW => flowOb_cons fun v0 h0 => flowOb_nil ?_) ?_
          · obtain rfl := h0
            go_wp2
            exact ⟨rfl, Aft.refl W⟩
          refine flowObs_cons (fun W hW => flowOb_nil ?_) ?_
          · go_wp2
            exact ⟨rfl, Aft.refl W⟩
          refine flowObs_cons (fun W hW => flowOb_cons fun v0 h0 => flowOb_cons fun v1 h1 => flowOb_nil ?_) ?_
          · obtain rfl := h0
            obtain rfl := h1
            go_wp2
            exact ⟨rfl, Aft.refl W⟩
          refine flowObs_cons (fun W hW => flowOb_cons fun v0 h0 => flowOb_cons fun v1 h1 => flowOb_nil ?_) ?_
          · obtain rfl := h0
            obtain rfl := h1
            go_wp2_with (go_at_call 63; refine (at_any _ l _ _ _ (hlr.aft hW)).mono ?_; rintro e w' ⟨rfl, rfl⟩; rw [hu])
            exact ⟨rfl, Aft.refl W⟩
          refine flowObs_cons (fun W hW => flowOb_cons fun v0 h0 => flowOb_cons fun v1 h1 => flowOb_nil ?_) ?_
          · obtain rfl := h0
            obtain rfl := h1
            go_wp2
            exact ⟨rfl, Aft.refl W⟩
          refine flowObs_cons (fun W hW => flowOb_nil ?_) ?_
          · go_wp2
            exact ⟨rfl, Aft.refl W⟩
          refine flowObs_cons (fun W hW => flowOb_nil ?_) ?_
          · go_wp2
            exact ⟨rfl, Aft.refl W⟩
          refine flowObs_cons (fun W hW => flowOb_cons fun v0 h0 => flowOb_nil ?_) ?_
          · obtain rfl := h0
            go_wp2
            exact ⟨rfl, Aft.refl W⟩
          refine flowObs_cons (fun W hW => flowOb_nil ?_) ?_
          · go_wp2
            exact ⟨rfl, Aft.refl W⟩
          refine flowObs_cons (fun W hW => flowOb_cons fun v0 h0 => flowOb_cons fun v1 h1 => flowOb_nil ?_) ?_
          · obtain rfl := h0
            obtain rfl := h1
            go_wp2
            exact ⟨rfl, Aft.refl W⟩
          refine flowObs_cons (fun W hW => flowOb_cons fun v0 h0 => flowOb_cons fun v1 h1 => flowOb_nil ?_) ?_
          · obtain rfl := h0
            obtain rfl := h1
            go_wp2_with (go_at_call 63; refine (at_any _ l _ _ _ (hlr.aft hW)).mono ?_; rintro e w' ⟨rfl, rfl⟩; rw [hy2])
            exact ⟨rfl, Aft.refl W⟩
          refine flowObs_cons (fun W hW => flowOb_cons fun v0 h0 => flowOb_cons fun v1 h1 => flowOb_nil ?_) ?_
          · obtain rfl := h0
            obtain rfl := h1
            go_wp2
            exact ⟨rfl, Aft.refl W⟩
          refine flowObs_cons (fun W hW => flowOb_cons fun v0 h0 => flowOb_nil ?_) flowObs_nil
          · obtain rfl := h0
            go_wp2
            exact ⟨⟨_, rfl, Rd.new⟩, (Aft.refl W).alloc _⟩
        · intro W hW
          iterate 1 refine flowEnd_cons fun _ _ => ?_
          refine flowEnd_cons fun v0 h0 => ?_
          obtain rfl := h0
          iterate 18 refine flowEnd_cons fun _ _ => ?_
          refine flowEnd_cons fun v1 h1 => flowEnd_nil ?_
          obtain ⟨g, rfl, hrd⟩ := h1
          have hownW := ownsRow_aft hown hW
          have hz3 := hW.size
          have hzr := hwr.size
          simp only [Act.put, List.setIfInBounds_toArray, List.set_cons_succ, List.set_cons_zero]
          refine wpList_app _ rfl (.tmp 55) (.tmp 74) 49 rfl (n9 + 1) 57 (.agg #[.int .i64 0, .int .i64 0]) 2 16 Try.underlying49 Try.info57 rfl (by decide) _ r _ rfl hownW (some ⟨g, 0, none⟩) 1 1 (prs [(x + 3 * (r : Int) + u, y2)]) rfl (fun h => by cases h) rfl hrd (prs_one _) (by unfold maxLen; omega) (by omega) (by omega) ?_
          intro v' w' hown' hgrow hloc
          rw [← HSN.out] at hown'
          obtain ⟨g', cap', rfl⟩ := ownsRow_some' hown' (by omega)
          have hb9 : w'.heap[n9]? = W.heap[n9]? := hgrow.block n9 (by omega) (fun e => by have := (hownW.lt n9 e.symm).1; omega)
          have e9W := (World.cell?_of_block (a := ⟨n9, 0, none⟩) hb9).trans ((hW.cell hg9).trans e9)
          have c9W := (World.cell?_of_block (a := ⟨n9, 1, none⟩) hb9).trans ((hW.cell hg9).trans c9)
          have f9W := (World.frozen?_of_block (a := ⟨n9, 1, none⟩) hb9).trans ((hW.frozen hg9).trans hf9)
          have hA := ((hwr.trans hW).grown hgrow (fun j hj => by have := (hownW.lt j hj).1; omega))
          have HK := hid (show (w'.setCell ⟨n9, 1, none⟩ (.slice (some ⟨g', 0, none⟩) (r + 1) cap')).cell? ⟨n9, 0, none⟩ = some (.int .i64 1) ∧ (w'.setCell ⟨n9, 1, none⟩ (.slice (some ⟨g', 0, none⟩) (r + 1) cap')).cell? ⟨n9, 1, none⟩ = some (.slice (some ⟨g', 0, none⟩) (r + 1) cap') ∧ (w'.setCell ⟨n9, 1, none⟩ (.slice (some ⟨g', 0, none⟩) (r + 1) cap')).frozen? ⟨n9, 1, none⟩ = false ∧ (w'.setCell ⟨n9, 1, none⟩ (.slice (some ⟨g', 0, none⟩) (r + 1) cap')).ownsRow (n9 + 1) 57 2 (.slice (some ⟨g', 0, none⟩) (r + 1) cap') (r + 1) (prs ((List.range (r + 1)).map (lnZ l at_ x))) ∧ Aft W0 (w'.setCell ⟨n9, 1, none⟩ (.slice (some ⟨g', 0, none⟩) (r + 1) cap')) from
            ⟨by rw [World.cell?_setCell_other _ _ _ _ (by simp)]; exact e9W, World.cell?_setCell_same' _ _ _ (by rw [c9W]; rfl), by rw [World.frozen?_setCell]; exact f9W,
              by
                have hg' := (hown'.lt g' rfl).1
                exact Sep.kept (v' := .slice (some ⟨n9, 1, none⟩) 0 0) (sep_ne'' (by omega)) hown' (grown_setCell w' ⟨n9, 1, none⟩ _),
              hA.setCell (p := ⟨n9, 1, none⟩) (by show W0.heap.size ≤ n9; omega) _⟩)
          go_wp2
          go_roundw
          case rel => exact ⟨r + 1, by omega, by go_num, _, HK.out⟩
          case measure => simp only [intOf]; omega
      · obtain rfl : r = 2 + k := by omega
        obtain ⟨g, cap, rfl⟩ := ownsRow_some' hown (by omega)
        have hgb := (hown.lt g rfl).1
        have c0r := (hwr.cell (World.block_lt_of_cell? _ _ c0)).trans c0
        have c1r := (hwr.cell (World.block_lt_of_cell? _ _ c1)).trans c1
        have f0r := (hwr.frozen (World.block_lt_of_cell? _ _ c0)).trans hf0
        have f1r := (hwr.frozen (World.block_lt_of_cell? _ _ c0)).trans hf1
        have hA := hw0.trans hwr
        have HP := hid (store2 hA hge4 c0r c1r (.int .i64 1) (.slice (some ⟨g, 0, none⟩) (2 + k) cap))
        have hin : ∀ p ∈ (List.range (2 + k)).map (lnZ l at_ x), 0 ≤ p.1 ∧ p.1 ≤ 60 ∧ 0 ≤ p.2 ∧ p.2 ≤ 60 := by
          intro p hp
          obtain ⟨i, hi, rfl⟩ := List.mem_map.1 hp
          have hi' := List.mem_range.1 hi
          have b1 := atI_lt l (at_ + 6 + (i : Int)) 3 (by omega)
          have b2 := atI_lt l (at_ + 2 + (i : Int)) 61 (by omega)
          unfold lnZ
          simp only
          omega
        have hpr : Prs wr (.slice (some ⟨g, 0, none⟩) (2 + k) cap) ((List.range (2 + k)).map (lnZ l at_ x)) := ownsRow_prs (by rw [List.length_map, List.length_range]; exact hown) (okP_small fun p hp => by have := hin p hp; omega) (by simp; omega)
        have HPR := hid hpr
        have HG : Hid (Gen 1 ((List.range (2 + k)).map (lnZ l at_ x))) := hid (.inr (.inl ⟨rfl, by simp, by simp; omega, hin, fun i p q hp hq => by
          simp only [List.getElem?_map, Option.map_eq_some_iff] at hp hq
          obtain ⟨i', hi', rfl⟩ := hp
          obtain ⟨j', hj', rfl⟩ := hq
          obtain ⟨_, e1⟩ := List.getElem?_eq_some_iff.1 hi'
          obtain ⟨_, e2⟩ := List.getElem?_eq_some_iff.1 hj'
          simp at e1 e2
          subst e1 e2
          have b1 := atI_lt l (at_ + 6 + (i : Int)) 3 (by omega)
          have b2 := atI_lt l (at_ + 6 + ((i + 1 : Nat) : Int)) 3 (by omega)
          unfold lnZ
          simp only
          omega⟩))
        clear hpr hin hown
        go_wp2
        obtain ⟨h1, h2, h3, h4⟩ := HP.out
        refine bodyPost_ret (results_shape rfl _ _ n4 1 _ rfl h1 h2) rfl ?_
        refine ⟨1, g, 2 + k, cap, rfl, by omega, (List.range (2 + k)).map (lnZ l at_ x), ?_, HG.out, h4⟩
        obtain ⟨a', c', e', hp⟩ := HPR.out
        simp only [Value.slice.injEq] at e'
        obtain ⟨rfl, e2, rfl⟩ := e'
        exact ⟨_, _, by rw [← e2], PrsAt.kx hp h3 (show ¬ (g = n4) by omega)⟩
  · -- a triangle
    obtain ⟨u, hu⟩ : ∃ x, atI l (at_ + 5) 3 = x := ⟨_, rfl⟩
    obtain ⟨u2, hu2⟩ : ∃ x, atI l (at_ + 6) (2 + wd + 1) = x := ⟨_, rfl⟩
    have bu : 0 ≤ u ∧ u < 3 := hu ▸ atI_lt l _ 3 (by omega)
    have bu2 : 0 ≤ u2 ∧ u2 < 2 + wd + 1 := hu2 ▸ atI_lt l _ _ (by omega)
    have HP := shape_put hw0 hge4 c0 c1 2 #[.int .i64 x, .int .i64 y, .int .i64 (x + (2 + wd)), .int .i64 (y + u), .int .i64 (x + u2), .int .i64 (y + 3 + (2 + h) - 2)] [(x, y), (x + (2 + wd), y + u), (x + u2, y + 3 + (2 + h) - 2)] 3 rfl rfl (okP_small (by intro p hp; simp at hp; rcases hp with rfl | rfl | rfl <;> (simp; omega))) (by simp)
    go_wp2_with (go_at_call 63; refine (at_any _ l _ _ _ hI0).mono ?_; rintro e w' ⟨rfl, rfl⟩; first | rw [hs] | rw [hu] | rw [hu2])
    obtain ⟨h1, h2, h3, h4⟩ := HP.out
    refine bodyPost_ret (results_shape rfl _ _ n4 2 _ rfl h1 h2) rfl ?_
    exact ⟨_, W0.heap.size, _, _, _, rfl, hw0.size, h3, .inr (.inr (.inr (.inl ⟨rfl, x, y, 2 + wd, u, u2, 3 + h, by unfold triL; congr 3; simp; omega, by omega, by omega, by omega, by omega, by omega, by omega, by omega, by omega, by omega, by omega⟩))), h4⟩
  · -- a bracket
    have HP := shape_put hw0 hge4 c0 c1 2 #[.int .i64 x, .int .i64 y, .int .i64 (x + (2 + wd)), .int .i64 y, .int .i64 (x + (2 + wd)), .int .i64 (y + 1), .int .i64 (x + 1), .int .i64 (y + 1), .int .i64 (x + 1), .int .i64 (y + (2 + h)), .int .i64 x, .int .i64 (y + (2 + h))] (braL x y (2 + wd) (2 + h)) 6 rfl rfl (okP_small (by intro p hp; simp [braL] at hp; rcases hp with rfl | rfl | rfl | rfl | rfl | rfl <;> (simp; omega))) (by simp [braL])
    go_wp2_with (go_at_call 63; refine (at_any _ l _ _ _ hI0).mono ?_; rintro e w' ⟨rfl, rfl⟩; first | rw [hs])
    obtain ⟨h1, h2, h3, h4⟩ := HP.out
    refine bodyPost_ret (results_shape rfl _ _ n4 2 _ rfl h1 h2) rfl ?_
    exact ⟨_, W0.heap.size, _, _, _, rfl, hw0.size, h3, .inr (.inr (.inr (.inr ⟨rfl, x, y, 2 + wd, 2 + h, rfl, by omega, by omega, by omega, by omega, by omega, by omega⟩))), h4⟩
  · -- a great rectangle
    go_upto_region 22 with (go_at_call 63; refine (at_any _ l _ _ _ hI0).mono ?_; rintro e w' ⟨rfl, rfl⟩; rw [hs])
    go_wp2_with ((go_at_call 113; refine (rect_new (x / 4) (y / 4) (30 + (2 + wd)) (30 + (2 + h)) _ (by omega) (by omega) (by omega) (by omega)).mono ?_; rintro e w1 ⟨g, rfl, hg, hp, hw1⟩; have c0r := (hw1.cell (World.block_lt_of_cell? _ _ c0)).trans c0; have c1r := (hw1.cell (World.block_lt_of_cell? _ _ c1)).trans c1; have f0r := (hw1.frozen (World.block_lt_of_cell? _ _ c0)).trans hf0; have f1r := (hw1.frozen (World.block_lt_of_cell? _ _ c0)).trans hf1))
    have hgn : g ≠ n4 := by omega
    have HP := hid (store2 (hw0.trans hw1) hge4 c0r c1r (.int .i64 2) (.slice (some ⟨g, 0, none⟩) 4 4))
    try go_wp2
    obtain ⟨h1, h2, h3, h4⟩ := HP.out
    refine bodyPost_ret (results_shape rfl _ _ n4 2 _ rfl h1 h2) rfl ?_
    exact ⟨_, g, _, _, _, rfl, Nat.le_trans hw0.size hg, ⟨_, _, rfl, PrsAt.kx hp h3 hgn⟩, .inr (.inr (.inl ⟨rfl, x / 4, y / 4, 30 + (2 + wd), 30 + (2 + h), rfl, by omega, by omega, by omega, by omega, by omega, by omega⟩)), h4⟩
  · -- a rectangle
    go_upto_region 23 with (go_at_call 63; refine (at_any _ l _ _ _ hI0).mono ?_; rintro e w' ⟨rfl, rfl⟩; rw [hs])
    go_wp2_with ((go_at_call 113; refine (rect_new x y (2 + wd) (2 + h) _ (by omega) (by omega) (by omega) (by omega)).mono ?_; rintro e w1 ⟨g, rfl, hg, hp, hw1⟩; have c0r := (hw1.cell (World.block_lt_of_cell? _ _ c0)).trans c0; have c1r := (hw1.cell (World.block_lt_of_cell? _ _ c1)).trans c1; have f0r := (hw1.frozen (World.block_lt_of_cell? _ _ c0)).trans hf0; have f1r := (hw1.frozen (World.block_lt_of_cell? _ _ c0)).trans hf1))
    have hgn : g ≠ n4 := by omega
    have HP := hid (store2 (hw0.trans hw1) hge4 c0r c1r (.int .i64 2) (.slice (some ⟨g, 0, none⟩) 4 4))
    try go_wp2
    obtain ⟨h1, h2, h3, h4⟩ := HP.out
    refine bodyPost_ret (results_shape rfl _ _ n4 2 _ rfl h1 h2) rfl ?_
    exact ⟨_, g, _, _, _, rfl, Nat.le_trans hw0.size hg, ⟨_, _, rfl, PrsAt.kx hp h3 hgn⟩, .inr (.inr (.inl ⟨rfl, x, y, 2 + wd, 2 + h, rfl, by omega, by omega, by omega, by omega, by omega, by omega⟩)), h4⟩
  · -- a rectangle
    go_upto_region 23 with (go_at_call 63; refine (at_any _ l _ _ _ hI0).mono ?_; rintro e w' ⟨rfl, rfl⟩; rw [hs])
    go_wp2_with ((go_at_call 113; refine (rect_new x y (2 + wd) (2 + h) _ (by omega) (by omega) (by omega) (by omega)).mono ?_; rintro e w1 ⟨g, rfl, hg, hp, hw1⟩; have c0r := (hw1.cell (World.block_lt_of_cell? _ _ c0)).trans c0; have c1r := (hw1.cell (World.block_lt_of_cell? _ _ c1)).trans c1; have f0r := (hw1.frozen (World.block_lt_of_cell? _ _ c0)).trans hf0; have f1r := (hw1.frozen (World.block_lt_of_cell? _ _ c0)).trans hf1))
    have hgn : g ≠ n4 := by omega
    have HP := hid (store2 (hw0.trans hw1) hge4 c0r c1r (.int .i64 2) (.slice (some ⟨g, 0, none⟩) 4 4))
    try go_wp2
    obtain ⟨h1, h2, h3, h4⟩ := HP.out
    refine bodyPost_ret (results_shape rfl _ _ n4 2 _ rfl h1 h2) rfl ?_
    exact ⟨_, g, _, _, _, rfl, Nat.le_trans hw0.size hg, ⟨_, _, rfl, PrsAt.kx hp h3 hgn⟩, .inr (.inr (.inl ⟨rfl, x, y, 2 + wd, 2 + h, rfl, by omega, by omega, by omega, by omega, by omega, by omega⟩)), h4⟩
end Go.Proofs.Ytokdclbfjlnnjaa
