/- The plane: generated figures, simple shapes, examples, orders. Conditions are in the theorems. -/
import Derived.Test.YtokdclbfjlnnjaaA4
import Derived.Test.YtokdclbfjlnnjaaA3
import Derived.ArgAppend
import Derived.Test.YtokdclbfjlnnjaaA1
/- The reference's Shape: a simple shape made of numbers. -/
namespace Go.Proofs.Ytokdclbfjlnnjaa
open Go.RowKit Go.BigFrame

/-- The shapes that are made of numbers. -/
def Gen (k : Int) (l : List Pt) : Prop :=
  (k = 0 ∧ ∃ x y, l = [(x, y)] ∧ 0 ≤ x ∧ x ≤ 60 ∧ 0 ≤ y ∧ y ≤ 60) ∨
  (k = 1 ∧ 2 ≤ l.length ∧ l.length ≤ 5 ∧ (∀ p ∈ l, 0 ≤ p.1 ∧ p.1 ≤ 60 ∧ 0 ≤ p.2 ∧ p.2 ≤ 60) ∧ ∀ i p q, l[i]? = some p → l[i + 1]? = some q → p.1 < q.1) ∨
  (k = 2 ∧ ∃ x y wd h, l = rectL x y wd h ∧ 0 ≤ x ∧ 0 ≤ y ∧ 2 ≤ wd ∧ 2 ≤ h ∧ x + wd ≤ 60 ∧ y + h ≤ 60) ∨
  (k = 2 ∧ ∃ x y wd t1 t2 h, l = triL x y wd t1 t2 h ∧ 0 ≤ x ∧ 0 ≤ y ∧ 2 ≤ wd ∧ 3 ≤ h ∧ x + wd ≤ 60 ∧ y + h ≤ 60 ∧ 0 ≤ t1 ∧ t1 ≤ 2 ∧ 0 ≤ t2 ∧ t2 ≤ wd) ∨
  (k = 2 ∧ ∃ x y wd h, l = braL x y wd h ∧ 0 ≤ x ∧ 0 ≤ y ∧ 2 ≤ wd ∧ 2 ≤ h ∧ x + wd ≤ 60 ∧ y + h ≤ 60)

def fvNew1 (l : List Pt) : FV := ⟨fun v W => ∃ g, v = .slice (some ⟨g, 0, none⟩) 1 1 ∧ Rd W (some ⟨g, 0, none⟩) (prs l), fun _ _ _ ⟨g, h1, h2⟩ hw => ⟨g, h1, h2.aft hw⟩⟩

theorem store2 {w W : World} {n : Nat} {u0 u1 : Value} (hW : Aft w W) (hn : w.heap.size ≤ n) (c0 : W.cell? ⟨n, 0, none⟩ = some u0) (c1 : W.cell? ⟨n, 1, none⟩ = some u1) (x y : Value) :
    ((W.setCell ⟨n, 0, none⟩ x).setCell ⟨n, 1, none⟩ y).cell? ⟨n, 0, none⟩ = some x ∧ ((W.setCell ⟨n, 0, none⟩ x).setCell ⟨n, 1, none⟩ y).cell? ⟨n, 1, none⟩ = some y ∧
    Kx (fun j => j = n) W ((W.setCell ⟨n, 0, none⟩ x).setCell ⟨n, 1, none⟩ y) ∧ Aft w ((W.setCell ⟨n, 0, none⟩ x).setCell ⟨n, 1, none⟩ y) := by
  refine ⟨?_, World.cell?_setCell_same' _ _ _ (by rw [World.cell?_setCell_other _ _ _ _ (by simp), c1]; rfl), Kx.trans (X := fun j => j = n) (Kx.setCell (p := ⟨n, 0, none⟩) _ rfl) (Kx.setCell (p := ⟨n, 1, none⟩) _ rfl), (hW.setCell (p := ⟨n, 0, none⟩) hn _).setCell (p := ⟨n, 1, none⟩) hn _⟩
  rw [World.cell?_setCell_other _ _ _ _ (by simp)]
  exact World.cell?_setCell_same' _ _ _ (by rw [c0]; rfl)
theorem Rd.kx {X : Nat → Prop} {A B : World} {g off : Nat} {cs : List Value} (h : Rd A (some ⟨g, off, none⟩) cs) (hk : Kx X A B) (hg : ¬ X g) : Rd B (some ⟨g, off, none⟩) cs := fun j v hj => by
  have hc := Rd.at0 h hj
  have hc' := (hk.cell (World.block_lt_of_cell? _ _ hc) hg).trans hc
  refine ⟨_, rfl, ?_⟩
  by_cases h0 : j = 0
  · subst h0; simpa [Addr.add] using hc'
  · simpa [Addr.add, h0] using hc'
theorem PrsAt.kx {X : Nat → Prop} {A B : World} {g off n c : Nat} {l : List Pt} (h : PrsAt A (some ⟨g, off, none⟩) n c l) (hk : Kx X A B) (hg : ¬ X g) : PrsAt B (some ⟨g, off, none⟩) n c l := { h with rd := Rd.kx h.rd hk hg }

set_option maxRecDepth 100000 in
set_option maxHeartbeats 2000000 in
theorem rect_new (x y wd h : Int) (w : World) (hx : 0 ≤ x ∧ x ≤ 1000) (hy : 0 ≤ y ∧ y ≤ 1000) (hw : 0 ≤ wd ∧ wd ≤ 1000) (hh : 0 ≤ h ∧ h ≤ 1000) :
    Calls Try.prog 113 #[.int .i64 x, .int .i64 y, .int .i64 wd, .int .i64 h] w fun e w' => ∃ g, e = .returned (.agg #[.int .i64 2, .slice (some ⟨g, 0, none⟩) 4 4]) ∧ w.heap.size ≤ g ∧ PrsAt w' (some ⟨g, 0, none⟩) 4 4 (rectL x y wd h) ∧ Aft w w' := by
  have hn := shape_new w 2 #[.int .i64 x, .int .i64 y, .int .i64 (x + wd), .int .i64 y, .int .i64 (x + wd), .int .i64 (y + h), .int .i64 x, .int .i64 (y + h)] (rectL x y wd h) rfl
    (by intro p hp; simp [rectL] at hp; rcases hp with rfl | rfl | rfl | rfl <;> (refine ⟨?_, ?_⟩ <;> simp <;> omega)) (by simp [rectL]) (.slice (some ⟨w.heap.size + 1, 0, none⟩) 4 4)
  have HN := hid hn
  clear hn
  go_enter Try.func113, Try.ntmps113
  go_wp2
  obtain ⟨h1, h2, h3, h4⟩ := HN.out
  refine bodyPost_ret (results_shape rfl _ _ w.heap.size 2 _ rfl h1 h2) rfl ?_
  obtain ⟨a, c, e, h3⟩ := h3
  simp only [Value.slice.injEq] at e
  obtain ⟨rfl, _, rfl⟩ := e
  exact ⟨w.heap.size + 1, rfl, by omega, h3, h4⟩

theorem shape_put {w W0 : World} {n : Nat} {u0 u1 : Value} (hW : Aft w W0) (hn : w.heap.size ≤ n) (c0 : W0.cell? ⟨n, 0, none⟩ = some u0) (c1 : W0.cell? ⟨n, 1, none⟩ = some u1) (k : Int) (cs : Array Value) (l : List Pt) (m : Nat) (hcs : cs.toList = prs l) (hln : m = l.length) (ok : okP l) (hs : l.length ≤ 1000) :
    Hid ((((W0.setCell ⟨n, 0, none⟩ (.int .i64 k)).setCell ⟨n, 1, none⟩ (.slice (some ⟨W0.heap.size, 0, none⟩) m m)).alloc (.cells cs 57)).cell? ⟨n, 0, none⟩ = some (.int .i64 k) ∧
      (((W0.setCell ⟨n, 0, none⟩ (.int .i64 k)).setCell ⟨n, 1, none⟩ (.slice (some ⟨W0.heap.size, 0, none⟩) m m)).alloc (.cells cs 57)).cell? ⟨n, 1, none⟩ = some (.slice (some ⟨W0.heap.size, 0, none⟩) m m) ∧
      Prs (((W0.setCell ⟨n, 0, none⟩ (.int .i64 k)).setCell ⟨n, 1, none⟩ (.slice (some ⟨W0.heap.size, 0, none⟩) m m)).alloc (.cells cs 57)) (.slice (some ⟨W0.heap.size, 0, none⟩) m m) l ∧
      Aft w (((W0.setCell ⟨n, 0, none⟩ (.int .i64 k)).setCell ⟨n, 1, none⟩ (.slice (some ⟨W0.heap.size, 0, none⟩) m m)).alloc (.cells cs 57))) := by
  obtain ⟨s0, s1, _, s3⟩ := store2 hW hn c0 c1 (.int .i64 k) (.slice (some ⟨W0.heap.size, 0, none⟩) m m)
  have hlt := World.block_lt_of_cell? _ _ c0
  have hsz : ((W0.setCell ⟨n, 0, none⟩ (.int .i64 k)).setCell ⟨n, 1, none⟩ (.slice (some ⟨W0.heap.size, 0, none⟩) m m)).heap.size = W0.heap.size := by simp
  generalize hV : (W0.setCell ⟨n, 0, none⟩ (.int .i64 k)).setCell ⟨n, 1, none⟩ (.slice (some ⟨W0.heap.size, 0, none⟩) m m) = V at *
  have hr := Rd.new (w := V) (cs := cs) (e := 57)
  rw [hcs, hsz] at hr
  have hA := (Aft.refl V).alloc (.cells cs 57)
  refine hid ⟨(hA.cell (World.block_lt_of_cell? _ _ s0)).trans s0, (hA.cell (World.block_lt_of_cell? _ _ s1)).trans s1, ?_, s3.alloc _⟩
  subst hln
  exact ⟨_, _, rfl, rfl, hr, ok, Nat.le_refl _, (fun h => by cases h), by omega⟩
theorem okP_small {l : List Pt} (h : ∀ p ∈ l, -1000 ≤ p.1 ∧ p.1 ≤ 1000 ∧ -1000 ≤ p.2 ∧ p.2 ≤ 1000) : okP l := fun p hp => by have := h p hp; omega

theorem Try.info57 : (Try.prog.info? 57).map (fun i => (i.zero, i.size, i.bytes)) = some (some (.agg #[.int .i64 0, .int .i64 0]), 2, 16) := by kernel_rfl
theorem sep_ne'' {g g' n c n' c' o o' : Nat} (h : g ≠ g') : Sep (.slice (some ⟨g, o, none⟩) n c) (.slice (some ⟨g', o', none⟩) n' c') := fun k a b => h (by
  simp [Value.ownBlock] at a b
  omega)
def lnZ (l : List Int) (at_ x : Int) (i : Nat) : Pt := (x + 3 * (i : Int) + atI l (at_ + 6 + (i : Int)) 3, atI l (at_ + 2 + (i : Int)) 61)

set_option maxRecDepth 100000 in
set_option maxHeartbeats 16000000 in
theorem shape_any (vl : Value) (l : List Int) (at_ : Int) (w : World) (hl : Ints w vl l) (hat : 0 ≤ at_ ∧ at_ ≤ 1000) :
    Calls Try.prog 72 #[vl, .int .i64 at_] w fun e w' => ∃ k g n c ps, e = .returned (.agg #[.int .i64 k, .slice (some ⟨g, 0, none⟩) n c]) ∧ w.heap.size ≤ g ∧ Prs w' (.slice (some ⟨g, 0, none⟩) n c) ps ∧ Gen k ps ∧ Aft w w' := by
  obtain ⟨W0, eW0, hw0, hlt, hbox⟩ := one_box w #[.int .i64 0, .slice none 0 0] 51
  have hf0 : W0.frozen? ⟨w.heap.size, 0, none⟩ = false := eW0 ▸ frozen_new w _ _ 0
  have hf1 : W0.frozen? ⟨w.heap.size, 1, none⟩ = false := eW0 ▸ frozen_new w _ _ 1
  have hIl := hl
  obtain ⟨a, c, rfl, hl⟩ := hl
  go_enter Try.func72, Try.ntmps72
  go_upto_region 1 with fail
  clear eW0
  have hI0 := hIl.aft hw0
  have c0 := hbox.out W0 (Aft.refl _) 0 (.int .i64 0) rfl
  have c1 := hbox.out W0 (Aft.refl _) 1 (.slice none 0 0) rfl
  clear hbox
  obtain ⟨n4, hn4⟩ : ∃ n, w.heap.size = n := ⟨_, rfl⟩
  have hge4 : w.heap.size ≤ n4 := by omega
  rw [hn4] at hf0 hf1 c0 c1 hlt ⊢
  clear hn4
  obtain ⟨x, hx⟩ : ∃ x, atI l (at_ + 1) 40 = x := ⟨_, rfl⟩
  obtain ⟨y, hy⟩ : ∃ x, atI l (at_ + 2) 40 = x := ⟨_, rfl⟩
  obtain ⟨wd, hwd⟩ : ∃ x, atI l (at_ + 3) 18 = x := ⟨_, rfl⟩
  obtain ⟨h, hh⟩ : ∃ x, atI l (at_ + 4) 18 = x := ⟨_, rfl⟩
  obtain ⟨s, hs⟩ : ∃ x, atI l at_ 8 = x := ⟨_, rfl⟩
  have bx : 0 ≤ x ∧ x < 40 := hx ▸ atI_lt l _ 40 (by omega)
  have by_ : 0 ≤ y ∧ y < 40 := hy ▸ atI_lt l _ 40 (by omega)
  have bw : 0 ≤ wd ∧ wd < 18 := hwd ▸ atI_lt l _ 18 (by omega)
  have bh : 0 ≤ h ∧ h < 18 := hh ▸ atI_lt l _ 18 (by omega)
  have bs : 0 ≤ s ∧ s < 8 := hs ▸ atI_lt l _ 8 (by omega)
  go_upto_region 5 with (go_at_call 63; refine (at_any _ l _ _ _ hI0).mono ?_; rintro e w' ⟨rfl, rfl⟩; first | rw [hx] | rw [hy] | rw [hwd] | rw [hh])
  have hss : s = 0 ∨ s = 1 ∨ s = 2 ∨ s = 3 ∨ s = 4 ∨ s = 5 ∨ s = 6 ∨ s = 7 := by omega
  clear bs
  clear hx hy hwd hh
  rcases hss with rfl | hss | hss | rfl | rfl | rfl | rfl | rfl
  · -- a dot
    have HP := shape_put hw0 hge4 c0 c1 0 #[.int .i64 x, .int .i64 y] [(x, y)] 1 rfl rfl (okP_small (by intro p hp; simp at hp; subst hp; simp; omega)) (by simp)
    go_wp2_with (go_at_call 63; refine (at_any _ l _ _ _ hI0).mono ?_; rintro e w' ⟨rfl, rfl⟩; first | rw [hs])
    obtain ⟨h1, h2, h3, h4⟩ := HP.out
    refine bodyPost_ret (results_shape rfl _ _ n4 0 _ rfl h1 h2) rfl ?_
    exact ⟨_, W0.heap.size, _, _, _, rfl, hw0.size, h3, .inl ⟨rfl, x, y, rfl, by omega, by omega, by omega, by omega⟩, h4⟩
  · -- a line
    obtain ⟨nn, hnn⟩ : ∃ x, atI l (at_ + 5) 4 = x := ⟨_, rfl⟩
    have bn : 0 ≤ nn ∧ nn < 4 := hnn ▸ atI_lt l _ 4 (by omega)
    obtain ⟨k, rfl⟩ : ∃ k : Nat, nn = k := ⟨nn.toNat, by omega⟩
    go_upto_region 11 with (go_at_call 63; refine (at_any _ l _ _ _ hI0).mono ?_; rintro e w' ⟨rfl, rfl⟩; first | rw [hs])
    obtain ⟨W1, eW1, hw1, hlt1, hbox1⟩ := one_box W0 #[.int .i64 1, .slice none 0 0] 51
    have hf9 : W1.frozen? ⟨W0.heap.size, 1, none⟩ = false := eW1 ▸ frozen_new W0 _ _ 1
    rw [eW1]
    clear eW1
    have e9 := hbox1.out W1 (Aft.refl _) 0 (.int .i64 1) rfl
    have c9 := hbox1.out W1 (Aft.refl _) 1 (.slice none 0 0) rfl
    clear hbox1
    obtain ⟨n9, hn9⟩ : ∃ n, W0.heap.size = n := ⟨_, rfl⟩
    rw [hn9] at hf9 e9 c9 hlt1 ⊢
    have hI1 := hI0.aft hw1
    have hlt4 : n4 < n9 := by omega
    have hnil : W1.ownsRow (n9 + 1) 57 2 (.slice none 0 0) 0 (prs ((List.range 0).map (lnZ l at_ x))) := World.ownsRow_nil _ _ _ _
    have hz1 := hw1.size
    go_wp2_with (go_at_call 63; refine (at_any _ l _ _ _ hI1).mono ?_; rintro e w' ⟨rfl, rfl⟩; first | rw [hnn])
    go_loopw [11] (fun i wr => ∃ r : Nat, r ≤ 2 + k ∧ i = .int .i64 r ∧ ∃ v, wr.cell? ⟨n9, 0, none⟩ = some (.int .i64 1) ∧ wr.cell? ⟨n9, 1, none⟩ = some v ∧ wr.frozen? ⟨n9, 1, none⟩ = false ∧ wr.ownsRow (n9 + 1) 57 2 v r (prs ((List.range r).map (lnZ l at_ x))) ∧ Aft W0 wr) (fun i _ => 2 + k - (intOf i).toNat)
    case atStart => exact ⟨0, by omega, rfl, _, e9, c9, hf9, hnil, hw1⟩
    case round =>
      clear e9 c9 hf9 hnil hI1
      obtain ⟨r, hr, rfl, v, e9, c9, hf9, hown, hwr⟩ := hrel
      have hI := hI0.aft hwr
      have hlr := hI
      have hg9 : n9 < wr.heap.size := World.block_lt_of_cell? _ _ c9
      rcases Nat.lt_or_ge r (2 + k) with hltr | hger
      · have hri : (r : Int) < 2 + k := by omega
        obtain ⟨u, hu⟩ : ∃ u, atI l (at_ + 6 + (r : Int)) 3 = u := ⟨_, rfl⟩
        obtain ⟨y2, hy2⟩ : ∃ u, atI l (at_ + 2 + (r : Int)) 61 = u := ⟨_, rfl⟩
        have bu : 0 ≤ u ∧ u < 3 := hu ▸ atI_lt l _ 3 (by omega)
        have by2 : 0 ≤ y2 ∧ y2 < 61 := hy2 ▸ atI_lt l _ 61 (by omega)
        have HSN := hid (show prs ((List.range (r + 1)).map (lnZ l at_ x)) = prs ((List.range r).map (lnZ l at_ x)) ++ prs [(x + 3 * (r : Int) + u, y2)] by
          rw [List.range_succ, List.map_append, prs_append]
          simp only [List.map_cons, List.map_nil]
          unfold lnZ
          rw [hu, hy2])
        go_upto_region 15 with fail
        refine wp_region_flow _ (Aft.refl _) [FV.is (.pointer (some ⟨n9, 1, none⟩)), FV.is (v), FV.is (.int .i64 x), FV.is (.int .i64 r), FV.is (.int .i64 (3 * (r : Int))), FV.is (.int .i64 (x + 3 * (r : Int))), FV.is (.slice a l.length c), FV.is (.int .i64 at_), FV.is (.int .i64 (at_ + 6)), FV.is (.int .i64 r), FV.is (.int .i64 (at_ + 6 + (r : Int))), FV.is (.int .i64 u), FV.is (.int .i64 (x + 3 * (r : Int) + u)), FV.is (.slice a l.length c), FV.is (.int .i64 at_), FV.is (.int .i64 (at_ + 2)), FV.is (.int .i64 r), FV.is (.int .i64 (at_ + 2 + (r : Int))), FV.is (.int .i64 y2), FV.is (.agg #[.int .i64 (x + 3 * (r : Int) + u), .int .i64 y2]), fvNew1 [(x + 3 * (r : Int) + u, y2)]]
          [(0, 54), (1, 55), (2, 56), (3, 57), (4, 58), (5, 59), (6, 60), (7, 61), (8, 62), (9, 63), (10, 64), (11, 65), (12, 66), (13, 67), (14, 68), (15, 69), (16, 70), (17, 71), (18, 72), (19, 73), (20, 74)]
          [[], [(0, 54)], [], [], [(3, 57)], [(2, 56), (4, 58)], [], [], [(7, 61)], [], [(8, 62), (9, 63)], [(6, 60), (10, 64)], [(5, 59), (11, 65)], [], [], [(14, 68)], [], [(15, 69), (16, 70)], [(13, 67), (17, 71)], [(12, 66), (18, 72)], [(19, 73)]] (by kernel_rfl) (by kernel_rfl) ?_ ?_
        · refine flowObs_cons (fun W hW => flowOb_nil ?_) ?_
          · go_wp2
            exact ⟨rfl, Aft.refl W⟩
          refine flowObs_cons (fun W hW => flowOb_cons fun v0 h0 => flowOb_nil ?_) ?_
          · obtain rfl := h0
            have c9W := (hW.cell (World.block_lt_of_cell? _ _ c9)).trans c9
            go_wp2
            exact ⟨rfl, Aft.refl W⟩
          refine flowObs_cons (fun W hW => flowOb_nil ?_) ?_
          · go_wp2
            exact ⟨rfl, Aft.refl W⟩
          refine flowObs_cons (fun W hW => flowOb_nil ?_) ?_
          · go_wp2
            exact ⟨rfl, Aft.refl W⟩
          refine flowObs_cons (fun W hW => flowOb_cons fun v0 h0 => flowOb_nil ?_) ?_
          · obtain rfl := h0
            go_wp2
            exact ⟨rfl, Aft.refl W⟩
          refine flowObs_cons (fun W hW => flowOb_cons fun v0 h0 => flowOb_cons fun v1 h1 => flowOb_nil ?_) ?_
          · obtain rfl := h0
            obtain rfl := h1
            go_wp2
            exact ⟨rfl, Aft.refl W⟩
          refine flowObs_cons (fun W hW => flowOb_nil ?_) ?_
          · go_wp2
            exact ⟨rfl, Aft.refl W⟩
          refine flowObs_cons (fun W hW => flowOb_nil ?_) ?_
          · go_wp2
            exact ⟨rfl, Aft.refl W⟩
          refine flowObs_cons (fun W hW => flowOb_cons fun v0 h0 => flowOb_nil ?_) ?_
          · obtain rfl := h0
            go_wp2
            exact ⟨rfl, Aft.refl W⟩
          refine flowObs_cons (fun W hW => flowOb_nil ?_) ?_
          · go_wp2
            exact ⟨rfl, Aft.refl W⟩
          refine flowObs_cons (fun W hW => flowOb_cons fun v0 h0 => flowOb_cons fun v1 h1 => flowOb_nil ?_) ?_
          · obtain rfl := h0
            obtain rfl := h1
            go_wp2
            exact ⟨rfl, Aft.refl W⟩
          refine flowObs_cons (fun W hW => flowOb_cons fun v0 h0 => flowOb_cons fun v1 h1 => flowOb_nil ?_) ?_
          · obtain rfl := h0
            obtain rfl := h1
            go_wp2_with (go_at_call 63; refine (at_any _ l _ _ _ (hlr.aft hW)).mono ?_; rintro e w' ⟨rfl, rfl⟩; rw [hu])
            exact ⟨rfl, Aft.refl W⟩
          refine flowObs_cons (fun W hW => flowOb_cons fun v0 h0 => flowOb_cons fun v1 h1 => flowOb_nil ?_) ?_
          · obtain rfl := h0
            obtain rfl := h1
            go_wp2
            exact ⟨rfl, Aft.refl W⟩
          refine flowObs_cons (fun W hW => flowOb_nil ?_) ?_
          · go_wp2
            exact ⟨rfl, Aft.refl W⟩
          refine flowObs_cons (fun W hW => flowOb_nil ?_) ?_
          · go_wp2
            exact ⟨rfl, Aft.refl W⟩
          refine flowObs_cons (fun W hW => flowOb_cons fun v0 h0 => flowOb_nil ?_) ?_
          · obtain rfl := h0
            go_wp2
            exact ⟨rfl, Aft.refl W⟩
          refine flowObs_cons (fun W hW => flowOb_nil ?_) ?_
          · go_wp2
            exact ⟨rfl, Aft.refl W⟩
          refine flowObs_cons (fun W hW => flowOb_cons fun v0 h0 => flowOb_cons fun v1 h1 => flowOb_nil ?_) ?_
          · obtain rfl := h0
            obtain rfl := h1
            go_wp2
            exact ⟨rfl, Aft.refl W⟩
          refine flowObs_cons (fun W hW => flowOb_cons fun v0 h0 => flowOb_cons fun v1 h1 => flowOb_nil ?_) ?_
          · obtain rfl := h0
            obtain rfl := h1
            go_wp2_with (go_at_call 63; refine (at_any _ l _ _ _ (hlr.aft hW)).mono ?_; rintro e w' ⟨rfl, rfl⟩; rw [hy2])
            exact ⟨rfl, Aft.refl W⟩
          refine flowObs_cons (fun W hW => flowOb_cons fun v0 h0 => flowOb_cons fun v1 h1 => flowOb_nil ?_) ?_
          · obtain rfl := h0
            obtain rfl := h1
            go_wp2
            exact ⟨rfl, Aft.refl W⟩
          refine flowObs_cons (fun W hW => flowOb_cons fun v0 h0 => flowOb_nil ?_) flowObs_nil
          · obtain rfl := h0
            go_wp2
            exact ⟨⟨_, rfl, Rd.new⟩, (Aft.refl W).alloc _⟩
        · intro W hW
          iterate 1 refine flowEnd_cons fun _ _ => ?_
          refine flowEnd_cons fun v0 h0 => ?_
          obtain rfl := h0
          iterate 18 refine flowEnd_cons fun _ _ => ?_
          refine flowEnd_cons fun v1 h1 => flowEnd_nil ?_
          obtain ⟨g, rfl, hrd⟩ := h1
          have hownW := ownsRow_aft hown hW
          have hz3 := hW.size
          have hzr := hwr.size
          simp only [Act.put, List.setIfInBounds_toArray, List.set_cons_succ, List.set_cons_zero]
          refine wpList_app _ rfl (.tmp 55) (.tmp 74) 49 rfl (n9 + 1) 57 (.agg #[.int .i64 0, .int .i64 0]) 2 16 Try.underlying49 Try.info57 rfl (by decide) _ r _ rfl hownW (some ⟨g, 0, none⟩) 1 1 (prs [(x + 3 * (r : Int) + u, y2)]) rfl (fun h => by cases h) rfl hrd (prs_one _) (by unfold maxLen; omega) (by omega) (by omega) ?_
          intro v' w' hown' hgrow hloc
          rw [← HSN.out] at hown'
          obtain ⟨g', cap', rfl⟩ := ownsRow_some' hown' (by omega)
          have hb9 : w'.heap[n9]? = W.heap[n9]? := hgrow.block n9 (by omega) (fun e => by have := (hownW.lt n9 e.symm).1; omega)
          have e9W := (World.cell?_of_block (a := ⟨n9, 0, none⟩) hb9).trans ((hW.cell hg9).trans e9)
          have c9W := (World.cell?_of_block (a := ⟨n9, 1, none⟩) hb9).trans ((hW.cell hg9).trans c9)
          have f9W := (World.frozen?_of_block (a := ⟨n9, 1, none⟩) hb9).trans ((hW.frozen hg9).trans hf9)
          have hA := ((hwr.trans hW).grown hgrow (fun j hj => by have := (hownW.lt j hj).1; omega))
          have HK := hid (show (w'.setCell ⟨n9, 1, none⟩ (.slice (some ⟨g', 0, none⟩) (r + 1) cap')).cell? ⟨n9, 0, none⟩ = some (.int .i64 1) ∧ (w'.setCell ⟨n9, 1, none⟩ (.slice (some ⟨g', 0, none⟩) (r + 1) cap')).cell? ⟨n9, 1, none⟩ = some (.slice (some ⟨g', 0, none⟩) (r + 1) cap') ∧ (w'.setCell ⟨n9, 1, none⟩ (.slice (some ⟨g', 0, none⟩) (r + 1) cap')).frozen? ⟨n9, 1, none⟩ = false ∧ (w'.setCell ⟨n9, 1, none⟩ (.slice (some ⟨g', 0, none⟩) (r + 1) cap')).ownsRow (n9 + 1) 57 2 (.slice (some ⟨g', 0, none⟩) (r + 1) cap') (r + 1) (prs ((List.range (r + 1)).map (lnZ l at_ x))) ∧ Aft W0 (w'.setCell ⟨n9, 1, none⟩ (.slice (some ⟨g', 0, none⟩) (r + 1) cap')) from
            ⟨by rw [World.cell?_setCell_other _ _ _ _ (by simp)]; exact e9W, World.cell?_setCell_same' _ _ _ (by rw [c9W]; rfl), by rw [World.frozen?_setCell]; exact f9W,
              by
                have hg' := (hown'.lt g' rfl).1
                exact Sep.kept (v' := .slice (some ⟨n9, 1, none⟩) 0 0) (sep_ne'' (by omega)) hown' (grown_setCell w' ⟨n9, 1, none⟩ _),
              hA.setCell (p := ⟨n9, 1, none⟩) (by show W0.heap.size ≤ n9; omega) _⟩)
          go_wp2
          go_roundw
          case rel => exact ⟨r + 1, by omega, by go_num, _, HK.out⟩
          case measure => simp only [intOf]; omega
      · obtain rfl : r = 2 + k := by omega
        obtain ⟨g, cap, rfl⟩ := ownsRow_some' hown (by omega)
        have hgb := (hown.lt g rfl).1
        have c0r := (hwr.cell (World.block_lt_of_cell? _ _ c0)).trans c0
        have c1r := (hwr.cell (World.block_lt_of_cell? _ _ c1)).trans c1
        have f0r := (hwr.frozen (World.block_lt_of_cell? _ _ c0)).trans hf0
        have f1r := (hwr.frozen (World.block_lt_of_cell? _ _ c0)).trans hf1
        have hA := hw0.trans hwr
        have HP := hid (store2 hA hge4 c0r c1r (.int .i64 1) (.slice (some ⟨g, 0, none⟩) (2 + k) cap))
        have hin : ∀ p ∈ (List.range (2 + k)).map (lnZ l at_ x), 0 ≤ p.1 ∧ p.1 ≤ 60 ∧ 0 ≤ p.2 ∧ p.2 ≤ 60 := by
          intro p hp
          obtain ⟨i, hi, rfl⟩ := List.mem_map.1 hp
          have hi' := List.mem_range.1 hi
          have b1 := atI_lt l (at_ + 6 + (i : Int)) 3 (by omega)
          have b2 := atI_lt l (at_ + 2 + (i : Int)) 61 (by omega)
          unfold lnZ
          simp only
          omega
        have hpr : Prs wr (.slice (some ⟨g, 0, none⟩) (2 + k) cap) ((List.range (2 + k)).map (lnZ l at_ x)) := ownsRow_prs (by rw [List.length_map, List.length_range]; exact hown) (okP_small fun p hp => by have := hin p hp; omega) (by simp; omega)
        have HPR := hid hpr
        have HG : Hid (Gen 1 ((List.range (2 + k)).map (lnZ l at_ x))) := hid (.inr (.inl ⟨rfl, by simp, by simp; omega, hin, fun i p q hp hq => by
          simp only [List.getElem?_map, Option.map_eq_some_iff] at hp hq
          obtain ⟨i', hi', rfl⟩ := hp
          obtain ⟨j', hj', rfl⟩ := hq
          obtain ⟨_, e1⟩ := List.getElem?_eq_some_iff.1 hi'
          obtain ⟨_, e2⟩ := List.getElem?_eq_some_iff.1 hj'
          simp at e1 e2
          subst e1 e2
          have b1 := atI_lt l (at_ + 6 + (i : Int)) 3 (by omega)
          have b2 := atI_lt l (at_ + 6 + ((i + 1 : Nat) : Int)) 3 (by omega)
          unfold lnZ
          simp only
          omega⟩))
        clear hpr hin hown
        go_wp2
        obtain ⟨h1, h2, h3, h4⟩ := HP.out
        refine bodyPost_ret (results_shape rfl _ _ n4 1 _ rfl h1 h2) rfl ?_
        refine ⟨1, g, 2 + k, cap, rfl, by omega, (List.range (2 + k)).map (lnZ l at_ x), ?_, HG.out, h4⟩
        obtain ⟨a', c', e', hp⟩ := HPR.out
        simp only [Value.slice.injEq] at e'
        obtain ⟨rfl, e2, rfl⟩ := e'
        exact ⟨_, _, by rw [← e2], PrsAt.kx hp h3 (show ¬ (g = n4) by omega)⟩
  · -- a line
    obtain ⟨nn, hnn⟩ : ∃ x, atI l (at_ + 5) 4 = x := ⟨_, rfl⟩
    have bn : 0 ≤ nn ∧ nn < 4 := hnn ▸ atI_lt l _ 4 (by omega)
    obtain ⟨k, rfl⟩ : ∃ k : Nat, nn = k := ⟨nn.toNat, by omega⟩
    go_upto_region 11 with (go_at_call 63; refine (at_any _ l _ _ _ hI0).mono ?_; rintro e w' ⟨rfl, rfl⟩; first | rw [hs])
    obtain ⟨W1, eW1, hw1, hlt1, hbox1⟩ := one_box W0 #[.int .i64 1, .slice none 0 0] 51
    have hf9 : W1.frozen? ⟨W0.heap.size, 1, none⟩ = false := eW1 ▸ frozen_new W0 _ _ 1
    rw [eW1]
    clear eW1
    have e9 := hbox1.out W1 (Aft.refl _) 0 (.int .i64 1) rfl
    have c9 := hbox1.out W1 (Aft.refl _) 1 (.slice none 0 0) rfl
    clear hbox1
    obtain ⟨n9, hn9⟩ : ∃ n, W0.heap.size = n := ⟨_, rfl⟩
    rw [hn9] at hf9 e9 c9 hlt1 ⊢
    have hI1 := hI0.aft hw1
    have hlt4 : n4 < n9 := by omega
    have hnil : W1.ownsRow (n9 + 1) 57 2 (.slice none 0 0) 0 (prs ((List.range 0).map (lnZ l at_ x))) := World.ownsRow_nil _ _ _ _
    have hz1 := hw1.size
    go_wp2_with (go_at_call 63; refine (at_any _ l _ _ _ hI1).mono ?_; rintro e w' ⟨rfl, rfl⟩; first | rw [hnn])
    go_loopw [11] (fun i wr => ∃ r : Nat, r ≤ 2 + k ∧ i = .int .i64 r ∧ ∃ v, wr.cell? ⟨n9, 0, none⟩ = some (.int .i64 1) ∧ wr.cell? ⟨n9, 1, none⟩ = some v ∧ wr.frozen? ⟨n9, 1, none⟩ = false ∧ wr.ownsRow (n9 + 1) 57 2 v r (prs ((List.range r).map (lnZ l at_ x))) ∧ Aft W0 wr) (fun i _ => 2 + k - (intOf i).toNat)
    case atStart => exact ⟨0, by omega, rfl, _, e9, c9, hf9, hnil, hw1⟩
    case round =>
      clear e9 c9 hf9 hnil hI1
      obtain ⟨r, hr, rfl, v, e9, c9, hf9, hown, hwr⟩ := hrel
      have hI := hI0.aft hwr
      have hlr := hI
      have hg9 : n9 < wr.heap.size := World.block_lt_of_cell? _ _ c9
      rcases Nat.lt_or_ge r (2 + k) with hltr | hger
      · have hri : (r : Int) < 2 + k := by omega
        obtain ⟨u, hu⟩ : ∃ u, atI l (at_ + 6 + (r : Int)) 3 = u := ⟨_, rfl⟩
        obtain ⟨y2, hy2⟩ : ∃ u, atI l (at_ + 2 + (r : Int)) 61 = u := ⟨_, rfl⟩
        have bu : 0 ≤ u ∧ u < 3 := hu ▸ atI_lt l _ 3 (by omega)
        have by2 : 0 ≤ y2 ∧ y2 < 61 := hy2 ▸ atI_lt l _ 61 (by omega)
        have HSN := hid (show prs ((List.range (r + 1)).map (lnZ l at_ x)) = prs ((List.range r).map (lnZ l at_ x)) ++ prs [(x + 3 * (r : Int) + u, y2)] by
          rw [List.range_succ, List.map_append, prs_append]
          simp only [List.map_cons, List.map_nil]
          unfold lnZ
          rw [hu, hy2])
        go_upto_region 15 with fail
        refine wp_region_flow _ (Aft.refl _) [FV.is (.pointer (some ⟨n9, 1, none⟩)), FV.is (v), FV.is (.int .i64 x), FV.is (.int .i64 r), FV.is (.int .i64 (3 * (r : Int))), FV.is (.int .i64 (x + 3 * (r : Int))), FV.is (.slice a l.length c), FV.is (.int .i64 at_), FV.is (.int .i64 (at_ + 6)), FV.is (.int .i64 r), FV.is (.int .i64 (at_ + 6 + (r : Int))), FV.is (.int .i64 u), FV.is (.int .i64 (x + 3 * (r : Int) + u)), FV.is (.slice a l.length c), FV.is (.int .i64 at_), FV.is (.int .i64 (at_ + 2)), FV.is (.int .i64 r), FV.is (.int .i64 (at_ + 2 + (r : Int))), FV.is (.int .i64 y2), FV.is (.agg #[.int .i64 (x + 3 * (r : Int) + u), .int .i64 y2]), fvNew1 [(x + 3 * (r : Int) + u, y2)]]
          [(0, 54), (1, 55), (2, 56), (3, 57), (4, 58), (5, 59), (6, 60), (7, 61), (8, 62), (9, 63), (10, 64), (11, 65), (12, 66), (13, 67), (14, 68), (15, 69), (16, 70), (17, 71), (18, 72), (19, 73), (20, 74)]
          [[], [(0, 54)], [], [], [(3, 57)], [(2, 56), (4, 58)], [], [], [(7, 61)], [], [(8, 62), (9, 63)], [(6, 60), (10, 64)], [(5, 59), (11, 65)], [], [], [(14, 68)], [], [(15, 69), (16, 70)], [(13, 67), (17, 71)], [(12, 66), (18, 72)], [(19, 73)]] (by kernel_rfl) (by kernel_rfl) ?_ ?_
        · refine flowObs_cons (fun W hW => flowOb_nil ?_) ?_
          · go_wp2
            exact ⟨rfl, Aft.refl W⟩
          refine flowObs_cons (fun W hW => flowOb_cons fun v0 h0 => flowOb_nil ?_) ?_
          · obtain rfl := h0
            have c9W := (hW.cell (World.block_lt_of_cell? _ _ c9)).trans c9
            go_wp2
            exact ⟨rfl, Aft.refl W⟩
          refine flowObs_cons (fun W hW => flowOb_nil ?_) ?_
          · go_wp2
            exact ⟨rfl, Aft.refl W⟩
          refine flowObs_cons (fun W hW => flowOb_nil ?_) ?_
          · go_wp2
            exact ⟨rfl, Aft.refl W⟩
          refine flowObs_cons (fun W hW => flowOb_cons fun v0 h0 => flowOb_nil ?_) ?_
          · obtain rfl := h0
            go_wp2
            exact ⟨rfl, Aft.refl W⟩
          refine flowObs_cons (fun W hW => flowOb_cons fun v0 h0 => flowOb_cons fun v1 h1 => flowOb_nil ?_) ?_
          · obtain rfl := h0
            obtain rfl := h1
            go_wp2
            exact ⟨rfl, Aft.refl W⟩
          refine flowObs_cons (fun W hW => flowOb_nil ?_) ?_
          · go_wp2
            exact ⟨rfl, Aft.refl W⟩
          refine flowObs_cons (fun W hW => flowOb_nil ?_) ?_
          · go_wp2
            exact ⟨rfl, Aft.refl W⟩
          refine flowObs_cons (fun W hW => flowOb_cons fun v0 h0 => flowOb_nil ?_) ?_
          · obtain rfl := h0
            go_wp2
            exact ⟨rfl, Aft.refl W⟩
          refine flowObs_cons (fun W hW => flowOb_nil ?_) ?_
          · go_wp2
            exact ⟨rfl, Aft.refl W⟩
          refine flowObs_cons (fun W hW => flowOb_cons fun v0 h0 => flowOb_cons fun v1 h1 => flowOb_nil ?_) ?_
          · obtain rfl := h0
            obtain rfl := h1
            go_wp2
            exact ⟨rfl, Aft.refl W⟩
          refine flowObs_cons (fun W hW => flowOb_cons fun v0 h0 => flowOb_cons fun v1 h1 => flowOb_nil ?_) ?_
          · obtain rfl := h0
            obtain rfl := h1
            go_wp2_with (go_at_call 63; refine (at_any _ l _ _ _ (hlr.aft hW)).mono ?_; rintro e w' ⟨rfl, rfl⟩; rw [hu])
            exact ⟨rfl, Aft.refl W⟩
          refine flowObs_cons (fun W hW => flowOb_cons fun v0 h0 => flowOb_cons fun v1 h1 => flowOb_nil ?_) ?_
          · obtain rfl := h0
            obtain rfl := h1
            go_wp2
            exact ⟨rfl, Aft.refl W⟩
          refine flowObs_cons (fun W hW => flowOb_nil ?_) ?_
          · go_wp2
            exact ⟨rfl, Aft.refl W⟩
          refine flowObs_cons (fun W hW => flowOb_nil ?_) ?_
          · go_wp2
            exact ⟨rfl, Aft.refl W⟩
          refine flowObs_cons (fun W hW => flowOb_cons fun v0 h0 => flowOb_nil ?_) ?_
          · obtain rfl := h0
            go_wp2
            exact ⟨rfl, Aft.refl W⟩
          refine flowObs_cons (fun W hW => flowOb_nil ?_) ?_
          · go_wp2
            exact ⟨rfl, Aft.refl W⟩
          refine flowObs_cons (fun W hW => flowOb_cons fun v0 h0 => flowOb_cons fun v1 h1 => flowOb_nil ?_) ?_
          · obtain rfl := h0
            obtain rfl := h1
            go_wp2
            exact ⟨rfl, Aft.refl W⟩
          refine flowObs_cons (fun W hW => flowOb_cons fun v0 h0 => flowOb_cons fun v1 h1 => flowOb_nil ?_) ?_
          · obtain rfl := h0
            obtain rfl := h1
            go_wp2_with (go_at_call 63; refine (at_any _ l _ _ _ (hlr.aft hW)).mono ?_; rintro e w' ⟨rfl, rfl⟩; rw [hy2])
            exact ⟨rfl, Aft.refl W⟩
          refine flowObs_cons (fun W hW => flowOb_cons fun v0 h0 => flowOb_cons fun v1 h1 => flowOb_nil ?_) ?_
          · obtain rfl := h0
            obtain rfl := h1
            go_wp2
            exact ⟨rfl, Aft.refl W⟩
          refine flowObs_cons (fun W hW => flowOb_cons fun v0 h0 => flowOb_nil ?_) flowObs_nil
          · obtain rfl := h0
            go_wp2
            exact ⟨⟨_, rfl, Rd.new⟩, (Aft.refl W).alloc _⟩
        · intro W hW
          iterate 1 refine flowEnd_cons fun _ _ => ?_
          refine flowEnd_cons fun v0 h0 => ?_
          obtain rfl := h0
          iterate 18 refine flowEnd_cons fun _ _ => ?_
          refine flowEnd_cons fun v1 h1 => flowEnd_nil ?_
          obtain ⟨g, rfl, hrd⟩ := h1
          have hownW := ownsRow_aft hown hW
          have hz3 := hW.size
          have hzr := hwr.size
          simp only [Act.put, List.setIfInBounds_toArray, List.set_cons_succ, List.set_cons_zero]
          refine wpList_app _ rfl (.tmp 55) (.tmp 74) 49 rfl (n9 + 1) 57 (.agg #[.int .i64 0, .int .i64 0]) 2 16 Try.underlying49 Try.info57 rfl (by decide) _ r _ rfl hownW (some ⟨g, 0, none⟩) 1 1 (prs [(x + 3 * (r : Int) + u, y2)]) rfl (fun h => by cases h) rfl hrd (prs_one _) (by unfold maxLen; omega) (by omega) (by omega) ?_
          intro v' w' hown' hgrow hloc
          rw [← HSN.out] at hown'
          obtain ⟨g', cap', rfl⟩ := ownsRow_some' hown' (by omega)
          have hb9 : w'.heap[n9]? = W.heap[n9]? := hgrow.block n9 (by omega) (fun e => by have := (hownW.lt n9 e.symm).1; omega)
          have e9W := (World.cell?_of_block (a := ⟨n9, 0, none⟩) hb9).trans ((hW.cell hg9).trans e9)
          have c9W := (World.cell?_of_block (a := ⟨n9, 1, none⟩) hb9).trans ((hW.cell hg9).trans c9)
          have f9W := (World.frozen?_of_block (a := ⟨n9, 1, none⟩) hb9).trans ((hW.frozen hg9).trans hf9)
          have hA := ((hwr.trans hW).grown hgrow (fun j hj => by have := (hownW.lt j hj).1; omega))
          have HK := hid (show (w'.setCell ⟨n9, 1, none⟩ (.slice (some ⟨g', 0, none⟩) (r + 1) cap')).cell? ⟨n9, 0, none⟩ = some (.int .i64 1) ∧ (w'.setCell ⟨n9, 1, none⟩ (.slice (some ⟨g', 0, none⟩) (r + 1) cap')).cell? ⟨n9, 1, none⟩ = some (.slice (some ⟨g', 0, none⟩) (r + 1) cap') ∧ (w'.setCell ⟨n9, 1, none⟩ (.slice (some ⟨g', 0, none⟩) (r + 1) cap')).frozen? ⟨n9, 1, none⟩ = false ∧ (w'.setCell ⟨n9, 1, none⟩ (.slice (some ⟨g', 0, none⟩) (r + 1) cap')).ownsRow (n9 + 1) 57 2 (.slice (some ⟨g', 0, none⟩) (r + 1) cap') (r + 1) (prs ((List.range (r + 1)).map (lnZ l at_ x))) ∧ Aft W0 (w'.setCell ⟨n9, 1, none⟩ (.slice (some ⟨g', 0, none⟩) (r + 1) cap')) from
            ⟨by rw [World.cell?_setCell_other _ _ _ _ (by simp)]; exact e9W, World.cell?_setCell_same' _ _ _ (by rw [c9W]; rfl), by rw [World.frozen?_setCell]; exact f9W,
              by
                have hg' := (hown'.lt g' rfl).1
                exact Sep.kept (v' := .slice (some ⟨n9, 1, none⟩) 0 0) (sep_ne'' (by omega)) hown' (grown_setCell w' ⟨n9, 1, none⟩ _),
              hA.setCell (p := ⟨n9, 1, none⟩) (by show W0.heap.size ≤ n9; omega) _⟩)
          go_wp2
          go_roundw
          case rel => exact ⟨r + 1, by omega, by go_num, _, HK.out⟩
          case measure => simp only [intOf]; omega
      · obtain rfl : r = 2 + k := by omega
        obtain ⟨g, cap, rfl⟩ := ownsRow_some' hown (by omega)
        have hgb := (hown.lt g rfl).1
        have c0r := (hwr.cell (World.block_lt_of_cell? _ _ c0)).trans c0
        have c1r := (hwr.cell (World.block_lt_of_cell? _ _ c1)).trans c1
        have f0r := (hwr.frozen (World.block_lt_of_cell? _ _ c0)).trans hf0
        have f1r := (hwr.frozen (World.block_lt_of_cell? _ _ c0)).trans hf1
        have hA := hw0.trans hwr
        have HP := hid (store2 hA hge4 c0r c1r (.int .i64 1) (.slice (some ⟨g, 0, none⟩) (2 + k) cap))
        have hin : ∀ p ∈ (List.range (2 + k)).map (lnZ l at_ x), 0 ≤ p.1 ∧ p.1 ≤ 60 ∧ 0 ≤ p.2 ∧ p.2 ≤ 60 := by
          intro p hp
          obtain ⟨i, hi, rfl⟩ := List.mem_map.1 hp
          have hi' := List.mem_range.1 hi
          have b1 := atI_lt l (at_ + 6 + (i : Int)) 3 (by omega)
          have b2 := atI_lt l (at_ + 2 + (i : Int)) 61 (by omega)
          unfold lnZ
          simp only
          omega
        have hpr : Prs wr (.slice (some ⟨g, 0, none⟩) (2 + k) cap) ((List.range (2 + k)).map (lnZ l at_ x)) := ownsRow_prs (by rw [List.length_map, List.length_range]; exact hown) (okP_small fun p hp => by have := hin p hp; omega) (by simp; omega)
        have HPR := hid hpr
        have HG : Hid (Gen 1 ((List.range (2 + k)).map (lnZ l at_ x))) := hid (.inr (.inl ⟨rfl, by simp, by simp; omega, hin, fun i p q hp hq => by
          simp only [List.getElem?_map, Option.map_eq_some_iff] at hp hq
          obtain ⟨i', hi', rfl⟩ := hp
          obtain ⟨j', hj', rfl⟩ := hq
          obtain ⟨_, e1⟩ := List.getElem?_eq_some_iff.1 hi'
          obtain ⟨_, e2⟩ := List.getElem?_eq_some_iff.1 hj'
          simp at e1 e2
          subst e1 e2
          have b1 := atI_lt l (at_ + 6 + (i : Int)) 3 (by omega)
          have b2 := atI_lt l (at_ + 6 + ((i + 1 : Nat) : Int)) 3 (by omega)
          unfold lnZ
          simp only
          omega⟩))
        clear hpr hin hown
        go_wp2
        obtain ⟨h1, h2, h3, h4⟩ := HP.out
        refine bodyPost_ret (results_shape rfl _ _ n4 1 _ rfl h1 h2) rfl ?_
        refine ⟨1, g, 2 + k, cap, rfl, by omega, (List.range (2 + k)).map (lnZ l at_ x), ?_, HG.out, h4⟩
        obtain ⟨a', c', e', hp⟩ := HPR.out
        simp only [Value.slice.injEq] at e'
        obtain ⟨rfl, e2, rfl⟩ := e'
        exact ⟨_, _, by rw [← e2], PrsAt.kx hp h3 (show ¬ (g = n4) by omega)⟩
  · -- a triangle
    obtain ⟨u, hu⟩ : ∃ x, atI l (at_ + 5) 3 = x := ⟨_, rfl⟩
    obtain ⟨u2, hu2⟩ : ∃ x, atI l (at_ + 6) (2 + wd + 1) = x := ⟨_, rfl⟩
    have bu : 0 ≤ u ∧ u < 3 := hu ▸ atI_lt l _ 3 (by omega)
    have bu2 : 0 ≤ u2 ∧ u2 < 2 + wd + 1 := hu2 ▸ atI_lt l _ _ (by omega)
    have HP := shape_put hw0 hge4 c0 c1 2 #[.int .i64 x, .int .i64 y, .int .i64 (x + (2 + wd)), .int .i64 (y + u), .int .i64 (x + u2), .int .i64 (y + 3 + (2 + h) - 2)] [(x, y), (x + (2 + wd), y + u), (x + u2, y + 3 + (2 + h) - 2)] 3 rfl rfl (okP_small (by intro p hp; simp at hp; rcases hp with rfl | rfl | rfl <;> (simp; omega))) (by simp)
    go_wp2_with (go_at_call 63; refine (at_any _ l _ _ _ hI0).mono ?_; rintro e w' ⟨rfl, rfl⟩; first | rw [hs] | rw [hu] | rw [hu2])
    obtain ⟨h1, h2, h3, h4⟩ := HP.out
    refine bodyPost_ret (results_shape rfl _ _ n4 2 _ rfl h1 h2) rfl ?_
    exact ⟨_, W0.heap.size, _, _, _, rfl, hw0.size, h3, .inr (.inr (.inr (.inl ⟨rfl, x, y, 2 + wd, u, u2, 3 + h, by unfold triL; congr 3; simp; omega, by omega, by omega, by omega, by omega, by omega, by omega, by omega, by omega, by omega, by omega⟩))), h4⟩
  · -- a bracket
    have HP := shape_put hw0 hge4 c0 c1 2 #[.int .i64 x, .int .i64 y, .int .i64 (x + (2 + wd)), .int .i64 y, .int .i64 (x + (2 + wd)), .int .i64 (y + 1), .int .i64 (x + 1), .int .i64 (y + 1), .int .i64 (x + 1), .int .i64 (y + (2 + h)), .int .i64 x, .int .i64 (y + (2 + h))] (braL x y (2 + wd) (2 + h)) 6 rfl rfl (okP_small (by intro p hp; simp [braL] at hp; rcases hp with rfl | rfl | rfl | rfl | rfl | rfl <;> (simp; omega))) (by simp [braL])
    go_wp2_with (go_at_call 63; refine (at_any _ l _ _ _ hI0).mono ?_; rintro e w' ⟨rfl, rfl⟩; first | rw [hs])
    obtain ⟨h1, h2, h3, h4⟩ := HP.out
    refine bodyPost_ret (results_shape rfl _ _ n4 2 _ rfl h1 h2) rfl ?_
    exact ⟨_, W0.heap.size, _, _, _, rfl, hw0.size, h3, .inr (.inr (.inr (.inr ⟨rfl, x, y, 2 + wd, 2 + h, rfl, by omega, by omega, by omega, by omega, by omega, by omega⟩))), h4⟩
  · -- a great rectangle
    go_upto_region 22 with (go_at_call 63; refine (at_any _ l _ _ _ hI0).mono ?_; rintro e w' ⟨rfl, rfl⟩; rw [hs])
    go_wp2_with ((go_at_call 113; refine (rect_new (x / 4) (y / 4) (30 + (2 + wd)) (30 + (2 + h)) _ (by omega) (by omega) (by omega) (by omega)).mono ?_; rintro e w1 ⟨g, rfl, hg, hp, hw1⟩; have c0r := (hw1.cell (World.block_lt_of_cell? _ _ c0)).trans c0; have c1r := (hw1.cell (World.block_lt_of_cell? _ _ c1)).trans c1; have f0r := (hw1.frozen (World.block_lt_of_cell? _ _ c0)).trans hf0; have f1r := (hw1.frozen (World.block_lt_of_cell? _ _ c0)).trans hf1))
    have hgn : g ≠ n4 := by omega
    have HP := hid (store2 (hw0.trans hw1) hge4 c0r c1r (.int .i64 2) (.slice (some ⟨g, 0, none⟩) 4 4))
    try go_wp2
    obtain ⟨h1, h2, h3, h4⟩ := HP.out
    refine bodyPost_ret (results_shape rfl _ _ n4 2 _ rfl h1 h2) rfl ?_
    exact ⟨_, g, _, _, _, rfl, Nat.le_trans hw0.size hg, ⟨_, _, rfl, PrsAt.kx hp h3 hgn⟩, .inr (.inr (.inl ⟨rfl, x / 4, y / 4, 30 + (2 + wd), 30 + (2 + h), rfl, by omega, by omega, by omega, by omega, by omega, by omega⟩)), h4⟩
  · -- a rectangle
    go_upto_region 23 with (go_at_call 63; refine (at_any _ l _ _ _ hI0).mono ?_; rintro e w' ⟨rfl, rfl⟩; rw [hs])
    go_wp2_with ((go_at_call 113; refine (rect_new x y (2 + wd) (2 + h) _ (by omega) (by omega) (by omega) (by omega)).mono ?_; rintro e w1 ⟨g, rfl, hg, hp, hw1⟩; have c0r := (hw1.cell (World.block_lt_of_cell? _ _ c0)).trans c0; have c1r := (hw1.cell (World.block_lt_of_cell? _ _ c1)).trans c1; have f0r := (hw1.frozen (World.block_lt_of_cell? _ _ c0)).trans hf0; have f1r := (hw1.frozen (World.block_lt_of_cell? _ _ c0)).trans hf1))
    have hgn : g ≠ n4 := by omega
    have HP := hid (store2 (hw0.trans hw1) hge4 c0r c1r (.int .i64 2) (.slice (some ⟨g, 0, none⟩) 4 4))
    try go_wp2
    obtain ⟨h1, h2, h3, h4⟩ := HP.out
    refine bodyPost_ret (results_shape rfl _ _ n4 2 _ rfl h1 h2) rfl ?_
    exact ⟨_, g, _, _, _, rfl, Nat.le_trans hw0.size hg, ⟨_, _, rfl, PrsAt.kx hp h3 hgn⟩, .inr (.inr (.inl ⟨rfl, x, y, 2 + wd, 2 + h, rfl, by omega, by omega, by omega, by omega, by omega, by omega⟩)), h4⟩
  · -- a rectangle
    go_upto_region 23 with (go_at_call 63; refine (at_any _ l _ _ _ hI0).mono ?_; rintro e w' ⟨rfl, rfl⟩; rw [hs])
    go_wp2_with ((go_at_call 113; refine (rect_new x y (2 + wd) (2 + h) _ (by omega) (by omega) (by omega) (by omega)).mono ?_; rintro e w1 ⟨g, rfl, hg, hp, hw1⟩; have c0r := (hw1.cell (World.block_lt_of_cell? _ _ c0)).trans c0; have c1r := (hw1.cell (World.block_lt_of_cell? _ _ c1)).trans c1; have f0r := (hw1.frozen (World.block_lt_of_cell? _ _ c0)).trans hf0; have f1r := (hw1.frozen (World.block_lt_of_cell? _ _ c0)).trans hf1))
    have hgn : g ≠ n4 := by omega
    have HP := hid (store2 (hw0.trans hw1) hge4 c0r c1r (.int .i64 2) (.slice (some ⟨g, 0, none⟩) 4 4))
    try go_wp2
    obtain ⟨h1, h2, h3, h4⟩ := HP.out
    refine bodyPost_ret (results_shape rfl _ _ n4 2 _ rfl h1 h2) rfl ?_
    exact ⟨_, g, _, _, _, rfl, Nat.le_trans hw0.size hg, ⟨_, _, rfl, PrsAt.kx hp h3 hgn⟩, .inr (.inr (.inl ⟨rfl, x, y, 2 + wd, 2 + h, rfl, by omega, by omega, by omega, by omega, by omega, by omega⟩)), h4⟩
end Go.Proofs.Ytokdclbfjlnnjaa
/- The reference's Figure: a valid figure made of numbers. -/
namespace Go.Proofs.Ytokdclbfjlnnjaa
open Go.RowKit Go.BigFrame

theorem Try.info51 : (Try.prog.info? 51).map (fun i => (i.zero, i.size, i.bytes)) = some (some (.agg #[.int .i64 0, .slice none 0 0]), 2, 32) := by kernel_rfl
/-- append to an empty slice that was just made: whatever comes of it is new. -/
theorem wpList_app_empty {P : Program} (w : World) {ops : Array Oper} {rest : List Oper} {o : Oper} {a : Act} {Q : Exit → Act → World → Prop} (hgd : o.guard = none) (s x : Operand) (t : TypeId)
    (ho : o.op = .call { callee := .builtin .append, args := #[s, x], argTypes := #[t, t] })
    (base : Nat) (e : TypeId) (z : Value) (size bytes : Nat) (ht : P.underlying t = some (.slice e)) (hinfo : (P.info? e).map (fun i => (i.zero, i.size, i.bytes)) = some (some z, size, bytes))
    (hzs : z.cells.size = size) (hsz : 0 < size) (g : Nat)
    (hs : a.eval s = .slice (some ⟨g, 0, none⟩) 0 0) (hown : w.ownsRow base e size (.slice (some ⟨g, 0, none⟩) 0 0) 0 [])
    (ax : Option Addr) (m c : Nat) (news : List Value) (hx : a.eval x = .slice ax m c) (hc : ax = none → c = 0) (hl : news.length = m * size) (hnews : Rd w ax news) (h1 : ∀ u ∈ news, u.oneCell' = true)
    (h63 : m ≤ maxLen) (hbytes : m * bytes ≤ 140737488355328) (hbase : base ≤ w.heap.size)
    (h : ∀ v' w', w'.ownsRow base e size v' m news → Aft w w' → (∀ b, v'.ownBlock = some b → b = g ∨ w.heap.size ≤ b) → wpList P ops Q rest (a.put o.dst v') w') : wpList P ops Q (o :: rest) a w := by
  obtain ⟨i, hi, hz, h2, h3⟩ := info_parts hinfo
  cases ax with
  | none =>
    have hnil : news = [] := by
      cases news with
      | nil => rfl
      | cons u l => obtain ⟨ad, e, _⟩ := hnews 0 u rfl; cases e
    subst hnil
    have hm : m = 0 := by
      have := hl
      simp only [List.length_nil] at this
      rcases Nat.mul_eq_zero.1 this.symm with h | h
      · exact h
      · omega
    subst hm
    have := hc rfl
    subst this
    exact wpList_append_own_none hgd s x t ho base e i size ht hi _ 0 [] hs hown hx (h _ w hown (Aft.refl w) (fun b hb => .inl (by simp [Value.ownBlock] at hb; omega)))
  | some ad =>
    refine wpList_append_arg w hgd s x t ho e i z size bytes ht hi hz h2 h3 hzs hsz g 0 0 0 [] hs (by simp) (fun j u hj => by simp at hj) ad m c news hx hl (fun j u hj => by
      obtain ⟨ad', e', hc'⟩ := hnews j u hj
      cases e'
      exact hc') h1 (fun hm j hj => by
        have : m = 0 := by omega
        subst this
        rw [hl] at hj
        omega) (by omega) (by rw [Nat.zero_add]; exact hbytes) (fun hm => ?_) (fun hm v' w' r1 r2 => ?_)
    · have : m = 0 := by omega
      subst this
      have hn0 : news = [] := List.eq_nil_of_length_eq_zero (by rw [hl]; omega)
      subst hn0
      exact h _ _ hown (Aft.refl w) (fun b hb => .inl (by simp [Value.ownBlock] at hb; omega))
    · rw [Nat.zero_add] at r1
      exact h v' w' (ownsRow_mono r1 hbase) ((Aft.refl w).grown r2 (fun k hk => by cases hk)) (fun b hb => .inr (r1.lt b hb).1)

def fvEmpty (e : TypeId) (n : Nat) : FV := ⟨fun v W => ∃ g, v = .slice (some ⟨g, 0, none⟩) 0 0 ∧ n < g ∧ W.heap[g]? = some (.cells #[] e), fun _ _ _ ⟨g, h1, h2, h3⟩ hw => ⟨g, h1, h2, (hw.block g (Array.getElem?_eq_some_iff.1 h3).1).trans h3⟩⟩
def fvRow (base : Nat) (e : TypeId) (size n : Nat) (cs : List Value) : FV := ⟨fun v W => W.ownsRow base e size v n cs, fun _ _ _ h hw => ownsRow_aft h hw⟩
def fvOne (cs : List Value) : FV := ⟨fun v W => ∃ g, v = .slice (some ⟨g, 0, none⟩) 1 1 ∧ Rd W (some ⟨g, 0, none⟩) cs, fun _ _ _ ⟨g, h1, h2⟩ hw => ⟨g, h1, h2.aft hw⟩⟩

/-- The slices of a row of shapes, each in a block from base on. -/
def RowFrom (base : Nat) (R : List (Int × Value)) : Prop := ∀ r ∈ R, ∃ g n c, r.2 = .slice (some ⟨g, 0, none⟩) n c ∧ base ≤ g
theorem shCells_one {base : Nat} {R : List (Int × Value)} (h : RowFrom base R) : ∀ u ∈ shCells R, u.oneCell' = true := by
  intro u hu
  simp only [shCells, List.mem_flatMap] at hu
  obtain ⟨r, hr, hu⟩ := hu
  obtain ⟨g, n, c, e, _⟩ := h r hr
  simp at hu
  rcases hu with rfl | rfl
  · rfl
  · rw [e]; rfl
/-- A row of shapes of the call's own: all its blocks lie from base on. -/
structure ShsB (base : Nat) (w : World) (a : Option Addr) (n c : Nat) (R : List (Int × Value)) (L : List Sh) : Prop where
  sh : ShsAt w a n c R L
  own : w.ownsRow base 51 2 (.slice a n c) n (shCells R)
  from_ : RowFrom base R
theorem prs_kx {X : Nat → Prop} {A B : World} {g off n c : Nat} {l : List Pt} (h : Prs A (.slice (some ⟨g, off, none⟩) n c) l) (hk : Kx X A B) (hg : ¬ X g) : Prs B (.slice (some ⟨g, off, none⟩) n c) l := by
  obtain ⟨a', c', e', hp⟩ := h
  simp only [Value.slice.injEq] at e'
  obtain ⟨rfl, e2, rfl⟩ := e'
  exact ⟨_, _, by rw [← e2], PrsAt.kx hp hk hg⟩
theorem ShsB.kx {X : Nat → Prop} {A B : World} {base : Nat} {a : Option Addr} {n c : Nat} {R : List (Int × Value)} {L : List Sh} (h : ShsB base A a n c R L) (hk : Kx X A B) (hX : ∀ j, X j → j < base) : ShsB base B a n c R L := by
  have ho := ownsRow_kx h.own hk hX
  refine ⟨{ h.sh with rd := ?_, el := fun i r s hr hs => ?_ }, ho, h.from_⟩
  · obtain ⟨a', c', e, hrd, _⟩ := ownsRow_at ho
    simp only [Value.slice.injEq] at e
    obtain ⟨rfl, _, rfl⟩ := e
    exact hrd
  · obtain ⟨h1, h2⟩ := h.sh.el i r s hr hs
    obtain ⟨g, n', c', e, hg⟩ := h.from_ r (List.mem_of_getElem? hr)
    rw [e] at h2 ⊢
    exact ⟨h1, prs_kx h2 hk (fun hx => by have := hX g hx; omega)⟩
theorem ShsB.aft {A B : World} {base : Nat} {a : Option Addr} {n c : Nat} {R : List (Int × Value)} {L : List Sh} (h : ShsB base A a n c R L) (hw : Aft A B) : ShsB base B a n c R L := ShsB.kx (X := fun _ => False) h (aft_kx hw) (fun _ h => h.elim)
theorem ShsB.nil (base : Nat) (w : World) : ShsB base w none 0 0 [] [] :=
  ⟨⟨rfl, rfl, fun j v hj => by simp [shCells] at hj, fun i r s h => by simp at h, Nat.le_refl _, fun _ => rfl, by omega⟩, World.ownsRow_nil _ _ _ _, fun r h => by cases h⟩
/-- With one shape more, in a row that was made anew. -/
theorem ShsB.snoc {base base' : Nat} {A B : World} {a a' : Option Addr} {n c c' : Nat} {R : List (Int × Value)} {L : List Sh} {k : Int} {g gn gc : Nat} {ps : List Pt} (h : ShsB base A a n c R L) (hw : Aft A B)
    (hp : Prs B (.slice (some ⟨g, 0, none⟩) gn gc) ps) (hg : base ≤ g) (hb : base ≤ base') (ho : B.ownsRow base' 51 2 (.slice a' (n + 1) c') (n + 1) (shCells (R ++ [(k, .slice (some ⟨g, 0, none⟩) gn gc)]))) (hs : (n + 1) * 32 ≤ 140737488351232) :
    ShsB base B a' (n + 1) c' (R ++ [(k, .slice (some ⟨g, 0, none⟩) gn gc)]) (L ++ [(k, ps)]) := by
  obtain ⟨a1, c1, e, hrd, h1, h2⟩ := ownsRow_at ho
  simp only [Value.slice.injEq] at e
  obtain ⟨rfl, _, rfl⟩ := e
  have hln := h.sh.len
  have hlR := h.sh.lenR
  refine ⟨⟨by simp [hln], by simp [hlR], hrd, fun i r s hr hs => ?_, h1, h2, hs⟩, ownsRow_mono ho hb, fun r hr => ?_⟩
  · rcases Nat.lt_or_ge i L.length with hi | hi
    · rw [List.getElem?_append_left (by omega)] at hr
      rw [List.getElem?_append_left hi] at hs
      obtain ⟨q1, q2⟩ := h.sh.el i r s hr hs
      exact ⟨q1, q2.aft hw⟩
    · rw [List.getElem?_append_right (by omega)] at hr
      rw [List.getElem?_append_right hi] at hs
      obtain ⟨j, hj⟩ : ∃ j, i - L.length = j := ⟨_, rfl⟩
      rw [show i - R.length = j by omega] at hr
      rw [hj] at hs
      cases j with
      | succ j => simp at hr
      | zero =>
        simp at hr hs
        subst hr hs
        exact ⟨rfl, hp⟩
  · rcases List.mem_append.1 hr with hr | hr
    · exact h.from_ r hr
    · simp at hr
      subst hr
      exact ⟨g, gn, gc, rfl, hg⟩
theorem ShsB.shs {base : Nat} {w : World} {a : Option Addr} {n c : Nat} {R : List (Int × Value)} {L : List Sh} (h : ShsB base w a n c R L) : Shs w (.slice a n c) L := by
  have := h.sh.len
  subst this
  exact ⟨a, c, R, rfl, h.sh⟩

theorem ShsB.mono {b b' : Nat} {w : World} {a : Option Addr} {n c : Nat} {R : List (Int × Value)} {L : List Sh} (hb : b' ≤ b) (h : ShsB b w a n c R L) : ShsB b' w a n c R L :=
  ⟨h.sh, ownsRow_mono h.own hb, fun r hr => by obtain ⟨g, n, c, e, hg⟩ := h.from_ r hr; exact ⟨g, n, c, e, by omega⟩⟩
theorem gen_pts {k : Int} {l : List Pt} (h : Gen k l) : (∀ p ∈ l, 0 ≤ p.1 ∧ p.1 ≤ 60 ∧ 0 ≤ p.2 ∧ p.2 ≤ 60) ∧ 1 ≤ l.length ∧ l.length ≤ 6 := by
  rcases h with ⟨rfl, x, y, rfl, h⟩ | ⟨rfl, h1, h2, h3, _⟩ | ⟨rfl, x, y, wd, h, rfl, hh⟩ | ⟨rfl, x, y, wd, t1, t2, h, rfl, hh⟩ | ⟨rfl, x, y, wd, h, rfl, hh⟩
  · refine ⟨fun p hp => ?_, by simp, by simp⟩
    simp at hp; subst hp; simp only; omega
  · exact ⟨h3, by omega, by omega⟩
  · refine ⟨fun p hp => ?_, by simp [rectL], by simp [rectL]⟩
    simp [rectL] at hp
    rcases hp with rfl | rfl | rfl | rfl <;> (simp only; omega)
  · refine ⟨fun p hp => ?_, by simp [triL], by simp [triL]⟩
    simp [triL] at hp
    rcases hp with rfl | rfl | rfl <;> (simp only; omega)
  · refine ⟨fun p hp => ?_, by simp [braL], by simp [braL]⟩
    simp [braL] at hp
    rcases hp with rfl | rfl | rfl | rfl | rfl | rfl <;> (simp only; omega)
theorem gen_sc {k : Int} {l : List Pt} (h : Gen k l) : l.length ≤ 1000 ∧ ScL l := by
  obtain ⟨h1, h2, h3⟩ := gen_pts h
  exact ⟨by omega, fun p hp => by have := h1 p hp; unfold Sc; omega⟩
def GenL (L : List Sh) : Prop := ∀ s ∈ L, Gen s.1 s.2
theorem genL_sc {L : List Sh} (h : GenL L) : ShSc L := fun s hs => gen_sc (h s hs)

/-- Figures: two numbers and a slice. -/
def B3 (W : World) (b : Nat) (x y : Int) (v : Value) : Prop := W.cell? ⟨b, 0, none⟩ = some (.int .i64 x) ∧ W.cell? ⟨b, 1, none⟩ = some (.int .i64 y) ∧ W.cell? ⟨b, 2, none⟩ = some v
def F3 (W : World) (b : Nat) : Prop := W.frozen? ⟨b, 0, none⟩ = false ∧ W.frozen? ⟨b, 1, none⟩ = false ∧ W.frozen? ⟨b, 2, none⟩ = false
theorem B3.kx {X : Nat → Prop} {A B : World} {b : Nat} {x y : Int} {v : Value} (h : B3 A b x y v) (hk : Kx X A B) (hb : ¬ X b) : B3 B b x y v := by
  have tr : ∀ {o : Nat} {v : Value}, A.cell? ⟨b, o, none⟩ = some v → B.cell? ⟨b, o, none⟩ = some v := fun h => (hk.cell (World.block_lt_of_cell? _ _ h) hb).trans h
  exact ⟨tr h.1, tr h.2.1, tr h.2.2⟩
theorem F3.kx {X : Nat → Prop} {A B : World} {b : Nat} (h : F3 A b) (hk : Kx X A B) (hlt : b < A.heap.size) (hb : ¬ X b) : F3 B b := ⟨(frozen_kx hk hlt hb).trans h.1, (frozen_kx hk hlt hb).trans h.2.1, (frozen_kx hk hlt hb).trans h.2.2⟩
theorem put3 {W : World} {b : Nat} {x0 y0 : Int} {v0 : Value} (h : B3 W b x0 y0 v0) (x y : Int) (v : Value) :
    B3 (((W.setCell ⟨b, 0, none⟩ (.int .i64 x)).setCell ⟨b, 1, none⟩ (.int .i64 y)).setCell ⟨b, 2, none⟩ v) b x y v ∧ Kx (fun j => j = b) W (((W.setCell ⟨b, 0, none⟩ (.int .i64 x)).setCell ⟨b, 1, none⟩ (.int .i64 y)).setCell ⟨b, 2, none⟩ v) := by
  obtain ⟨h0, h1, h2⟩ := h
  have S : ∀ (A : World) (o : Nat) (v v' : Value), A.cell? ⟨b, o, none⟩ = some v → (A.setCell ⟨b, o, none⟩ v').cell? ⟨b, o, none⟩ = some v' := fun A o v v' h => World.cell?_setCell_same' _ _ _ (by rw [h]; rfl)
  have O : ∀ (A : World) (o o' : Nat) (v v' : Value), o ≠ o' → A.cell? ⟨b, o, none⟩ = some v → (A.setCell ⟨b, o', none⟩ v').cell? ⟨b, o, none⟩ = some v := fun A o o' v v' hne h => (World.cell?_setCell_other _ _ _ _ (fun e => hne (by cases e; rfl))).trans h
  refine ⟨⟨?_, ?_, ?_⟩, ?_⟩
  · exact O _ _ _ _ _ (by decide) (O _ _ _ _ _ (by decide) (S _ _ _ _ h0))
  · exact O _ _ _ _ _ (by decide) (S _ _ _ _ (O _ _ _ _ _ (by decide) h1))
  · exact S _ _ _ _ (O _ _ _ _ _ (by decide) (O _ _ _ _ _ (by decide) h2))
  · have K : ∀ (A : World) (o : Nat) (v : Value), Kx (fun j => j = b) A (A.setCell ⟨b, o, none⟩ v) := fun A o v => Kx.setCell (p := ⟨b, o, none⟩) _ rfl
    exact ((K _ _ _).trans (K _ _ _)).trans (K _ _ _)
theorem results_fig {fn : Func} {p : Tmp} (h : fn.results = #[.cell p 45]) (tmps : Array Value) (w : World) (b : Nat) (x y : Int) (v : Value) (hp : tmps.getD p undef = .pointer (some ⟨b, 0, none⟩)) (hc : B3 w b x y v) :
    (results fn tmps).run Try.prog w = .ok (.agg #[.int .i64 x, .int .i64 y, v]) w := by
  obtain ⟨h0, h1, h2⟩ := hc
  have hp' : tmps[p]?.getD undef = .pointer (some ⟨b, 0, none⟩) := by simpa using hp
  simp only [Go.results, h]
  simp [hp', asAddr, go_sem, h0, h1, h2]
theorem valid_nil : validZ 62 62 [] = 0 := by decide

set_option maxRecDepth 100000 in
set_option maxHeartbeats 16000000 in
theorem figure_any (vl : Value) (l : List Int) (w : World) (hl : Ints w vl l) :
    Calls Try.prog 27 #[vl] w fun e w' => ∃ a c R L, e = .returned (.agg #[.int .i64 62, .int .i64 62, .slice a (List.length L) c]) ∧ ShsB w.heap.size w' a L.length c R L ∧ GenL L ∧ L.length ≤ 5 ∧ validZ 62 62 L = 0 ∧ Aft w w' := by
  have hIl := hl
  obtain ⟨a0, c0, rfl, hl⟩ := hl
  go_enter Try.func27, Try.ntmps27
  go_upto_region 2 with fail
  obtain ⟨W0, eW0, hw0, hlt, hbox⟩ := two_boxes w #[.int .i64 0, .int .i64 0, .slice none 0 0] #[.int .i64 62, .int .i64 62, .slice none 0 0] 45 45
  have hfz : F3 W0 w.heap.size ∧ F3 W0 (w.heap.size + 1) := by
    rw [← eW0]
    have f1 : ∀ o, ((w.alloc (.cells #[.int .i64 0, .int .i64 0, .slice none 0 0] 45)).alloc (.cells #[.int .i64 62, .int .i64 62, .slice none 0 0] 45)).frozen? ⟨w.heap.size, o, none⟩ = false := fun o => by
      rw [((Aft.refl _).alloc _).frozen (by simp)]
      exact frozen_new _ _ _ _
    have f2 : ∀ o, ((w.alloc (.cells #[.int .i64 0, .int .i64 0, .slice none 0 0] 45)).alloc (.cells #[.int .i64 62, .int .i64 62, .slice none 0 0] 45)).frozen? ⟨w.heap.size + 1, o, none⟩ = false := fun o => by
      simp
    exact ⟨⟨f1 0, f1 1, f1 2⟩, f2 0, f2 1, f2 2⟩
  rw [eW0]
  clear eW0
  have hI0 := hIl.aft hw0
  have b2 : B3 W0 w.heap.size 0 0 (.slice none 0 0) := ⟨(hbox.out W0 (Aft.refl _)).1 0 _ rfl, (hbox.out W0 (Aft.refl _)).1 1 _ rfl, (hbox.out W0 (Aft.refl _)).1 2 _ rfl⟩
  have b3 : B3 W0 (w.heap.size + 1) 62 62 (.slice none 0 0) := ⟨(hbox.out W0 (Aft.refl _)).2 0 _ rfl, (hbox.out W0 (Aft.refl _)).2 1 _ rfl, (hbox.out W0 (Aft.refl _)).2 2 _ rfl⟩
  obtain ⟨fz2, fz3⟩ := hfz
  clear hbox
  obtain ⟨n2, hn2⟩ : ∃ n, w.heap.size = n := ⟨_, rfl⟩
  have hge2 : w.heap.size ≤ n2 := by omega
  rw [hn2] at b2 b3 fz2 fz3 hlt ⊢
  obtain ⟨n3, hn3⟩ : ∃ n, n2 + 1 = n := ⟨_, rfl⟩
  rw [hn3] at b3 fz3 hlt ⊢
  have h23 : n2 < n3 := by omega
  clear hn2 hn3
  obtain ⟨N, hN⟩ : ∃ N, atI l 0 5 = N := ⟨_, rfl⟩
  have bN : 0 ≤ N ∧ N < 5 := hN ▸ atI_lt l _ 5 (by omega)
  obtain ⟨m, rfl⟩ : ∃ m : Nat, N = m := ⟨N.toNat, by omega⟩
  have hB0 := hid (ShsB.nil (n3 + 1) W0)
  have hV0 := hid valid_nil
  go_wp2_with (go_at_call 63; refine (at_any _ l _ _ _ hI0).mono ?_; rintro e w' ⟨rfl, rfl⟩; rw [hN])
  go_loopw [5] (fun i wr => ∃ r : Nat, r ≤ 1 + m ∧ i = .int .i64 r ∧ ∃ a c R L, B3 wr n3 62 62 (.slice a (List.length L) c) ∧ F3 wr n3 ∧ B3 wr n2 0 0 (.slice none 0 0) ∧ F3 wr n2 ∧ Hid (ShsB (n3 + 1) wr a L.length c R L) ∧ Hid (GenL L) ∧ L.length ≤ r ∧ Hid (validZ 62 62 L = 0) ∧ Aft w wr ∧ n3 < wr.heap.size) (fun i _ => 1 + m - (intOf i).toNat)
  case atStart => exact ⟨0, by omega, rfl, none, 0, [], [], b3, fz3, b2, fz2, hB0, hid (by intro s hs; cases hs), Nat.le_refl _, hV0, hw0, by omega⟩
  case round =>
    clear b2 b3 fz2 fz3 hB0 hV0
    obtain ⟨r, hr, rfl, a, c, R, L, b3, fz3, b2, fz2, HB, HG, hLr, HV, hwr, hsz⟩ := hrel
    rcases Nat.lt_or_ge r (1 + m) with hltr | hger
    · have hri : (r : Int) < 1 + m := by omega
      have b3k := hid b3
      obtain ⟨x0, x1, x2⟩ := b3
      have hIr := hIl.aft hwr
      go_wp2_with fail
      refine (shape_any _ l (1 + 11 * (r : Int)) wr hIr (by omega)).mono ?_
      rintro e w1 ⟨k, g, gn, gc, ps, rfl, hg, hps, hgen, hw1⟩
      have hk1 : Kx (fun _ => False) wr w1 := aft_kx hw1
      have tr : ∀ {b o : Nat} {v : Value}, wr.cell? ⟨b, o, none⟩ = some v → w1.cell? ⟨b, o, none⟩ = some v := fun h => (hw1.cell (World.block_lt_of_cell? _ _ h)).trans h
      replace x0 := tr x0
      replace x1 := tr x1
      replace x2 := tr x2
      clear tr
      have hs1 : n3 < w1.heap.size := by have := hw1.size; omega
      go_upto_region 7 with fail
      obtain ⟨W2, eW2, hw2, hlt2, hbox2⟩ := one_box w1 #[.int .i64 k, .slice (some ⟨g, 0, none⟩) gn gc] 51
      rw [eW2]
      clear eW2
      have tr : ∀ {b o : Nat} {v : Value}, w1.cell? ⟨b, o, none⟩ = some v → W2.cell? ⟨b, o, none⟩ = some v := fun h => (hw2.cell (World.block_lt_of_cell? _ _ h)).trans h
      replace x0 := tr x0
      replace x1 := tr x1
      replace x2 := tr x2
      clear tr
      have c6 := hbox2.out W2 (Aft.refl _) 0 (.int .i64 k) rfl
      have d6 := hbox2.out W2 (Aft.refl _) 1 (.slice (some ⟨g, 0, none⟩) gn gc) rfl
      clear hbox2
      obtain ⟨n6, hn6⟩ : ∃ n, w1.heap.size = n := ⟨_, rfl⟩
      rw [hn6] at c6 d6 hlt2 hs1 ⊢
      go_upto_region 8 with fail
      obtain ⟨W3, eW3, hw3, hlt3, hbox3⟩ := one_box W2 #[.int .i64 62, .int .i64 62, .slice a L.length c] 45
      have hz3 : W3.heap.size = W2.heap.size + 1 := by rw [← eW3]; simp
      have fz7 : F3 W3 W2.heap.size := eW3 ▸ ⟨frozen_new W2 _ _ 0, frozen_new W2 _ _ 1, frozen_new W2 _ _ 2⟩
      rw [eW3]
      clear eW3
      have b7 : B3 W3 W2.heap.size 62 62 (.slice a L.length c) := ⟨hbox3.out W3 (Aft.refl _) 0 _ rfl, hbox3.out W3 (Aft.refl _) 1 _ rfl, hbox3.out W3 (Aft.refl _) 2 _ rfl⟩
      clear hbox3
      have tr : ∀ {b o : Nat} {v : Value}, W2.cell? ⟨b, o, none⟩ = some v → W3.cell? ⟨b, o, none⟩ = some v := fun h => (hw3.cell (World.block_lt_of_cell? _ _ h)).trans h
      replace x0 := tr x0
      replace x1 := tr x1
      have c3 := tr x2
      clear x2
      replace c6 := tr c6
      replace d6 := tr d6
      clear tr
      obtain ⟨n7, hn7⟩ : ∃ n, W2.heap.size = n := ⟨_, rfl⟩
      rw [hn7] at b7 fz7 hlt3 hz3 ⊢
      have hw13 := (hw1.trans hw2).trans hw3
      have hk13 : Kx (fun _ => False) wr W3 := aft_kx hw13
      have hB3 := ShsB.aft HB.out hw13
      have hps3 := hps.aft (hw2.trans hw3)
      have h37 : n3 < n7 := by omega
      have h67 : n6 < n7 := by omega
      obtain ⟨hSA, -, hRs⟩ := hB3
      have hlR := hSA.lenR
      have hrd := hSA.rd
      have hnil := hSA.nil
      have hszL := hSA.size
      have hB2 := hid (ShsB.aft HB.out (hw1.trans hw2))
      clear hSA
      have b3' := hid (B3.kx b3k.out hk13 (fun h => h))
      have fz3' := hid (F3.kx fz3 hk13 (by omega) (fun h => h))
      have b2' := hid (B3.kx b2 hk13 (fun h => h))
      have fz2' := hid (F3.kx fz2 hk13 (by omega) (fun h => h))
      clear b2 fz2 fz3
      refine wp_region_flow _ (Aft.refl _) [fvEmpty 51 n7, FV.is (.pointer (some ⟨n3, 2, none⟩)), FV.is (.slice a L.length c), fvRow (n7 + 1) 51 2 L.length (shCells R), FV.is (.agg #[.int .i64 k, .slice (some ⟨g, 0, none⟩) gn gc]), fvOne [.int .i64 k, .slice (some ⟨g, 0, none⟩) gn gc]]
        [(0, 23), (1, 24), (2, 25), (3, 26), (4, 27), (5, 28)]
        [[], [], [(1, 24)], [(0, 23), (2, 25)], [], [(4, 27)]] (by kernel_rfl) (by kernel_rfl) ?_ ?_
      · refine flowObs_cons (fun W hW => flowOb_nil ?_) ?_
        · go_wp2
          exact ⟨⟨_, rfl, by have := hW.size; show n7 < W.heap.size; omega, heap_alloc_new W _⟩, (Aft.refl W).alloc _⟩
        refine flowObs_cons (fun W hW => flowOb_nil ?_) ?_
        · go_wp2
          exact ⟨rfl, Aft.refl W⟩
        refine flowObs_cons (fun W hW => flowOb_cons fun v0 h0 => flowOb_nil ?_) ?_
        · obtain rfl := h0
          have c3W := (hW.cell (World.block_lt_of_cell? _ _ c3)).trans c3
          have x0W := (hW.cell (World.block_lt_of_cell? _ _ x0)).trans x0
          have x1W := (hW.cell (World.block_lt_of_cell? _ _ x1)).trans x1
          have c6W := (hW.cell (World.block_lt_of_cell? _ _ c6)).trans c6
          have d6W := (hW.cell (World.block_lt_of_cell? _ _ d6)).trans d6
          go_wp2
          exact ⟨rfl, Aft.refl W⟩
        refine flowObs_cons (fun W hW => flowOb_cons fun v0 h0 => flowOb_cons fun v1 h1 => flowOb_nil ?_) ?_
        · obtain rfl := h1
          obtain ⟨g0, rfl, hg0, hh0⟩ := h0
          have hzW := hW.size
          refine wpList_app_empty _ rfl (.tmp 23) (.tmp 25) 43 rfl (n7 + 1) 51 (.agg #[.int .i64 0, .slice none 0 0]) 2 32 Try.underlying43 Try.info51 rfl (by decide) g0 rfl ⟨rfl, .inr ⟨g0, 0, #[], rfl, by omega, hh0, Nat.le_refl _, by decide, rfl, rfl⟩⟩ a L.length c (shCells R) rfl hnil (by rw [shCells_length, hlR]) (hrd.aft hW) (shCells_one hRs) (by unfold maxLen; omega) (by omega) (by omega) ?_
          intro v1 w1 ho1 ha1 _
          go_wp2
          first | exact ⟨ho1, ha1⟩ | exact ho1
        refine flowObs_cons (fun W hW => flowOb_nil ?_) ?_
        · have c3W := (hW.cell (World.block_lt_of_cell? _ _ c3)).trans c3
          have x0W := (hW.cell (World.block_lt_of_cell? _ _ x0)).trans x0
          have x1W := (hW.cell (World.block_lt_of_cell? _ _ x1)).trans x1
          have c6W := (hW.cell (World.block_lt_of_cell? _ _ c6)).trans c6
          have d6W := (hW.cell (World.block_lt_of_cell? _ _ d6)).trans d6
          go_wp2
          exact ⟨rfl, Aft.refl W⟩
        refine flowObs_cons (fun W hW => flowOb_cons fun v0 h0 => flowOb_nil ?_) flowObs_nil
        · obtain rfl := h0
          go_wp2
          exact ⟨⟨_, rfl, Rd.new⟩, (Aft.refl W).alloc _⟩
      · intro W hW
        refine flowEnd_cons fun _ _ => ?_
        refine flowEnd_cons fun _ _ => ?_
        refine flowEnd_cons fun _ _ => ?_
        refine flowEnd_cons fun v3 h3 => ?_
        refine flowEnd_cons fun _ _ => ?_
        refine flowEnd_cons fun v5 h5 => flowEnd_nil ?_
        obtain ⟨g5, rfl, hrd5⟩ := h5
        have hzW := hW.size
        simp only [Act.put, List.setIfInBounds_toArray, List.set_cons_succ, List.set_cons_zero]
        refine wpList_app _ rfl (.tmp 26) (.tmp 28) 43 rfl (n7 + 1) 51 (.agg #[.int .i64 0, .slice none 0 0]) 2 32 Try.underlying43 Try.info51 rfl (by decide) _ L.length _ rfl h3 (some ⟨g5, 0, none⟩) 1 1 [.int .i64 k, .slice (some ⟨g, 0, none⟩) gn gc] rfl (fun h => by cases h) rfl hrd5 (by intro u hu; simp at hu; rcases hu with rfl | rfl <;> rfl) (by unfold maxLen; omega) (by omega) (by omega) ?_
        intro v' w' hown' hgrow hloc
        rw [show shCells R ++ [.int .i64 k, .slice (some ⟨g, 0, none⟩) gn gc] = shCells (R ++ [(k, .slice (some ⟨g, 0, none⟩) gn gc)]) by rw [shCells_append]; rfl] at hown'
        obtain ⟨g', cap', rfl⟩ := ownsRow_some' hown' (by omega)
        have hg' := (hown'.lt g' rfl).1
        -- what stays of W3 in w': all but the row's block
        have hk' : Kx (fun j => n7 < j) W3 w' := Kx.trans (aft_kx hW) ⟨hgrow.os, hgrow.tape, hgrow.output, hgrow.size, fun j hj hx => hgrow.block j hj (fun e => by have := (h3.lt j e.symm).1; omega)⟩
        have hA2 : Aft W2 w' := (hw3.trans hW).grown hgrow (fun j hj => by have := (h3.lt j hj).1; omega)
        have hV : Aft W2 (w'.setCell ⟨n7, 2, none⟩ (.slice (some ⟨g', 0, none⟩) (L.length + 1) cap')) := hA2.setCell (p := ⟨n7, 2, none⟩) (by show W2.heap.size ≤ n7; omega) _
        have hoV : (w'.setCell ⟨n7, 2, none⟩ (.slice (some ⟨g', 0, none⟩) (L.length + 1) cap')).ownsRow (n7 + 1) 51 2 (.slice (some ⟨g', 0, none⟩) (L.length + 1) cap') (L.length + 1) (shCells (R ++ [(k, .slice (some ⟨g, 0, none⟩) gn gc)])) :=
          Sep.kept (v' := .slice (some ⟨n7, 2, none⟩) 0 0) (sep_ne'' (by omega)) hown' (grown_setCell w' ⟨n7, 2, none⟩ _)
        have hVA := hid hV
        have hBV := ShsB.snoc (k := k) hB2.out hV ((hps.aft hw2).aft hV) (by omega) (show n3 + 1 ≤ n7 + 1 by omega) hoV (by omega)
        have HBV := hid hBV
        have HSV := hid (ShsB.shs hBV)
        have hGV : GenL (L ++ [(k, ps)]) := fun s hs => by
          rcases List.mem_append.1 hs with h | h
          · exact HG.out s h
          · simp at h; subst h; exact hgen
        have HGV := hid hGV
        have hkV : Kx (fun j => n7 < j ∨ j = n7) W3 (w'.setCell ⟨n7, 2, none⟩ (.slice (some ⟨g', 0, none⟩) (L.length + 1) cap')) := (hk'.sub fun j h => .inl h).trans (Kx.setCell (p := ⟨n7, 2, none⟩) _ (.inr rfl))
        have HWV := hid ((hwr.trans (hw1.trans hw2)).trans hV)
        obtain ⟨y0, y1, y2⟩ := B3.kx b7 hk' (show ¬ n7 < n7 by omega)
        obtain ⟨z0, z1, z2⟩ := F3.kx fz7 hk' (by omega) (show ¬ n7 < n7 by omega)
        have b3V := hid (B3.kx b3'.out hkV (show ¬ (n7 < n3 ∨ n3 = n7) by omega))
        have fz3V := hid (F3.kx fz3'.out hkV (by omega) (show ¬ (n7 < n3 ∨ n3 = n7) by omega))
        have b2V := hid (B3.kx b2'.out hkV (show ¬ (n7 < n2 ∨ n2 = n7) by omega))
        have fz2V := hid (F3.kx fz2'.out hkV (by omega) (show ¬ (n7 < n2 ∨ n2 = n7) by omega))
        have hszV : n3 < (w'.setCell ⟨n7, 2, none⟩ (.slice (some ⟨g', 0, none⟩) (L.length + 1) cap')).heap.size := World.block_lt_of_cell? _ _ b3V.out.1
        have c7V : B3 (w'.setCell ⟨n7, 2, none⟩ (.slice (some ⟨g', 0, none⟩) (L.length + 1) cap')) n7 62 62 (.slice (some ⟨g', 0, none⟩) (L.length + 1) cap') :=
          ⟨(World.cell?_setCell_other _ _ _ _ (by simp)).trans y0, (World.cell?_setCell_other _ _ _ _ (by simp)).trans y1, World.cell?_setCell_same' _ _ _ (by rw [y2]; rfl)⟩
        have hL1 : (L ++ [(k, ps)]).length = L.length + 1 := by simp
        clear hBV hGV hkV hoV hV hA2 hk' hown' h3 x0 x1 c3 c6 d6 hrd hRs
        go_upto_region 9 with fail
        generalize hVE : w'.setCell ⟨n7, 2, none⟩ (.slice (some ⟨g', 0, none⟩) (L.length + 1) cap') = V at *
        clear y0 y1 y2 z0 z1 z2
        obtain ⟨y0, y1, y2⟩ := c7V
        go_wp2_with fail
        refine (rvalid_any 62 62 _ (L ++ [(k, ps)]) V HSV.out (genL_sc HGV.out)).mono ?_
        rintro e w5 ⟨rfl, hw5⟩
        have hk5 : Kx (fun _ => False) V w5 := aft_kx hw5
        have b3X := B3.kx b3V.out hk5 (fun h => h)
        have fz3X := F3.kx fz3V.out hk5 (by omega) (fun h => h)
        have b2X := B3.kx b2V.out hk5 (fun h => h)
        have hl2 : n2 < w5.heap.size := World.block_lt_of_cell? _ _ b2X.1
        have hl3 : n3 < w5.heap.size := World.block_lt_of_cell? _ _ b3X.1
        have fz2X := F3.kx fz2V.out hk5 (by omega) (fun h => h)
        have tr : ∀ {b o : Nat} {v : Value}, V.cell? ⟨b, o, none⟩ = some v → w5.cell? ⟨b, o, none⟩ = some v := fun h => (hw5.cell (World.block_lt_of_cell? _ _ h)).trans h
        replace y0 := tr y0
        replace y1 := tr y1
        replace y2 := tr y2
        clear tr
        have HWX := hid (HWV.out.trans hw5)
        obtain ⟨o, ho⟩ : ∃ o, validZ 62 62 (L ++ [(k, ps)]) = o := ⟨_, rfl⟩
        rw [ho]
        have HO := hid ho
        clear ho
        by_cases ho : o = 0
        · subst ho
          have hput := put3 b3X 62 62 (.slice (some ⟨g', 0, none⟩) (L.length + 1) cap')
          have HP := hid hput
          have HB5 := hid (ShsB.kx (ShsB.aft HBV.out hw5) hput.2 (fun j h => by subst h; omega))
          have HC := hid (B3.kx b2X hput.2 (show ¬ n2 = n3 by omega))
          have HF2 := hid (F3.kx fz2X hput.2 hl2 (show ¬ n2 = n3 by omega))
          have HF3 : Hid (F3 (((w5.setCell ⟨n3, 0, none⟩ (.int .i64 62)).setCell ⟨n3, 1, none⟩ (.int .i64 62)).setCell ⟨n3, 2, none⟩ (.slice (some ⟨g', 0, none⟩) (L.length + 1) cap')) n3) := hid ⟨by simp only [World.frozen?_setCell]; exact fz3X.1, by simp only [World.frozen?_setCell]; exact fz3X.2.1, by simp only [World.frozen?_setCell]; exact fz3X.2.2⟩
          have HW := hid (((HWX.out.setCell (p := ⟨n3, 0, none⟩) (by show w.heap.size ≤ n3; omega) (.int .i64 62)).setCell (p := ⟨n3, 1, none⟩) (by show w.heap.size ≤ n3; omega) (.int .i64 62)).setCell (p := ⟨n3, 2, none⟩) (by show w.heap.size ≤ n3; omega) (.slice (some ⟨g', 0, none⟩) (L.length + 1) cap'))
          have HS := hid (show n3 < (((w5.setCell ⟨n3, 0, none⟩ (.int .i64 62)).setCell ⟨n3, 1, none⟩ (.int .i64 62)).setCell ⟨n3, 2, none⟩ (.slice (some ⟨g', 0, none⟩) (L.length + 1) cap')).heap.size from World.block_lt_of_cell? _ _ hput.1.1)
          clear hput b2X fz2X
          obtain ⟨q0, q1, q2⟩ := b3X
          obtain ⟨r0, r1, r2⟩ := fz3X
          go_wp2
          go_roundw
          case rel => exact ⟨r + 1, by omega, by go_num, _, _, _, L ++ [(k, ps)], by rw [hL1]; exact HP.out.1, HF3.out, HC.out, HF2.out, by rw [hL1]; exact HB5, HGV, by omega, HO, HW.out, HS.out⟩
          case measure => simp only [intOf]; omega
        · have ho' : (o == 0) = false := by rw [beq_eq_false_iff_ne]; exact ho
          have HB5 := hid (ShsB.aft HB.out (Aft.trans (Aft.trans (hw1.trans hw2) hVA.out) hw5))
          go_wp2
          go_roundw
          case rel => exact ⟨r + 1, by omega, by go_num, _, _, _, L, b3X, fz3X, b2X, fz2X, HB5, HG, by omega, HV, HWX.out, hl3⟩
          case measure => simp only [intOf]; omega
    · obtain rfl : r = 1 + m := by omega
      have hput := put3 b2 62 62 (.slice a L.length c)
      have HP := hid hput
      have HS := hid (ShsB.mono (show w.heap.size ≤ n3 + 1 by omega) (ShsB.kx HB.out hput.2 (fun j h => by subst h; omega)))
      have HW := hid (((hwr.setCell (p := ⟨n2, 0, none⟩) (by show w.heap.size ≤ n2; omega) (.int .i64 62)).setCell (p := ⟨n2, 1, none⟩) (by show w.heap.size ≤ n2; omega) (.int .i64 62)).setCell (p := ⟨n2, 2, none⟩) (by show w.heap.size ≤ n2; omega) (.slice a L.length c))
      clear hput
      obtain ⟨x0, x1, x2⟩ := b3
      obtain ⟨q0, q1, q2⟩ := b2
      obtain ⟨r0, r1, r2⟩ := fz2
      go_wp2
      refine bodyPost_ret (results_fig rfl _ _ n2 62 62 _ rfl HP.out.1) rfl ?_
      first | exact ⟨a, c, R, L, rfl, HS.out, HG.out, by omega, HV.out, HW.out⟩ | exact ⟨a, c, L, rfl, R, HS.out, HG.out, by omega, HV.out, HW.out⟩ | exact ⟨a, c, R, L, ⟨rfl, rfl, rfl⟩, HS.out, HG.out, by omega, HV.out, HW.out⟩
end Go.Proofs.Ytokdclbfjlnnjaa
/- The program's Simple. -/
namespace Go.Proofs.Ytokdclbfjlnnjaa
open Go.RowKit Go.BigFrame

/-- touchZ as the program asks it. -/
theorem touch_follows {l : List Pt} {q i : Nat} (h : q < i) (hi : i < l.length) : ((q + 1) % l.length = i ↔ q + 1 = i) := by
  rw [Nat.mod_eq_of_lt (by omega)]
theorem touch_closes {k : Int} {l : List Pt} {q i : Nat} (h : q < i) (hi : i < nSeg k l) : ((i + 1) % l.length = q ↔ (k = 2 ∧ q = 0 ∧ i + 1 = nSeg k l)) := by
  have hnle := nSeg_le k l
  unfold nSeg at hi ⊢
  split at hi
  · omega
  · rename_i hc
    rw [if_neg hc]
    split at hi
    · rename_i h2
      rw [if_pos h2]
      rcases Nat.lt_or_ge (i + 1) l.length with h' | h'
      · rw [Nat.mod_eq_of_lt h']; omega
      · have : i + 1 = l.length := by omega
        rw [this, Nat.mod_self]; omega
    · rename_i h2
      rw [Nat.mod_eq_of_lt (by omega)]; omega
theorem on_to {px py ax ay bx by_ : Int} {o : Bool} (h : onZ (px, py) ((ax, ay), (bx, by_)) = o) (w : World) (h1 : Sc ax) (h2 : Sc ay) (h3 : Sc bx) (h4 : Sc by_) (h5 : Sc px) (h6 : Sc py) :
    Calls Try.prog 101 #[.agg #[.int .i64 px, .int .i64 py], .agg #[.int .i64 ax, .int .i64 ay, .int .i64 bx, .int .i64 by_]] w
      fun e w' => e = .returned (.bool o) ∧ Aft w w' := by rw [← h]; exact on_any w h1 h2 h3 h4 h5 h6
theorem meet_to {ax ay bx by_ cx cy dx dy : Int} {o : Bool} (h : meetZ ((ax, ay), (bx, by_)) ((cx, cy), (dx, dy)) = o) (w : World) (h1 : Sc ax) (h2 : Sc ay) (h3 : Sc bx) (h4 : Sc by_) (h5 : Sc cx) (h6 : Sc cy) (h7 : Sc dx) (h8 : Sc dy) :
    Calls Try.prog 75 #[.agg #[.int .i64 ax, .int .i64 ay, .int .i64 bx, .int .i64 by_], .agg #[.int .i64 cx, .int .i64 cy, .int .i64 dx, .int .i64 dy]] w
      fun e w' => e = .returned (.bool o) ∧ Aft w w' := by rw [← h]; exact meet_any w h1 h2 h3 h4 h5 h6 h7 h8

set_option maxRecDepth 100000 in
set_option maxHeartbeats 16000000 in
theorem simple_any (k : Int) (vp : Value) (l : List Pt) (w : World) (hl : Prs w vp l) (hsm : l.length ≤ 1000) (hsc : ScL l) :
    Calls Try.prog 51 #[.agg #[.int .i64 k, vp]] w fun e w' => e = .returned (.bool (simpleZ k l)) ∧ Aft w w' := by
  have hP := hl
  obtain ⟨a, c, rfl, hl⟩ := hl
  obtain ⟨W0, eW0, hw0, hlt, hbox⟩ := one_box w #[.int .i64 k, .slice a l.length c] 51
  go_enter Try.func51, Try.ntmps51
  go_upto_region 1 with fail
  clear eW0
  have hF : Hid (∀ W, Aft W0 W → W.cell? ⟨w.heap.size, 0, none⟩ = some (.int .i64 k) ∧ W.cell? ⟨w.heap.size, 1, none⟩ = some (.slice a l.length c)) := hid fun W hW => ⟨hbox.out W hW 0 _ rfl, hbox.out W hW 1 _ rfl⟩
  clear hbox
  obtain ⟨p1, p2⟩ := hF.out W0 (Aft.refl _)
  have hn0W : w.heap.size < W0.heap.size := hlt
  generalize hn0 : w.heap.size = n0 at *
  go_wp2_with fail
  refine (segments_fn k _ W0).mono ?_
  rintro e Wa ⟨rfl, hWa⟩
  have hB : ShBox Wa W0.heap.size k (.slice a l.length c) l := by
    rw [← hWa]
    exact ⟨cell_new _ _ _ _ _ rfl, cell_new _ _ _ _ _ rfl, (hP.aft hw0).aft ((Aft.refl _).alloc _)⟩
  have hwa : Aft W0 Wa := hWa ▸ (Aft.refl W0).alloc _
  clear hWa p1 p2
  go_wp2_with fail
  refine (collect_any _ k _ l _ hB hsm).mono ?_
  rintro e W1 ⟨v1, rfl, hown, hw1a⟩
  have hw1 := hwa.trans hw1a
  have hnle := nSeg_le k l
  have HT := hid (@simpleZ_true k l)
  have HF : Hid (∀ i j, i < nSeg k l → j < i → touchZ l j i = true → simpleZ k l = false) := hid (fun i j => simpleZ_false)
  have HC : Hid (∀ q i, q < i → i < nSeg k l → ((i + 1) % l.length = q ↔ (k = 2 ∧ q = 0 ∧ i + 1 = nSeg k l))) := hid (fun q i => touch_closes)
  obtain ⟨m, hm⟩ : ∃ m, nSeg k l = m := ⟨_, rfl⟩
  rw [hm] at hown hnle HT HF HC
  clear hm
  have hw01 := hw0.trans hw1
  obtain ⟨a1, c1, rfl, _⟩ := ownsRow_at hown
  go_wp2
  go_loopw [16] (fun i wr => ∃ r : Nat, r ≤ m ∧ i = .int .i64 r ∧ Hid (∀ i, i < r → ∀ j, j < i → touchZ l j i = false) ∧ Aft W1 wr) (fun i _ => m - (intOf i).toNat)
  case atStart => exact ⟨0, by omega, rfl, hid fun j hj => by omega, Aft.refl _⟩
  case round =>
    obtain ⟨i, hi, rfl, hno, hwi⟩ := hrel
    rcases Nat.lt_or_ge i m with hlti | hgei
    · have hii : (i : Int) < m := by omega
      go_wp2
      go_loopw [20] (fun j wr => ∃ q : Nat, q ≤ i ∧ j = .int .i64 q ∧ Hid (∀ j, j < q → touchZ l j i = false) ∧ Aft W1 wr) (fun j _ => i - (intOf j).toNat)
      case atStart => exact ⟨0, by omega, rfl, hid fun j hj => by omega, hwi⟩
      case round =>
        obtain ⟨q, hq, rfl, hno2, hwq⟩ := hrel
        rcases Nat.lt_or_ge q i with hltq | hgeq
        · have hqi : (q : Int) < i := by omega
          have o3 := ownsRow_aft hown hwq
          obtain ⟨g, cap, he, q1, q2, q3, q4⟩ := seg_cells o3 (show q < m by omega)
          simp only [Value.slice.injEq, true_and] at he
          obtain ⟨rfl, rfl⟩ := he
          obtain ⟨g', cap', he', t1, t2, t3, t4⟩ := seg_cells o3 hlti
          simp only [Value.slice.injEq, Option.some.injEq, Addr.mk.injEq, true_and, and_true] at he'
          obtain ⟨rfl, rfl⟩ := he'
          have hsa4 := sgZ_sc hsc q
          have hsb4 := sgZ_sc hsc i
          have HN2 : Hid (touchZ l q i = false → ∀ j, j < q + 1 → touchZ l j i = false) := hid (fun h j hj => by
            rcases Nat.lt_or_ge j q with h' | h'
            · exact hno2.out j h'
            · obtain rfl : j = q := by omega
              exact h)
          have HF2 := hid (HF.out i q hlti hltq)
          have HD : Hid (touchZ l q i = if q + 1 = i then (if k = 2 ∧ q = 0 ∧ i + 1 = m then true else onZ (sgZ l i).2 (sgZ l q) || onZ (sgZ l q).1 (sgZ l i))
            else if k = 2 ∧ q = 0 ∧ i + 1 = m then onZ (sgZ l q).2 (sgZ l i) || onZ (sgZ l i).1 (sgZ l q) else meetZ (sgZ l i) (sgZ l q)) := hid (by
              unfold touchZ
              rw [meetZ_swap (sgZ l q)]
              simp only [touch_follows hltq (show i < l.length by omega), HC.out q i hltq hlti])
          obtain ⟨⟨⟨ax, ay⟩, bx, by_⟩, hs⟩ : ∃ s, sgZ l q = s := ⟨_, rfl⟩
          obtain ⟨⟨⟨cx, cy⟩, dx, dy⟩, ht⟩ : ∃ s, sgZ l i = s := ⟨_, rfl⟩
          rw [hs] at q1 q2 q3 q4 hsa4 HD
          rw [ht] at t1 t2 t3 t4 hsb4 HD
          simp only at q1 q2 q3 q4 hsa4 t1 t2 t3 t4 hsb4
          obtain ⟨s1, s2, s3, s4⟩ := hsa4
          obtain ⟨s5, s6, s7, s8⟩ := hsb4
          clear hs ht
          have hg1 := World.block_lt_of_cell? _ _ q1
          obtain ⟨p1, p2⟩ := hF.out wr (hw1.trans hwq)
          have fin : ∀ {W3 : World}, Aft wr W3 → Aft w W3 := fun h => (hw01.trans hwq).trans h
          obtain ⟨W2, hW2⟩ : ∃ W2, W2 = wr := ⟨_, rfl⟩
          subst hW2
          have hcl : (k = 2 ∧ q = 0 ∧ i + 1 = m) ∨ ¬ (k = 2 ∧ q = 0 ∧ i + 1 = m) := Classical.em _
          by_cases hf : q + 1 = i
          · have hf1 : ((q : Int) + 1 == i) = true := by rw [beq_iff_eq]; omega
            have hf2 : (q : Int) + 1 = i := by omega
            rcases hcl with hc | hc
            · have HQ := hid (HF2.out (by rw [HD.out, if_pos hf, if_pos hc]))
              obtain ⟨rfl, rfl, hc3⟩ := hc
              have FI := hid (fin (Aft.refl W2))
              obtain rfl : i = 1 := by omega
              obtain rfl : m = 2 := by omega
              clear hf hf2 hf1
              go_wp2
              go_ret
              exact ⟨by rw [HQ.out]; rfl, FI.out⟩
            · have HD2 := hid (show touchZ l q i = (onZ (dx, dy) ((ax, ay), (bx, by_)) || onZ (ax, ay) ((cx, cy), (dx, dy))) by rw [HD.out, if_pos hf, if_neg hc])
              by_cases e1 : k = 2
              · have e1b : (k == 2) = true := by rw [beq_iff_eq]; exact e1
                subst e1
                by_cases e2 : q = 0
                · have e3 : ¬ (i : Int) = (m : Int) - 1 := fun h => hc ⟨rfl, e2, by omega⟩
                  have e3b : ((i : Int) == (m : Int) - 1) = false := by rw [beq_eq_false_iff_ne]; exact e3
                  have e2b : ((q : Int) == 0) = true := by rw [beq_iff_eq]; omega
                  clear hc e2
                  clear hf
                  obtain ⟨o, ho⟩ : ∃ o, onZ (dx, dy) ((ax, ay), (bx, by_)) = o := ⟨_, rfl⟩
                  obtain ⟨o2, ho2⟩ : ∃ o, onZ (ax, ay) ((cx, cy), (dx, dy)) = o := ⟨_, rfl⟩
                  have HO := hid ho
                  have HO2 := hid ho2
                  cases o
                  case true =>
                    have HQ := hid (HF2.out (by rw [HD2.out, HO.out]; rfl))
                    go_upto_region 14 with fail
                    refine wp_region_lat W2 (Aft.refl _) (by kernel_rfl) (by kernel_rfl) ?_
                    repeat (go_big_quiet_step ((go_at_call 101; exact Calls.lat (on_to (by assumption) _ (by assumption) (by assumption) (by assumption) (by assumption) (by assumption) (by assumption)))))
                    refine wpQuiet_nil ?_
                    intro _ hw'; obtain ⟨z, rfl⟩ := hw'
                    go_wp2
                    go_ret
                    exact ⟨by rw [HQ.out]; rfl, fin z.aft⟩
                  case false =>
                    cases o2
                    case true =>
                      have HQ := hid (HF2.out (by rw [HD2.out, HO.out, HO2.out]; rfl))
                      go_upto_region 14 with fail
                      refine wp_region_lat W2 (Aft.refl _) (by kernel_rfl) (by kernel_rfl) ?_
                      repeat (go_big_quiet_step ((go_at_call 101; exact Calls.lat (on_to (by assumption) _ (by assumption) (by assumption) (by assumption) (by assumption) (by assumption) (by assumption)))))
                      refine wpQuiet_nil ?_
                      intro _ hw'; obtain ⟨z, rfl⟩ := hw'
                      go_wp2
                      go_ret
                      exact ⟨by rw [HQ.out]; rfl, fin z.aft⟩
                    case false =>
                      have HQ := hid (HN2.out (by rw [HD2.out, HO.out, HO2.out]; rfl))
                      go_upto_region 14 with fail
                      refine wp_region_lat W2 (Aft.refl _) (by kernel_rfl) (by kernel_rfl) ?_
                      repeat (go_big_quiet_step ((go_at_call 101; exact Calls.lat (on_to (by assumption) _ (by assumption) (by assumption) (by assumption) (by assumption) (by assumption) (by assumption)))))
                      refine wpQuiet_nil ?_
                      intro _ hw'; obtain ⟨z, rfl⟩ := hw'
                      go_wp2
                      go_roundw
                      case rel => exact ⟨q + 1, by omega, by go_num, HQ, hwq.trans z.aft⟩
                      case measure => simp only [intOf]; omega
                · have e2b : ((q : Int) == 0) = false := by rw [beq_eq_false_iff_ne]; omega
                  have e2c : ¬ ((q : Int) = 0) := by omega
                  clear hc e2
                  clear hf
                  obtain ⟨o, ho⟩ : ∃ o, onZ (dx, dy) ((ax, ay), (bx, by_)) = o := ⟨_, rfl⟩
                  obtain ⟨o2, ho2⟩ : ∃ o, onZ (ax, ay) ((cx, cy), (dx, dy)) = o := ⟨_, rfl⟩
                  have HO := hid ho
                  have HO2 := hid ho2
                  cases o
                  case true =>
                    have HQ := hid (HF2.out (by rw [HD2.out, HO.out]; rfl))
                    go_upto_region 14 with fail
                    refine wp_region_lat W2 (Aft.refl _) (by kernel_rfl) (by kernel_rfl) ?_
                    repeat (go_big_quiet_step ((go_at_call 101; exact Calls.lat (on_to (by assumption) _ (by assumption) (by assumption) (by assumption) (by assumption) (by assumption) (by assumption)))))
                    refine wpQuiet_nil ?_
                    intro _ hw'; obtain ⟨z, rfl⟩ := hw'
                    go_wp2
                    go_ret
                    exact ⟨by rw [HQ.out]; rfl, fin z.aft⟩
                  case false =>
                    cases o2
                    case true =>
                      have HQ := hid (HF2.out (by rw [HD2.out, HO.out, HO2.out]; rfl))
                      go_upto_region 14 with fail
                      refine wp_region_lat W2 (Aft.refl _) (by kernel_rfl) (by kernel_rfl) ?_
                      repeat (go_big_quiet_step ((go_at_call 101; exact Calls.lat (on_to (by assumption) _ (by assumption) (by assumption) (by assumption) (by assumption) (by assumption) (by assumption)))))
                      refine wpQuiet_nil ?_
                      intro _ hw'; obtain ⟨z, rfl⟩ := hw'
                      go_wp2
                      go_ret
                      exact ⟨by rw [HQ.out]; rfl, fin z.aft⟩
                    case false =>
                      have HQ := hid (HN2.out (by rw [HD2.out, HO.out, HO2.out]; rfl))
                      go_upto_region 14 with fail
                      refine wp_region_lat W2 (Aft.refl _) (by kernel_rfl) (by kernel_rfl) ?_
                      repeat (go_big_quiet_step ((go_at_call 101; exact Calls.lat (on_to (by assumption) _ (by assumption) (by assumption) (by assumption) (by assumption) (by assumption) (by assumption)))))
                      refine wpQuiet_nil ?_
                      intro _ hw'; obtain ⟨z, rfl⟩ := hw'
                      go_wp2
                      go_roundw
                      case rel => exact ⟨q + 1, by omega, by go_num, HQ, hwq.trans z.aft⟩
                      case measure => simp only [intOf]; omega
              · have e1b : (k == 2) = false := by rw [beq_eq_false_iff_ne]; exact e1
                clear hc
                clear hf
                obtain ⟨o, ho⟩ : ∃ o, onZ (dx, dy) ((ax, ay), (bx, by_)) = o := ⟨_, rfl⟩
                obtain ⟨o2, ho2⟩ : ∃ o, onZ (ax, ay) ((cx, cy), (dx, dy)) = o := ⟨_, rfl⟩
                have HO := hid ho
                have HO2 := hid ho2
                cases o
                case true =>
                  have HQ := hid (HF2.out (by rw [HD2.out, HO.out]; rfl))
                  go_upto_region 14 with fail
                  refine wp_region_lat W2 (Aft.refl _) (by kernel_rfl) (by kernel_rfl) ?_
                  repeat (go_big_quiet_step ((go_at_call 101; exact Calls.lat (on_to (by assumption) _ (by assumption) (by assumption) (by assumption) (by assumption) (by assumption) (by assumption)))))
                  refine wpQuiet_nil ?_
                  intro _ hw'; obtain ⟨z, rfl⟩ := hw'
                  go_wp2
                  go_ret
                  exact ⟨by rw [HQ.out]; rfl, fin z.aft⟩
                case false =>
                  cases o2
                  case true =>
                    have HQ := hid (HF2.out (by rw [HD2.out, HO.out, HO2.out]; rfl))
                    go_upto_region 14 with fail
                    refine wp_region_lat W2 (Aft.refl _) (by kernel_rfl) (by kernel_rfl) ?_
                    repeat (go_big_quiet_step ((go_at_call 101; exact Calls.lat (on_to (by assumption) _ (by assumption) (by assumption) (by assumption) (by assumption) (by assumption) (by assumption)))))
                    refine wpQuiet_nil ?_
                    intro _ hw'; obtain ⟨z, rfl⟩ := hw'
                    go_wp2
                    go_ret
                    exact ⟨by rw [HQ.out]; rfl, fin z.aft⟩
                  case false =>
                    have HQ := hid (HN2.out (by rw [HD2.out, HO.out, HO2.out]; rfl))
                    go_upto_region 14 with fail
                    refine wp_region_lat W2 (Aft.refl _) (by kernel_rfl) (by kernel_rfl) ?_
                    repeat (go_big_quiet_step ((go_at_call 101; exact Calls.lat (on_to (by assumption) _ (by assumption) (by assumption) (by assumption) (by assumption) (by assumption) (by assumption)))))
                    refine wpQuiet_nil ?_
                    intro _ hw'; obtain ⟨z, rfl⟩ := hw'
                    go_wp2
                    go_roundw
                    case rel => exact ⟨q + 1, by omega, by go_num, HQ, hwq.trans z.aft⟩
                    case measure => simp only [intOf]; omega
          · have hf1 : ((q : Int) + 1 == i) = false := by rw [beq_eq_false_iff_ne]; omega
            have hf2 : ¬ ((q : Int) + 1 = i) := by omega
            rcases hcl with hc | hc
            · have HD2 := hid (show touchZ l q i = (onZ (bx, by_) ((cx, cy), (dx, dy)) || onZ (cx, cy) ((ax, ay), (bx, by_))) by rw [HD.out, if_neg hf, if_pos hc])
              obtain ⟨rfl, rfl, hc3⟩ := hc
              have hc4 : ((i : Int) == (m : Int) - 1) = true := by rw [beq_iff_eq]; omega
              simp only [Nat.zero_mul, Nat.zero_add] at q1 q2 q3 q4
              clear hf
              obtain ⟨o, ho⟩ : ∃ o, onZ (bx, by_) ((cx, cy), (dx, dy)) = o := ⟨_, rfl⟩
              obtain ⟨o2, ho2⟩ : ∃ o, onZ (cx, cy) ((ax, ay), (bx, by_)) = o := ⟨_, rfl⟩
              have HO := hid ho
              have HO2 := hid ho2
              cases o
              case true =>
                have HQ := hid (HF2.out (by rw [HD2.out, HO.out]; rfl))
                go_upto_region 17 with fail
                refine wp_region_lat W2 (Aft.refl _) (by kernel_rfl) (by kernel_rfl) ?_
                repeat (go_big_quiet_step ((go_at_call 101; exact Calls.lat (on_to (by assumption) _ (by assumption) (by assumption) (by assumption) (by assumption) (by assumption) (by assumption)))))
                refine wpQuiet_nil ?_
                intro _ hw'; obtain ⟨z, rfl⟩ := hw'
                go_wp2
                go_ret
                exact ⟨by rw [HQ.out]; rfl, fin z.aft⟩
              case false =>
                cases o2
                case true =>
                  have HQ := hid (HF2.out (by rw [HD2.out, HO.out, HO2.out]; rfl))
                  go_upto_region 17 with fail
                  refine wp_region_lat W2 (Aft.refl _) (by kernel_rfl) (by kernel_rfl) ?_
                  repeat (go_big_quiet_step ((go_at_call 101; exact Calls.lat (on_to (by assumption) _ (by assumption) (by assumption) (by assumption) (by assumption) (by assumption) (by assumption)))))
                  refine wpQuiet_nil ?_
                  intro _ hw'; obtain ⟨z, rfl⟩ := hw'
                  go_wp2
                  go_ret
                  exact ⟨by rw [HQ.out]; rfl, fin z.aft⟩
                case false =>
                  have HQ := hid (HN2.out (by rw [HD2.out, HO.out, HO2.out]; rfl))
                  go_upto_region 17 with fail
                  refine wp_region_lat W2 (Aft.refl _) (by kernel_rfl) (by kernel_rfl) ?_
                  repeat (go_big_quiet_step ((go_at_call 101; exact Calls.lat (on_to (by assumption) _ (by assumption) (by assumption) (by assumption) (by assumption) (by assumption) (by assumption)))))
                  refine wpQuiet_nil ?_
                  intro _ hw'; obtain ⟨z, rfl⟩ := hw'
                  go_wp2
                  go_roundw
                  case rel => exact ⟨0 + 1, by omega, by go_num, HQ, hwq.trans z.aft⟩
                  case measure => simp only [intOf]; omega
            · have HD2 := hid (show touchZ l q i = meetZ ((cx, cy), (dx, dy)) ((ax, ay), (bx, by_)) by rw [HD.out, if_neg hf, if_neg hc])
              by_cases e1 : k = 2
              · have e1b : (k == 2) = true := by rw [beq_iff_eq]; exact e1
                subst e1
                by_cases e2 : q = 0
                · have e3 : ¬ (i : Int) = (m : Int) - 1 := fun h => hc ⟨rfl, e2, by omega⟩
                  have e3b : ((i : Int) == (m : Int) - 1) = false := by rw [beq_eq_false_iff_ne]; exact e3
                  have e2b : ((q : Int) == 0) = true := by rw [beq_iff_eq]; omega
                  clear hc e2
                  clear hf
                  obtain ⟨o, ho⟩ : ∃ o, meetZ ((cx, cy), (dx, dy)) ((ax, ay), (bx, by_)) = o := ⟨_, rfl⟩
                  have HO := hid ho
                  cases o
                  case true =>
                    have HQ := hid (HF2.out (by rw [HD2.out, HO.out]))
                    go_upto_region 19 with fail
                    refine wp_region_lat W2 (Aft.refl _) (by kernel_rfl) (by kernel_rfl) ?_
                    repeat (go_big_quiet_step ((go_at_call 75; exact Calls.lat (meet_to (by assumption) _ (by assumption) (by assumption) (by assumption) (by assumption) (by assumption) (by assumption) (by assumption) (by assumption)))))
                    refine wpQuiet_nil ?_
                    intro _ hw'; obtain ⟨z, rfl⟩ := hw'
                    go_wp2
                    go_ret
                    exact ⟨by rw [HQ.out]; rfl, fin z.aft⟩
                  case false =>
                    have HQ := hid (HN2.out (by rw [HD2.out, HO.out]))
                    go_upto_region 19 with fail
                    refine wp_region_lat W2 (Aft.refl _) (by kernel_rfl) (by kernel_rfl) ?_
                    repeat (go_big_quiet_step ((go_at_call 75; exact Calls.lat (meet_to (by assumption) _ (by assumption) (by assumption) (by assumption) (by assumption) (by assumption) (by assumption) (by assumption) (by assumption)))))
                    refine wpQuiet_nil ?_
                    intro _ hw'; obtain ⟨z, rfl⟩ := hw'
                    go_wp2
                    go_roundw
                    case rel => exact ⟨q + 1, by omega, by go_num, HQ, hwq.trans z.aft⟩
                    case measure => simp only [intOf]; omega
                · have e2b : ((q : Int) == 0) = false := by rw [beq_eq_false_iff_ne]; omega
                  have e2c : ¬ ((q : Int) = 0) := by omega
                  clear hc e2
                  clear hf
                  obtain ⟨o, ho⟩ : ∃ o, meetZ ((cx, cy), (dx, dy)) ((ax, ay), (bx, by_)) = o := ⟨_, rfl⟩
                  have HO := hid ho
                  cases o
                  case true =>
                    have HQ := hid (HF2.out (by rw [HD2.out, HO.out]))
                    go_upto_region 19 with fail
                    refine wp_region_lat W2 (Aft.refl _) (by kernel_rfl) (by kernel_rfl) ?_
                    repeat (go_big_quiet_step ((go_at_call 75; exact Calls.lat (meet_to (by assumption) _ (by assumption) (by assumption) (by assumption) (by assumption) (by assumption) (by assumption) (by assumption) (by assumption)))))
                    refine wpQuiet_nil ?_
                    intro _ hw'; obtain ⟨z, rfl⟩ := hw'
                    go_wp2
                    go_ret
                    exact ⟨by rw [HQ.out]; rfl, fin z.aft⟩
                  case false =>
                    have HQ := hid (HN2.out (by rw [HD2.out, HO.out]))
                    go_upto_region 19 with fail
                    refine wp_region_lat W2 (Aft.refl _) (by kernel_rfl) (by kernel_rfl) ?_
                    repeat (go_big_quiet_step ((go_at_call 75; exact Calls.lat (meet_to (by assumption) _ (by assumption) (by assumption) (by assumption) (by assumption) (by assumption) (by assumption) (by assumption) (by assumption)))))
                    refine wpQuiet_nil ?_
                    intro _ hw'; obtain ⟨z, rfl⟩ := hw'
                    go_wp2
                    go_roundw
                    case rel => exact ⟨q + 1, by omega, by go_num, HQ, hwq.trans z.aft⟩
                    case measure => simp only [intOf]; omega
              · have e1b : (k == 2) = false := by rw [beq_eq_false_iff_ne]; exact e1
                clear hc
                clear hf
                obtain ⟨o, ho⟩ : ∃ o, meetZ ((cx, cy), (dx, dy)) ((ax, ay), (bx, by_)) = o := ⟨_, rfl⟩
                have HO := hid ho
                cases o
                case true =>
                  have HQ := hid (HF2.out (by rw [HD2.out, HO.out]))
                  go_upto_region 19 with fail
                  refine wp_region_lat W2 (Aft.refl _) (by kernel_rfl) (by kernel_rfl) ?_
                  repeat (go_big_quiet_step ((go_at_call 75; exact Calls.lat (meet_to (by assumption) _ (by assumption) (by assumption) (by assumption) (by assumption) (by assumption) (by assumption) (by assumption) (by assumption)))))
                  refine wpQuiet_nil ?_
                  intro _ hw'; obtain ⟨z, rfl⟩ := hw'
                  go_wp2
                  go_ret
                  exact ⟨by rw [HQ.out]; rfl, fin z.aft⟩
                case false =>
                  have HQ := hid (HN2.out (by rw [HD2.out, HO.out]))
                  go_upto_region 19 with fail
                  refine wp_region_lat W2 (Aft.refl _) (by kernel_rfl) (by kernel_rfl) ?_
                  repeat (go_big_quiet_step ((go_at_call 75; exact Calls.lat (meet_to (by assumption) _ (by assumption) (by assumption) (by assumption) (by assumption) (by assumption) (by assumption) (by assumption) (by assumption)))))
                  refine wpQuiet_nil ?_
                  intro _ hw'; obtain ⟨z, rfl⟩ := hw'
                  go_wp2
                  go_roundw
                  case rel => exact ⟨q + 1, by omega, by go_num, HQ, hwq.trans z.aft⟩
                  case measure => simp only [intOf]; omega
        · obtain rfl : q = i := by omega
          have HN := hid (show ∀ u, u < q + 1 → ∀ j, j < u → touchZ l j u = false from fun u hu => by
            rcases Nat.lt_or_ge u q with h | h
            · exact hno.out u h
            · obtain rfl : u = q := by omega
              exact hno2.out)
          go_wp2
          go_roundw
          case rel => exact ⟨q + 1, by omega, by go_num, HN, hwq⟩
          case measure => simp only [intOf]; omega
    · obtain rfl : i = m := by omega
      have HQ := hid (HT.out hno.out)
      go_wp2
      go_ret
      exact ⟨by rw [HQ.out]; rfl, hw01.trans hwi⟩
end Go.Proofs.Ytokdclbfjlnnjaa
/- Contracts at shapes with small coordinates; the examples of the section (lives). -/
namespace Go.Proofs.Ytokdclbfjlnnjaa
open Go.RowKit Go.BigFrame

/-- A shape of one to twelve points in one square. -/
structure Sm (ox oy : Int) (k : Int) (l : List Pt) : Prop where
  ne : l ≠ []
  len : l.length ≤ 12
  dot : k = 0 → l.length = 1
  o : (-1000 ≤ ox ∧ ox ≤ 1000) ∧ (-1000 ≤ oy ∧ oy ≤ 1000)
  box : ∀ p ∈ l, (ox ≤ p.1 ∧ p.1 ≤ ox + 60) ∧ (oy ≤ p.2 ∧ p.2 ≤ oy + 60)
theorem Sm.sc {ox oy k : Int} {l : List Pt} (h : Sm ox oy k l) : ScL l := fun p hp => by have := h.box p hp; have := h.o; unfold Sc; omega
theorem Sm.near {ox oy k : Int} {l : List Pt} (h : Sm ox oy k l) (j : Nat) : Near1 ox oy (ptZ l j) := by have := h.box _ (ptZ_mem h.ne j); unfold Near1; omega
theorem Sm.le {ox oy k : Int} {l : List Pt} (h : Sm ox oy k l) : l.length ≤ 1000 := by have := h.len; omega

section
variable {ka kb ox oy ox' oy' : Int} {va vb : Value} {la lb : List Pt}
end

def fvDot (x y : Int) : FV := ⟨fun v W => ∃ vp, v = .agg #[.int .i64 0, vp] ∧ Prs W vp [(x, y)], fun _ _ _ ⟨vp, h1, h2⟩ hw => ⟨vp, h1, h2.aft hw⟩⟩

end Go.Proofs.Ytokdclbfjlnnjaa
/- The shapes of two figures in one row; bounds of distances. -/
namespace Go.Proofs.Ytokdclbfjlnnjaa
open Go.RowKit Go.BigFrame

end Go.Proofs.Ytokdclbfjlnnjaa
/- Plain laws of the plane: orders of generated shapes. -/
namespace Go.Proofs.Ytokdclbfjlnnjaa
open Go.RowKit

theorem left_spec {la lb : List Pt} (ha : la ≠ []) (hb : lb ≠ []) : leftZ la lb = true ↔ (boxZ la).2.1 < (boxZ lb).1.1 := by
  have h1 := List.length_pos_iff.2 ha
  have h2 := List.length_pos_iff.2 hb
  unfold leftZ
  simp [h1, h2]
end Go.Proofs.Ytokdclbfjlnnjaa
/- Single operations of a region that is walked as a flow, over whatever frame: the duties without the frame written out. -/
namespace Go
open Go.RowKit

section
variable {P : Program} {ops : Array Oper} {Vs : List FV} {i : Nat} {d : Tmp} {o : Oper} {b : Act} {W : World}
/-- The duty of an operation, spelt out. -/
def Duty (P : Program) (ops : Array Oper) (Vs : List FV) (i : Nat) (d : Tmp) (o : Oper) (b : Act) (W : World) : Prop :=
  wpList P ops (fun e b' W' => e = .normal ∧ b'.defers = b.defers ∧ flowV Vs i (b'.tmps.getD d undef) W' ∧ Aft W W') [o] b W
/-- It is done: no guard, or the guard says so. -/
def Wants (ops : Array Oper) (b : Act) (o : Oper) : Prop := Region.wanted o (yielded ops b.tmps) = true
end
end Go
/- Operations on rows of shapes, over whatever frame; parts of the program's code by number. -/
namespace Go.Proofs.Ytokdclbfjlnnjaa
open Go.RowKit Go.BigFrame
/-- A loop's body, a region, by the way to it. -/
def firstLoop : Code → Option Code
  | .loop c => some c
  | .seq a b => match firstLoop a with
    | some c => some c
    | none => firstLoop b
  | .block _ c => firstLoop c
  | .scope c => firstLoop c
  | .cond _ a b => match firstLoop a with
    | some c => some c
    | none => firstLoop b
  | _ => none
def findRegion (n : Nat) : Code → Option Code
  | .region k ops d => if k = n then some (.region k ops d) else none
  | .loop c => findRegion n c
  | .seq a b => match findRegion n a with
    | some c => some c
    | none => findRegion n b
  | .block _ c => findRegion n c
  | .scope c => findRegion n c
  | .cond _ a b => match findRegion n a with
    | some c => some c
    | none => findRegion n b
  | _ => none
end Go.Proofs.Ytokdclbfjlnnjaa
