/- The contracts of Take at any number, and of odd: it returns some spans. -/
import Derived.Test.YtokdclbfjlnnjaaS8
import Derived.Test.YtokdclbfjlnnjaaStep
import Derived.Test.YtokdclbfjlnnjaaFlow
import Derived.Deep.DeepCutAuto
namespace Go.Proofs.Ytokdclbfjlnnjaa
open Go.RowKit Go.BigFrame

set_option maxHeartbeats 400000 in
/-- Take of at least all. -/
theorem take_all (v : Value) (l : List Int) (m : Nat) (w : World) (hl : Ints w v l) (hm : l.length < m) :
    Calls Try.prog 23 #[v, .int .i64 m] w fun e w' => ∃ v, e = .returned v ∧ w'.ownsRow w.heap.size 3 1 v l.length (i64s l) ∧ Aft w w' := by
  obtain ⟨a, c, rfl, hl⟩ := hl
  have hn := hl.le
  have hcap := hl.cap
  cases a with
  | none =>
    have := hl.rd.none_nil
    obtain rfl : l = [] := by simpa [i64s] using this
    obtain rfl : c = 0 := hl.nil rfl
    clear this
    have hm' : (0 : Int) < (m : Int) := by simp at hm; omega
    go_enter Try.func23, Try.ntmps23
    go_wp2
    go_ret
    exact ⟨_, rfl, World.ownsRow_nil _ _ _ _, Aft.refl w⟩
  | some ad =>
    rcases Nat.eq_zero_or_pos l.length with h0 | hpos
    · obtain rfl : l = [] := List.length_eq_zero_iff.1 h0
      have hm' : (0 : Int) < (m : Int) := by simp at hm; omega
      go_enter Try.func23, Try.ntmps23
      go_wp2_with (at_builtin; refine wpList_app _ rfl _ _ 22 rfl w.heap.size 3 (.int .i64 0) 1 8 Try.underlying22 Try.info3 rfl (by decide) _ 0 [] rfl (World.ownsRow_nil _ _ _ _) (some ad) 0 c [] rfl (fun h => by cases h) rfl Rd.nil (by simp) (by unfold maxLen; omega) (by omega) (Nat.le_refl _) ?_; intro v' w' h1 h2 _)
      have hw := (Aft.refl w).grown h2 (fun k hk => by cases hk)
      go_wp2
      go_ret
      exact ⟨_, rfl, h1, hw⟩
    · go_enter Try.func23, Try.ntmps23
      go_wp2_with (at_builtin; refine wpList_app _ rfl _ _ 22 rfl w.heap.size 3 (.int .i64 0) 1 8 Try.underlying22 Try.info3 rfl (by decide) _ 0 [] rfl (World.ownsRow_nil _ _ _ _) (some ad) l.length c (i64s l) rfl (fun h => by cases h) (by simp [i64s]) hl.rd (i64s_one _) (by unfold maxLen; omega) (by omega) (Nat.le_refl _) ?_; intro v' w' h1 h2 _)
      have hw := (Aft.refl w).grown h2 (fun k hk => by cases hk)
      go_wp2
      go_ret
      exact ⟨_, rfl, by simpa using h1, hw⟩

/-- Take, whatever the number: some numbers. -/
theorem take_some (v : Value) (l : List Int) (m : Nat) (w : World) (hl : Ints w v l) :
    Calls Try.prog 23 #[v, .int .i64 m] w fun e w' => ∃ v l', e = .returned v ∧ w'.ownsRow w.heap.size 3 1 v l'.length (i64s l') ∧ okI l' ∧ l'.length ≤ m ∧ l'.length ≤ l.length ∧ Aft w w' := by
  obtain ⟨a, c, e0, h⟩ := hl
  rcases Nat.lt_or_ge l.length m with hm | hm
  · exact (take_all v l m w ⟨a, c, e0, h⟩ hm).mono fun e w' ⟨v', h1, h2, h3⟩ => ⟨v', l, h1, h2, h.ok, by omega, by omega, h3⟩
  · exact (take_any v l m w ⟨a, c, e0, h⟩ hm).mono fun e w' ⟨v', h1, h2, h3⟩ => ⟨v', l.take m, h1, by rw [List.length_take, Nat.min_eq_left hm]; exact h2, fun x hx => h.ok x (List.mem_of_mem_take hx), by rw [List.length_take]; omega, by rw [List.length_take]; omega, h3⟩

theorem around_5 (n : Int) : ∃ k : Nat, aroundI n 5 = (k : Int) ∧ k < 5 := by
  have := aroundI_lt n 5 (by omega)
  exact ⟨(aroundI n 5).toNat, by omega, by omega⟩

theorem cell_new (W : World) (cs : Array Value) (e : TypeId) (o : Nat) (v : Value) (h : cs[o]? = some v) : (W.alloc (.cells cs e)).cell? ⟨W.heap.size, o, none⟩ = some v := by
  simp only [World.cell?, heap_alloc_new]
  exact h
theorem frozen_new (W : World) (cs : Array Value) (e : TypeId) (o : Nat) : (W.alloc (.cells cs e)).frozen? ⟨W.heap.size, o, none⟩ = false := by
  simp only [World.frozen?, heap_alloc_new]
  simp
theorem size_new (W : World) (o : Obj) : W.heap.size < (W.alloc o).heap.size := by
  show W.heap.size < (W.heap.push o).size
  rw [Array.size_push]
  omega
theorem ints_new (W : World) (l : List Int) (ok : okI l) (hs : l.length * 8 ≤ 140737488351232) : Ints (W.alloc (.cells (i64s l).toArray 3)) (.slice (some ⟨W.heap.size, 0, none⟩) l.length l.length) l :=
  ⟨_, _, rfl, rfl, Rd.new, ok, Nat.le_refl _, (fun h => by cases h), hs⟩
def fvInts (l : List Int) : FV := ⟨fun v W => Ints W v l, fun _ _ _ h hw => h.aft hw⟩
def fvIdx (n : Nat) : FV := FV.pure fun v => ∃ k : Nat, v = .int .i64 k ∧ k < n
def fvNum (lo hi : Int) : FV := FV.pure fun v => ∃ x : Int, v = .int .i64 x ∧ lo ≤ x ∧ x ≤ hi
def fvPtr (lo hi : Int) : FV := ⟨fun v W => ∃ g o x, v = .pointer (some ⟨g, o, none⟩) ∧ W.cell? ⟨g, o, none⟩ = some (.int .i64 x) ∧ lo ≤ x ∧ x ≤ hi,
  fun _ _ _ ⟨g, o, x, h1, h2, h3⟩ hw => ⟨g, o, x, h1, (by rw [hw.cell (World.block_lt_of_cell? _ _ h2)]; exact h2), h3⟩⟩
def fvPair (lo hi : Int) : FV := FV.pure fun v => ∃ x y : Int, v = .agg #[.int .i64 x, .int .i64 y] ∧ lo ≤ x ∧ x ≤ hi ∧ lo ≤ y ∧ y ≤ hi
def fvNew2 (b : Nat) : FV := ⟨fun v W => ∃ g, v = .pointer (some ⟨g, 0, none⟩) ∧ b ≤ g ∧ g < W.heap.size ∧ W.cell? ⟨g, 0, none⟩ = some (.int .i64 0) ∧ W.cell? ⟨g, 1, none⟩ = some (.int .i64 0) ∧ W.frozen? ⟨g, 0, none⟩ = false ∧ W.frozen? ⟨g, 1, none⟩ = false,
  fun _ _ _ ⟨g, h1, h2, hb, h3, h4, h5, h6⟩ hw => ⟨g, h1, h2, Nat.lt_of_lt_of_le hb hw.size, (by rw [hw.cell hb]; exact h3), (by rw [hw.cell hb]; exact h4), (by rw [hw.frozen hb]; exact h5), (by rw [hw.frozen hb]; exact h6)⟩⟩

theorem ownsRow_some' {w : World} {base size n : Nat} {e : TypeId} {v : Value} {xs : List Value} (h : w.ownsRow base e size v n xs) (hn : 0 < n) : ∃ g cap, v = .slice (some ⟨g, 0, none⟩) n cap := by
  rcases h.2 with ⟨rfl, rfl⟩ | ⟨g, cap, cur, rfl, _⟩
  · omega
  · exact ⟨g, cap, rfl⟩
theorem okP_set {l : List (Int × Int)} (h : okP l) {k : Nat} {x y : Int} (hx : -9223372036854775808 ≤ x ∧ x ≤ 9223372036854775807) (hy : -9223372036854775808 ≤ y ∧ y ≤ 9223372036854775807) : okP (l.set k (x, y)) := fun p hp => by
  rcases List.mem_or_eq_of_mem_set hp with h' | rfl
  · exact h p h'
  · exact ⟨hx, hy⟩
theorem prs_set : ∀ (l : List (Int × Int)) (k : Nat) (x y : Int), ((prs l).set (k * 2) (.int .i64 x)).set (k * 2 + 1) (.int .i64 y) = prs (l.set k (x, y))
  | [], k, x, y => by simp [prs]
  | a :: l, 0, x, y => by simp [prs, pcells]
  | a :: l, k + 1, x, y => by
    have := prs_set l k x y
    have e : (k + 1) * 2 = k * 2 + 2 := by omega
    rw [e]
    simp only [prs, List.flatMap_cons, pcells, List.cons_append, List.nil_append, List.set_cons_succ] at *
    rw [this]

set_option maxRecDepth 100000 in
set_option maxHeartbeats 4000000 in
theorem odd_any (v : Value) (l : List (Int × Int)) (a1 a2 a3 : Int) (w : World) (hl : Prs w v l) (hlen : l.length ≤ 10)
    (b1 : -9223372036854775808 ≤ a1 ∧ a1 ≤ 9223372036854775807) (b2 : -9223372036854775808 ≤ a2 ∧ a2 ≤ 9223372036854775807) (b3 : -9223372036854775808 ≤ a3 ∧ a3 ≤ 9223372036854775807) :
    Calls Try.prog 17 #[v, .int .i64 a1, .int .i64 a2, .int .i64 a3] w fun e w' => ∃ v L, e = .returned v ∧ Prs w' v L ∧ L.length ≤ 11 ∧ Aft w w' := by
  obtain ⟨p1, p2⟩ := b1
  obtain ⟨p3, p4⟩ := b2
  obtain ⟨p5, p6⟩ := b3
  obtain ⟨a, c, rfl, hl⟩ := hl
  have hn := hl.le
  have hcap := hl.cap
  have hnilc := hl.nil
  have hown0 : (w.alloc (.cells #[] 41)).ownsRow w.heap.size 41 2 (.slice (some ⟨w.heap.size, 0, none⟩) 0 0) 0 [] := World.ownsRow_made w #[] 0 (Nat.le_refl _) (by unfold maxLen; omega) (by simp)
  have hrd := hl.rd.aft ((Aft.refl w).alloc (.cells #[] 41))
  have hpl := prs_length l
  go_enter Try.func17, Try.ntmps17
  go_wp2_with (at_builtin; refine wpList_app _ rfl _ _ 23 rfl w.heap.size 41 (.agg #[.int .i64 0, .int .i64 0]) 2 16 Try.underlying23 Try.info41 rfl (by decide) _ 0 [] rfl hown0 a l.length c (prs l) rfl hnilc hpl hrd (prs_one _) (by unfold maxLen; omega) (by omega) (by simp) ?_; intro v1 w1 hown1 hgrow1 _)
  have hw1 := ((Aft.refl w).alloc _).grown hgrow1 (fun k hk => by cases hk; exact Nat.le_refl _)
  have hin : l.length = 0 ∨ 0 < l.length := by omega
  go_upto_region 2 with fail
  go_cut [10] (fun s10 wx => ∃ (g : Nat) (x y : Int), s10 = .pointer (some ⟨g, 0, none⟩) ∧ w1.heap.size ≤ g ∧ wx.cell? ⟨g, 0, none⟩ = some (.int .i64 x) ∧ wx.cell? ⟨g, 1, none⟩ = some (.int .i64 y) ∧ -1 ≤ x ∧ x ≤ 1001 ∧ -1 ≤ y ∧ y ≤ 1001 ∧ Aft w1 wx)
  case first =>
    refine wp_region_flow w1 (Aft.refl w1) [fvInts [-1, 0, 1000, 1001, 5], FV.is (.int .i64 a2), fvIdx 5, fvPtr (-1) 1001, fvNum (-1) 1001, fvInts [-1, 4, 1000, 1001, 70], FV.is (.int .i64 a3), fvIdx 5, fvPtr (-1) 1001, fvNum (-1) 1001, fvPair (-1) 1001, fvNew2 w1.heap.size]
      [(0, 14), (1, 15), (2, 16), (3, 17), (4, 18), (5, 19), (6, 20), (7, 21), (8, 22), (9, 23), (10, 24), (11, 10)]
      [[], [], [(1, 15)], [(0, 14), (2, 16)], [(3, 17)], [], [], [(6, 20)], [(5, 19), (7, 21)], [(8, 22)], [(4, 18), (9, 23)], []] (by kernel_rfl) (by kernel_rfl) ?_ ?_
    · refine flowObs_cons (fun W hW => flowOb_nil ?_) ?_
      · go_wp2
        exact ⟨ints_new W [-1, 0, 1000, 1001, 5] (by intro x hx; simp at hx; omega) (by decide), (Aft.refl W).alloc _⟩
      refine flowObs_cons (fun W hW => flowOb_nil ?_) ?_
      · go_wp2
        exact ⟨rfl, Aft.refl W⟩
      refine flowObs_cons (fun W hW => flowOb_cons fun v h => flowOb_nil ?_) ?_
      · obtain rfl := h
        obtain ⟨k, hk, hk5⟩ := around_5 a2
        go_wp2_with (go_at_call 18; refine (around_any _ _ _ p3 p4).mono ?_; rintro e w' ⟨rfl, rfl⟩)
        exact ⟨⟨k, rfl, hk5⟩, Aft.refl W⟩
      refine flowObs_cons (fun W hW => flowOb_cons fun v h => flowOb_cons fun v' h' => flowOb_nil ?_) ?_
      · obtain ⟨a, c, rfl, h⟩ := h
        obtain ⟨k, rfl, hk5⟩ := h'
        obtain ⟨b, off, x, rfl, hc, hb, hx, _, _⟩ := h.rd.int h.ok (i := k) hk5
        have hk5' : ((k : Int) < 5) := by omega
        go_wp2
        have hm := List.mem_of_getElem? hx.out
        exact ⟨⟨b, off + k, x, rfl, hc, by simp at hm; omega, by simp at hm; omega⟩, Aft.refl W⟩
      refine flowObs_cons (fun W hW => flowOb_cons fun v h => flowOb_nil ?_) ?_
      · obtain ⟨b, off, x, rfl, hc, h1, h2⟩ := h
        go_wp2
        exact ⟨⟨x, rfl, h1, h2⟩, Aft.refl W⟩
      refine flowObs_cons (fun W hW => flowOb_nil ?_) ?_
      · go_wp2
        exact ⟨ints_new W [-1, 4, 1000, 1001, 70] (by intro x hx; simp at hx; omega) (by decide), (Aft.refl W).alloc _⟩
      refine flowObs_cons (fun W hW => flowOb_nil ?_) ?_
      · go_wp2
        exact ⟨rfl, Aft.refl W⟩
      refine flowObs_cons (fun W hW => flowOb_cons fun v h => flowOb_nil ?_) ?_
      · obtain rfl := h
        obtain ⟨k, hk, hk5⟩ := around_5 a3
        go_wp2_with (go_at_call 18; refine (around_any _ _ _ p5 p6).mono ?_; rintro e w' ⟨rfl, rfl⟩)
        exact ⟨⟨k, rfl, hk5⟩, Aft.refl W⟩
      refine flowObs_cons (fun W hW => flowOb_cons fun v h => flowOb_cons fun v' h' => flowOb_nil ?_) ?_
      · obtain ⟨a, c, rfl, h⟩ := h
        obtain ⟨k, rfl, hk5⟩ := h'
        obtain ⟨b, off, x, rfl, hc, hb, hx, _, _⟩ := h.rd.int h.ok (i := k) hk5
        have hk5' : ((k : Int) < 5) := by omega
        go_wp2
        have hm := List.mem_of_getElem? hx.out
        exact ⟨⟨b, off + k, x, rfl, hc, by simp at hm; omega, by simp at hm; omega⟩, Aft.refl W⟩
      refine flowObs_cons (fun W hW => flowOb_cons fun v h => flowOb_nil ?_) ?_
      · obtain ⟨b, off, x, rfl, hc, h1, h2⟩ := h
        go_wp2
        exact ⟨⟨x, rfl, h1, h2⟩, Aft.refl W⟩
      refine flowObs_cons (fun W hW => flowOb_cons fun v h => flowOb_cons fun v' h' => flowOb_nil ?_) ?_
      · obtain ⟨x, rfl, h1, h2⟩ := h
        obtain ⟨y, rfl, h3, h4⟩ := h'
        go_wp2
        exact ⟨⟨x, y, rfl, h1, h2, h3, h4⟩, Aft.refl W⟩
      refine flowObs_cons (fun W hW => flowOb_nil ?_) flowObs_nil
      · go_wp2
        exact ⟨⟨W.heap.size, rfl, hW.size, size_new W _, cell_new W _ _ 0 _ rfl, cell_new W _ _ 1 _ rfl, frozen_new W _ _ 0, frozen_new W _ _ 1⟩, (Aft.refl W).alloc _⟩
    · intro W hW
      iterate 10 refine flowEnd_cons fun _ _ => ?_
      refine flowEnd_cons fun v h => flowEnd_cons fun v' h' => flowEnd_nil ?_
      obtain ⟨x, y, rfl, h1, h2, h3, h4⟩ := h
      obtain ⟨g, rfl, hg, hb, hc0, hc1, hf0, hf1⟩ := h'
      go_wp2
      go_meet
      exact ⟨g, x, y, rfl, hg, by simp [go_sem, hc0, hc1], by simp [go_sem, hc0, hc1], h1, h2, h3, h4, (hW.setCell hg _).setCell hg _⟩
  case rest =>
    obtain ⟨g, x, y, rfl, hg, hc0, hc1, h1, h2, h3, h4, hwx⟩ := hcut
    have hown2 : wc.ownsRow w.heap.size 41 2 v1 l.length (prs l) := by simpa using ownsRow_aft hown1 hwx
    clear hown1 hown0
    have hwc := hw1.trans hwx
    have okx : okP [(x, y)] := by intro p hp; simp at hp; subst hp; exact ⟨by simp; omega, by simp; omega⟩
    rcases hin with h0 | h0
    · obtain rfl : l = [] := List.length_eq_zero_iff.1 h0
      obtain ⟨a5, c5, rfl, _⟩ := ownsRow_rd hown2
      go_wp2_with (at_builtin; refine wpList_app _ rfl (.tmp 28) (.tmp 30) 23 rfl w.heap.size 41 (.agg #[.int .i64 0, .int .i64 0]) 2 16 Try.underlying23 Try.info41 rfl (by decide) _ 0 [] rfl (hown2.alloc _) (some ⟨wc.heap.size, 0, none⟩) 1 1 (prs [(x, y)]) rfl (fun h => by cases h) rfl Rd.new (prs_one _) (by unfold maxLen; omega) (by omega) (by have := hwc.size; simp; omega) ?_; intro v' w' hown' hgrow' _)
      have hw' := (hwc.alloc _).grown hgrow' (fun k hk => (hown2.lt k hk).1)
      go_wp2
      go_ret
      exact ⟨_, [(x, y)], rfl, ownsRow_prs hown' okx (by simp), by simp, hw'⟩
    · obtain ⟨g1, cap1, rfl⟩ := ownsRow_some' hown2 (by omega)
      have H0 := hid h0
      have hm := aroundI_lt a1 l.length (by omega)
      obtain ⟨k, hk, hkl⟩ : ∃ k : Nat, aroundI a1 l.length = (k : Int) ∧ k < l.length := ⟨(aroundI a1 l.length).toNat, by omega, by omega⟩
      have HK := hid hk
      clear hk hm
      have hz : decide ((l.length : Int) = 0) = false := decide_eq_false (by omega)
      go_upto_region 5 with fail
      refine wp_region_flow wc (Aft.refl wc) [FV.is (.slice (some ⟨g1, 0, none⟩) l.length cap1), FV.is (.int .i64 a1), FV.is (.slice (some ⟨g1, 0, none⟩) l.length cap1), FV.is (.int .i64 l.length), FV.is (.int .i64 k), FV.is (.agg #[.int .i64 x, .int .i64 y]), FV.is (.pointer (some ⟨g1, k * 2, none⟩))]
        [(0, 32), (1, 33), (2, 34), (3, 35), (4, 36), (5, 37), (6, 38)]
        [[], [], [], [(2, 34)], [(1, 33), (3, 35)], [], [(0, 32), (4, 36)]] (by kernel_rfl) (by kernel_rfl) ?_ ?_
      · refine flowObs_cons (fun W hW => flowOb_nil ?_) ?_
        · go_wp2
          exact ⟨rfl, Aft.refl W⟩
        refine flowObs_cons (fun W hW => flowOb_nil ?_) ?_
        · go_wp2
          exact ⟨rfl, Aft.refl W⟩
        refine flowObs_cons (fun W hW => flowOb_nil ?_) ?_
        · go_wp2
          exact ⟨rfl, Aft.refl W⟩
        refine flowObs_cons (fun W hW => flowOb_cons fun v h => flowOb_nil ?_) ?_
        · obtain rfl := h
          go_wp2
          exact ⟨rfl, Aft.refl W⟩
        refine flowObs_cons (fun W hW => flowOb_cons fun v h => flowOb_cons fun v' h' => flowOb_nil ?_) ?_
        · obtain rfl := h
          obtain rfl := h'
          go_wp2_with (go_at_call 18; refine (around_any _ _ _ p1 p2).mono ?_; rintro e w' ⟨rfl, rfl⟩)
          exact ⟨congrArg (Value.int .i64) HK.out, Aft.refl W⟩
        refine flowObs_cons (fun W hW => flowOb_nil ?_) ?_
        · have e0 := (hW.cell (o := 0) (World.block_lt_of_cell? _ _ hc0)).trans hc0
          have e1 := (hW.cell (o := 1) (World.block_lt_of_cell? _ _ hc0)).trans hc1
          go_wp2
          exact ⟨rfl, Aft.refl W⟩
        refine flowObs_cons (fun W hW => flowOb_cons fun v h => flowOb_cons fun v' h' => flowOb_nil ?_) flowObs_nil
        · obtain rfl := h
          obtain rfl := h'
          have hkl' : (k : Int) < l.length := by omega
          go_wp2
          exact ⟨rfl, Aft.refl W⟩
      · intro W hW
        iterate 5 refine flowEnd_cons fun _ _ => ?_
        refine flowEnd_cons fun v h => flowEnd_cons fun v' h' => flowEnd_nil ?_
        obtain rfl := h
        obtain rfl := h'
        have hown3 := ownsRow_aft hown2 hW
        have hlt := hown3.lt g1 rfl
        have hf0 := hown3.frozenAt (k * 2)
        have hf1 := hown3.frozenAt (k * 2 + 1)
        obtain ⟨s1, gr1⟩ := hown3.stored (k * 2) (.int .i64 x)
        obtain ⟨s2, gr2⟩ := s1.stored (k * 2 + 1) (.int .i64 y)
        rw [prs_set] at s2
        have hwW := hwc.trans hW
        have hfin := (hwW.setCell (p := ⟨g1, k * 2, none⟩) hlt.1 (.int .i64 x)).setCell (p := ⟨g1, k * 2 + 1, none⟩) hlt.1 (.int .i64 y)
        obtain ⟨x0, y0, q0, q1, _⟩ := Rd.pair_at (w := W) (b := g1) (off := 0) (l := l) (i := k) (by intro j u hj; exact ⟨_, rfl, hown3.cells rfl j u hj⟩) hl.ok hkl
        rw [Nat.zero_add] at q0 q1
        go_wp2
        go_ret
        exact ⟨_, rfl, l.set k (x, y), ownsRow_prs (by simpa using s2) (okP_set hl.ok (by omega) (by omega)) (by simp; omega), by simp; omega, hfin⟩
end Go.Proofs.Ytokdclbfjlnnjaa
