/- The plane: distances, boxes, lengths; plain laws. Conditions are in the theorems. -/
import Derived.Test.YtokdclbfjlnnjaaA2
import Derived.Deep.RegionHeld3
/- The program's Near. -/
namespace Go.Proofs.Ytokdclbfjlnnjaa
open Go.RowKit Go.BigFrame

def better (st : Option (Int × Int)) (f : Int × Int) : Option (Int × Int) := match st with
  | none => some f
  | some (n, d) => if f.1 * d < n * f.2 then some f else some (n, d)
def pairFar (s t : Pt × Pt) (st : Option (Int × Int)) : Option (Int × Int) := better (better (better (better st (farZ s.1 t)) (farZ s.2 t)) (farZ t.1 s)) (farZ t.2 s)
/-- Over the first j segments of b, with the segment s. -/
def rowFar (s : Pt × Pt) (lb : List Pt) : Nat → Option (Int × Int) → Option (Int × Int)
  | 0, st => st
  | j + 1, st => pairFar s (sgZ lb j) (rowFar s lb j st)
def allFar (la lb : List Pt) (m' : Nat) : Nat → Option (Int × Int)
  | 0 => none
  | i + 1 => rowFar (sgZ la i) lb m' (allFar la lb m' i)
def meets (la lb : List Pt) (m m' : Nat) : Bool := (List.range m).any fun i => (List.range m').any fun j => meetZ (sgZ la i) (sgZ lb j)
def fracZ (st : Option (Int × Int)) : Int × Int := match st with
  | none => (0, 1)
  | some (n, d) => if n ≤ 0 then (0, 1) else (n / (Nat.gcd d.toNat n.toNat : Nat), d / (Nat.gcd d.toNat n.toNat : Nat))
def nearZ (ka : Int) (la : List Pt) (kb : Int) (lb : List Pt) : Int × Int := if meets la lb (nPart ka la) (nPart kb lb) then (0, 1) else fracZ (allFar la lb (nPart kb lb) (nPart ka la))

/-- A fraction as it comes: a square, a size. -/
def Frac (f : Int × Int) : Prop := 0 ≤ f.1 ∧ f.1 ≤ 400000000 ∧ 1 ≤ f.2 ∧ f.2 ≤ 20000
def FracO (st : Option (Int × Int)) : Prop := ∀ f, st = some f → Frac f
/-- The coordinates lie in one square. -/
def Near1 (ox oy : Int) (p : Pt) : Prop := (ox ≤ p.1 ∧ p.1 ≤ ox + 100) ∧ (oy ≤ p.2 ∧ p.2 ≤ oy + 100)

/-- What the program keeps of it: the number, the denominator. -/
def encN : Option (Int × Int) → Int
  | none => -1
  | some f => f.1
def encD : Option (Int × Int) → Int
  | none => 1
  | some f => f.2

def Pair (W : World) (n6 n7 : Nat) (st : Option (Int × Int)) : Prop := W.cell? ⟨n6, 0, none⟩ = some (.int .i64 (encN st)) ∧ W.cell? ⟨n7, 0, none⟩ = some (.int .i64 (encD st)) ∧ W.frozen? ⟨n6, 0, none⟩ = false ∧ W.frozen? ⟨n7, 0, none⟩ = false

end Go.Proofs.Ytokdclbfjlnnjaa
/- The program's Near: the walk. -/
namespace Go.Proofs.Ytokdclbfjlnnjaa
open Go.RowKit Go.BigFrame

theorem ptZ_mem {l : List Pt} (h : l ≠ []) (i : Nat) : ptZ l i ∈ l := by
  have hl : 0 < l.length := List.length_pos_iff.2 h
  have hh := Nat.mod_lt i hl
  unfold ptZ
  rw [List.getD_eq_getElem?_getD, List.getElem?_eq_getElem hh]
  exact List.getElem_mem hh
theorem ownsRow_kx {X : Nat → Prop} {A B : World} {base : Nat} {e : TypeId} {size n : Nat} {v : Value} {xs : List Value} (h : A.ownsRow base e size v n xs) (hk : Kx X A B) (hX : ∀ j, X j → j < base) : B.ownsRow base e size v n xs := by
  refine ⟨h.1, h.2.imp id ?_⟩
  rintro ⟨g, cap, cur, h1, h2, h3, h4⟩
  exact ⟨g, cap, cur, h1, h2, (hk.block g (Array.getElem?_eq_some_iff.1 h3).1 (fun hx => by have := hX g hx; omega)).trans h3, h4⟩
theorem kx_aft {X : Nat → Prop} {w A B : World} (h : Aft w A) (hX : ∀ j, X j → w.heap.size ≤ j) (hk : Kx X A B) : Aft w B :=
  ⟨hk.os.trans h.os, hk.tape.trans h.tape, hk.output.trans h.output, Nat.le_trans h.size hk.size, fun j hj => (hk.block j (by have := h.size; omega) (fun hx => by have := hX j hx; omega)).trans (h.block j hj)⟩
theorem seg_cells {W : World} {base : Nat} {v : Value} {l : List Pt} {m : Nat} (h : W.ownsRow base 112 4 v m (segC l m)) {i : Nat} (hi : i < m) :
    ∃ g cap, v = .slice (some ⟨g, 0, none⟩) m cap ∧ W.cell? ⟨g, i * 4, none⟩ = some (.int .i64 (sgZ l i).1.1) ∧ W.cell? ⟨g, i * 4 + 1, none⟩ = some (.int .i64 (sgZ l i).1.2) ∧ W.cell? ⟨g, i * 4 + 2, none⟩ = some (.int .i64 (sgZ l i).2.1) ∧ W.cell? ⟨g, i * 4 + 3, none⟩ = some (.int .i64 (sgZ l i).2.2) := by
  obtain ⟨g, cap, rfl⟩ := ownsRow_some' h (by omega)
  refine ⟨g, cap, rfl, ?_, ?_, ?_, ?_⟩
  all_goals refine (fun j u hj => by
    have := h.cells rfl j u hj
    by_cases h0 : j = 0
    · subst h0; simpa [Addr.add] using this
    · simpa [Addr.add, h0] using this : ∀ j u, (segC l m)[j]? = some u → W.cell? ⟨g, j, none⟩ = some u) _ _ ?_
  · have := segC_get l m i hi 0 (by omega); rw [Nat.add_zero] at this; exact this
  · exact segC_get l m i hi 1 (by omega)
  · exact segC_get l m i hi 2 (by omega)
  · exact segC_get l m i hi 3 (by omega)

end Go.Proofs.Ytokdclbfjlnnjaa
/- The program's Box, Left, Longer. -/
namespace Go.Proofs.Ytokdclbfjlnnjaa
open Go.RowKit Go.BigFrame

theorem results_pts {fn : Func} {p q : Tmp} (h : fn.results = #[.cell p 57, .cell q 57]) (tmps : Array Value) (w : World) (b b' : Nat) (x y x' y' : Int) (hp : tmps.getD p undef = .pointer (some ⟨b, 0, none⟩)) (hq : tmps.getD q undef = .pointer (some ⟨b', 0, none⟩)) (hc : B2 w b x y) (hc' : B2 w b' x' y') :
    (results fn tmps).run Try.prog w = .ok (.tuple #[.agg #[.int .i64 x, .int .i64 y], .agg #[.int .i64 x', .int .i64 y']]) w := by
  have hp' : tmps[p]?.getD undef = .pointer (some ⟨b, 0, none⟩) := by simpa using hp
  have hq' : tmps[q]?.getD undef = .pointer (some ⟨b', 0, none⟩) := by simpa using hq
  obtain ⟨h1, h2⟩ := hc
  obtain ⟨h3, h4⟩ := hc'
  simp only [Go.results, h]
  simp [hp', hq', asAddr, go_sem, h1, h2, h3, h4]
def loF (l : List Pt) : Nat → Pt
  | 0 => ptZ l 0
  | r + 1 => (min (loF l r).1 (ptZ l r).1, min (loF l r).2 (ptZ l r).2)
def hiF (l : List Pt) : Nat → Pt
  | 0 => ptZ l 0
  | r + 1 => (max (hiF l r).1 (ptZ l r).1, max (hiF l r).2 (ptZ l r).2)
def boxZ (l : List Pt) : Pt × Pt := if l = [] then ((0, 0), (0, 0)) else (loF l l.length, hiF l l.length)

theorem two_fresh (W1 : World) (x y : Int) : B2 (((W1.alloc (.cells #[.int .i64 x, .int .i64 y] 57)).alloc (.cells #[.int .i64 x, .int .i64 y] 57)).drew) W1.heap.size x y ∧ B2 (((W1.alloc (.cells #[.int .i64 x, .int .i64 y] 57)).alloc (.cells #[.int .i64 x, .int .i64 y] 57)).drew) (W1.heap.size + 1) x y ∧
    ((((W1.alloc (.cells #[.int .i64 x, .int .i64 y] 57)).alloc (.cells #[.int .i64 x, .int .i64 y] 57)).drew).frozen? ⟨W1.heap.size, 0, none⟩ = false ∧ (((W1.alloc (.cells #[.int .i64 x, .int .i64 y] 57)).alloc (.cells #[.int .i64 x, .int .i64 y] 57)).drew).frozen? ⟨W1.heap.size, 1, none⟩ = false) ∧
    ((((W1.alloc (.cells #[.int .i64 x, .int .i64 y] 57)).alloc (.cells #[.int .i64 x, .int .i64 y] 57)).drew).frozen? ⟨W1.heap.size + 1, 0, none⟩ = false ∧ (((W1.alloc (.cells #[.int .i64 x, .int .i64 y] 57)).alloc (.cells #[.int .i64 x, .int .i64 y] 57)).drew).frozen? ⟨W1.heap.size + 1, 1, none⟩ = false) ∧
    Aft W1 (((W1.alloc (.cells #[.int .i64 x, .int .i64 y] 57)).alloc (.cells #[.int .i64 x, .int .i64 y] 57)).drew) := by
  have h := box_cells W1 #[.int .i64 x, .int .i64 y] #[.int .i64 x, .int .i64 y] 57 57 _ (Aft.refl _).drew
  have f1 := fun o => ((Aft.refl (W1.alloc (.cells #[.int .i64 x, .int .i64 y] 57))).alloc (.cells #[.int .i64 x, .int .i64 y] 57)).frozen (b := W1.heap.size) (o := o) (by simp)
  have f2 := fun o => frozen_new W1 #[.int .i64 x, .int .i64 y] 57 o
  have f3 := fun o => frozen_new (W1.alloc (.cells #[.int .i64 x, .int .i64 y] 57)) #[.int .i64 x, .int .i64 y] 57 o
  simp only [World.size_alloc] at f3
  exact ⟨⟨h.1 0 _ rfl, h.1 1 _ rfl⟩, ⟨h.2 0 _ rfl, h.2 1 _ rfl⟩, ⟨(f1 0).trans (f2 0), (f1 1).trans (f2 1)⟩, ⟨f3 0, f3 1⟩, (((Aft.refl W1).alloc _).alloc _).drew⟩
theorem held_store {W : World} {g n o : Nat} {v : Value} (h : W.cell? ⟨g, o, none⟩ = some v) (hne : n ≠ g) (u u' : Value) : ((W.setCell ⟨n, 0, none⟩ u).setCell ⟨n, 1, none⟩ u').drew.cell? ⟨g, o, none⟩ = some v :=
  (World.cell?_of_block (a := ⟨g, o, none⟩) ((Below.heap_setCell _ ⟨n, 1, none⟩ _ g (fun e => hne e.symm)).trans (Below.heap_setCell _ ⟨n, 0, none⟩ _ g (fun e => hne e.symm)))).trans h
theorem held_store2 {W : World} {g n m o : Nat} {v : Value} (h : W.cell? ⟨g, o, none⟩ = some v) (hne : n ≠ g) (hne' : m ≠ g) (u u' t t' : Value) : ((((W.setCell ⟨n, 0, none⟩ u).setCell ⟨n, 1, none⟩ u').setCell ⟨m, 0, none⟩ t).setCell ⟨m, 1, none⟩ t').drew.cell? ⟨g, o, none⟩ = some v :=
  held_store (held_store h hne u u' : (((W.setCell ⟨n, 0, none⟩ u).setCell ⟨n, 1, none⟩ u').cell? ⟨g, o, none⟩ = some v)) hne' t t'
theorem put2 {W : World} {b : Nat} {x0 y0 : Int} (h : B2 W b x0 y0) (x y : Int) :
    B2 ((W.setCell ⟨b, 0, none⟩ (.int .i64 x)).setCell ⟨b, 1, none⟩ (.int .i64 y)) b x y ∧ Kx (fun j => j = b) W ((W.setCell ⟨b, 0, none⟩ (.int .i64 x)).setCell ⟨b, 1, none⟩ (.int .i64 y)) := by
  refine ⟨⟨?_, World.cell?_setCell_same' _ _ _ (by rw [World.cell?_setCell_other _ _ _ _ (by simp), h.2]; rfl)⟩, Kx.trans (X := fun j => j = b) (Kx.setCell (p := ⟨b, 0, none⟩) _ rfl) (Kx.setCell (p := ⟨b, 1, none⟩) _ rfl)⟩
  rw [World.cell?_setCell_other _ _ _ _ (by simp)]
  exact World.cell?_setCell_same' _ _ _ (by rw [h.1]; rfl)
theorem B2.kx {X : Nat → Prop} {A B : World} {b : Nat} {x y : Int} (h : B2 A b x y) (hk : Kx X A B) (hb : ¬ X b) : B2 B b x y :=
  ⟨(hk.cell (World.block_lt_of_cell? _ _ h.1) hb).trans h.1, (hk.cell (World.block_lt_of_cell? _ _ h.2) hb).trans h.2⟩

set_option maxRecDepth 100000 in
set_option maxHeartbeats 4000000 in
theorem box_any (k : Int) (vp : Value) (l : List Pt) (w : World) (hl : Prs w vp l) :
    Calls Try.prog 33 #[.agg #[.int .i64 k, vp]] w fun e w' => e = .returned (.tuple #[pr (boxZ l).1, pr (boxZ l).2]) ∧ Aft w w' := by
  have hP := hl
  obtain ⟨a, c, rfl, hl⟩ := hl
  have hn := hl.le
  obtain ⟨W0, eW0, hw0, hlt, hbox⟩ := two_boxes w #[.int .i64 k, .slice a l.length c] #[.int .i64 0, .int .i64 0] 51 57
  obtain ⟨W1, eW1, hw1, hlt1, hbox1⟩ := one_box W0 #[.int .i64 0, .int .i64 0] 57
  have hfz : W1.frozen? ⟨w.heap.size + 1, 0, none⟩ = false ∧ W1.frozen? ⟨w.heap.size + 1, 1, none⟩ = false ∧ W1.frozen? ⟨W0.heap.size, 0, none⟩ = false ∧ W1.frozen? ⟨W0.heap.size, 1, none⟩ = false := by
    refine ⟨?_, ?_, eW1 ▸ frozen_new _ _ _ _, eW1 ▸ frozen_new _ _ _ _⟩
    · rw [hw1.frozen (by omega), ← eW0]
      simp
    · rw [hw1.frozen (by omega), ← eW0]
      simp
  go_enter Try.func33, Try.ntmps33
  go_upto_region 1 with fail
  clear eW0 eW1
  have hF : Hid (∀ W, Aft W0 W → W.cell? ⟨w.heap.size, 0, none⟩ = some (.int .i64 k) ∧ W.cell? ⟨w.heap.size, 1, none⟩ = some (.slice a l.length c)) := hid fun W hW => ⟨(hbox.out W hW).1 0 _ rfl, (hbox.out W hW).1 1 _ rfl⟩
  have hB2 : B2 W1 (w.heap.size + 1) 0 0 := ⟨(hbox.out W1 hw1).2 0 _ rfl, (hbox.out W1 hw1).2 1 _ rfl⟩
  have hB3 : B2 W1 W0.heap.size 0 0 := ⟨hbox1.out W1 (Aft.refl _) 0 _ rfl, hbox1.out W1 (Aft.refl _) 1 _ rfl⟩
  clear hbox hbox1
  have hz0 := hw0.size
  have hz1 := hw1.size
  have hw01 := hw0.trans hw1
  obtain ⟨p1, p2⟩ := hF.out W1 hw1
  generalize hn0 : w.heap.size = n0 at *
  generalize hn3 : W0.heap.size = n3 at *
  obtain ⟨f1, f2, f3, f4⟩ := hfz
  obtain ⟨d1, d2⟩ := hB2
  obtain ⟨d3, d4⟩ := hB3
  by_cases hl0 : l = []
  · subst hl0
    have P2 := put2 (W := W1) (b := n0 + 1) ⟨d1, d2⟩ 0 0
    have P3 := put2 (b := n3) (B2.kx ⟨d3, d4⟩ P2.2 (by omega)) 0 0
    have HE := hid (kx_aft (X := fun j => j = n0 + 1 ∨ j = n3) hw01 (fun j hj => by rcases hj with rfl | rfl <;> omega) ((P2.2.sub fun j h => .inl h).trans (P3.2.sub fun j h => .inr h)))
    have HA := hid (B2.kx P2.1 P3.2 (by omega))
    have HB := hid P3.1
    clear P2 P3
    go_wp2
    refine bodyPost_ret (results_pts rfl _ _ (n0 + 1) n3 0 0 0 0 rfl rfl HA.out HB.out) rfl ?_
    exact ⟨rfl, HE.out⟩
  · have hpos : 0 < l.length := List.length_pos_iff.2 hl0
    have hpi : (0 : Int) < l.length := by omega
    have hb0 : ((l.length : Int) == 0) = false := by simp; exact hl0
    have hlr := hl.aft hw01
    obtain ⟨b, off, x, y, rfl, c1, c2, hb, hx, _⟩ := hlr.rd.pair hlr.ok (show 0 < l.length by omega)
    rw [Nat.zero_mul, Nat.add_zero] at c1 c2
    go_upto_region 3 with fail
    go_cut [4, 5] (fun s4 s5 wx => ∃ g4 g5 : Nat, s4 = .pointer (some ⟨g4, 0, none⟩) ∧ s5 = .pointer (some ⟨g5, 0, none⟩) ∧ g4 ≠ g5 ∧ W1.heap.size ≤ g4 ∧ W1.heap.size ≤ g5 ∧ B2 wx g4 x y ∧ B2 wx g5 x y ∧ (wx.frozen? ⟨g4, 0, none⟩ = false ∧ wx.frozen? ⟨g4, 1, none⟩ = false) ∧ (wx.frozen? ⟨g5, 0, none⟩ = false ∧ wx.frozen? ⟨g5, 1, none⟩ = false) ∧ Aft W1 wx)
    case first =>
      go_region_held3 (fun W => W.cell? ⟨n0, 1, none⟩ = some (.slice (some ⟨b, off, none⟩) l.length c) ∧ W.cell? ⟨b, off, none⟩ = some (.int .i64 x) ∧ W.cell? ⟨b, off + 1, none⟩ = some (.int .i64 y))
        (go_keep)
        (fail)
      all_goals go_wp2
      all_goals go_meet
      · have hh := two_fresh W1 x y
        exact ⟨W1.heap.size, W1.heap.size + 1, rfl, rfl, by omega, by omega, by omega, hh⟩
      · obtain ⟨h1, h2, h3, h4, h5⟩ := two_fresh W1 x y
        exact ⟨W1.heap.size + 1, W1.heap.size, rfl, rfl, by omega, by omega, by omega, h2, h1, h4, h3, h5⟩
    case rest =>
      obtain ⟨g4, g5, rfl, rfl, hne, hg4, hg5, hb4, hb5, hf4, hf5, hwx⟩ := hcut
      have hw1x := hw01.trans hwx
      have hzx := hwx.size
      have hlx := hl.aft hw1x
      have hgB4 := World.block_lt_of_cell? _ _ hb4.1
      have hgB5 := World.block_lt_of_cell? _ _ hb5.1
      have e0 : ptZ l 0 = (x, y) := ptZ_get hx.out
      have hinit4 : B2 wc g4 (loF l 0).1 (loF l 0).2 := by rw [show loF l 0 = (x, y) from e0]; exact hb4
      have hinit5 : B2 wc g5 (hiF l 0).1 (hiF l 0).2 := by rw [show hiF l 0 = (x, y) from e0]; exact hb5
      clear hb4 hb5 e0
      have p1x := (hwx.cell (World.block_lt_of_cell? _ _ p1)).trans p1
      have p2x := (hwx.cell (World.block_lt_of_cell? _ _ p2)).trans p2
      have d1x := (hwx.cell (World.block_lt_of_cell? _ _ d1)).trans d1
      have d2x := (hwx.cell (World.block_lt_of_cell? _ _ d2)).trans d2
      have d3x := (hwx.cell (World.block_lt_of_cell? _ _ d3)).trans d3
      have d4x := (hwx.cell (World.block_lt_of_cell? _ _ d4)).trans d4
      have g1x := (hwx.frozen (World.block_lt_of_cell? _ _ d1)).trans f1
      have g2x := (hwx.frozen (World.block_lt_of_cell? _ _ d1)).trans f2
      have g3x := (hwx.frozen (World.block_lt_of_cell? _ _ d3)).trans f3
      have g4x := (hwx.frozen (World.block_lt_of_cell? _ _ d3)).trans f4
      clear p1 p2 d1 d2 d3 d4 f1 f2 f3 f4 c1 c2
      have HI4 := hid hinit4
      have HI5 := hid hinit5
      clear hinit4 hinit5
      go_wp2
      go_loopw [25] (fun i wr => ∃ r : Nat, r ≤ l.length ∧ i = .int .i64 r ∧ Kx (fun j => j = g4 ∨ j = g5) wc wr ∧ Hid (B2 wr g4 (loF l r).1 (loF l r).2) ∧ Hid (B2 wr g5 (hiF l r).1 (hiF l r).2) ∧ (wr.frozen? ⟨g4, 0, none⟩ = false ∧ wr.frozen? ⟨g4, 1, none⟩ = false) ∧ (wr.frozen? ⟨g5, 0, none⟩ = false ∧ wr.frozen? ⟨g5, 1, none⟩ = false)) (fun i _ => l.length - (intOf i).toNat)
      case atStart => exact ⟨0, by omega, rfl, Kx.refl _ _, HI4, HI5, hf4, hf5⟩
      case round =>
        obtain ⟨r, hr, rfl, hkx, hB4, hB5, ⟨z1, z2⟩, ⟨z3, z4⟩⟩ := hrel
        have hzr := hkx.size
        rcases Nat.lt_or_ge r l.length with hlt' | hge
        · have hri : (r : Int) < l.length := by omega
          obtain ⟨qx, qy, c1, c2, hxr, _⟩ := Rd.pair_at hlx.rd hlx.ok hlt'
          have hbW := World.block_lt_of_cell? _ _ c1
          have hbne : ¬ (b = g4 ∨ b = g5) := by omega
          have c1r := (hkx.cell hbW hbne).trans c1
          have c2r := (hkx.cell hbW hbne).trans c2
          have eq : ptZ l r = (qx, qy) := ptZ_get hxr.out
          have EQ := hid eq; clear eq
          obtain ⟨⟨lx, ly⟩, hlo⟩ : ∃ s, loF l r = s := ⟨_, rfl⟩
          obtain ⟨⟨ux, uy⟩, hhi⟩ : ∃ s, hiF l r = s := ⟨_, rfl⟩
          obtain ⟨x1, x2⟩ := hB4.out
          obtain ⟨x3, x4⟩ := hB5.out
          rw [hlo] at x1 x2
          rw [hhi] at x3 x4
          simp only at x1 x2 x3 x4
          clear hB4 hB5 c1 c2
          obtain ⟨m1, e1⟩ : ∃ m, (if qx < lx then qx else lx) = m := ⟨_, rfl⟩
          obtain ⟨m2, e2⟩ : ∃ m, (if qy < ly then qy else ly) = m := ⟨_, rfl⟩
          obtain ⟨m3, e3⟩ : ∃ m, (if ux < qx then qx else ux) = m := ⟨_, rfl⟩
          obtain ⟨m4, e4⟩ : ∃ m, (if uy < qy then qy else uy) = m := ⟨_, rfl⟩
          have hlo' : Hid (loF l (r + 1) = (m1, m2)) := hid (by
            show (min (loF l r).1 (ptZ l r).1, min (loF l r).2 (ptZ l r).2) = _
            rw [hlo, EQ.out, ← e1, ← e2, min_if, min_if])
          have hhi' : Hid (hiF l (r + 1) = (m3, m4)) := hid (by
            show (max (hiF l r).1 (ptZ l r).1, max (hiF l r).2 (ptZ l r).2) = _
            rw [hhi, EQ.out, ← e3, ← e4, max_if, max_if])
          clear hlo hhi
          obtain ⟨W7, eW7, hw7, hlt7, hbox7⟩ := one_box wr #[.int .i64 qx, .int .i64 qy] 57
          go_upto_region 7 with fail
          clear eW7
          have y1 := hbox7.out W7 (Aft.refl _) 0 (.int .i64 qx) rfl
          have y2 := hbox7.out W7 (Aft.refl _) 1 (.int .i64 qy) rfl
          clear hbox7
          have tr : ∀ {b o : Nat} {v : Value}, wr.cell? ⟨b, o, none⟩ = some v → W7.cell? ⟨b, o, none⟩ = some v := fun h => (hw7.cell (World.block_lt_of_cell? _ _ h)).trans h
          have x1' := tr x1
          have x2' := tr x2
          have x3' := tr x3
          have x4' := tr x4
          have k1 := (hw7.frozen (World.block_lt_of_cell? _ _ x1)).trans z1
          have k2 := (hw7.frozen (World.block_lt_of_cell? _ _ x1)).trans z2
          have k3 := (hw7.frozen (World.block_lt_of_cell? _ _ x3)).trans z3
          have k4 := (hw7.frozen (World.block_lt_of_cell? _ _ x3)).trans z4
          have hg4r := World.block_lt_of_cell? _ _ x1
          have hg5r := World.block_lt_of_cell? _ _ x3
          have hq7 : wr.heap.size ≠ g4 ∧ wr.heap.size ≠ g5 := by omega
          clear tr x1 x2 x3 x4 z1 z2 z3 z4
          have P4 := put2 (W := W7) (b := g4) ⟨x1', x2'⟩ m1 m2
          have P5 := put2 (b := g5) (B2.kx ⟨x3', x4'⟩ P4.2 (by omega)) m3 m4
          have HK := hid ((hkx.trans (aft_kx hw7)).trans ((P4.2.sub fun j h => .inl h).trans (P5.2.sub fun j h => .inr h)))
          have HA := hid (B2.kx P4.1 P5.2 (by omega))
          have HB := hid P5.1
          clear P4 P5
          generalize wr.heap.size = n7 at *
          obtain ⟨h7a, h7b⟩ := hq7
          go_wp2
          go_roundw
          case rel => exact ⟨r + 1, by omega, by go_num, HK.out, hid (by rw [hlo'.out]; exact HA.out), hid (by rw [hhi'.out]; exact HB.out), ⟨by simp only [World.frozen?_setCell]; exact k1, by simp only [World.frozen?_setCell]; exact k2⟩, ⟨by simp only [World.frozen?_setCell]; exact k3, by simp only [World.frozen?_setCell]; exact k4⟩⟩
          case measure => simp only [intOf]; omega
        · obtain rfl : r = l.length := by omega
          have hzz : n0 + 1 < wc.heap.size ∧ n3 < wc.heap.size := ⟨World.block_lt_of_cell? _ _ d1x, World.block_lt_of_cell? _ _ d3x⟩
          have a1 := (hkx.cell hzz.1 (show ¬ (n0 + 1 = g4 ∨ n0 + 1 = g5) by omega)).trans d1x
          have a2 := (hkx.cell hzz.1 (show ¬ (n0 + 1 = g4 ∨ n0 + 1 = g5) by omega)).trans d2x
          have a3 := (hkx.cell hzz.2 (show ¬ (n3 = g4 ∨ n3 = g5) by omega)).trans d3x
          have a4 := (hkx.cell hzz.2 (show ¬ (n3 = g4 ∨ n3 = g5) by omega)).trans d4x
          have fr : ∀ {b o : Nat}, b < wc.heap.size → ¬ (b = g4 ∨ b = g5) → wr.frozen? ⟨b, o, none⟩ = wc.frozen? ⟨b, o, none⟩ := fun h1 h2 => World.frozen?_of_block (a := ⟨_, _, none⟩) (hkx.block _ h1 h2)
          have j1 := (fr (o := 0) hzz.1 (by omega)).trans g1x
          have j2 := (fr (o := 1) hzz.1 (by omega)).trans g2x
          have j3 := (fr (o := 0) hzz.2 (by omega)).trans g3x
          have j4 := (fr (o := 1) hzz.2 (by omega)).trans g4x
          clear fr d1x d2x d3x d4x g1x g2x g3x g4x z1 z2 z3 z4
          obtain ⟨⟨lx, ly⟩, hlo⟩ : ∃ s, loF l l.length = s := ⟨_, rfl⟩
          obtain ⟨⟨ux, uy⟩, hhi⟩ : ∃ s, hiF l l.length = s := ⟨_, rfl⟩
          obtain ⟨x1, x2⟩ := hB4.out
          obtain ⟨x3, x4⟩ := hB5.out
          rw [hlo] at x1 x2
          rw [hhi] at x3 x4
          simp only at x1 x2 x3 x4
          have hres : Hid (boxZ l = ((lx, ly), (ux, uy))) := hid (by unfold boxZ; rw [if_neg hl0, hlo, hhi])
          clear hB4 hB5 hlo hhi
          have q1 := World.block_lt_of_cell? _ _ x1
          have q3 := World.block_lt_of_cell? _ _ x3
          have h1 : n0 + 1 ≠ g4 := by omega
          have h2 : n0 + 1 ≠ g5 := by omega
          have h3 : n3 ≠ g4 := by omega
          have h4 : n3 ≠ g5 := by omega
          go_upto_region 10 with fail
          go_region_held3 (fun W => (W.cell? ⟨g4, 0, none⟩ = some (.int .i64 lx) ∧ W.cell? ⟨g4, 1, none⟩ = some (.int .i64 ly)) ∧ W.cell? ⟨g5, 0, none⟩ = some (.int .i64 ux) ∧ W.cell? ⟨g5, 1, none⟩ = some (.int .i64 uy))
            (first | go_keep | exact ⟨⟨held_store x1 h1 _ _, held_store x2 h1 _ _⟩, held_store x3 h2 _ _, held_store x4 h2 _ _⟩ | exact ⟨⟨held_store2 x1 h1 h3 _ _ _ _, held_store2 x2 h1 h3 _ _ _ _⟩, held_store2 x3 h2 h4 _ _ _ _, held_store2 x4 h2 h4 _ _ _ _⟩)
            (fail)
          have P2 := put2 (W := wr) (b := n0 + 1) ⟨a1, a2⟩ lx ly
          have P3 := put2 (b := n3) (B2.kx ⟨a3, a4⟩ P2.2 (by omega)) ux uy
          have hk0 := (hkx.sub (Y := fun j => (j = n0 + 1 ∨ j = n3) ∨ (j = g4 ∨ j = g5)) fun j h => .inr h).trans ((P2.2.sub fun j h => .inl (.inl h)).trans (P3.2.sub fun j h => .inl (.inr h)))
          have HE := hid (kx_aft hw1x (fun j hj => by rcases hj with (rfl | rfl) | (rfl | rfl) <;> omega) hk0)
          have HA := hid (B2.kx P2.1 P3.2 (by omega))
          have HB := hid P3.1
          clear P2 P3 hk0
          go_wp2
          refine bodyPost_ret (results_pts rfl _ _ (n0 + 1) n3 lx ly ux uy rfl rfl HA.out HB.out) rfl ?_
          exact ⟨by rw [hres.out]; rfl, HE.out.drew⟩
end Go.Proofs.Ytokdclbfjlnnjaa
/- The program's Left and Longer. -/
namespace Go.Proofs.Ytokdclbfjlnnjaa
open Go.RowKit Go.BigFrame

def leftZ (la lb : List Pt) : Bool := decide (0 < la.length) && (decide (0 < lb.length) && decide ((boxZ la).2.1 < (boxZ lb).1.1))

set_option maxRecDepth 100000 in
set_option maxHeartbeats 4000000 in
theorem left_any (ka kb : Int) (va vb : Value) (la lb : List Pt) (w : World) (hla : Prs w va la) (hlb : Prs w vb lb) :
    Calls Try.prog 34 #[.agg #[.int .i64 ka, va], .agg #[.int .i64 kb, vb]] w fun e w' => e = .returned (.bool (leftZ la lb)) ∧ Aft w w' := by
  have hPa := hla
  have hPb := hlb
  obtain ⟨aa, ca, rfl, hla⟩ := hla
  obtain ⟨ab, cb, rfl, hlb⟩ := hlb
  obtain ⟨W0, eW0, hw0, hlt, hbox⟩ := two_boxes w #[.int .i64 ka, .slice aa la.length ca] #[.int .i64 kb, .slice ab lb.length cb] 51 51
  have hZ : leftZ la lb = (decide (0 < la.length) && (decide (0 < lb.length) && decide ((boxZ la).2.1 < (boxZ lb).1.1))) := rfl
  obtain ⟨⟨⟨alx, aly⟩, ahx, ahy⟩, hba⟩ : ∃ s, boxZ la = s := ⟨_, rfl⟩
  obtain ⟨⟨⟨blx, bly⟩, bhx, bhy⟩, hbb⟩ : ∃ s, boxZ lb = s := ⟨_, rfl⟩
  rw [hba, hbb] at hZ
  simp only at hZ
  have HZ := hid hZ; clear hZ
  have HBA := hid hba; clear hba
  have HBB := hid hbb; clear hbb
  go_enter Try.func34, Try.ntmps34
  go_upto_region 1 with fail
  clear eW0
  have hF : Hid (∀ W, Aft W0 W → (W.cell? ⟨w.heap.size, 0, none⟩ = some (.int .i64 ka) ∧ W.cell? ⟨w.heap.size, 1, none⟩ = some (.slice aa la.length ca)) ∧ W.cell? ⟨w.heap.size + 1, 0, none⟩ = some (.int .i64 kb) ∧ W.cell? ⟨w.heap.size + 1, 1, none⟩ = some (.slice ab lb.length cb)) := hid fun W hW =>
    ⟨⟨(hbox.out W hW).1 0 _ rfl, (hbox.out W hW).1 1 _ rfl⟩, (hbox.out W hW).2 0 _ rfl, (hbox.out W hW).2 1 _ rfl⟩
  clear hbox
  obtain ⟨⟨p1, p2⟩, p3, p4⟩ := hF.out W0 (Aft.refl _)
  generalize hn0 : w.heap.size = n0 at *
  go_wp2_with fail
  refine (box_any ka _ la W0 (hPa.aft hw0)).mono ?_
  rintro e W1 ⟨rfl, hw1⟩
  rw [HBA.out]
  unfold pr
  simp only
  clear p1 p2 p3 p4
  obtain ⟨W2, eW2, hw2, hlt2, hbox2⟩ := two_boxes W1 #[.int .i64 alx, .int .i64 aly] #[.int .i64 ahx, .int .i64 ahy] 57 57
  go_upto_region 2 with fail
  clear eW2
  have hG : Hid (∀ W, Aft W2 W → B2 W (W1.heap.size + 1) ahx ahy) := hid fun W hW => ⟨(hbox2.out W hW).2 0 _ rfl, (hbox2.out W hW).2 1 _ rfl⟩
  clear hbox2
  have hw02 := hw1.trans hw2
  obtain ⟨⟨p1, p2⟩, p3, p4⟩ := hF.out W2 hw02
  generalize hn5 : W1.heap.size = n5 at *
  go_wp2_with fail
  refine (box_any kb _ lb W2 ((hPb.aft hw0).aft hw02)).mono ?_
  rintro e W3 ⟨rfl, hw3⟩
  rw [HBB.out]
  unfold pr
  simp only
  clear p1 p2 p3 p4
  obtain ⟨W4, eW4, hw4, hlt4, hbox4⟩ := two_boxes W3 #[.int .i64 blx, .int .i64 bly] #[.int .i64 bhx, .int .i64 bhy] 57 57
  go_upto_region 3 with fail
  clear eW4
  have hw24 := hw3.trans hw4
  obtain ⟨x1, x2⟩ := hG.out W4 hw24
  have y1 := (hbox4.out W4 (Aft.refl _)).1 0 (.int .i64 blx) rfl
  have y2 := (hbox4.out W4 (Aft.refl _)).1 1 (.int .i64 bly) rfl
  clear hbox4
  obtain ⟨⟨p1, p2⟩, p3, p4⟩ := hF.out W4 (hw02.trans hw24)
  have hfin := hw0.trans (hw02.trans hw24)
  generalize hn7 : W3.heap.size = n7 at *
  by_cases g1 : 0 < la.length
  · by_cases g2 : 0 < lb.length
    · have g1' : decide ((0 : Int) < la.length) = true := by simp; omega
      have g2' : decide ((0 : Int) < lb.length) = true := by simp; omega
      have HQ := hid (show leftZ la lb = decide (ahx < blx) by rw [HZ.out]; simp [g1, g2])
      go_wp2
      go_ret
      exact ⟨by rw [HQ.out]; rfl, hfin⟩
    · have g2' : ¬ ((0 : Int) < lb.length) := by omega
      have HQ := hid (show leftZ la lb = false by rw [HZ.out]; simp only [g2]; simp)
      go_wp2
      go_ret
      exact ⟨by rw [HQ.out]; rfl, hfin⟩
  · have g1' : ¬ ((0 : Int) < la.length) := by omega
    have HQ := hid (show leftZ la lb = false by rw [HZ.out]; simp only [g1]; simp)
    go_wp2
    go_ret
    exact ⟨by rw [HQ.out]; rfl, hfin⟩

def longerZ (ka : Int) (la : List Pt) (kb : Int) (lb : List Pt) : Bool := decide (lengthZ kb lb < lengthZ ka la)
set_option maxRecDepth 100000 in
set_option maxHeartbeats 4000000 in
theorem longer_any (ka kb : Int) (va vb : Value) (la lb : List Pt) (w : World) (hla : Prs w va la) (hlb : Prs w vb lb) (hsa : la.length ≤ 1000) (hsb : lb.length ≤ 1000) (hsca : ScL la) (hscb : ScL lb) :
    Calls Try.prog 43 #[.agg #[.int .i64 ka, va], .agg #[.int .i64 kb, vb]] w fun e w' => e = .returned (.bool (longerZ ka la kb lb)) ∧ Aft w w' := by
  have hPa := hla
  have hPb := hlb
  obtain ⟨aa, ca, rfl, hla⟩ := hla
  obtain ⟨ab, cb, rfl, hlb⟩ := hlb
  obtain ⟨W0, eW0, hw0, hlt, hbox⟩ := two_boxes w #[.int .i64 ka, .slice aa la.length ca] #[.int .i64 kb, .slice ab lb.length cb] 51 51
  go_enter Try.func43, Try.ntmps43
  go_upto_region 1 with fail
  clear eW0
  have p1 := (hbox.out W0 (Aft.refl _)).1 0 (.int .i64 ka) rfl
  have p2 := (hbox.out W0 (Aft.refl _)).1 1 (.slice aa la.length ca) rfl
  have p3 := (hbox.out W0 (Aft.refl _)).2 0 (.int .i64 kb) rfl
  have p4 := (hbox.out W0 (Aft.refl _)).2 1 (.slice ab lb.length cb) rfl
  clear hbox
  have hlt0 : w.heap.size < W0.heap.size := by omega
  have hA := hPa.aft hw0
  have hB := hPb.aft hw0
  generalize hn0 : w.heap.size = n0 at *
  refine wp_region_lat W0 (Aft.refl _) (by kernel_rfl) (by kernel_rfl) ?_
  repeat (go_big_quiet_step ((go_at_call 37; exact Calls.lat (length_any _ _ _ _ (Prs.aft (w := W0) (by assumption) (Lat.aft _)) (by assumption) (by assumption)))))
  refine wpQuiet_nil ?_
  intro _ hw'; obtain ⟨z, rfl⟩ := hw'
  go_wp2
  go_ret
  exact ⟨rfl, hw0.trans z.aft⟩
end Go.Proofs.Ytokdclbfjlnnjaa
/- The reference's Length, Longer, Strictly. -/
namespace Go.Proofs.Ytokdclbfjlnnjaa
open Go.RowKit Go.BigFrame

/-- The Ends number i in a row of the reference. -/
def E6 (W : World) (g i : Nat) (l : List Pt) : Prop := W.cell? ⟨g, i * 6, none⟩ = some (.int .i64 (sgZ l i).1.1) ∧ W.cell? ⟨g, i * 6 + 1, none⟩ = some (.int .i64 (sgZ l i).1.2) ∧ W.cell? ⟨g, i * 6 + 2, none⟩ = some (.int .i64 (sgZ l i).2.1) ∧ W.cell? ⟨g, i * 6 + 3, none⟩ = some (.int .i64 (sgZ l i).2.2) ∧
  W.cell? ⟨g, i * 6 + 4, none⟩ = some (.int .i64 i) ∧ W.cell? ⟨g, i * 6 + 5, none⟩ = some (.int .i64 ((i + 1) % l.length : Nat))
theorem ends_cells {W : World} {base : Nat} {v : Value} {l : List Pt} {m : Nat} (h : W.ownsRow base 59 6 v m (endsC l m)) {i : Nat} (hi : i < m) : ∃ g cap, v = .slice (some ⟨g, 0, none⟩) m cap ∧ E6 W g i l := by
  obtain ⟨g, cap, rfl⟩ := ownsRow_some' h (by omega)
  refine ⟨g, cap, rfl, ?_, ?_, ?_, ?_, ?_, ?_⟩
  all_goals refine (fun j u hj => by
    have := h.cells rfl j u hj
    by_cases h0 : j = 0
    · subst h0; simpa [Addr.add] using this
    · simpa [Addr.add, h0] using this : ∀ j u, (endsC l m)[j]? = some u → W.cell? ⟨g, j, none⟩ = some u) _ _ ?_
  · have := endsC_get l m i hi 0 (by omega); rw [Nat.add_zero] at this; exact this
  · exact endsC_get l m i hi 1 (by omega)
  · exact endsC_get l m i hi 2 (by omega)
  · exact endsC_get l m i hi 3 (by omega)
  · exact endsC_get l m i hi 4 (by omega)
  · exact endsC_get l m i hi 5 (by omega)

end Go.Proofs.Ytokdclbfjlnnjaa
/- The reference's Longer and Strictly. -/
namespace Go.Proofs.Ytokdclbfjlnnjaa
open Go.RowKit Go.BigFrame

/-- A crossing to the right. -/
def crossB (p : Pt) (s : Pt × Pt) : Bool := if s.2.2 < s.1.2 then decide (s.2.2 ≤ p.2 ∧ p.2 < s.1.2 ∧ 0 < crossZ s.2 s.1 p) else decide (s.1.2 ≤ p.2 ∧ p.2 < s.2.2 ∧ 0 < crossZ s.1 s.2 p)
def oddS (p : Pt) (l : List Pt) : Nat → Bool
  | 0 => false
  | r + 1 => Bool.xor (oddS p l r) (crossB p (sgZ l r))
def strictlyZ (p : Pt) (k : Int) (l : List Pt) : Bool := !((List.range (nSeg k l)).any fun i => onZ p (sgZ l i)) && oddS p l (nSeg k l)

end Go.Proofs.Ytokdclbfjlnnjaa
/- The reference's Inside. -/
namespace Go.Proofs.Ytokdclbfjlnnjaa
open Go.RowKit Go.BigFrame

def rinsideZ (ka : Int) (la : List Pt) (kb : Int) (lb : List Pt) : Bool :=
  decide (kb = 2) && (!la.isEmpty && (!(la.any fun p => !strictlyZ p kb lb) && !((List.range (nSeg ka la)).any fun i => (List.range (nSeg kb lb)).any fun j => meetZ (sgZ la i) (sgZ lb j))))

end Go.Proofs.Ytokdclbfjlnnjaa
/- The reference's Box. -/
namespace Go.Proofs.Ytokdclbfjlnnjaa
open Go.RowKit Go.BigFrame

def loG (l : List Pt) (r : Nat) : Pt := if r = 0 then (0, 0) else loF l r
def hiG (l : List Pt) (r : Nat) : Pt := if r = 0 then (0, 0) else hiF l r

end Go.Proofs.Ytokdclbfjlnnjaa
/- The reference's Left. -/
namespace Go.Proofs.Ytokdclbfjlnnjaa
open Go.RowKit Go.BigFrame

def rleftZ (la lb : List Pt) : Bool := !(la.any fun p => lb.any fun q => decide (q.1 ≤ p.1)) && (decide (0 < la.length) && decide (0 < lb.length))

end Go.Proofs.Ytokdclbfjlnnjaa
/- Small functions of the statements about the plane: near, dot, rect. -/
namespace Go.Proofs.Ytokdclbfjlnnjaa
open Go.RowKit Go.BigFrame

theorem results_shape {fn : Func} {p : Tmp} (h : fn.results = #[.cell p 51]) (tmps : Array Value) (w : World) (b : Nat) (k : Int) (vp : Value) (hp : tmps.getD p undef = .pointer (some ⟨b, 0, none⟩)) (hc : w.cell? ⟨b, 0, none⟩ = some (.int .i64 k)) (hc' : w.cell? ⟨b, 1, none⟩ = some vp) :
    (results fn tmps).run Try.prog w = .ok (.agg #[.int .i64 k, vp]) w := by
  have hp' : tmps[p]?.getD undef = .pointer (some ⟨b, 0, none⟩) := by simpa using hp
  simp only [Go.results, h]
  simp [hp', asAddr, go_sem, hc, hc']

theorem shape_new (w : World) (k : Int) (cs : Array Value) (l : List Pt) (hcs : cs.toList = prs l) (ok : okP l) (hs : l.length ≤ 1000) (u : Value) :
    let W' := (w.alloc (.cells #[.int .i64 k, u] 51)).alloc (.cells cs 57)
    W'.cell? ⟨w.heap.size, 0, none⟩ = some (.int .i64 k) ∧ W'.cell? ⟨w.heap.size, 1, none⟩ = some u ∧ Prs W' (.slice (some ⟨w.heap.size + 1, 0, none⟩) l.length l.length) l ∧ Aft w W' := by
  have h := box_cells w #[.int .i64 k, u] cs 51 57 _ (Aft.refl _)
  have hr := Rd.new (w := w.alloc (.cells #[.int .i64 k, u] 51)) (cs := cs) (e := 57)
  rw [World.size_alloc, hcs] at hr
  exact ⟨h.1 0 _ rfl, h.1 1 _ rfl, ⟨_, _, rfl, rfl, hr, ok, Nat.le_refl _, (fun h => by cases h), by omega⟩, ((Aft.refl w).alloc _).alloc _⟩

def rectL (x y wd h : Int) : List Pt := [(x, y), (x + wd, y), (x + wd, y + h), (x, y + h)]
end Go.Proofs.Ytokdclbfjlnnjaa
/- Plain laws of the plane: winding numbers and crossings. -/
namespace Go.Proofs.Ytokdclbfjlnnjaa

theorem loF_le (l : List Pt) : ∀ r j, j < r → (loF l r).1 ≤ (ptZ l j).1 ∧ (loF l r).2 ≤ (ptZ l j).2
  | r + 1, j, h => by
    by_cases hj : j = r
    · subst hj; exact ⟨Int.min_le_right _ _, Int.min_le_right _ _⟩
    · have := loF_le l r j (by omega)
      exact ⟨Int.le_trans (Int.min_le_left _ _) this.1, Int.le_trans (Int.min_le_left _ _) this.2⟩
theorem hiF_le (l : List Pt) : ∀ r j, j < r → (ptZ l j).1 ≤ (hiF l r).1 ∧ (ptZ l j).2 ≤ (hiF l r).2
  | r + 1, j, h => by
    by_cases hj : j = r
    · subst hj; exact ⟨Int.le_max_right _ _, Int.le_max_right _ _⟩
    · have := hiF_le l r j (by omega)
      exact ⟨Int.le_trans this.1 (Int.le_max_left _ _), Int.le_trans this.2 (Int.le_max_left _ _)⟩
theorem loF_in (l : List Pt) (h : l ≠ []) : ∀ r, (∃ p ∈ l, (loF l r).1 = p.1) ∧ (∃ p ∈ l, (loF l r).2 = p.2)
  | 0 => ⟨⟨_, ptZ_mem h 0, rfl⟩, ⟨_, ptZ_mem h 0, rfl⟩⟩
  | r + 1 => by
    obtain ⟨⟨p, hp, e1⟩, ⟨q, hq, e2⟩⟩ := loF_in l h r
    refine ⟨?_, ?_⟩
    · show ∃ p ∈ l, min (loF l r).1 (ptZ l r).1 = p.1
      rcases Int.le_total (loF l r).1 (ptZ l r).1 with h' | h'
      · exact ⟨p, hp, by rw [Int.min_eq_left h', e1]⟩
      · exact ⟨_, ptZ_mem h r, by rw [Int.min_eq_right h']⟩
    · show ∃ p ∈ l, min (loF l r).2 (ptZ l r).2 = p.2
      rcases Int.le_total (loF l r).2 (ptZ l r).2 with h' | h'
      · exact ⟨q, hq, by rw [Int.min_eq_left h', e2]⟩
      · exact ⟨_, ptZ_mem h r, by rw [Int.min_eq_right h']⟩
theorem hiF_in (l : List Pt) (h : l ≠ []) : ∀ r, (∃ p ∈ l, (hiF l r).1 = p.1) ∧ (∃ p ∈ l, (hiF l r).2 = p.2)
  | 0 => ⟨⟨_, ptZ_mem h 0, rfl⟩, ⟨_, ptZ_mem h 0, rfl⟩⟩
  | r + 1 => by
    obtain ⟨⟨p, hp, e1⟩, ⟨q, hq, e2⟩⟩ := hiF_in l h r
    refine ⟨?_, ?_⟩
    · show ∃ p ∈ l, max (hiF l r).1 (ptZ l r).1 = p.1
      rcases Int.le_total (hiF l r).1 (ptZ l r).1 with h' | h'
      · exact ⟨_, ptZ_mem h r, by rw [Int.max_eq_right h']⟩
      · exact ⟨p, hp, by rw [Int.max_eq_left h', e1]⟩
    · show ∃ p ∈ l, max (hiF l r).2 (ptZ l r).2 = p.2
      rcases Int.le_total (hiF l r).2 (ptZ l r).2 with h' | h'
      · exact ⟨_, ptZ_mem h r, by rw [Int.max_eq_right h']⟩
      · exact ⟨q, hq, by rw [Int.max_eq_left h', e2]⟩
theorem ptZ_of_mem {l : List Pt} {p : Pt} (h : p ∈ l) : ∃ j, j < l.length ∧ ptZ l j = p := by
  obtain ⟨j, hj, e⟩ := List.mem_iff_getElem.1 h
  exact ⟨j, hj, ptZ_get (by rw [List.getElem?_eq_getElem hj, e])⟩
/-- The box of a list that is not empty: its bounds are reached, and none lies outside. -/
theorem box_spec {l : List Pt} (h : l ≠ []) : (∀ p ∈ l, (boxZ l).1.1 ≤ p.1 ∧ (boxZ l).1.2 ≤ p.2 ∧ p.1 ≤ (boxZ l).2.1 ∧ p.2 ≤ (boxZ l).2.2) ∧ (∃ p ∈ l, (boxZ l).1.1 = p.1) ∧ (∃ p ∈ l, (boxZ l).1.2 = p.2) ∧ (∃ p ∈ l, (boxZ l).2.1 = p.1) ∧ (∃ p ∈ l, (boxZ l).2.2 = p.2) := by
  unfold boxZ
  rw [if_neg h]
  refine ⟨fun p hp => ?_, (loF_in l h _).1, (loF_in l h _).2, (hiF_in l h _).1, (hiF_in l h _).2⟩
  obtain ⟨j, hj, rfl⟩ := ptZ_of_mem hp
  exact ⟨(loF_le l _ j hj).1, (loF_le l _ j hj).2, (hiF_le l _ j hj).1, (hiF_le l _ j hj).2⟩
theorem left_eq (la lb : List Pt) : leftZ la lb = rleftZ la lb := by
  unfold leftZ rleftZ
  rw [Bool.eq_iff_iff]
  rcases Decidable.em (la = []) with h | h
  · simp [h]
  rcases Decidable.em (lb = []) with h' | h'
  · simp [h']
  have hla := List.length_pos_iff.2 h
  have hlb := List.length_pos_iff.2 h'
  obtain ⟨a1, _, _, ⟨p, hp, ep⟩, _⟩ := box_spec h
  obtain ⟨b1, ⟨q, hq, eq⟩, _, _, _⟩ := box_spec h'
  simp only [hla, hlb, decide_true, Bool.and_true, Bool.true_and, decide_eq_true_eq, Bool.not_eq_true', List.any_eq_false]
  constructor
  · intro hlt u hu
    rw [Bool.not_eq_true, List.any_eq_false]
    intro v hv
    have := (a1 u hu).2.2.1
    have := (b1 v hv).1
    simp; omega
  · intro hall
    have := hall p hp
    rw [Bool.not_eq_true, List.any_eq_false] at this
    have := this q hq
    simp at this
    omega
end Go.Proofs.Ytokdclbfjlnnjaa
/- Plain laws of the plane: the winding numbers of the generated areas. -/
namespace Go.Proofs.Ytokdclbfjlnnjaa

def triL (x y wd t1 t2 h : Int) : List Pt := [(x, y), (x + wd, y + t1), (x + t2, y + h)]
def braL (x y wd h : Int) : List Pt := [(x, y), (x + wd, y), (x + wd, y + 1), (x + 1, y + 1), (x + 1, y + h), (x, y + h)]

end Go.Proofs.Ytokdclbfjlnnjaa
/- Plain laws of the plane: what is strictly inside of a rectangle. -/
namespace Go.Proofs.Ytokdclbfjlnnjaa

end Go.Proofs.Ytokdclbfjlnnjaa
/- Plain laws of the plane: what is strictly inside of a triangle. -/
namespace Go.Proofs.Ytokdclbfjlnnjaa

end Go.Proofs.Ytokdclbfjlnnjaa
/- Plain laws of the plane: what lies on the left of a line. -/
namespace Go.Proofs.Ytokdclbfjlnnjaa

end Go.Proofs.Ytokdclbfjlnnjaa
/- Plain laws of the plane: the least of fractions, and the distance that comes of it. -/
namespace Go.Proofs.Ytokdclbfjlnnjaa

def leF (f g : Int × Int) : Prop := f.1 * g.2 ≤ g.1 * f.2
/-- What is kept is the least of what was there. -/
def MinO (S : Int × Int → Prop) (st : Option (Int × Int)) : Prop := match st with
  | none => ∀ g, ¬ S g
  | some f => S f ∧ ∀ g, S g → leF f g
theorem MinO.congr {S T : Int × Int → Prop} (h : ∀ g, S g ↔ T g) {st : Option (Int × Int)} (hm : MinO S st) : MinO T st := by
  have : S = T := funext fun g => propext (h g)
  rw [← this]; exact hm
/-- The four fractions of two segments; all fractions of two shapes. -/
def far4 (s t : Pt × Pt) (g : Int × Int) : Prop := g = farZ s.1 t ∨ g = farZ s.2 t ∨ g = farZ t.1 s ∨ g = farZ t.2 s
def farS (la lb : List Pt) (m m' : Nat) (g : Int × Int) : Prop := ∃ i, i < m ∧ ∃ j, j < m' ∧ far4 (sgZ la i) (sgZ lb j) g

theorem meetZ_swap (s t : Pt × Pt) : meetZ s t = meetZ t s := by
  unfold meetZ
  rw [Bool.and_comm]
  cases onZ s.1 t <;> cases onZ s.2 t <;> cases onZ t.1 s <;> cases onZ t.2 s <;> rfl
end Go.Proofs.Ytokdclbfjlnnjaa
/- Plain laws of the plane: what the statement on distances asks. -/
namespace Go.Proofs.Ytokdclbfjlnnjaa

end Go.Proofs.Ytokdclbfjlnnjaa
