/- The plane: distances, boxes, lengths; plain laws. Conditions are in the theorems. -/
import Derived.Test.YtokdclbfjlnnjaaA2
import Derived.Deep.RegionHeld3
/- The program's Near. -/
namespace Go.Proofs.Ytokdclbfjlnnjaa
open Go.RowKit Go.BigFrame

def better (st : Option (Int × Int)) (f : Int × Int) : Option (Int × Int) := match st with
  | none => some f
  | some (n, d) => if f.1 * d < n * f.2 then some f else some (n, d)
def pairFar (s t : Pt × Pt) (st : Option (Int × Int)) : Option (Int × Int) := better (better (better (better st (farZ s.1 t)) (farZ s.2 t)) (farZ t.1 s)) (farZ t.2 s)
/-- Over the first j segments of b, with the segment s. -/
def rowFar (s : Pt × Pt) (lb : List Pt) : Nat → Option (Int × Int) → Option (Int × Int)
  | 0, st => st
  | j + 1, st => pairFar s (sgZ lb j) (rowFar s lb j st)
def allFar (la lb : List Pt) (m' : Nat) : Nat → Option (Int × Int)
  | 0 => none
  | i + 1 => rowFar (sgZ la i) lb m' (allFar la lb m' i)
def meets (la lb : List Pt) (m m' : Nat) : Bool := (List.range m).any fun i => (List.range m').any fun j => meetZ (sgZ la i) (sgZ lb j)
def fracZ (st : Option (Int × Int)) : Int × Int := match st with
  | none => (0, 1)
  | some (n, d) => if n ≤ 0 then (0, 1) else (n / (Nat.gcd d.toNat n.toNat : Nat), d / (Nat.gcd d.toNat n.toNat : Nat))
def nearZ (ka : Int) (la : List Pt) (kb : Int) (lb : List Pt) : Int × Int := if meets la lb (nPart ka la) (nPart kb lb) then (0, 1) else fracZ (allFar la lb (nPart kb lb) (nPart ka la))

/-- A fraction as it comes: a square, a size. -/
def Frac (f : Int × Int) : Prop := 0 ≤ f.1 ∧ f.1 ≤ 400000000 ∧ 1 ≤ f.2 ∧ f.2 ≤ 20000
def FracO (st : Option (Int × Int)) : Prop := ∀ f, st = some f → Frac f
/-- The coordinates lie in one square. -/
def Near1 (ox oy : Int) (p : Pt) : Prop := (ox ≤ p.1 ∧ p.1 ≤ ox + 100) ∧ (oy ≤ p.2 ∧ p.2 ≤ oy + 100)
theorem mul_bd100 {x y : Int} (hx : -100 ≤ x ∧ x ≤ 100) (hy : -100 ≤ y ∧ y ≤ 100) : -10000 ≤ x * y ∧ x * y ≤ 10000 := by
  have h1 : x.natAbs ≤ 100 := by omega
  have h2 : y.natAbs ≤ 100 := by omega
  have h3 := Nat.mul_le_mul h1 h2
  rw [← Int.natAbs_mul] at h3
  omega
theorem sq_bd100 {ox oy : Int} {a b : Pt} (ha : Near1 ox oy a) (hb : Near1 ox oy b) : 0 ≤ sqZ a b ∧ sqZ a b ≤ 20000 := by
  unfold Near1 at *
  have m1 := mul_bd100 (x := a.1 - b.1) (y := a.1 - b.1) (by omega) (by omega)
  have m2 := mul_bd100 (x := a.2 - b.2) (y := a.2 - b.2) (by omega) (by omega)
  have m3 := sq_nonneg (a.1 - b.1)
  have m4 := sq_nonneg (a.2 - b.2)
  unfold sqZ
  omega
theorem far_frac {ox oy : Int} {p : Pt} {s : Pt × Pt} (hp : Near1 ox oy p) (h1 : Near1 ox oy s.1) (h2 : Near1 ox oy s.2) : Frac (farZ p s) := by
  unfold farZ Frac
  have q0 := sq_bd100 h1 h2
  split
  · rename_i h
    have hc : -20000 ≤ crossZ s.1 s.2 p ∧ crossZ s.1 s.2 p ≤ 20000 := by
      unfold Near1 at *
      have m1 := mul_bd100 (x := s.2.1 - s.1.1) (y := p.2 - s.1.2) (by omega) (by omega)
      have m2 := mul_bd100 (x := s.2.2 - s.1.2) (y := p.1 - s.1.1) (by omega) (by omega)
      unfold crossZ
      omega
    have hs := sq_nonneg (crossZ s.1 s.2 p)
    have hn : (crossZ s.1 s.2 p).natAbs ≤ 20000 := by omega
    have h3 := Nat.mul_le_mul hn hn
    rw [← Int.natAbs_mul] at h3
    have hpos : 0 < sqZ s.1 s.2 := by
      have h4 := h.1
      have h5 := h.2
      unfold sqZ
      grind
    simp only
    omega
  · have q1 := sq_bd100 hp h1
    have q2 := sq_bd100 hp h2
    simp only
    omega
theorem better_frac {st : Option (Int × Int)} {f : Int × Int} (hs : FracO st) (hf : Frac f) : FracO (better st f) := by
  intro g hg
  unfold better at hg
  cases st with
  | none => cases hg; exact hf
  | some x =>
    obtain ⟨n, d⟩ := x
    simp only at hg
    split at hg
    · cases hg; exact hf
    · cases hg; exact hs _ rfl

/-- What the program keeps of it: the number, the denominator. -/
def encN : Option (Int × Int) → Int
  | none => -1
  | some f => f.1
def encD : Option (Int × Int) → Int
  | none => 1
  | some f => f.2
theorem mul_frac {a b : Int} (ha : 0 ≤ a ∧ a ≤ 400000000) (hb : 1 ≤ b ∧ b ≤ 20000) : 0 ≤ a * b ∧ a * b ≤ 8000000000000 := by
  have h1 : a.natAbs ≤ 400000000 := by omega
  have h2 : b.natAbs ≤ 20000 := by omega
  have h3 := Nat.mul_le_mul h1 h2
  rw [← Int.natAbs_mul] at h3
  have := Int.mul_nonneg ha.1 (show 0 ≤ b by omega)
  omega

def Pair (W : World) (n6 n7 : Nat) (st : Option (Int × Int)) : Prop := W.cell? ⟨n6, 0, none⟩ = some (.int .i64 (encN st)) ∧ W.cell? ⟨n7, 0, none⟩ = some (.int .i64 (encD st)) ∧ W.frozen? ⟨n6, 0, none⟩ = false ∧ W.frozen? ⟨n7, 0, none⟩ = false

set_option maxRecDepth 100000 in
set_option maxHeartbeats 2000000 in
theorem take_frac (n6 n7 : Nat) (hne : n6 ≠ n7) (st : Option (Int × Int)) (f : Int × Int) (w : World) (hp : Pair w n6 n7 st) (hst : FracO st) (hf : Frac f) :
    Calls Try.prog 73 #[.int .i64 f.1, .int .i64 f.2, .pointer (some ⟨n6, 0, none⟩), .pointer (some ⟨n7, 0, none⟩)] w fun e w' => (∃ v, e = .returned v) ∧ Kx (fun j => j = n6 ∨ j = n7) w w' ∧ Pair w' n6 n7 (better st f) := by
  obtain ⟨n, d⟩ := f
  obtain ⟨c6, c7, f6, f7⟩ := hp
  obtain ⟨a1, a2, a3, a4⟩ := hf
  simp only at a1 a2 a3 a4
  have hset : Pair ((w.setCell ⟨n6, 0, none⟩ (.int .i64 n)).setCell ⟨n7, 0, none⟩ (.int .i64 d)) n6 n7 (some (n, d)) := by
    refine ⟨?_, World.cell?_setCell_same' _ _ _ (by rw [World.cell?_setCell_other _ _ _ _ (by simp <;> omega), c7]; rfl), by rw [World.frozen?_setCell, World.frozen?_setCell]; exact f6, by rw [World.frozen?_setCell, World.frozen?_setCell]; exact f7⟩
    rw [World.cell?_setCell_other _ _ _ _ (by simp <;> omega)]
    exact World.cell?_setCell_same' _ _ _ (by rw [c6]; rfl)
  have hkx : Kx (fun j => j = n6 ∨ j = n7) w ((w.setCell ⟨n6, 0, none⟩ (.int .i64 n)).setCell ⟨n7, 0, none⟩ (.int .i64 d)) := (Kx.setCell _ (.inl rfl)).trans (Kx.setCell _ (.inr rfl))
  have HS := hid hset; clear hset
  have HK := hid hkx; clear hkx
  cases st with
  | none =>
    have HB := hid (show better none (n, d) = some (n, d) from rfl)
    simp only [encN, encD] at c6 c7
    go_enter Try.func73, Try.ntmps73
    go_wp2
    go_end0
    exact ⟨⟨_, rfl⟩, HK.out, by rw [HB.out]; exact HS.out⟩
  | some x =>
    obtain ⟨n0, d0⟩ := x
    obtain ⟨b1, b2, b3, b4⟩ := hst _ rfl
    simp only at b1 b2 b3 b4
    simp only [encN, encD] at c6 c7
    have m1 := mul_frac (a := n) (b := d0) ⟨a1, a2⟩ ⟨b3, b4⟩
    have m2 := mul_frac (a := n0) (b := d) ⟨b1, b2⟩ ⟨a3, a4⟩
    by_cases hlt : n * d0 < n0 * d
    · have HB := hid (show better (some (n0, d0)) (n, d) = some (n, d) from if_pos hlt)
      have hlt' : decide (n * d0 < n0 * d) = true := by simpa using hlt
      go_enter Try.func73, Try.ntmps73
      go_wp2
      go_end0
      exact ⟨⟨_, rfl⟩, HK.out, by rw [HB.out]; exact HS.out⟩
    · have HB := hid (show better (some (n0, d0)) (n, d) = some (n0, d0) from if_neg hlt)
      have hlt' : decide (n * d0 < n0 * d) = false := by simpa using hlt
      go_enter Try.func73, Try.ntmps73
      go_wp2
      go_end0
      exact ⟨⟨_, rfl⟩, Kx.refl _ _, by rw [HB.out]; exact ⟨c6, c7, f6, f7⟩⟩
end Go.Proofs.Ytokdclbfjlnnjaa
/- The program's Near: the walk. -/
namespace Go.Proofs.Ytokdclbfjlnnjaa
open Go.RowKit Go.BigFrame

theorem ptZ_mem {l : List Pt} (h : l ≠ []) (i : Nat) : ptZ l i ∈ l := by
  have hl : 0 < l.length := List.length_pos_iff.2 h
  have hh := Nat.mod_lt i hl
  unfold ptZ
  rw [List.getD_eq_getElem?_getD, List.getElem?_eq_getElem hh]
  exact List.getElem_mem hh
theorem nPart_ne {k : Int} {l : List Pt} (hd : k = 0 → l.length = 1) {i : Nat} (h : i < nPart k l) : l ≠ [] := by
  rintro rfl
  unfold nPart nSeg at h
  split at h
  · rename_i hk; have := hd hk; simp at this
  · simp at h
theorem nPart_le {k : Int} {l : List Pt} (hd : k = 0 → l.length = 1) : nPart k l ≤ l.length := by
  unfold nPart
  split
  · rename_i hk; have := hd hk; omega
  · exact nSeg_le k l
theorem pairFar_frac {ox oy : Int} {s t : Pt × Pt} {st : Option (Int × Int)} (h1 : Near1 ox oy s.1) (h2 : Near1 ox oy s.2) (h3 : Near1 ox oy t.1) (h4 : Near1 ox oy t.2) (hs : FracO st) : FracO (pairFar s t st) :=
  better_frac (better_frac (better_frac (better_frac hs (far_frac h1 h3 h4)) (far_frac h2 h3 h4)) (far_frac h3 h1 h2)) (far_frac h4 h1 h2)
theorem rowFar_frac {ox oy : Int} {s : Pt × Pt} {lb : List Pt} (h1 : Near1 ox oy s.1) (h2 : Near1 ox oy s.2) (hl : ∀ j, Near1 ox oy (ptZ lb j)) {st : Option (Int × Int)} (hs : FracO st) : ∀ j, FracO (rowFar s lb j st)
  | 0 => hs
  | j + 1 => pairFar_frac h1 h2 (hl j) (hl (j + 1)) (rowFar_frac h1 h2 hl hs j)
theorem allFar_frac {ox oy : Int} {la lb : List Pt} (ha : ∀ j, Near1 ox oy (ptZ la j)) (hb : ∀ j, Near1 ox oy (ptZ lb j)) (m' : Nat) : ∀ i, FracO (allFar la lb m' i)
  | 0 => fun f h => by cases h
  | i + 1 => rowFar_frac (ha i) (ha (i + 1)) hb (allFar_frac ha hb m' i) m'
theorem ownsRow_kx {X : Nat → Prop} {A B : World} {base : Nat} {e : TypeId} {size n : Nat} {v : Value} {xs : List Value} (h : A.ownsRow base e size v n xs) (hk : Kx X A B) (hX : ∀ j, X j → j < base) : B.ownsRow base e size v n xs := by
  refine ⟨h.1, h.2.imp id ?_⟩
  rintro ⟨g, cap, cur, h1, h2, h3, h4⟩
  exact ⟨g, cap, cur, h1, h2, (hk.block g (Array.getElem?_eq_some_iff.1 h3).1 (fun hx => by have := hX g hx; omega)).trans h3, h4⟩
theorem kx_aft {X : Nat → Prop} {w A B : World} (h : Aft w A) (hX : ∀ j, X j → w.heap.size ≤ j) (hk : Kx X A B) : Aft w B :=
  ⟨hk.os.trans h.os, hk.tape.trans h.tape, hk.output.trans h.output, Nat.le_trans h.size hk.size, fun j hj => (hk.block j (by have := h.size; omega) (fun hx => by have := hX j hx; omega)).trans (h.block j hj)⟩
theorem seg_cells {W : World} {base : Nat} {v : Value} {l : List Pt} {m : Nat} (h : W.ownsRow base 112 4 v m (segC l m)) {i : Nat} (hi : i < m) :
    ∃ g cap, v = .slice (some ⟨g, 0, none⟩) m cap ∧ W.cell? ⟨g, i * 4, none⟩ = some (.int .i64 (sgZ l i).1.1) ∧ W.cell? ⟨g, i * 4 + 1, none⟩ = some (.int .i64 (sgZ l i).1.2) ∧ W.cell? ⟨g, i * 4 + 2, none⟩ = some (.int .i64 (sgZ l i).2.1) ∧ W.cell? ⟨g, i * 4 + 3, none⟩ = some (.int .i64 (sgZ l i).2.2) := by
  obtain ⟨g, cap, rfl⟩ := ownsRow_some' h (by omega)
  refine ⟨g, cap, rfl, ?_, ?_, ?_, ?_⟩
  all_goals refine (fun j u hj => by
    have := h.cells rfl j u hj
    by_cases h0 : j = 0
    · subst h0; simpa [Addr.add] using this
    · simpa [Addr.add, h0] using this : ∀ j u, (segC l m)[j]? = some u → W.cell? ⟨g, j, none⟩ = some u) _ _ ?_
  · have := segC_get l m i hi 0 (by omega); rw [Nat.add_zero] at this; exact this
  · exact segC_get l m i hi 1 (by omega)
  · exact segC_get l m i hi 2 (by omega)
  · exact segC_get l m i hi 3 (by omega)

set_option maxRecDepth 100000 in
set_option maxHeartbeats 8000000 in
theorem near_any (ka kb : Int) (va vb : Value) (la lb : List Pt) (ox oy : Int) (w : World) (hla : Prs w va la) (hlb : Prs w vb lb) (hsa : la.length ≤ 1000) (hsb : lb.length ≤ 1000) (hsca : ScL la) (hscb : ScL lb)
    (hda : ka = 0 → la.length = 1) (hdb : kb = 0 → lb.length = 1) (hna : ∀ j, Near1 ox oy (ptZ la j)) (hnb : ∀ j, Near1 ox oy (ptZ lb j)) :
    Calls Try.prog 28 #[.agg #[.int .i64 ka, va], .agg #[.int .i64 kb, vb]] w fun e w' => e = .returned (.tuple #[.int .i64 (nearZ ka la kb lb).1, .int .i64 (nearZ ka la kb lb).2]) ∧ Aft w w' := by
  have hPa := hla
  have hPb := hlb
  obtain ⟨aa, ca, rfl, hla⟩ := hla
  obtain ⟨ab, cb, rfl, hlb⟩ := hlb
  have hma := nPart_le hda
  have hmb := nPart_le hdb
  have HFR := hid (allFar_frac hna hnb (nPart kb lb))
  obtain ⟨m, hm⟩ : ∃ m, nPart ka la = m := ⟨_, rfl⟩
  obtain ⟨m', hm'⟩ : ∃ m, nPart kb lb = m := ⟨_, rfl⟩
  have hZ : nearZ ka la kb lb = if meets la lb m m' then (0, 1) else fracZ (allFar la lb m' m) := by unfold nearZ; rw [hm, hm']
  have HZ := hid hZ; clear hZ
  rw [hm'] at HFR
  obtain ⟨W0, eW0, hw0, hlt, hbox⟩ := two_boxes w #[.int .i64 ka, .slice aa la.length ca] #[.int .i64 kb, .slice ab lb.length cb] 51 51
  go_enter Try.func28, Try.ntmps28
  go_upto_region 1 with fail
  clear eW0
  have hF : Hid (∀ W, Aft W0 W → (W.cell? ⟨w.heap.size, 0, none⟩ = some (.int .i64 ka) ∧ W.cell? ⟨w.heap.size, 1, none⟩ = some (.slice aa la.length ca)) ∧ W.cell? ⟨w.heap.size + 1, 0, none⟩ = some (.int .i64 kb) ∧ W.cell? ⟨w.heap.size + 1, 1, none⟩ = some (.slice ab lb.length cb)) := hid fun W hW =>
    ⟨⟨(hbox.out W hW).1 0 _ rfl, (hbox.out W hW).1 1 _ rfl⟩, (hbox.out W hW).2 0 _ rfl, (hbox.out W hW).2 1 _ rfl⟩
  clear hbox
  obtain ⟨W2, eW2, hw2, hlt2, hbox2⟩ := two_boxes W0 #[.int .i64 (-1)] #[.int .i64 1] 3 3
  have hfz : W2.frozen? ⟨W0.heap.size, 0, none⟩ = false ∧ W2.frozen? ⟨W0.heap.size + 1, 0, none⟩ = false := by
    rw [← eW2]
    refine ⟨?_, ?_⟩
    · rw [((Aft.refl _).alloc _).frozen (by simp)]
      exact frozen_new _ _ _ _
    · simp
  go_upto_region 3 with fail
  clear eW2
  have hpair : Pair W2 W0.heap.size (W0.heap.size + 1) none := ⟨(hbox2.out W2 (Aft.refl _)).1 0 _ rfl, (hbox2.out W2 (Aft.refl _)).2 0 _ rfl, hfz.1, hfz.2⟩
  clear hbox2 hfz
  have hw02 := hw0.trans hw2
  have hz0 := hw0.size
  obtain ⟨⟨p1, p2⟩, p3, p4⟩ := hF.out W2 hw2
  generalize hn0 : w.heap.size = n0 at *
  generalize hn6 : W0.heap.size = n6 at *
  go_wp2_with fail
  refine (elements_any ka _ la W2 (hPa.aft hw02) hsa hda).mono ?_
  rintro e W3 ⟨v3, rfl, hown, hw3⟩
  rw [hm] at hown
  have hw03 := hw02.trans hw3
  have hz3 := hw3.size
  have hpair3 : Pair W3 n6 (n6 + 1) none := ⟨(hw3.cell (by omega)).trans hpair.1, (hw3.cell (by omega)).trans hpair.2.1, (hw3.frozen (by omega)).trans hpair.2.2.1, (hw3.frozen (by omega)).trans hpair.2.2.2⟩
  clear hpair p1 p2 p3 p4
  obtain ⟨a3, c3, rfl, _⟩ := ownsRow_at hown
  go_wp2
  go_loopw [18] (fun i wr => ∃ r : Nat, r ≤ m ∧ i = .int .i64 r ∧ Kx (fun j => j = n6 ∨ j = n6 + 1) W3 wr ∧ Pair wr n6 (n6 + 1) (allFar la lb m' r) ∧ Hid (∀ i, i < r → ∀ j, j < m' → meetZ (sgZ la i) (sgZ lb j) = false)) (fun i _ => m - (intOf i).toNat)
  case atStart => exact ⟨0, by omega, rfl, Kx.refl _ _, hpair3, hid fun i hi => by omega⟩
  case round =>
    obtain ⟨r, hr, rfl, hkx, hpr, hno⟩ := hrel
    have hzr := hkx.size
    have hmi : (0 : Int) ≤ m := by omega
    rcases Nat.lt_or_ge r m with hlt' | hge
    · have hne := nPart_ne hda (i := r) (by omega)
      have hri : (r : Int) < m := by omega
      have hownr := ownsRow_kx hown hkx (fun j hj => by rcases hj with rfl | rfl <;> omega)
      obtain ⟨g, cap, he, q1, q2, q3, q4⟩ := seg_cells hownr hlt'
      simp only [Value.slice.injEq, true_and] at he
      obtain ⟨rfl, rfl⟩ := he
      have hsc := sgZ_sc hsca r
      obtain ⟨⟨⟨ax, ay⟩, bx, by_⟩, hs⟩ : ∃ s, sgZ la r = s := ⟨_, rfl⟩
      rw [hs] at q1 q2 q3 q4 hsc
      simp only at q1 q2 q3 q4 hsc
      obtain ⟨s1, s2, s3, s4⟩ := hsc
      have HS := hid hs; clear hs
      obtain ⟨W4, eW4, hw4, hlt4, hbox4⟩ := one_box wr #[.int .i64 ax, .int .i64 ay, .int .i64 bx, .int .i64 by_] 112
      go_upto_region 6 with fail
      clear eW4
      have hk4 : Kx (fun j => j = n6 ∨ j = n6 + 1) W3 W4 := hkx.trans (aft_kx hw4)
      have hp4 : Pair W4 n6 (n6 + 1) (allFar la lb m' r) := ⟨(hw4.cell (by omega)).trans hpr.1, (hw4.cell (by omega)).trans hpr.2.1, (hw4.frozen (by omega)).trans hpr.2.2.1, (hw4.frozen (by omega)).trans hpr.2.2.2⟩
      have b10 : B4 W4 wr.heap.size ax ay bx by_ := ⟨⟨hbox4.out W4 (Aft.refl _) 0 _ rfl, hbox4.out W4 (Aft.refl _) 1 _ rfl⟩, hbox4.out W4 (Aft.refl _) 2 _ rfl, hbox4.out W4 (Aft.refl _) 3 _ rfl⟩
      have hz4 := hw4.size
      clear hbox4 q1 q2 q3 q4 hpr
      obtain ⟨-, p3, p4⟩ := hF.out W3 (hw2.trans hw3)
      replace p3 : W4.cell? ⟨n0 + 1, 0, none⟩ = some (.int .i64 kb) := (hk4.cell (by omega) (by omega)).trans p3
      replace p4 : W4.cell? ⟨n0 + 1, 1, none⟩ = some (.slice ab lb.length cb) := (hk4.cell (by omega) (by omega)).trans p4
      have hPb4 : Prs W4 (.slice ab lb.length cb) lb := Prs.same hPb (hPb.aft hw03) (fun j hj => hk4.block j (by have := hw03.size; omega) (by omega))
      generalize hn10 : wr.heap.size = n10 at *
      go_wp2_with fail
      refine (elements_any kb _ lb W4 hPb4 hsb hdb).mono ?_
      rintro e W5 ⟨v5, rfl, hown5, hw5⟩
      rw [hm'] at hown5
      clear p3 p4
      have hz5 := hw5.size
      have hk5 : Kx (fun j => j = n6 ∨ j = n6 + 1) W3 W5 := hk4.trans (aft_kx hw5)
      have hp5 : Pair W5 n6 (n6 + 1) (allFar la lb m' r) := ⟨(hw5.cell (by omega)).trans hp4.1, (hw5.cell (by omega)).trans hp4.2.1, (hw5.frozen (by omega)).trans hp4.2.2.1, (hw5.frozen (by omega)).trans hp4.2.2.2⟩
      have b10' : B4 W5 n10 ax ay bx by_ := by
        have tr : ∀ {o : Nat} {v : Value}, W4.cell? ⟨n10, o, none⟩ = some v → W5.cell? ⟨n10, o, none⟩ = some v := fun h => (hw5.cell (World.block_lt_of_cell? _ _ h)).trans h
        exact ⟨⟨tr b10.1.1, tr b10.1.2⟩, tr b10.2.1, tr b10.2.2⟩
      clear hp4
      obtain ⟨a5, c5, rfl, _⟩ := ownsRow_at hown5
      go_wp2
      go_loopw [25] (fun i wq => ∃ q : Nat, q ≤ m' ∧ i = .int .i64 q ∧ Kx (fun j => j = n6 ∨ j = n6 + 1) W5 wq ∧ Pair wq n6 (n6 + 1) (rowFar (sgZ la r) lb q (allFar la lb m' r)) ∧ Hid (∀ j, j < q → meetZ (sgZ la r) (sgZ lb j) = false)) (fun i _ => m' - (intOf i).toNat)
      case atStart => exact ⟨0, by omega, rfl, Kx.refl _ _, hp5, hid fun i hi => by omega⟩
      case round =>
        obtain ⟨q, hq, rfl, hkq, hpq, hnq⟩ := hrel
        have hzq := hkq.size
        have hmi' : (0 : Int) ≤ m' := by omega
        rcases Nat.lt_or_ge q m' with hltq | hgeq
        · have hneb := nPart_ne hdb (i := q) (by omega)
          have hqi : (q : Int) < m' := by omega
          have hownq := ownsRow_kx hown5 hkq (fun j hj => by rcases hj with rfl | rfl <;> omega)
          obtain ⟨g', cap', he', q1, q2, q3, q4⟩ := seg_cells hownq hltq
          simp only [Value.slice.injEq, true_and] at he'
          obtain ⟨rfl, rfl⟩ := he'
          have hscq := sgZ_sc hscb q
          obtain ⟨⟨⟨cx, cy⟩, dx, dy⟩, hsq⟩ : ∃ s, sgZ lb q = s := ⟨_, rfl⟩
          rw [hsq] at q1 q2 q3 q4 hscq
          simp only at q1 q2 q3 q4 hscq
          obtain ⟨t1, t2, t3, t4⟩ := hscq
          have HSQ := hid hsq; clear hsq
          obtain ⟨W6, eW6, hw6, hlt6, hbox6⟩ := one_box wr #[.int .i64 cx, .int .i64 cy, .int .i64 dx, .int .i64 dy] 112
          go_upto_region 9 with fail
          clear eW6
          have hst := HFR.out r
          have hn1 := hna r
          have hn2 := hna (r + 1)
          have hn3 := hnb q
          have hn4 := hnb (q + 1)
          have hs12 := HS.out
          have hs34 := HSQ.out
          unfold sgZ at hs12 hs34
          simp only [Prod.mk.injEq] at hs12 hs34
          obtain ⟨e1, e2⟩ := hs12
          obtain ⟨e3, e4⟩ := hs34
          have hstq := rowFar_frac (s := sgZ la r) (lb := lb) hn1 hn2 hnb hst q
          rw [e1] at hn1
          rw [e2] at hn2
          rw [e3] at hn3
          rw [e4] at hn4
          clear e1 e2 e3 e4 hst
          generalize hstE : rowFar (sgZ la r) lb q (allFar la lb m' r) = st at *
          have hk6 : Kx (fun j => j = n6 ∨ j = n6 + 1) W5 W6 := hkq.trans (aft_kx hw6)
          have hp6 : Pair W6 n6 (n6 + 1) st := ⟨(hw6.cell (by omega)).trans hpq.1, (hw6.cell (by omega)).trans hpq.2.1, (hw6.frozen (by omega)).trans hpq.2.2.1, (hw6.frozen (by omega)).trans hpq.2.2.2⟩
          have b12 : B4 W6 wr.heap.size cx cy dx dy := ⟨⟨hbox6.out W6 (Aft.refl _) 0 _ rfl, hbox6.out W6 (Aft.refl _) 1 _ rfl⟩, hbox6.out W6 (Aft.refl _) 2 _ rfl, hbox6.out W6 (Aft.refl _) 3 _ rfl⟩
          have b10q : B4 W6 n10 ax ay bx by_ := by
            have tr : ∀ {o : Nat} {v : Value}, W5.cell? ⟨n10, o, none⟩ = some v → W6.cell? ⟨n10, o, none⟩ = some v := fun h => (hk6.cell (World.block_lt_of_cell? _ _ h) (show ¬ (n10 = n6 ∨ n10 = n6 + 1) by omega)).trans h
            exact ⟨⟨tr b10'.1.1, tr b10'.1.2⟩, tr b10'.2.1, tr b10'.2.2⟩
          have hz6 := hw6.size
          clear hbox6 q1 q2 q3 q4 hpq
          generalize hn12 : wr.heap.size = n12 at *
          have hQ : Hid (∀ W', Kx (fun j => j = n6 ∨ j = n6 + 1) W6 W' → B4 W' n10 ax ay bx by_ ∧ B4 W' n12 cx cy dx dy) := hid fun W' hW' => by
            have tr : ∀ (b o : Nat) (v : Value), W6.cell? ⟨b, o, none⟩ = some v → n6 + 1 < b → W'.cell? ⟨b, o, none⟩ = some v := fun b o v h hb => (hW'.cell (World.block_lt_of_cell? _ _ h) (show ¬ (b = n6 ∨ b = n6 + 1) by omega)).trans h
            exact ⟨⟨⟨tr _ _ _ b10q.1.1 (by omega), tr _ _ _ b10q.1.2 (by omega)⟩, tr _ _ _ b10q.2.1 (by omega), tr _ _ _ b10q.2.2 (by omega)⟩, ⟨tr _ _ _ b12.1.1 (by omega), tr _ _ _ b12.1.2 (by omega)⟩, tr _ _ _ b12.2.1 (by omega), tr _ _ _ b12.2.2 (by omega)⟩
          clear b10q b12
          obtain ⟨⟨⟨x1, x2⟩, x3, x4⟩, ⟨y1, y2⟩, y3, y4⟩ := hQ.out W6 (Kx.refl _ _)
          go_wp2_with fail
          refine (meet_any _ s1 s2 s3 s4 t1 t2 t3 t4).mono ?_
          rintro e W7 ⟨rfl, hw7⟩
          clear x1 x2 x3 x4 y1 y2 y3 y4
          obtain ⟨o, ho⟩ : ∃ o, meetZ ((ax, ay), (bx, by_)) ((cx, cy), (dx, dy)) = o := ⟨_, rfl⟩
          rw [ho]
          have HM := hid ho; clear ho
          cases o
          case true =>
            have hres : nearZ ka la kb lb = (0, 1) := by
              rw [HZ.out, if_pos]
              exact List.any_eq_true.2 ⟨r, List.mem_range.2 hlt', List.any_eq_true.2 ⟨q, List.mem_range.2 hltq, by rw [HS.out, HSQ.out]; exact HM.out⟩⟩
            have HR := hid hres; clear hres
            have HE := hid (kx_aft hw03 (fun j hj => by rcases hj with rfl | rfl <;> omega) ((hk5.trans hk6).trans (aft_kx hw7)))
            go_wp2
            go_ret2
            exact ⟨by rw [HR.out]; rfl, HE.out⟩
          case false =>
            have hk7 : Kx (fun j => j = n6 ∨ j = n6 + 1) W6 W7 := aft_kx hw7
            have hp7 : Pair W7 n6 (n6 + 1) st := ⟨(hw7.cell (by omega)).trans hp6.1, (hw7.cell (by omega)).trans hp6.2.1, (hw7.frozen (by omega)).trans hp6.2.2.1, (hw7.frozen (by omega)).trans hp6.2.2.2⟩
            have HN := hid hp7
            have hz7 := hw7.size
            clear hp6 hp7
            obtain ⟨⟨⟨x1, x2⟩, x3, x4⟩, ⟨y1, y2⟩, y3, y4⟩ := hQ.out W7 hk7
            have Fa := far_frac (p := (ax, ay)) (s := ((cx, cy), (dx, dy))) hn1 hn3 hn4
            have Fb := far_frac (p := (bx, by_)) (s := ((cx, cy), (dx, dy))) hn2 hn3 hn4
            have Fc := far_frac (p := (cx, cy)) (s := ((ax, ay), (bx, by_))) hn3 hn1 hn2
            have Fd := far_frac (p := (dx, dy)) (s := ((ax, ay), (bx, by_))) hn4 hn1 hn2
            obtain ⟨fa, ha⟩ : ∃ f, farZ (ax, ay) ((cx, cy), (dx, dy)) = f := ⟨_, rfl⟩
            obtain ⟨fb, hb⟩ : ∃ f, farZ (bx, by_) ((cx, cy), (dx, dy)) = f := ⟨_, rfl⟩
            obtain ⟨fc, hc⟩ : ∃ f, farZ (cx, cy) ((ax, ay), (bx, by_)) = f := ⟨_, rfl⟩
            obtain ⟨fd, hd⟩ : ∃ f, farZ (dx, dy) ((ax, ay), (bx, by_)) = f := ⟨_, rfl⟩
            rw [ha] at Fa
            rw [hb] at Fb
            rw [hc] at Fc
            rw [hd] at Fd
            have HFA := hid ha; clear ha
            have HFB := hid hb; clear hb
            have HFC := hid hc; clear hc
            have HFD := hid hd; clear hd
            have HPF : Hid (pairFar ((ax, ay), (bx, by_)) ((cx, cy), (dx, dy)) st = better (better (better (better st fa) fb) fc) fd) := hid (by unfold pairFar; rw [HFA.out, HFB.out, HFC.out, HFD.out])
            have S1 := better_frac hstq Fa
            have S2 := better_frac S1 Fb
            have S3 := better_frac S2 Fc
            go_wp2_with fail
            refine (apart_any' _ t1 t2 t3 t4 s1 s2).mono ?_
            rintro e V0 ⟨rfl, hv0⟩
            rw [HFA.out]
            have hq0 : Hid (Pair V0 n6 (n6 + 1) st) := hid (by
              have hp := HN.out
              have := World.block_lt_of_cell? _ _ hp.1
              have := World.block_lt_of_cell? _ _ hp.2.1
              exact ⟨(hv0.cell (by assumption)).trans hp.1, (hv0.cell (by assumption)).trans hp.2.1, (hv0.frozen (by assumption)).trans hp.2.2.1, (hv0.frozen (by assumption)).trans hp.2.2.2⟩)
            have hj0 : Kx (fun j => j = n6 ∨ j = n6 + 1) W6 V0 := hk7.trans (aft_kx hv0)
            go_wp2_with fail
            refine (take_frac n6 (n6 + 1) (by omega) st fa V0 hq0.out hstq Fa).mono ?_
            rintro e U0 ⟨⟨u0, rfl⟩, hl0, hm0⟩
            have hi0 := hj0.trans hl0
            have hr0 := hid hm0
            clear hm0 hv0 hq0 x1 x2 x3 x4 y1 y2 y3 y4
            obtain ⟨⟨⟨x1, x2⟩, x3, x4⟩, ⟨y1, y2⟩, y3, y4⟩ := hQ.out U0 hi0
            go_wp2_with fail
            refine (apart_any' _ t1 t2 t3 t4 s3 s4).mono ?_
            rintro e V1 ⟨rfl, hv1⟩
            rw [HFB.out]
            have hq1 : Hid (Pair V1 n6 (n6 + 1) (better st fa)) := hid (by
              have hp := hr0.out
              have := World.block_lt_of_cell? _ _ hp.1
              have := World.block_lt_of_cell? _ _ hp.2.1
              exact ⟨(hv1.cell (by assumption)).trans hp.1, (hv1.cell (by assumption)).trans hp.2.1, (hv1.frozen (by assumption)).trans hp.2.2.1, (hv1.frozen (by assumption)).trans hp.2.2.2⟩)
            have hj1 : Kx (fun j => j = n6 ∨ j = n6 + 1) W6 V1 := hi0.trans (aft_kx hv1)
            go_wp2_with fail
            refine (take_frac n6 (n6 + 1) (by omega) (better st fa) fb V1 hq1.out S1 Fb).mono ?_
            rintro e U1 ⟨⟨u1, rfl⟩, hl1, hm1⟩
            have hi1 := hj1.trans hl1
            have hr1 := hid hm1
            clear hm1 hv1 hq1 x1 x2 x3 x4 y1 y2 y3 y4
            obtain ⟨⟨⟨x1, x2⟩, x3, x4⟩, ⟨y1, y2⟩, y3, y4⟩ := hQ.out U1 hi1
            go_wp2_with fail
            refine (apart_any' _ s1 s2 s3 s4 t1 t2).mono ?_
            rintro e V2 ⟨rfl, hv2⟩
            rw [HFC.out]
            have hq2 : Hid (Pair V2 n6 (n6 + 1) (better (better st fa) fb)) := hid (by
              have hp := hr1.out
              have := World.block_lt_of_cell? _ _ hp.1
              have := World.block_lt_of_cell? _ _ hp.2.1
              exact ⟨(hv2.cell (by assumption)).trans hp.1, (hv2.cell (by assumption)).trans hp.2.1, (hv2.frozen (by assumption)).trans hp.2.2.1, (hv2.frozen (by assumption)).trans hp.2.2.2⟩)
            have hj2 : Kx (fun j => j = n6 ∨ j = n6 + 1) W6 V2 := hi1.trans (aft_kx hv2)
            go_wp2_with fail
            refine (take_frac n6 (n6 + 1) (by omega) (better (better st fa) fb) fc V2 hq2.out S2 Fc).mono ?_
            rintro e U2 ⟨⟨u2, rfl⟩, hl2, hm2⟩
            have hi2 := hj2.trans hl2
            have hr2 := hid hm2
            clear hm2 hv2 hq2 x1 x2 x3 x4 y1 y2 y3 y4
            obtain ⟨⟨⟨x1, x2⟩, x3, x4⟩, ⟨y1, y2⟩, y3, y4⟩ := hQ.out U2 hi2
            go_wp2_with fail
            refine (apart_any' _ s1 s2 s3 s4 t3 t4).mono ?_
            rintro e V3 ⟨rfl, hv3⟩
            rw [HFD.out]
            have hq3 : Hid (Pair V3 n6 (n6 + 1) (better (better (better st fa) fb) fc)) := hid (by
              have hp := hr2.out
              have := World.block_lt_of_cell? _ _ hp.1
              have := World.block_lt_of_cell? _ _ hp.2.1
              exact ⟨(hv3.cell (by assumption)).trans hp.1, (hv3.cell (by assumption)).trans hp.2.1, (hv3.frozen (by assumption)).trans hp.2.2.1, (hv3.frozen (by assumption)).trans hp.2.2.2⟩)
            have hj3 : Kx (fun j => j = n6 ∨ j = n6 + 1) W6 V3 := hi2.trans (aft_kx hv3)
            go_wp2_with fail
            refine (take_frac n6 (n6 + 1) (by omega) (better (better (better st fa) fb) fc) fd V3 hq3.out S3 Fd).mono ?_
            rintro e U3 ⟨⟨u3, rfl⟩, hl3, hm3⟩
            have hi3 := hj3.trans hl3
            have hr3 := hid hm3
            clear hm3 hv3 hq3 x1 x2 x3 x4 y1 y2 y3 y4
            obtain ⟨⟨⟨x1, x2⟩, x3, x4⟩, ⟨y1, y2⟩, y3, y4⟩ := hQ.out U3 hi3
            go_wp2
            go_roundw
            case rel =>
              refine ⟨q + 1, by omega, by go_num, hk6.trans hi3, ?_, hid fun j hj => ?_⟩
              · show Pair U3 n6 (n6 + 1) (pairFar (sgZ la r) (sgZ lb q) (rowFar (sgZ la r) lb q (allFar la lb m' r)))
                rw [HS.out] at hstE ⊢
                rw [HSQ.out, hstE, HPF.out]
                exact hr3.out
              · rcases Nat.lt_or_ge j q with h | h
                · exact hnq.out j h
                · obtain rfl : j = q := by omega
                  rw [HS.out, HSQ.out]; exact HM.out
            case measure => simp only [intOf]; omega
        · obtain rfl : q = m' := by omega
          go_wp2
          go_roundw
          case rel =>
            refine ⟨r + 1, by omega, by go_num, hk5.trans hkq, hpq, hid fun i hi => ?_⟩
            rcases Nat.lt_or_ge i r with h | h
            · exact hno.out i h
            · obtain rfl : i = r := by omega
              exact hnq.out
          case measure => simp only [intOf]; omega
    · obtain rfl : r = m := by omega
      have hmt : meets la lb r m' = false := by
        unfold meets
        exact List.any_eq_false.2 (fun i hi => by rw [Bool.not_eq_true]; exact List.any_eq_false.2 (fun j hj => by rw [hno.out i (List.mem_range.1 hi) j (List.mem_range.1 hj)]; simp))
      have hres : nearZ ka la kb lb = fracZ (allFar la lb m' r) := by rw [HZ.out, if_neg (by rw [hmt]; simp)]
      have HR := hid hres; clear hres hmt
      have HE := hid (kx_aft hw03 (fun j hj => by rcases hj with rfl | rfl <;> omega) hkx)
      have hFr := HFR.out r
      obtain ⟨st, hst⟩ : ∃ st, allFar la lb m' r = st := ⟨_, rfl⟩
      rw [hst] at hpr hFr
      have HST := hid hst; clear hst
      obtain ⟨c6, c7, -, -⟩ := hpr
      cases st with
      | none =>
        have HQ : Hid (nearZ ka la kb lb = (0, 1)) := hid (by rw [HR.out, HST.out]; rfl)
        simp only [encN, encD] at c6 c7
        go_wp2
        go_ret2
        exact ⟨by rw [HQ.out]; rfl, HE.out⟩
      | some x =>
        obtain ⟨n, d⟩ := x
        obtain ⟨b1, b2, b3, b4⟩ := hFr _ rfl
        simp only at b1 b2 b3 b4
        simp only [encN, encD] at c6 c7
        rcases Int.lt_or_le 0 n with hpos | hle
        · obtain ⟨n', rfl⟩ := Int.eq_ofNat_of_zero_le b1
          obtain ⟨d', rfl⟩ := Int.eq_ofNat_of_zero_le (show 0 ≤ d by omega)
          have HQ : Hid (nearZ ka la kb lb = ((n' : Int) / (Nat.gcd d' n' : Nat), (d' : Int) / (Nat.gcd d' n' : Nat))) := hid (by
            rw [HR.out, HST.out]
            unfold fracZ
            simp only [Int.toNat_natCast]
            rw [if_neg (by omega)])
          have hg0 : 0 < Nat.gcd d' n' := Nat.gcd_pos_of_pos_right _ (by omega)
          obtain ⟨gg, hgg⟩ : ∃ gg, Nat.gcd d' n' = gg := ⟨_, rfl⟩
          have HG := hid hgg
          rw [hgg] at hg0
          clear hgg
          go_wp2_with fail
          refine (gcd_any n' d' _ (by omega) (by omega)).mono ?_
          rintro e W9 ⟨rfl, hw9⟩
          rw [HG.out]
          have c6' := (hw9.cell (World.block_lt_of_cell? _ _ c6)).trans c6
          have c7' := (hw9.cell (World.block_lt_of_cell? _ _ c7)).trans c7
          have hb6 : n6 < W9.heap.size := World.block_lt_of_cell? _ _ c6'
          have hb7 : n6 + 1 < W9.heap.size := World.block_lt_of_cell? _ _ c7'
          have hgi : ((gg : Int) = 0) = False := by simp; omega
          go_upto_region 20 with fail
          refine wp_region_lat W9 (Aft.refl _) (by kernel_rfl) (by kernel_rfl) ?_
          repeat (go_big_quiet_step (fail))
          refine wpQuiet_nil ?_
          intro _ hw'; obtain ⟨z, rfl⟩ := hw'
          go_wp2
          go_ret2
          refine ⟨?_, (HE.out.trans hw9).trans z.aft⟩
          rw [HQ.out, HG.out]
          have y1 : wrap64 ((n' : Int) / gg) = (n' : Int) / gg := IntWalk.wrap64_in _ (by have := Int.ediv_nonneg (show (0 : Int) ≤ n' by omega) (show (0 : Int) ≤ gg by omega); have := Int.ediv_le_self (gg : Int) (show (0 : Int) ≤ n' by omega); omega)
          have y2 : wrap64 ((d' : Int) / gg) = (d' : Int) / gg := IntWalk.wrap64_in _ (by have := Int.ediv_nonneg (show (0 : Int) ≤ d' by omega) (show (0 : Int) ≤ gg by omega); have := Int.ediv_le_self (gg : Int) (show (0 : Int) ≤ d' by omega); omega)
          show Ending.returned (.tuple #[.int .i64 (wrap64 ((n' : Int) / gg)), .int .i64 (wrap64 ((d' : Int) / gg))]) = _
          rw [y1, y2]
        · have HQ : Hid (nearZ ka la kb lb = (0, 1)) := hid (by
            rw [HR.out, HST.out]
            unfold fracZ
            simp only
            rw [if_pos (by omega)])
          go_wp2
          go_ret2
          exact ⟨by rw [HQ.out]; rfl, HE.out⟩
end Go.Proofs.Ytokdclbfjlnnjaa
/- The program's Box, Left, Longer. -/
namespace Go.Proofs.Ytokdclbfjlnnjaa
open Go.RowKit Go.BigFrame

theorem results_pts {fn : Func} {p q : Tmp} (h : fn.results = #[.cell p 57, .cell q 57]) (tmps : Array Value) (w : World) (b b' : Nat) (x y x' y' : Int) (hp : tmps.getD p undef = .pointer (some ⟨b, 0, none⟩)) (hq : tmps.getD q undef = .pointer (some ⟨b', 0, none⟩)) (hc : B2 w b x y) (hc' : B2 w b' x' y') :
    (results fn tmps).run Try.prog w = .ok (.tuple #[.agg #[.int .i64 x, .int .i64 y], .agg #[.int .i64 x', .int .i64 y']]) w := by
  have hp' : tmps[p]?.getD undef = .pointer (some ⟨b, 0, none⟩) := by simpa using hp
  have hq' : tmps[q]?.getD undef = .pointer (some ⟨b', 0, none⟩) := by simpa using hq
  obtain ⟨h1, h2⟩ := hc
  obtain ⟨h3, h4⟩ := hc'
  simp only [Go.results, h]
  simp [hp', hq', asAddr, go_sem, h1, h2, h3, h4]
def loF (l : List Pt) : Nat → Pt
  | 0 => ptZ l 0
  | r + 1 => (min (loF l r).1 (ptZ l r).1, min (loF l r).2 (ptZ l r).2)
def hiF (l : List Pt) : Nat → Pt
  | 0 => ptZ l 0
  | r + 1 => (max (hiF l r).1 (ptZ l r).1, max (hiF l r).2 (ptZ l r).2)
def boxZ (l : List Pt) : Pt × Pt := if l = [] then ((0, 0), (0, 0)) else (loF l l.length, hiF l l.length)

theorem two_fresh (W1 : World) (x y : Int) : B2 (((W1.alloc (.cells #[.int .i64 x, .int .i64 y] 57)).alloc (.cells #[.int .i64 x, .int .i64 y] 57)).drew) W1.heap.size x y ∧ B2 (((W1.alloc (.cells #[.int .i64 x, .int .i64 y] 57)).alloc (.cells #[.int .i64 x, .int .i64 y] 57)).drew) (W1.heap.size + 1) x y ∧
    ((((W1.alloc (.cells #[.int .i64 x, .int .i64 y] 57)).alloc (.cells #[.int .i64 x, .int .i64 y] 57)).drew).frozen? ⟨W1.heap.size, 0, none⟩ = false ∧ (((W1.alloc (.cells #[.int .i64 x, .int .i64 y] 57)).alloc (.cells #[.int .i64 x, .int .i64 y] 57)).drew).frozen? ⟨W1.heap.size, 1, none⟩ = false) ∧
    ((((W1.alloc (.cells #[.int .i64 x, .int .i64 y] 57)).alloc (.cells #[.int .i64 x, .int .i64 y] 57)).drew).frozen? ⟨W1.heap.size + 1, 0, none⟩ = false ∧ (((W1.alloc (.cells #[.int .i64 x, .int .i64 y] 57)).alloc (.cells #[.int .i64 x, .int .i64 y] 57)).drew).frozen? ⟨W1.heap.size + 1, 1, none⟩ = false) ∧
    Aft W1 (((W1.alloc (.cells #[.int .i64 x, .int .i64 y] 57)).alloc (.cells #[.int .i64 x, .int .i64 y] 57)).drew) := by
  have h := box_cells W1 #[.int .i64 x, .int .i64 y] #[.int .i64 x, .int .i64 y] 57 57 _ (Aft.refl _).drew
  have f1 := fun o => ((Aft.refl (W1.alloc (.cells #[.int .i64 x, .int .i64 y] 57))).alloc (.cells #[.int .i64 x, .int .i64 y] 57)).frozen (b := W1.heap.size) (o := o) (by simp)
  have f2 := fun o => frozen_new W1 #[.int .i64 x, .int .i64 y] 57 o
  have f3 := fun o => frozen_new (W1.alloc (.cells #[.int .i64 x, .int .i64 y] 57)) #[.int .i64 x, .int .i64 y] 57 o
  simp only [World.size_alloc] at f3
  exact ⟨⟨h.1 0 _ rfl, h.1 1 _ rfl⟩, ⟨h.2 0 _ rfl, h.2 1 _ rfl⟩, ⟨(f1 0).trans (f2 0), (f1 1).trans (f2 1)⟩, ⟨f3 0, f3 1⟩, (((Aft.refl W1).alloc _).alloc _).drew⟩
theorem held_store {W : World} {g n o : Nat} {v : Value} (h : W.cell? ⟨g, o, none⟩ = some v) (hne : n ≠ g) (u u' : Value) : ((W.setCell ⟨n, 0, none⟩ u).setCell ⟨n, 1, none⟩ u').drew.cell? ⟨g, o, none⟩ = some v :=
  (World.cell?_of_block (a := ⟨g, o, none⟩) ((Below.heap_setCell _ ⟨n, 1, none⟩ _ g (fun e => hne e.symm)).trans (Below.heap_setCell _ ⟨n, 0, none⟩ _ g (fun e => hne e.symm)))).trans h
theorem held_store2 {W : World} {g n m o : Nat} {v : Value} (h : W.cell? ⟨g, o, none⟩ = some v) (hne : n ≠ g) (hne' : m ≠ g) (u u' t t' : Value) : ((((W.setCell ⟨n, 0, none⟩ u).setCell ⟨n, 1, none⟩ u').setCell ⟨m, 0, none⟩ t).setCell ⟨m, 1, none⟩ t').drew.cell? ⟨g, o, none⟩ = some v :=
  held_store (held_store h hne u u' : (((W.setCell ⟨n, 0, none⟩ u).setCell ⟨n, 1, none⟩ u').cell? ⟨g, o, none⟩ = some v)) hne' t t'
theorem put2 {W : World} {b : Nat} {x0 y0 : Int} (h : B2 W b x0 y0) (x y : Int) :
    B2 ((W.setCell ⟨b, 0, none⟩ (.int .i64 x)).setCell ⟨b, 1, none⟩ (.int .i64 y)) b x y ∧ Kx (fun j => j = b) W ((W.setCell ⟨b, 0, none⟩ (.int .i64 x)).setCell ⟨b, 1, none⟩ (.int .i64 y)) := by
  refine ⟨⟨?_, World.cell?_setCell_same' _ _ _ (by rw [World.cell?_setCell_other _ _ _ _ (by simp), h.2]; rfl)⟩, Kx.trans (X := fun j => j = b) (Kx.setCell (p := ⟨b, 0, none⟩) _ rfl) (Kx.setCell (p := ⟨b, 1, none⟩) _ rfl)⟩
  rw [World.cell?_setCell_other _ _ _ _ (by simp)]
  exact World.cell?_setCell_same' _ _ _ (by rw [h.1]; rfl)
theorem B2.kx {X : Nat → Prop} {A B : World} {b : Nat} {x y : Int} (h : B2 A b x y) (hk : Kx X A B) (hb : ¬ X b) : B2 B b x y :=
  ⟨(hk.cell (World.block_lt_of_cell? _ _ h.1) hb).trans h.1, (hk.cell (World.block_lt_of_cell? _ _ h.2) hb).trans h.2⟩

set_option maxRecDepth 100000 in
set_option maxHeartbeats 4000000 in
theorem box_any (k : Int) (vp : Value) (l : List Pt) (w : World) (hl : Prs w vp l) :
    Calls Try.prog 33 #[.agg #[.int .i64 k, vp]] w fun e w' => e = .returned (.tuple #[pr (boxZ l).1, pr (boxZ l).2]) ∧ Aft w w' := by
  have hP := hl
  obtain ⟨a, c, rfl, hl⟩ := hl
  have hn := hl.le
  obtain ⟨W0, eW0, hw0, hlt, hbox⟩ := two_boxes w #[.int .i64 k, .slice a l.length c] #[.int .i64 0, .int .i64 0] 51 57
  obtain ⟨W1, eW1, hw1, hlt1, hbox1⟩ := one_box W0 #[.int .i64 0, .int .i64 0] 57
  have hfz : W1.frozen? ⟨w.heap.size + 1, 0, none⟩ = false ∧ W1.frozen? ⟨w.heap.size + 1, 1, none⟩ = false ∧ W1.frozen? ⟨W0.heap.size, 0, none⟩ = false ∧ W1.frozen? ⟨W0.heap.size, 1, none⟩ = false := by
    refine ⟨?_, ?_, eW1 ▸ frozen_new _ _ _ _, eW1 ▸ frozen_new _ _ _ _⟩
    · rw [hw1.frozen (by omega), ← eW0]
      simp
    · rw [hw1.frozen (by omega), ← eW0]
      simp
  go_enter Try.func33, Try.ntmps33
  go_upto_region 1 with fail
  clear eW0 eW1
  have hF : Hid (∀ W, Aft W0 W → W.cell? ⟨w.heap.size, 0, none⟩ = some (.int .i64 k) ∧ W.cell? ⟨w.heap.size, 1, none⟩ = some (.slice a l.length c)) := hid fun W hW => ⟨(hbox.out W hW).1 0 _ rfl, (hbox.out W hW).1 1 _ rfl⟩
  have hB2 : B2 W1 (w.heap.size + 1) 0 0 := ⟨(hbox.out W1 hw1).2 0 _ rfl, (hbox.out W1 hw1).2 1 _ rfl⟩
  have hB3 : B2 W1 W0.heap.size 0 0 := ⟨hbox1.out W1 (Aft.refl _) 0 _ rfl, hbox1.out W1 (Aft.refl _) 1 _ rfl⟩
  clear hbox hbox1
  have hz0 := hw0.size
  have hz1 := hw1.size
  have hw01 := hw0.trans hw1
  obtain ⟨p1, p2⟩ := hF.out W1 hw1
  generalize hn0 : w.heap.size = n0 at *
  generalize hn3 : W0.heap.size = n3 at *
  obtain ⟨f1, f2, f3, f4⟩ := hfz
  obtain ⟨d1, d2⟩ := hB2
  obtain ⟨d3, d4⟩ := hB3
  by_cases hl0 : l = []
  · subst hl0
    have P2 := put2 (W := W1) (b := n0 + 1) ⟨d1, d2⟩ 0 0
    have P3 := put2 (b := n3) (B2.kx ⟨d3, d4⟩ P2.2 (by omega)) 0 0
    have HE := hid (kx_aft (X := fun j => j = n0 + 1 ∨ j = n3) hw01 (fun j hj => by rcases hj with rfl | rfl <;> omega) ((P2.2.sub fun j h => .inl h).trans (P3.2.sub fun j h => .inr h)))
    have HA := hid (B2.kx P2.1 P3.2 (by omega))
    have HB := hid P3.1
    clear P2 P3
    go_wp2
    refine bodyPost_ret (results_pts rfl _ _ (n0 + 1) n3 0 0 0 0 rfl rfl HA.out HB.out) rfl ?_
    exact ⟨rfl, HE.out⟩
  · have hpos : 0 < l.length := List.length_pos_iff.2 hl0
    have hpi : (0 : Int) < l.length := by omega
    have hb0 : ((l.length : Int) == 0) = false := by simp; exact hl0
    have hlr := hl.aft hw01
    obtain ⟨b, off, x, y, rfl, c1, c2, hb, hx, _⟩ := hlr.rd.pair hlr.ok (show 0 < l.length by omega)
    rw [Nat.zero_mul, Nat.add_zero] at c1 c2
    go_upto_region 3 with fail
    go_cut [4, 5] (fun s4 s5 wx => ∃ g4 g5 : Nat, s4 = .pointer (some ⟨g4, 0, none⟩) ∧ s5 = .pointer (some ⟨g5, 0, none⟩) ∧ g4 ≠ g5 ∧ W1.heap.size ≤ g4 ∧ W1.heap.size ≤ g5 ∧ B2 wx g4 x y ∧ B2 wx g5 x y ∧ (wx.frozen? ⟨g4, 0, none⟩ = false ∧ wx.frozen? ⟨g4, 1, none⟩ = false) ∧ (wx.frozen? ⟨g5, 0, none⟩ = false ∧ wx.frozen? ⟨g5, 1, none⟩ = false) ∧ Aft W1 wx)
    case first =>
      go_region_held3 (fun W => W.cell? ⟨n0, 1, none⟩ = some (.slice (some ⟨b, off, none⟩) l.length c) ∧ W.cell? ⟨b, off, none⟩ = some (.int .i64 x) ∧ W.cell? ⟨b, off + 1, none⟩ = some (.int .i64 y))
        (go_keep)
        (fail)
      all_goals go_wp2
      all_goals go_meet
      · have hh := two_fresh W1 x y
        exact ⟨W1.heap.size, W1.heap.size + 1, rfl, rfl, by omega, by omega, by omega, hh⟩
      · obtain ⟨h1, h2, h3, h4, h5⟩ := two_fresh W1 x y
        exact ⟨W1.heap.size + 1, W1.heap.size, rfl, rfl, by omega, by omega, by omega, h2, h1, h4, h3, h5⟩
    case rest =>
      obtain ⟨g4, g5, rfl, rfl, hne, hg4, hg5, hb4, hb5, hf4, hf5, hwx⟩ := hcut
      have hw1x := hw01.trans hwx
      have hzx := hwx.size
      have hlx := hl.aft hw1x
      have hgB4 := World.block_lt_of_cell? _ _ hb4.1
      have hgB5 := World.block_lt_of_cell? _ _ hb5.1
      have e0 : ptZ l 0 = (x, y) := ptZ_get hx.out
      have hinit4 : B2 wc g4 (loF l 0).1 (loF l 0).2 := by rw [show loF l 0 = (x, y) from e0]; exact hb4
      have hinit5 : B2 wc g5 (hiF l 0).1 (hiF l 0).2 := by rw [show hiF l 0 = (x, y) from e0]; exact hb5
      clear hb4 hb5 e0
      have p1x := (hwx.cell (World.block_lt_of_cell? _ _ p1)).trans p1
      have p2x := (hwx.cell (World.block_lt_of_cell? _ _ p2)).trans p2
      have d1x := (hwx.cell (World.block_lt_of_cell? _ _ d1)).trans d1
      have d2x := (hwx.cell (World.block_lt_of_cell? _ _ d2)).trans d2
      have d3x := (hwx.cell (World.block_lt_of_cell? _ _ d3)).trans d3
      have d4x := (hwx.cell (World.block_lt_of_cell? _ _ d4)).trans d4
      have g1x := (hwx.frozen (World.block_lt_of_cell? _ _ d1)).trans f1
      have g2x := (hwx.frozen (World.block_lt_of_cell? _ _ d1)).trans f2
      have g3x := (hwx.frozen (World.block_lt_of_cell? _ _ d3)).trans f3
      have g4x := (hwx.frozen (World.block_lt_of_cell? _ _ d3)).trans f4
      clear p1 p2 d1 d2 d3 d4 f1 f2 f3 f4 c1 c2
      have HI4 := hid hinit4
      have HI5 := hid hinit5
      clear hinit4 hinit5
      go_wp2
      go_loopw [25] (fun i wr => ∃ r : Nat, r ≤ l.length ∧ i = .int .i64 r ∧ Kx (fun j => j = g4 ∨ j = g5) wc wr ∧ Hid (B2 wr g4 (loF l r).1 (loF l r).2) ∧ Hid (B2 wr g5 (hiF l r).1 (hiF l r).2) ∧ (wr.frozen? ⟨g4, 0, none⟩ = false ∧ wr.frozen? ⟨g4, 1, none⟩ = false) ∧ (wr.frozen? ⟨g5, 0, none⟩ = false ∧ wr.frozen? ⟨g5, 1, none⟩ = false)) (fun i _ => l.length - (intOf i).toNat)
      case atStart => exact ⟨0, by omega, rfl, Kx.refl _ _, HI4, HI5, hf4, hf5⟩
      case round =>
        obtain ⟨r, hr, rfl, hkx, hB4, hB5, ⟨z1, z2⟩, ⟨z3, z4⟩⟩ := hrel
        have hzr := hkx.size
        rcases Nat.lt_or_ge r l.length with hlt' | hge
        · have hri : (r : Int) < l.length := by omega
          obtain ⟨qx, qy, c1, c2, hxr, _⟩ := Rd.pair_at hlx.rd hlx.ok hlt'
          have hbW := World.block_lt_of_cell? _ _ c1
          have hbne : ¬ (b = g4 ∨ b = g5) := by omega
          have c1r := (hkx.cell hbW hbne).trans c1
          have c2r := (hkx.cell hbW hbne).trans c2
          have eq : ptZ l r = (qx, qy) := ptZ_get hxr.out
          have EQ := hid eq; clear eq
          obtain ⟨⟨lx, ly⟩, hlo⟩ : ∃ s, loF l r = s := ⟨_, rfl⟩
          obtain ⟨⟨ux, uy⟩, hhi⟩ : ∃ s, hiF l r = s := ⟨_, rfl⟩
          obtain ⟨x1, x2⟩ := hB4.out
          obtain ⟨x3, x4⟩ := hB5.out
          rw [hlo] at x1 x2
          rw [hhi] at x3 x4
          simp only at x1 x2 x3 x4
          clear hB4 hB5 c1 c2
          obtain ⟨m1, e1⟩ : ∃ m, (if qx < lx then qx else lx) = m := ⟨_, rfl⟩
          obtain ⟨m2, e2⟩ : ∃ m, (if qy < ly then qy else ly) = m := ⟨_, rfl⟩
          obtain ⟨m3, e3⟩ : ∃ m, (if ux < qx then qx else ux) = m := ⟨_, rfl⟩
          obtain ⟨m4, e4⟩ : ∃ m, (if uy < qy then qy else uy) = m := ⟨_, rfl⟩
          have hlo' : Hid (loF l (r + 1) = (m1, m2)) := hid (by
            show (min (loF l r).1 (ptZ l r).1, min (loF l r).2 (ptZ l r).2) = _
            rw [hlo, EQ.out, ← e1, ← e2, min_if, min_if])
          have hhi' : Hid (hiF l (r + 1) = (m3, m4)) := hid (by
            show (max (hiF l r).1 (ptZ l r).1, max (hiF l r).2 (ptZ l r).2) = _
            rw [hhi, EQ.out, ← e3, ← e4, max_if, max_if])
          clear hlo hhi
          obtain ⟨W7, eW7, hw7, hlt7, hbox7⟩ := one_box wr #[.int .i64 qx, .int .i64 qy] 57
          go_upto_region 7 with fail
          clear eW7
          have y1 := hbox7.out W7 (Aft.refl _) 0 (.int .i64 qx) rfl
          have y2 := hbox7.out W7 (Aft.refl _) 1 (.int .i64 qy) rfl
          clear hbox7
          have tr : ∀ {b o : Nat} {v : Value}, wr.cell? ⟨b, o, none⟩ = some v → W7.cell? ⟨b, o, none⟩ = some v := fun h => (hw7.cell (World.block_lt_of_cell? _ _ h)).trans h
          have x1' := tr x1
          have x2' := tr x2
          have x3' := tr x3
          have x4' := tr x4
          have k1 := (hw7.frozen (World.block_lt_of_cell? _ _ x1)).trans z1
          have k2 := (hw7.frozen (World.block_lt_of_cell? _ _ x1)).trans z2
          have k3 := (hw7.frozen (World.block_lt_of_cell? _ _ x3)).trans z3
          have k4 := (hw7.frozen (World.block_lt_of_cell? _ _ x3)).trans z4
          have hg4r := World.block_lt_of_cell? _ _ x1
          have hg5r := World.block_lt_of_cell? _ _ x3
          have hq7 : wr.heap.size ≠ g4 ∧ wr.heap.size ≠ g5 := by omega
          clear tr x1 x2 x3 x4 z1 z2 z3 z4
          have P4 := put2 (W := W7) (b := g4) ⟨x1', x2'⟩ m1 m2
          have P5 := put2 (b := g5) (B2.kx ⟨x3', x4'⟩ P4.2 (by omega)) m3 m4
          have HK := hid ((hkx.trans (aft_kx hw7)).trans ((P4.2.sub fun j h => .inl h).trans (P5.2.sub fun j h => .inr h)))
          have HA := hid (B2.kx P4.1 P5.2 (by omega))
          have HB := hid P5.1
          clear P4 P5
          generalize wr.heap.size = n7 at *
          obtain ⟨h7a, h7b⟩ := hq7
          go_wp2
          go_roundw
          case rel => exact ⟨r + 1, by omega, by go_num, HK.out, hid (by rw [hlo'.out]; exact HA.out), hid (by rw [hhi'.out]; exact HB.out), ⟨by simp only [World.frozen?_setCell]; exact k1, by simp only [World.frozen?_setCell]; exact k2⟩, ⟨by simp only [World.frozen?_setCell]; exact k3, by simp only [World.frozen?_setCell]; exact k4⟩⟩
          case measure => simp only [intOf]; omega
        · obtain rfl : r = l.length := by omega
          have hzz : n0 + 1 < wc.heap.size ∧ n3 < wc.heap.size := ⟨World.block_lt_of_cell? _ _ d1x, World.block_lt_of_cell? _ _ d3x⟩
          have a1 := (hkx.cell hzz.1 (show ¬ (n0 + 1 = g4 ∨ n0 + 1 = g5) by omega)).trans d1x
          have a2 := (hkx.cell hzz.1 (show ¬ (n0 + 1 = g4 ∨ n0 + 1 = g5) by omega)).trans d2x
          have a3 := (hkx.cell hzz.2 (show ¬ (n3 = g4 ∨ n3 = g5) by omega)).trans d3x
          have a4 := (hkx.cell hzz.2 (show ¬ (n3 = g4 ∨ n3 = g5) by omega)).trans d4x
          have fr : ∀ {b o : Nat}, b < wc.heap.size → ¬ (b = g4 ∨ b = g5) → wr.frozen? ⟨b, o, none⟩ = wc.frozen? ⟨b, o, none⟩ := fun h1 h2 => World.frozen?_of_block (a := ⟨_, _, none⟩) (hkx.block _ h1 h2)
          have j1 := (fr (o := 0) hzz.1 (by omega)).trans g1x
          have j2 := (fr (o := 1) hzz.1 (by omega)).trans g2x
          have j3 := (fr (o := 0) hzz.2 (by omega)).trans g3x
          have j4 := (fr (o := 1) hzz.2 (by omega)).trans g4x
          clear fr d1x d2x d3x d4x g1x g2x g3x g4x z1 z2 z3 z4
          obtain ⟨⟨lx, ly⟩, hlo⟩ : ∃ s, loF l l.length = s := ⟨_, rfl⟩
          obtain ⟨⟨ux, uy⟩, hhi⟩ : ∃ s, hiF l l.length = s := ⟨_, rfl⟩
          obtain ⟨x1, x2⟩ := hB4.out
          obtain ⟨x3, x4⟩ := hB5.out
          rw [hlo] at x1 x2
          rw [hhi] at x3 x4
          simp only at x1 x2 x3 x4
          have hres : Hid (boxZ l = ((lx, ly), (ux, uy))) := hid (by unfold boxZ; rw [if_neg hl0, hlo, hhi])
          clear hB4 hB5 hlo hhi
          have q1 := World.block_lt_of_cell? _ _ x1
          have q3 := World.block_lt_of_cell? _ _ x3
          have h1 : n0 + 1 ≠ g4 := by omega
          have h2 : n0 + 1 ≠ g5 := by omega
          have h3 : n3 ≠ g4 := by omega
          have h4 : n3 ≠ g5 := by omega
          go_upto_region 10 with fail
          go_region_held3 (fun W => (W.cell? ⟨g4, 0, none⟩ = some (.int .i64 lx) ∧ W.cell? ⟨g4, 1, none⟩ = some (.int .i64 ly)) ∧ W.cell? ⟨g5, 0, none⟩ = some (.int .i64 ux) ∧ W.cell? ⟨g5, 1, none⟩ = some (.int .i64 uy))
            (first | go_keep | exact ⟨⟨held_store x1 h1 _ _, held_store x2 h1 _ _⟩, held_store x3 h2 _ _, held_store x4 h2 _ _⟩ | exact ⟨⟨held_store2 x1 h1 h3 _ _ _ _, held_store2 x2 h1 h3 _ _ _ _⟩, held_store2 x3 h2 h4 _ _ _ _, held_store2 x4 h2 h4 _ _ _ _⟩)
            (fail)
          have P2 := put2 (W := wr) (b := n0 + 1) ⟨a1, a2⟩ lx ly
          have P3 := put2 (b := n3) (B2.kx ⟨a3, a4⟩ P2.2 (by omega)) ux uy
          have hk0 := (hkx.sub (Y := fun j => (j = n0 + 1 ∨ j = n3) ∨ (j = g4 ∨ j = g5)) fun j h => .inr h).trans ((P2.2.sub fun j h => .inl (.inl h)).trans (P3.2.sub fun j h => .inl (.inr h)))
          have HE := hid (kx_aft hw1x (fun j hj => by rcases hj with (rfl | rfl) | (rfl | rfl) <;> omega) hk0)
          have HA := hid (B2.kx P2.1 P3.2 (by omega))
          have HB := hid P3.1
          clear P2 P3 hk0
          go_wp2
          refine bodyPost_ret (results_pts rfl _ _ (n0 + 1) n3 lx ly ux uy rfl rfl HA.out HB.out) rfl ?_
          exact ⟨by rw [hres.out]; rfl, HE.out.drew⟩
end Go.Proofs.Ytokdclbfjlnnjaa
/- The program's Left and Longer. -/
namespace Go.Proofs.Ytokdclbfjlnnjaa
open Go.RowKit Go.BigFrame

def leftZ (la lb : List Pt) : Bool := decide (0 < la.length) && (decide (0 < lb.length) && decide ((boxZ la).2.1 < (boxZ lb).1.1))

set_option maxRecDepth 100000 in
set_option maxHeartbeats 4000000 in
theorem left_any (ka kb : Int) (va vb : Value) (la lb : List Pt) (w : World) (hla : Prs w va la) (hlb : Prs w vb lb) :
    Calls Try.prog 34 #[.agg #[.int .i64 ka, va], .agg #[.int .i64 kb, vb]] w fun e w' => e = .returned (.bool (leftZ la lb)) ∧ Aft w w' := by
  have hPa := hla
  have hPb := hlb
  obtain ⟨aa, ca, rfl, hla⟩ := hla
  obtain ⟨ab, cb, rfl, hlb⟩ := hlb
  obtain ⟨W0, eW0, hw0, hlt, hbox⟩ := two_boxes w #[.int .i64 ka, .slice aa la.length ca] #[.int .i64 kb, .slice ab lb.length cb] 51 51
  have hZ : leftZ la lb = (decide (0 < la.length) && (decide (0 < lb.length) && decide ((boxZ la).2.1 < (boxZ lb).1.1))) := rfl
  obtain ⟨⟨⟨alx, aly⟩, ahx, ahy⟩, hba⟩ : ∃ s, boxZ la = s := ⟨_, rfl⟩
  obtain ⟨⟨⟨blx, bly⟩, bhx, bhy⟩, hbb⟩ : ∃ s, boxZ lb = s := ⟨_, rfl⟩
  rw [hba, hbb] at hZ
  simp only at hZ
  have HZ := hid hZ; clear hZ
  have HBA := hid hba; clear hba
  have HBB := hid hbb; clear hbb
  go_enter Try.func34, Try.ntmps34
  go_upto_region 1 with fail
  clear eW0
  have hF : Hid (∀ W, Aft W0 W → (W.cell? ⟨w.heap.size, 0, none⟩ = some (.int .i64 ka) ∧ W.cell? ⟨w.heap.size, 1, none⟩ = some (.slice aa la.length ca)) ∧ W.cell? ⟨w.heap.size + 1, 0, none⟩ = some (.int .i64 kb) ∧ W.cell? ⟨w.heap.size + 1, 1, none⟩ = some (.slice ab lb.length cb)) := hid fun W hW =>
    ⟨⟨(hbox.out W hW).1 0 _ rfl, (hbox.out W hW).1 1 _ rfl⟩, (hbox.out W hW).2 0 _ rfl, (hbox.out W hW).2 1 _ rfl⟩
  clear hbox
  obtain ⟨⟨p1, p2⟩, p3, p4⟩ := hF.out W0 (Aft.refl _)
  generalize hn0 : w.heap.size = n0 at *
  go_wp2_with fail
  refine (box_any ka _ la W0 (hPa.aft hw0)).mono ?_
  rintro e W1 ⟨rfl, hw1⟩
  rw [HBA.out]
  unfold pr
  simp only
  clear p1 p2 p3 p4
  obtain ⟨W2, eW2, hw2, hlt2, hbox2⟩ := two_boxes W1 #[.int .i64 alx, .int .i64 aly] #[.int .i64 ahx, .int .i64 ahy] 57 57
  go_upto_region 2 with fail
  clear eW2
  have hG : Hid (∀ W, Aft W2 W → B2 W (W1.heap.size + 1) ahx ahy) := hid fun W hW => ⟨(hbox2.out W hW).2 0 _ rfl, (hbox2.out W hW).2 1 _ rfl⟩
  clear hbox2
  have hw02 := hw1.trans hw2
  obtain ⟨⟨p1, p2⟩, p3, p4⟩ := hF.out W2 hw02
  generalize hn5 : W1.heap.size = n5 at *
  go_wp2_with fail
  refine (box_any kb _ lb W2 ((hPb.aft hw0).aft hw02)).mono ?_
  rintro e W3 ⟨rfl, hw3⟩
  rw [HBB.out]
  unfold pr
  simp only
  clear p1 p2 p3 p4
  obtain ⟨W4, eW4, hw4, hlt4, hbox4⟩ := two_boxes W3 #[.int .i64 blx, .int .i64 bly] #[.int .i64 bhx, .int .i64 bhy] 57 57
  go_upto_region 3 with fail
  clear eW4
  have hw24 := hw3.trans hw4
  obtain ⟨x1, x2⟩ := hG.out W4 hw24
  have y1 := (hbox4.out W4 (Aft.refl _)).1 0 (.int .i64 blx) rfl
  have y2 := (hbox4.out W4 (Aft.refl _)).1 1 (.int .i64 bly) rfl
  clear hbox4
  obtain ⟨⟨p1, p2⟩, p3, p4⟩ := hF.out W4 (hw02.trans hw24)
  have hfin := hw0.trans (hw02.trans hw24)
  generalize hn7 : W3.heap.size = n7 at *
  by_cases g1 : 0 < la.length
  · by_cases g2 : 0 < lb.length
    · have g1' : decide ((0 : Int) < la.length) = true := by simp; omega
      have g2' : decide ((0 : Int) < lb.length) = true := by simp; omega
      have HQ := hid (show leftZ la lb = decide (ahx < blx) by rw [HZ.out]; simp [g1, g2])
      go_wp2
      go_ret
      exact ⟨by rw [HQ.out]; rfl, hfin⟩
    · have g2' : ¬ ((0 : Int) < lb.length) := by omega
      have HQ := hid (show leftZ la lb = false by rw [HZ.out]; simp only [g2]; simp)
      go_wp2
      go_ret
      exact ⟨by rw [HQ.out]; rfl, hfin⟩
  · have g1' : ¬ ((0 : Int) < la.length) := by omega
    have HQ := hid (show leftZ la lb = false by rw [HZ.out]; simp only [g1]; simp)
    go_wp2
    go_ret
    exact ⟨by rw [HQ.out]; rfl, hfin⟩

def longerZ (ka : Int) (la : List Pt) (kb : Int) (lb : List Pt) : Bool := decide (lengthZ kb lb < lengthZ ka la)
set_option maxRecDepth 100000 in
set_option maxHeartbeats 4000000 in
theorem longer_any (ka kb : Int) (va vb : Value) (la lb : List Pt) (w : World) (hla : Prs w va la) (hlb : Prs w vb lb) (hsa : la.length ≤ 1000) (hsb : lb.length ≤ 1000) (hsca : ScL la) (hscb : ScL lb) :
    Calls Try.prog 43 #[.agg #[.int .i64 ka, va], .agg #[.int .i64 kb, vb]] w fun e w' => e = .returned (.bool (longerZ ka la kb lb)) ∧ Aft w w' := by
  have hPa := hla
  have hPb := hlb
  obtain ⟨aa, ca, rfl, hla⟩ := hla
  obtain ⟨ab, cb, rfl, hlb⟩ := hlb
  obtain ⟨W0, eW0, hw0, hlt, hbox⟩ := two_boxes w #[.int .i64 ka, .slice aa la.length ca] #[.int .i64 kb, .slice ab lb.length cb] 51 51
  go_enter Try.func43, Try.ntmps43
  go_upto_region 1 with fail
  clear eW0
  have p1 := (hbox.out W0 (Aft.refl _)).1 0 (.int .i64 ka) rfl
  have p2 := (hbox.out W0 (Aft.refl _)).1 1 (.slice aa la.length ca) rfl
  have p3 := (hbox.out W0 (Aft.refl _)).2 0 (.int .i64 kb) rfl
  have p4 := (hbox.out W0 (Aft.refl _)).2 1 (.slice ab lb.length cb) rfl
  clear hbox
  have hlt0 : w.heap.size < W0.heap.size := by omega
  have hA := hPa.aft hw0
  have hB := hPb.aft hw0
  generalize hn0 : w.heap.size = n0 at *
  refine wp_region_lat W0 (Aft.refl _) (by kernel_rfl) (by kernel_rfl) ?_
  repeat (go_big_quiet_step ((go_at_call 37; exact Calls.lat (length_any _ _ _ _ (Prs.aft (w := W0) (by assumption) (Lat.aft _)) (by assumption) (by assumption)))))
  refine wpQuiet_nil ?_
  intro _ hw'; obtain ⟨z, rfl⟩ := hw'
  go_wp2
  go_ret
  exact ⟨rfl, hw0.trans z.aft⟩
end Go.Proofs.Ytokdclbfjlnnjaa
/- The reference's Length, Longer, Strictly. -/
namespace Go.Proofs.Ytokdclbfjlnnjaa
open Go.RowKit Go.BigFrame

/-- The Ends number i in a row of the reference. -/
def E6 (W : World) (g i : Nat) (l : List Pt) : Prop := W.cell? ⟨g, i * 6, none⟩ = some (.int .i64 (sgZ l i).1.1) ∧ W.cell? ⟨g, i * 6 + 1, none⟩ = some (.int .i64 (sgZ l i).1.2) ∧ W.cell? ⟨g, i * 6 + 2, none⟩ = some (.int .i64 (sgZ l i).2.1) ∧ W.cell? ⟨g, i * 6 + 3, none⟩ = some (.int .i64 (sgZ l i).2.2) ∧
  W.cell? ⟨g, i * 6 + 4, none⟩ = some (.int .i64 i) ∧ W.cell? ⟨g, i * 6 + 5, none⟩ = some (.int .i64 ((i + 1) % l.length : Nat))
theorem ends_cells {W : World} {base : Nat} {v : Value} {l : List Pt} {m : Nat} (h : W.ownsRow base 59 6 v m (endsC l m)) {i : Nat} (hi : i < m) : ∃ g cap, v = .slice (some ⟨g, 0, none⟩) m cap ∧ E6 W g i l := by
  obtain ⟨g, cap, rfl⟩ := ownsRow_some' h (by omega)
  refine ⟨g, cap, rfl, ?_, ?_, ?_, ?_, ?_, ?_⟩
  all_goals refine (fun j u hj => by
    have := h.cells rfl j u hj
    by_cases h0 : j = 0
    · subst h0; simpa [Addr.add] using this
    · simpa [Addr.add, h0] using this : ∀ j u, (endsC l m)[j]? = some u → W.cell? ⟨g, j, none⟩ = some u) _ _ ?_
  · have := endsC_get l m i hi 0 (by omega); rw [Nat.add_zero] at this; exact this
  · exact endsC_get l m i hi 1 (by omega)
  · exact endsC_get l m i hi 2 (by omega)
  · exact endsC_get l m i hi 3 (by omega)
  · exact endsC_get l m i hi 4 (by omega)
  · exact endsC_get l m i hi 5 (by omega)

theorem size_to {n s : Int} (h : sizeZ n = s) (w : World) (hn : -1000000 ≤ n ∧ n ≤ 1000000) : Calls Try.prog 84 #[.int .i64 n] w fun e w' => e = .returned (.int .i64 s) ∧ Aft w w' := by rw [← h]; exact size_any n w hn
theorem size_neg (a b : Int) : sizeZ (a - b) = max (b - a) (-(b - a)) := by unfold sizeZ; omega

set_option maxRecDepth 100000 in
set_option maxHeartbeats 4000000 in
theorem rlength_any (k : Int) (vp : Value) (l : List Pt) (w : World) (hl : Prs w vp l) (hsm : l.length ≤ 1000) (hsc : ScL l) :
    Calls Try.prog 38 #[.agg #[.int .i64 k, vp]] w fun e w' => e = .returned (.int .i64 (lengthZ k l)) ∧ Aft w w' := by
  have hP := hl
  obtain ⟨a, c, rfl, hl⟩ := hl
  obtain ⟨W0, eW0, hw0, hlt, hbox⟩ := one_box w #[.int .i64 k, .slice a l.length c] 51
  go_enter Try.func38, Try.ntmps38
  go_upto_region 2 with fail
  clear eW0
  have p1 := hbox.out W0 (Aft.refl _) 0 (.int .i64 k) rfl
  have p2 := hbox.out W0 (Aft.refl _) 1 (.slice a l.length c) rfl
  clear hbox
  generalize hn0 : w.heap.size = n0 at *
  go_wp2_with fail
  refine (segments_any k _ l W0 (hP.aft hw0) hsm).mono ?_
  rintro e W1 ⟨v1, rfl, hown, hw1⟩
  have hnle := nSeg_le k l
  obtain ⟨m, hm⟩ : ∃ m, nSeg k l = m := ⟨_, rfl⟩
  rw [hm] at hown hnle
  have hZ : lengthZ k l = lenS l (List.range m) := by unfold lengthZ; rw [hm]
  have HZ := hid hZ; clear hZ hm
  have hw01 := hw0.trans hw1
  obtain ⟨a1, c1, rfl, _⟩ := ownsRow_at hown
  clear p1 p2
  go_wp2
  go_loopw [3, 5] (fun s i wr => ∃ r : Nat, r ≤ m ∧ i = .int .i64 r ∧ s = .int .i64 (lenS l (List.range r)) ∧ Aft W1 wr) (fun _ i _ => m - (intOf i).toNat)
  case atStart => exact ⟨0, by omega, rfl, rfl, Aft.refl _⟩
  case round =>
    obtain ⟨r, hr, rfl, rfl, hwr⟩ := hrel
    rcases Nat.lt_or_ge r m with hlt' | hge
    · have hri : (r : Int) < m := by omega
      have hownr := ownsRow_aft hown hwr
      obtain ⟨g, cap, he, q1, q2, q3, q4, q5, q6⟩ := ends_cells hownr hlt'
      simp only [Value.slice.injEq, true_and] at he
      obtain ⟨rfl, rfl⟩ := he
      have hsc4 := sgZ_sc hsc r
      have hlb := lenS_bd hsc (List.range r)
      rw [List.length_range] at hlb
      have hsn := lenS_snoc l (List.range r) r
      rw [← List.range_succ] at hsn
      obtain ⟨⟨⟨ax, ay⟩, bx, by_⟩, hs⟩ : ∃ s, sgZ l r = s := ⟨_, rfl⟩
      rw [hs] at q1 q2 q3 q4 hsc4 hsn
      simp only at q1 q2 q3 q4 hsc4
      obtain ⟨⟨u1, u1'⟩, ⟨u2, u2'⟩, ⟨u3, u3'⟩, u4, u4'⟩ := hsc4
      have hgl := World.block_lt_of_cell? _ _ q1
      obtain ⟨s1, e1⟩ : ∃ s, sizeZ (ax - bx) = s := ⟨_, rfl⟩
      obtain ⟨s2, e2⟩ : ∃ s, sizeZ (ay - by_) = s := ⟨_, rfl⟩
      have hb1 : 0 ≤ s1 ∧ s1 ≤ 10000 := by rw [← e1]; unfold sizeZ; omega
      have hb2 : 0 ≤ s2 ∧ s2 ≤ 10000 := by rw [← e2]; unfold sizeZ; omega
      obtain ⟨mx, e3⟩ : ∃ x, (if s1 < s2 then s2 else s1) = x := ⟨_, rfl⟩
      have hmx : 0 ≤ mx ∧ mx ≤ 10000 := by rw [← e3]; split <;> omega
      have hval : lenS l (List.range r) + mx = lenS l (List.range (r + 1)) := by
        rw [hsn, ← e3, max_if, ← e1, ← e2, size_neg, size_neg]
        rfl
      have HV := hid hval
      clear hval hsn
      have E1 := e1
      have E2 := e2
      clear e1 e2
      obtain ⟨W2, hW2⟩ : ∃ W2, W2 = wr := ⟨_, rfl⟩
      subst hW2
      go_upto_region 6 with fail
      refine wp_region_lat W2 (Aft.refl _) (by kernel_rfl) (by kernel_rfl) ?_
      repeat (go_big_quiet_step ((go_at_call 84; exact Calls.lat (size_to (by assumption) _ (by omega)))))
      refine wpQuiet_nil ?_
      intro _ hw'; obtain ⟨z, rfl⟩ := hw'
      go_wp2
      go_roundw
      case rel => exact ⟨r + 1, by omega, by go_num, by rw [← HV.out], hwr.trans z.aft⟩
      case measure => simp only [intOf]; omega
    · obtain rfl : r = m := by omega
      go_wp2
      go_ret
      exact ⟨by rw [HZ.out]; rfl, hw01.trans hwr⟩
end Go.Proofs.Ytokdclbfjlnnjaa
/- The reference's Longer and Strictly. -/
namespace Go.Proofs.Ytokdclbfjlnnjaa
open Go.RowKit Go.BigFrame

set_option maxRecDepth 100000 in
set_option maxHeartbeats 4000000 in
theorem rlonger_any (ka kb : Int) (va vb : Value) (la lb : List Pt) (w : World) (hla : Prs w va la) (hlb : Prs w vb lb) (hsa : la.length ≤ 1000) (hsb : lb.length ≤ 1000) (hsca : ScL la) (hscb : ScL lb) :
    Calls Try.prog 44 #[.agg #[.int .i64 ka, va], .agg #[.int .i64 kb, vb]] w fun e w' => e = .returned (.bool (longerZ ka la kb lb)) ∧ Aft w w' := by
  have hPa := hla
  have hPb := hlb
  obtain ⟨aa, ca, rfl, hla⟩ := hla
  obtain ⟨ab, cb, rfl, hlb⟩ := hlb
  obtain ⟨W0, eW0, hw0, hlt, hbox⟩ := two_boxes w #[.int .i64 ka, .slice aa la.length ca] #[.int .i64 kb, .slice ab lb.length cb] 51 51
  go_enter Try.func44, Try.ntmps44
  go_upto_region 1 with fail
  clear eW0
  have p1 := (hbox.out W0 (Aft.refl _)).1 0 (.int .i64 ka) rfl
  have p2 := (hbox.out W0 (Aft.refl _)).1 1 (.slice aa la.length ca) rfl
  have p3 := (hbox.out W0 (Aft.refl _)).2 0 (.int .i64 kb) rfl
  have p4 := (hbox.out W0 (Aft.refl _)).2 1 (.slice ab lb.length cb) rfl
  clear hbox
  have hlt0 : w.heap.size < W0.heap.size := by omega
  have hA := hPa.aft hw0
  have hB := hPb.aft hw0
  generalize hn0 : w.heap.size = n0 at *
  refine wp_region_lat W0 (Aft.refl _) (by kernel_rfl) (by kernel_rfl) ?_
  repeat (go_big_quiet_step ((go_at_call 38; exact Calls.lat (rlength_any _ _ _ _ (Prs.aft (w := W0) (by assumption) (Lat.aft _)) (by assumption) (by assumption)))))
  refine wpQuiet_nil ?_
  intro _ hw'; obtain ⟨z, rfl⟩ := hw'
  go_wp2
  go_ret
  exact ⟨rfl, hw0.trans z.aft⟩

/-- A crossing to the right. -/
def crossB (p : Pt) (s : Pt × Pt) : Bool := if s.2.2 < s.1.2 then decide (s.2.2 ≤ p.2 ∧ p.2 < s.1.2 ∧ 0 < crossZ s.2 s.1 p) else decide (s.1.2 ≤ p.2 ∧ p.2 < s.2.2 ∧ 0 < crossZ s.1 s.2 p)
def oddS (p : Pt) (l : List Pt) : Nat → Bool
  | 0 => false
  | r + 1 => Bool.xor (oddS p l r) (crossB p (sgZ l r))
def strictlyZ (p : Pt) (k : Int) (l : List Pt) : Bool := !((List.range (nSeg k l)).any fun i => onZ p (sgZ l i)) && oddS p l (nSeg k l)
theorem ron_to {px py ax ay bx by_ f t : Int} {o : Bool} (h : onZ (px, py) ((ax, ay), (bx, by_)) = o) (w : World) (h1 : Sc ax) (h2 : Sc ay) (h3 : Sc bx) (h4 : Sc by_) (h5 : Sc px) (h6 : Sc py) :
    Calls Try.prog 79 #[.agg #[.int .i64 px, .int .i64 py], .agg #[.int .i64 ax, .int .i64 ay, .int .i64 bx, .int .i64 by_, .int .i64 f, .int .i64 t]] w
      fun e w' => e = .returned (.bool o) ∧ Aft w w' := by rw [← h]; exact ron_any f t w h1 h2 h3 h4 h5 h6

set_option maxRecDepth 100000 in
set_option maxHeartbeats 8000000 in
theorem strictly_any (px py k : Int) (vp : Value) (l : List Pt) (w : World) (hl : Prs w vp l) (hsm : l.length ≤ 1000) (hsc : ScL l) (hpx : Sc px) (hpy : Sc py) :
    Calls Try.prog 90 #[.agg #[.int .i64 px, .int .i64 py], .agg #[.int .i64 k, vp]] w fun e w' => e = .returned (.bool (strictlyZ (px, py) k l)) ∧ Aft w w' := by
  have hP := hl
  obtain ⟨a, c, rfl, hl⟩ := hl
  obtain ⟨W0, eW0, hw0, hlt, hbox⟩ := two_boxes w #[.int .i64 px, .int .i64 py] #[.int .i64 k, .slice a l.length c] 57 51
  go_enter Try.func90, Try.ntmps90
  go_upto_region 1 with fail
  clear eW0
  have hF : Hid (∀ W, Aft W0 W → B2 W w.heap.size px py) := hid fun W hW => ⟨(hbox.out W hW).1 0 _ rfl, (hbox.out W hW).1 1 _ rfl⟩
  have p3 := (hbox.out W0 (Aft.refl _)).2 0 (.int .i64 k) rfl
  have p4 := (hbox.out W0 (Aft.refl _)).2 1 (.slice a l.length c) rfl
  clear hbox
  generalize hn0 : w.heap.size = n0 at *
  go_wp2_with fail
  refine (segments_any k _ l W0 (hP.aft hw0) hsm).mono ?_
  rintro e W1 ⟨v1, rfl, hown, hw1⟩
  obtain ⟨m, hm⟩ : ∃ m, nSeg k l = m := ⟨_, rfl⟩
  have hnle := nSeg_le k l
  rw [hm] at hown hnle
  have hZ : strictlyZ (px, py) k l = (!((List.range m).any fun i => onZ (px, py) (sgZ l i)) && oddS (px, py) l m) := by unfold strictlyZ; rw [hm]
  have HZ := hid hZ; clear hZ hm
  have hw01 := hw0.trans hw1
  obtain ⟨a1, c1, rfl, _⟩ := ownsRow_at hown
  clear p3 p4
  go_wp2
  go_loopw [6, 7] (fun s i wr => ∃ r : Nat, r ≤ m ∧ i = .int .i64 r ∧ s = .bool (oddS (px, py) l r) ∧ Hid (∀ j, j < r → onZ (px, py) (sgZ l j) = false) ∧ Aft W1 wr) (fun _ i _ => m - (intOf i).toNat)
  case atStart => exact ⟨0, by omega, rfl, rfl, hid fun j hj => by omega, Aft.refl _⟩
  case round =>
    obtain ⟨r, hr, rfl, rfl, hno, hwr⟩ := hrel
    rcases Nat.lt_or_ge r m with hlt' | hge
    · have hri : (r : Int) < m := by omega
      have hownr := ownsRow_aft hown hwr
      obtain ⟨g, cap, he, q1, q2, q3, q4, q5, q6⟩ := ends_cells hownr hlt'
      simp only [Value.slice.injEq, true_and] at he
      obtain ⟨rfl, rfl⟩ := he
      have hsc4 := sgZ_sc hsc r
      obtain ⟨od, hod⟩ : ∃ o, oddS (px, py) l r = o := ⟨_, rfl⟩
      have hodn : oddS (px, py) l (r + 1) = Bool.xor od (crossB (px, py) (sgZ l r)) := by show Bool.xor (oddS (px, py) l r) _ = _; rw [hod]
      rw [hod]
      obtain ⟨⟨⟨ax, ay⟩, bx, by_⟩, hs⟩ : ∃ s, sgZ l r = s := ⟨_, rfl⟩
      rw [hs] at q1 q2 q3 q4 hsc4 hodn
      simp only at q1 q2 q3 q4 hsc4
      obtain ⟨s1, s2, s3, s4⟩ := hsc4
      have HS := hid hs
      have HON := hid hodn
      clear hodn hod
      have hgl := World.block_lt_of_cell? _ _ q1
      obtain ⟨x1, x2⟩ := hF.out wr (hw1.trans hwr)
      have hnl := World.block_lt_of_cell? _ _ x1
      obtain ⟨o, ho⟩ : ∃ o, onZ (px, py) ((ax, ay), (bx, by_)) = o := ⟨_, rfl⟩
      have HO := hid ho
      obtain ⟨W2, hW2⟩ : ∃ W2, W2 = wr := ⟨_, rfl⟩
      subst hW2
      clear hs
      go_upto_region 6 with fail
      refine wp_region_lat W2 (Aft.refl _) (by kernel_rfl) (by kernel_rfl) ?_
      repeat (go_big_quiet_step ((go_at_call 79; exact Calls.lat (ron_to (by assumption) _ (by assumption) (by assumption) (by assumption) (by assumption) (by assumption) (by assumption)))))
      refine wpQuiet_nil ?_
      intro _ hw'; obtain ⟨z, rfl⟩ := hw'
      have hz := z.aft
      generalize z.W = W3 at *
      cases o
      case true =>
        have HR := hid (show strictlyZ (px, py) k l = false by rw [HZ.out, List.any_eq_true.2 ⟨r, List.mem_range.2 hlt', by rw [HS.out]; exact HO.out⟩]; rfl)
        go_wp2
        go_ret
        exact ⟨by rw [HR.out]; rfl, (hw01.trans hwr).trans hz⟩
      case false =>
        have tr : ∀ {b o : Nat} {v : Value}, W2.cell? ⟨b, o, none⟩ = some v → W3.cell? ⟨b, o, none⟩ = some v := fun h => (hz.cell (World.block_lt_of_cell? _ _ h)).trans h
        have r1 := tr q1
        have r2 := tr q2
        have r3 := tr q3
        have r4 := tr q4
        have r5 := tr q5
        have r6 := tr q6
        have hw3 := hwr.trans hz
        clear q1 q2 q3 q4 q5 q6 x1 x2 hownr tr
        obtain ⟨W4, eW4, hw4, hlt4, hbox4⟩ := two_boxes W3 #[.int .i64 ax, .int .i64 ay] #[.int .i64 bx, .int .i64 by_] 57 57
        have hf8 := fun o => ((Aft.refl (W3.alloc (.cells #[.int .i64 ax, .int .i64 ay] 57))).alloc (.cells #[.int .i64 bx, .int .i64 by_] 57)).frozen (b := W3.heap.size) (o := o) (by simp)
        have hf8' := fun o => frozen_new W3 #[.int .i64 ax, .int .i64 ay] 57 o
        have hf9 := fun o => frozen_new (W3.alloc (.cells #[.int .i64 ax, .int .i64 ay] 57)) #[.int .i64 bx, .int .i64 by_] 57 o
        simp only [World.size_alloc] at hf9
        rw [eW4] at hf8 hf9
        have z1 := (hf8 0).trans (hf8' 0)
        have z2 := (hf8 1).trans (hf8' 1)
        have z3 := hf9 0
        have z4 := hf9 1
        clear hf8 hf8' hf9
        have hg3 := World.block_lt_of_cell? _ _ r1
        have B8 : B2 W4 W3.heap.size ax ay := ⟨(hbox4.out W4 (Aft.refl _)).1 0 _ rfl, (hbox4.out W4 (Aft.refl _)).1 1 _ rfl⟩
        have B9 : B2 W4 (W3.heap.size + 1) bx by_ := ⟨(hbox4.out W4 (Aft.refl _)).2 0 _ rfl, (hbox4.out W4 (Aft.refl _)).2 1 _ rfl⟩
        obtain ⟨b1, b2⟩ := B8
        obtain ⟨b3, b4⟩ := B9
        go_upto_if 38 with fail
        clear eW4
        have tr : ∀ {b o : Nat} {v : Value}, W3.cell? ⟨b, o, none⟩ = some v → W4.cell? ⟨b, o, none⟩ = some v := fun h => (hw4.cell (World.block_lt_of_cell? _ _ h)).trans h
        have q1 := tr r1
        have q2 := tr r2
        have q3 := tr r3
        have q4 := tr r4
        have q5 := tr r5
        have q6 := tr r6
        clear r1 r2 r3 r4 r5 r6 tr hbox4
        have hwz3 := hw3.size
        have hw34 := hw3.trans hw4
        have B0 := hF.out W4 (hw1.trans hw34)
        have hz1s := hw1.size
        have hz0s := hw0.size
        generalize hn8 : W3.heap.size = n8 at *
        obtain ⟨b5, b6⟩ := B0
        go_cut [] (fun wx => ∃ a1 a2 a3 a4 : Int, B2 wx n8 a1 a2 ∧ B2 wx (n8 + 1) a3 a4 ∧ B2 wx n0 px py ∧ Aft W1 wx ∧ (Sc a1 ∧ Sc a2 ∧ Sc a3 ∧ Sc a4) ∧ Hid (crossB (px, py) ((ax, ay), (bx, by_)) = decide (a2 ≤ py ∧ py < a4 ∧ 0 < crossZ (a1, a2) (a3, a4) (px, py))))
        case first =>
          rcases Int.lt_or_le by_ ay with hsw | hsw
          · have P8 := put2 (W := W4) (b := n8) ⟨b1, b2⟩ bx by_
            have P9 := put2 (b := n8 + 1) (B2.kx ⟨b3, b4⟩ P8.2 (by omega)) ax ay
            have hk := (P8.2.sub (Y := fun j => j = n8 ∨ j = n8 + 1) fun j h => .inl h).trans (P9.2.sub fun j h => .inr h)
            have HE := hid (kx_aft hw34 (fun j hj => by rcases hj with rfl | rfl <;> omega) hk)
            have HA := hid (B2.kx P8.1 P9.2 (by omega))
            have HB := hid P9.1
            have HC := hid (B2.kx ⟨b5, b6⟩ hk (by omega))
            clear P8 P9 hk
            have HX := hid (show crossB (px, py) ((ax, ay), (bx, by_)) = decide (by_ ≤ py ∧ py < ay ∧ 0 < crossZ (bx, by_) (ax, ay) (px, py)) from if_pos hsw)
            go_wp2
            go_meet
            exact ⟨bx, by_, ax, ay, HA.out, HB.out, HC.out, HE.out, ⟨s3, s4, s1, s2⟩, HX⟩
          · have HX := hid (show crossB (px, py) ((ax, ay), (bx, by_)) = decide (ay ≤ py ∧ py < by_ ∧ 0 < crossZ (ax, ay) (bx, by_) (px, py)) from if_neg (by show ¬ (by_ < ay); omega))
            go_wp2
            go_meet
            exact ⟨ax, ay, bx, by_, ⟨b1, b2⟩, ⟨b3, b4⟩, ⟨b5, b6⟩, hw34, ⟨s1, s2, s3, s4⟩, HX⟩
        case rest =>
          obtain ⟨a1', a2', a3', a4', ⟨e1, e2⟩, ⟨e3, e4⟩, ⟨e5, e6⟩, hwx, ⟨t1, t2, t3, t4⟩, HX⟩ := hcut
          have HN := hid (show ∀ j, j < r + 1 → onZ (px, py) (sgZ l j) = false from fun j hj => by
            rcases Nat.lt_or_ge j r with h | h
            · exact hno.out j h
            · obtain rfl : j = r := by omega
              rw [HS.out]; exact HO.out)
          obtain ⟨d, hd⟩ : ∃ d, crossZ (a1', a2') (a3', a4') (px, py) = d := ⟨_, rfl⟩
          have HD := hid hd; clear hd
          rcases Int.lt_or_le py a2' with g1 | g1
          · have HQ := hid (show oddS (px, py) l (r + 1) = od by rw [HON.out, HX.out, decide_eq_false (p := (a2' ≤ py ∧ py < a4' ∧ 0 < crossZ (a1', a2') (a3', a4') (px, py))) (by omega)]; simp)
            go_wp2
            go_roundw
            case rel => exact ⟨r + 1, by omega, by go_num, by rw [HQ.out], HN, hwx⟩
            case measure => simp only [intOf]; omega
          · rcases Int.lt_or_le py a4' with g2 | g2
            · go_wp2_with fail
              refine (cross_any _ t1 t2 t3 t4 hpx hpy).mono ?_
              rintro e W5 ⟨rfl, hw5⟩
              rw [HD.out]
              rcases Int.lt_or_le 0 d with g3 | g3
              · have HQ := hid (show oddS (px, py) l (r + 1) = !od by rw [HON.out, HX.out, HD.out, decide_eq_true (p := (a2' ≤ py ∧ py < a4' ∧ 0 < d)) (by omega)]; simp)
                go_wp2
                go_roundw
                case rel => exact ⟨r + 1, by omega, by go_num, by rw [HQ.out], HN, hwx.trans hw5⟩
                case measure => simp only [intOf]; omega
              · have HQ := hid (show oddS (px, py) l (r + 1) = od by rw [HON.out, HX.out, HD.out, decide_eq_false (p := (a2' ≤ py ∧ py < a4' ∧ 0 < d)) (by omega)]; simp)
                go_wp2
                go_roundw
                case rel => exact ⟨r + 1, by omega, by go_num, by rw [HQ.out], HN, hwx.trans hw5⟩
                case measure => simp only [intOf]; omega
            · have HQ := hid (show oddS (px, py) l (r + 1) = od by rw [HON.out, HX.out, decide_eq_false (p := (a2' ≤ py ∧ py < a4' ∧ 0 < crossZ (a1', a2') (a3', a4') (px, py))) (by omega)]; simp)
              go_wp2
              go_roundw
              case rel => exact ⟨r + 1, by omega, by go_num, by rw [HQ.out], HN, hwx⟩
              case measure => simp only [intOf]; omega
    · obtain rfl : r = m := by omega
      have HR := hid (show strictlyZ (px, py) k l = oddS (px, py) l r by
        rw [HZ.out, List.any_eq_false.2 (fun j hj => by rw [hno.out j (List.mem_range.1 hj)]; simp)]; rfl)
      go_wp2
      go_ret
      exact ⟨by rw [HR.out]; rfl, hw01.trans hwr⟩
end Go.Proofs.Ytokdclbfjlnnjaa
/- The reference's Inside. -/
namespace Go.Proofs.Ytokdclbfjlnnjaa
open Go.RowKit Go.BigFrame

def rinsideZ (ka : Int) (la : List Pt) (kb : Int) (lb : List Pt) : Bool :=
  decide (kb = 2) && (!la.isEmpty && (!(la.any fun p => !strictlyZ p kb lb) && !((List.range (nSeg ka la)).any fun i => (List.range (nSeg kb lb)).any fun j => meetZ (sgZ la i) (sgZ lb j))))

theorem strictly_to {px py k : Int} {o : Bool} {vp : Value} {l : List Pt} (h : strictlyZ (px, py) k l = o) (w : World) (hl : Prs w vp l) (hsm : l.length ≤ 1000) (hsc : ScL l) (hpx : Sc px) (hpy : Sc py) :
    Calls Try.prog 90 #[.agg #[.int .i64 px, .int .i64 py], .agg #[.int .i64 k, vp]] w fun e w' => e = .returned (.bool o) ∧ Aft w w' := by rw [← h]; exact strictly_any px py k vp l w hl hsm hsc hpx hpy
theorem rmeet_to {ax ay bx by_ cx cy dx dy f t f' t' : Int} {o : Bool} (h : meetZ ((ax, ay), (bx, by_)) ((cx, cy), (dx, dy)) = o) (w : World) (h1 : Sc ax) (h2 : Sc ay) (h3 : Sc bx) (h4 : Sc by_) (h5 : Sc cx) (h6 : Sc cy) (h7 : Sc dx) (h8 : Sc dy) :
    Calls Try.prog 31 #[.agg #[.int .i64 ax, .int .i64 ay, .int .i64 bx, .int .i64 by_, .int .i64 f, .int .i64 t], .agg #[.int .i64 cx, .int .i64 cy, .int .i64 dx, .int .i64 dy, .int .i64 f', .int .i64 t']] w
      fun e w' => e = .returned (.bool o) ∧ Aft w w' := by rw [← h]; exact rmeet_any f t f' t' w h1 h2 h3 h4 h5 h6 h7 h8

set_option maxRecDepth 100000 in
set_option maxHeartbeats 8000000 in
theorem rinside_any (ka kb : Int) (va vb : Value) (la lb : List Pt) (w : World) (hla : Prs w va la) (hlb : Prs w vb lb) (hsa : la.length ≤ 1000) (hsb : lb.length ≤ 1000) (hsca : ScL la) (hscb : ScL lb) :
    Calls Try.prog 41 #[.agg #[.int .i64 ka, va], .agg #[.int .i64 kb, vb]] w fun e w' => e = .returned (.bool (rinsideZ ka la kb lb)) ∧ Aft w w' := by
  have hPa := hla
  have hPb := hlb
  obtain ⟨aa, ca, rfl, hla⟩ := hla
  obtain ⟨ab, cb, rfl, hlb⟩ := hlb
  obtain ⟨W0, eW0, hw0, hlt, hbox⟩ := two_boxes w #[.int .i64 ka, .slice aa la.length ca] #[.int .i64 kb, .slice ab lb.length cb] 51 51
  go_enter Try.func41, Try.ntmps41
  go_upto_region 1 with fail
  clear eW0
  have hF : Hid (∀ W, Aft W0 W → (W.cell? ⟨w.heap.size, 0, none⟩ = some (.int .i64 ka) ∧ W.cell? ⟨w.heap.size, 1, none⟩ = some (.slice aa la.length ca)) ∧ W.cell? ⟨w.heap.size + 1, 0, none⟩ = some (.int .i64 kb) ∧ W.cell? ⟨w.heap.size + 1, 1, none⟩ = some (.slice ab lb.length cb)) := hid fun W hW =>
    ⟨⟨(hbox.out W hW).1 0 _ rfl, (hbox.out W hW).1 1 _ rfl⟩, (hbox.out W hW).2 0 _ rfl, (hbox.out W hW).2 1 _ rfl⟩
  clear hbox
  obtain ⟨⟨p1, p2⟩, p3, p4⟩ := hF.out W0 (Aft.refl _)
  generalize hn0 : w.heap.size = n0 at *
  by_cases hk : kb = 2
  · subst hk
    by_cases hla0 : la = []
    · have HR := hid (show rinsideZ ka la 2 lb = false by unfold rinsideZ; simp [hla0])
      go_wp2
      go_ret
      exact ⟨by rw [HR.out]; rfl, hw0⟩
    · have hlb0 : ((la.length : Int) == 0) = false := by simp; exact hla0
      have HR := hid (show rinsideZ ka la 2 lb = (!(la.any fun p => !strictlyZ p 2 lb) && !((List.range (nSeg ka la)).any fun i => (List.range (nSeg 2 lb)).any fun j => meetZ (sgZ la i) (sgZ lb j))) by
        unfold rinsideZ
        cases la with
        | nil => exact absurd rfl hla0
        | cons p0 la' => simp)
      go_wp2
      clear p1 p2 p3 p4
      go_loopw [5] (fun i wr => ∃ r : Nat, r ≤ la.length ∧ i = .int .i64 r ∧ Hid (∀ j, j < r → ∀ p, la[j]? = some p → strictlyZ p 2 lb = true) ∧ Aft W0 wr) (fun i _ => la.length - (intOf i).toNat)
      case atStart => exact ⟨0, by omega, rfl, hid fun j hj => by omega, Aft.refl _⟩
      case round =>
        obtain ⟨r, hr, rfl, hno, hwr⟩ := hrel
        obtain ⟨⟨p1, p2⟩, p3, p4⟩ := hF.out wr hwr
        have hwr0 := hw0.trans hwr
        rcases Nat.lt_or_ge r la.length with hlt' | hge
        · have hri : (r : Int) < la.length := by omega
          have hlr := hla.aft hwr0
          obtain ⟨b, off, x, y, rfl, c1, c2, hb, hx, _⟩ := hlr.rd.pair hlr.ok hlt'
          obtain ⟨hpx, hpy⟩ := hsca _ (List.mem_of_getElem? hx.out)
          simp only at hpx hpy
          have hl1 := World.block_lt_of_cell? _ _ p1
          have hl3 := World.block_lt_of_cell? _ _ p3
          have hPbr := hPb.aft hwr0
          obtain ⟨o, ho⟩ : ∃ o, strictlyZ (x, y) 2 lb = o := ⟨_, rfl⟩
          have HO := hid ho
          obtain ⟨W2, hW2⟩ : ∃ W2, W2 = wr := ⟨_, rfl⟩
          subst hW2
          go_upto_region 6 with fail
          refine wp_region_lat W2 (Aft.refl _) (by kernel_rfl) (by kernel_rfl) ?_
          repeat (go_big_quiet_step ((go_at_call 90; exact Calls.lat (strictly_to ho _ (hPbr.aft (Lat.aft _)) hsb hscb hpx hpy))))
          refine wpQuiet_nil ?_
          intro _ hw'; obtain ⟨z, rfl⟩ := hw'
          cases o
          case false =>
            have HQ := hid (show rinsideZ ka la 2 lb = false by
              rw [HR.out, List.any_eq_true.2 ⟨(x, y), List.mem_of_getElem? hx.out, by rw [HO.out]; rfl⟩]; rfl)
            go_wp2
            go_ret
            exact ⟨by rw [HQ.out]; rfl, hwr0.trans z.aft⟩
          case true =>
            have HN := hid (show ∀ j, j < r + 1 → ∀ p, la[j]? = some p → strictlyZ p 2 lb = true from fun j hj p hp => by
              rcases Nat.lt_or_ge j r with h | h
              · exact hno.out j h p hp
              · obtain rfl : j = r := by omega
                rw [hx.out] at hp
                cases hp
                exact HO.out)
            go_wp2
            go_roundw
            case rel => exact ⟨r + 1, by omega, by go_num, HN, hwr.trans z.aft⟩
            case measure => simp only [intOf]; omega
        · obtain rfl : r = la.length := by omega
          have hany : (la.any fun p => !strictlyZ p 2 lb) = false := List.any_eq_false.2 (fun p hp => by
            obtain ⟨j, hj, hjp⟩ := List.mem_iff_getElem.1 hp
            rw [hno.out j hj p (by rw [List.getElem?_eq_getElem hj, hjp])]; simp)
          have HR2 := hid (show rinsideZ ka la 2 lb = !((List.range (nSeg ka la)).any fun i => (List.range (nSeg 2 lb)).any fun j => meetZ (sgZ la i) (sgZ lb j)) by rw [HR.out, hany]; rfl)
          clear hany
          go_wp2_with fail
          refine (segments_any ka _ la wr (hPa.aft hwr0) hsa).mono ?_
          rintro e W3 ⟨v3, rfl, hown3, hw3⟩
          clear p1 p2 p3 p4
          have hw03 := hwr.trans hw3
          obtain ⟨⟨p1, p2⟩, p3, p4⟩ := hF.out W3 hw03
          go_wp2_with fail
          refine (segments_any 2 _ lb W3 (hPb.aft (hw0.trans hw03)) hsb).mono ?_
          rintro e W4 ⟨v4, rfl, hown4, hw4⟩
          clear p1 p2 p3 p4
          have hown3' := ownsRow_aft hown3 hw4
          have hna := nSeg_le ka la
          have hnb := nSeg_le 2 lb
          obtain ⟨m, hm⟩ : ∃ m, nSeg ka la = m := ⟨_, rfl⟩
          obtain ⟨m', hm'⟩ : ∃ m, nSeg 2 lb = m := ⟨_, rfl⟩
          have HR3 := hid (show rinsideZ ka la 2 lb = !((List.range m).any fun i => (List.range m').any fun j => meetZ (sgZ la i) (sgZ lb j)) by rw [HR2.out, hm, hm'])
          rw [hm] at hown3 hown3' hna
          rw [hm'] at hown4 hnb
          clear hm hm' hown3
          have hfin := (hw0.trans hw03).trans hw4
          obtain ⟨a3, c3, rfl, _⟩ := ownsRow_at hown3'
          obtain ⟨a4, c4, rfl, _⟩ := ownsRow_at hown4
          go_wp2
          go_loopw [8] (fun i wr => ∃ r : Nat, r ≤ m ∧ i = .int .i64 r ∧ Hid (∀ i, i < r → ∀ j, j < m' → meetZ (sgZ la i) (sgZ lb j) = false) ∧ Aft W4 wr) (fun i _ => m - (intOf i).toNat)
          case atStart => exact ⟨0, by omega, rfl, hid fun j hj => by omega, Aft.refl _⟩
          case round =>
            obtain ⟨i, hi, rfl, hno2, hwi⟩ := hrel
            rcases Nat.lt_or_ge i m with hlti | hgei
            · have hii : (i : Int) < m := by omega
              go_wp2
              go_loopw [9] (fun j wr => ∃ q : Nat, q ≤ m' ∧ j = .int .i64 q ∧ Hid (∀ j, j < q → meetZ (sgZ la i) (sgZ lb j) = false) ∧ Aft W4 wr) (fun j _ => m' - (intOf j).toNat)
              case atStart => exact ⟨0, by omega, rfl, hid fun j hj => by omega, hwi⟩
              case round =>
                obtain ⟨q, hq, rfl, hno3, hwq⟩ := hrel
                rcases Nat.lt_or_ge q m' with hltq | hgeq
                · have hqi : (q : Int) < m' := by omega
                  have o3 := ownsRow_aft hown3' hwq
                  have o4 := ownsRow_aft hown4 hwq
                  obtain ⟨g, cap, he, q1, q2, q3, q4, q5, q6⟩ := ends_cells o3 hlti
                  simp only [Value.slice.injEq, true_and] at he
                  obtain ⟨rfl, rfl⟩ := he
                  obtain ⟨g', cap', he', t1, t2, t3, t4, t5, t6⟩ := ends_cells o4 hltq
                  simp only [Value.slice.injEq, true_and] at he'
                  obtain ⟨rfl, rfl⟩ := he'
                  have hsa4 := sgZ_sc hsca i
                  have hsb4 := sgZ_sc hscb q
                  obtain ⟨⟨⟨ax, ay⟩, bx, by_⟩, hs⟩ : ∃ s, sgZ la i = s := ⟨_, rfl⟩
                  obtain ⟨⟨⟨cx, cy⟩, dx, dy⟩, ht⟩ : ∃ s, sgZ lb q = s := ⟨_, rfl⟩
                  rw [hs] at q1 q2 q3 q4 hsa4
                  rw [ht] at t1 t2 t3 t4 hsb4
                  simp only at q1 q2 q3 q4 hsa4 t1 t2 t3 t4 hsb4
                  obtain ⟨s1, s2, s3, s4⟩ := hsa4
                  obtain ⟨s5, s6, s7, s8⟩ := hsb4
                  have HS := hid hs
                  have HT := hid ht
                  clear hs ht
                  have hg1 := World.block_lt_of_cell? _ _ q1
                  have hg2 := World.block_lt_of_cell? _ _ t1
                  obtain ⟨o, ho⟩ : ∃ o, meetZ ((ax, ay), (bx, by_)) ((cx, cy), (dx, dy)) = o := ⟨_, rfl⟩
                  have HO := hid ho
                  obtain ⟨W2, hW2⟩ : ∃ W2, W2 = wr := ⟨_, rfl⟩
                  subst hW2
                  go_upto_region 16 with fail
                  refine wp_region_lat W2 (Aft.refl _) (by kernel_rfl) (by kernel_rfl) ?_
                  repeat (go_big_quiet_step ((go_at_call 31; exact Calls.lat (rmeet_to ho _ s1 s2 s3 s4 s5 s6 s7 s8))))
                  refine wpQuiet_nil ?_
                  intro _ hw'; obtain ⟨z, rfl⟩ := hw'
                  cases o
                  case true =>
                    have HQ := hid (show rinsideZ ka la 2 lb = false by
                      rw [HR3.out, List.any_eq_true.2 ⟨i, List.mem_range.2 hlti, List.any_eq_true.2 ⟨q, List.mem_range.2 hltq, by rw [HS.out, HT.out]; exact HO.out⟩⟩]; rfl)
                    go_wp2
                    go_ret
                    exact ⟨by rw [HQ.out]; rfl, (hfin.trans hwq).trans z.aft⟩
                  case false =>
                    have HN := hid (show ∀ j, j < q + 1 → meetZ (sgZ la i) (sgZ lb j) = false from fun j hj => by
                      rcases Nat.lt_or_ge j q with h | h
                      · exact hno3.out j h
                      · obtain rfl : j = q := by omega
                        rw [HS.out, HT.out]; exact HO.out)
                    go_wp2
                    go_roundw
                    case rel => exact ⟨q + 1, by omega, by go_num, HN, hwq.trans z.aft⟩
                    case measure => simp only [intOf]; omega
                · obtain rfl : q = m' := by omega
                  have HN := hid (show ∀ u, u < i + 1 → ∀ j, j < q → meetZ (sgZ la u) (sgZ lb j) = false from fun u hu => by
                    rcases Nat.lt_or_ge u i with h | h
                    · exact hno2.out u h
                    · obtain rfl : u = i := by omega
                      exact hno3.out)
                  go_wp2
                  go_roundw
                  case rel => exact ⟨i + 1, by omega, by go_num, HN, hwq⟩
                  case measure => simp only [intOf]; omega
            · obtain rfl : i = m := by omega
              have HQ := hid (show rinsideZ ka la 2 lb = true by
                rw [HR3.out, List.any_eq_false.2 (fun u hu => by
                  rw [Bool.not_eq_true]
                  exact List.any_eq_false.2 (fun j hj => by rw [hno2.out u (List.mem_range.1 hu) j (List.mem_range.1 hj)]; simp))]; rfl)
              go_wp2
              go_ret
              exact ⟨by rw [HQ.out]; rfl, hfin.trans hwi⟩
  · have hbk : (kb != 2) = true := by simpa using hk
    have HR := hid (show rinsideZ ka la kb lb = false by unfold rinsideZ; simp [hk])
    clear hk
    go_wp2
    go_ret
    exact ⟨by rw [HR.out]; rfl, hw0⟩
end Go.Proofs.Ytokdclbfjlnnjaa
/- The reference's Box. -/
namespace Go.Proofs.Ytokdclbfjlnnjaa
open Go.RowKit Go.BigFrame

def loG (l : List Pt) (r : Nat) : Pt := if r = 0 then (0, 0) else loF l r
def hiG (l : List Pt) (r : Nat) : Pt := if r = 0 then (0, 0) else hiF l r
theorem loF_one (l : List Pt) : loF l 1 = ptZ l 0 := by show (min (ptZ l 0).1 (ptZ l 0).1, min (ptZ l 0).2 (ptZ l 0).2) = _; simp
theorem hiF_one (l : List Pt) : hiF l 1 = ptZ l 0 := by show (max (ptZ l 0).1 (ptZ l 0).1, max (ptZ l 0).2 (ptZ l 0).2) = _; simp
theorem boxZ_G (l : List Pt) : boxZ l = (loG l l.length, hiG l l.length) := by
  unfold boxZ loG hiG
  by_cases h : l = []
  · subst h; rfl
  · have : l.length ≠ 0 := fun e => h (List.length_eq_zero_iff.1 e)
    rw [if_neg h, if_neg this, if_neg this]

set_option maxRecDepth 100000 in
set_option maxHeartbeats 8000000 in
theorem rbox_any (k : Int) (vp : Value) (l : List Pt) (w : World) (hl : Prs w vp l) :
    Calls Try.prog 36 #[.agg #[.int .i64 k, vp]] w fun e w' => e = .returned (.tuple #[pr (boxZ l).1, pr (boxZ l).2]) ∧ Aft w w' := by
  have hP := hl
  obtain ⟨a, c, rfl, hl⟩ := hl
  have hn := hl.le
  obtain ⟨W0, eW0, hw0, hlt, hbox⟩ := two_boxes w #[.int .i64 k, .slice a l.length c] #[.int .i64 0, .int .i64 0] 51 57
  obtain ⟨W1, eW1, hw1, hlt1, hbox1⟩ := one_box W0 #[.int .i64 0, .int .i64 0] 57
  have hfz : W1.frozen? ⟨w.heap.size + 1, 0, none⟩ = false ∧ W1.frozen? ⟨w.heap.size + 1, 1, none⟩ = false ∧ W1.frozen? ⟨W0.heap.size, 0, none⟩ = false ∧ W1.frozen? ⟨W0.heap.size, 1, none⟩ = false := by
    refine ⟨?_, ?_, eW1 ▸ frozen_new _ _ _ _, eW1 ▸ frozen_new _ _ _ _⟩
    · rw [hw1.frozen (by omega), ← eW0]
      simp
    · rw [hw1.frozen (by omega), ← eW0]
      simp
  go_enter Try.func36, Try.ntmps36
  go_upto_region 1 with fail
  clear eW0 eW1
  have hF : Hid (∀ W, Aft W0 W → W.cell? ⟨w.heap.size, 0, none⟩ = some (.int .i64 k) ∧ W.cell? ⟨w.heap.size, 1, none⟩ = some (.slice a l.length c)) := hid fun W hW => ⟨(hbox.out W hW).1 0 _ rfl, (hbox.out W hW).1 1 _ rfl⟩
  have hB2 : B2 W1 (w.heap.size + 1) 0 0 := ⟨(hbox.out W1 hw1).2 0 _ rfl, (hbox.out W1 hw1).2 1 _ rfl⟩
  have hB3 : B2 W1 W0.heap.size 0 0 := ⟨hbox1.out W1 (Aft.refl _) 0 _ rfl, hbox1.out W1 (Aft.refl _) 1 _ rfl⟩
  clear hbox hbox1
  have hz0 := hw0.size
  have hz1 := hw1.size
  have hw01 := hw0.trans hw1
  obtain ⟨p1, p2⟩ := hF.out W1 hw1
  generalize hn0 : w.heap.size = n0 at *
  generalize hn3 : W0.heap.size = n3 at *
  obtain ⟨f1, f2, f3, f4⟩ := hfz
  obtain ⟨d1, d2⟩ := hB2
  obtain ⟨d3, d4⟩ := hB3
  have hfr := two_fresh W1 0 0
  go_upto_region 3 with fail
  generalize eW2 : (W1.alloc (.cells #[.int .i64 0, .int .i64 0] 57)).alloc (.cells #[.int .i64 0, .int .i64 0] 57) = W2 at *
  obtain ⟨hb4, hb5, hf4, hf5, hw2⟩ := hfr
  replace hb4 : B2 W2 W1.heap.size 0 0 := eW2 ▸ hb4
  replace hb5 : B2 W2 (W1.heap.size + 1) 0 0 := eW2 ▸ hb5
  replace hf4 : W2.frozen? ⟨W1.heap.size, 0, none⟩ = false ∧ W2.frozen? ⟨W1.heap.size, 1, none⟩ = false := eW2 ▸ hf4
  replace hf5 : W2.frozen? ⟨W1.heap.size + 1, 0, none⟩ = false ∧ W2.frozen? ⟨W1.heap.size + 1, 1, none⟩ = false := eW2 ▸ hf5
  replace hw2 : Aft W1 W2 := eW2 ▸ ((Aft.refl W1).alloc _).alloc _
  clear eW2
  have hw12 := hw01.trans hw2
  have hlx := hl.aft hw12
  have hz2 := hw2.size
  have d1x := (hw2.cell (World.block_lt_of_cell? _ _ d1)).trans d1
  have d2x := (hw2.cell (World.block_lt_of_cell? _ _ d2)).trans d2
  have d3x := (hw2.cell (World.block_lt_of_cell? _ _ d3)).trans d3
  have d4x := (hw2.cell (World.block_lt_of_cell? _ _ d4)).trans d4
  have g1x := (hw2.frozen (World.block_lt_of_cell? _ _ d1)).trans f1
  have g2x := (hw2.frozen (World.block_lt_of_cell? _ _ d1)).trans f2
  have g3x := (hw2.frozen (World.block_lt_of_cell? _ _ d3)).trans f3
  have g4x := (hw2.frozen (World.block_lt_of_cell? _ _ d3)).trans f4
  have p1x := (hw2.cell (World.block_lt_of_cell? _ _ p1)).trans p1
  have p2x := (hw2.cell (World.block_lt_of_cell? _ _ p2)).trans p2
  have hl4 := World.block_lt_of_cell? _ _ hb4.1
  have hl5 := World.block_lt_of_cell? _ _ hb5.1
  have hs0 : n0 < W1.heap.size := World.block_lt_of_cell? _ _ p1
  clear p1 p2 d1 d2 d3 d4 f1 f2 f3 f4
  have HI4 := hid (show B2 W2 W1.heap.size (loG l 0).1 (loG l 0).2 from hb4)
  have HI5 := hid (show B2 W2 (W1.heap.size + 1) (hiG l 0).1 (hiG l 0).2 from hb5)
  clear hb4 hb5
  generalize hn4 : W1.heap.size = n4 at *
  go_wp2
  go_loopw [6] (fun i wr => ∃ r : Nat, r ≤ l.length ∧ i = .int .i64 r ∧ Kx (fun j => j = n4 ∨ j = n4 + 1) W2 wr ∧ Hid (B2 wr n4 (loG l r).1 (loG l r).2) ∧ Hid (B2 wr (n4 + 1) (hiG l r).1 (hiG l r).2) ∧ (wr.frozen? ⟨n4, 0, none⟩ = false ∧ wr.frozen? ⟨n4, 1, none⟩ = false) ∧ (wr.frozen? ⟨n4 + 1, 0, none⟩ = false ∧ wr.frozen? ⟨n4 + 1, 1, none⟩ = false)) (fun i _ => l.length - (intOf i).toNat)
  case atStart => exact ⟨0, by omega, rfl, Kx.refl _ _, HI4, HI5, hf4, hf5⟩
  case round =>
    obtain ⟨r, hr, rfl, hkx, hB4, hB5, ⟨z1, z2⟩, ⟨z3, z4⟩⟩ := hrel
    have hzr := hkx.size
    have hn0W : n0 < W2.heap.size := World.block_lt_of_cell? _ _ p1x
    have p1r := (hkx.cell hn0W (show ¬ (n0 = n4 ∨ n0 = n4 + 1) by omega)).trans p1x
    have p2r := (hkx.cell hn0W (show ¬ (n0 = n4 ∨ n0 = n4 + 1) by omega)).trans p2x
    rcases Nat.lt_or_ge r l.length with hlt' | hge
    · have hri : (r : Int) < l.length := by omega
      obtain ⟨b, off, qx, qy, rfl, c1, c2, hb, hxr, _⟩ := hlx.rd.pair hlx.ok hlt'
      have hbW1 : b < n4 := by
        obtain ⟨b', off', _, _, e, c1', _, hb', _⟩ := (hl.aft hw01).rd.pair hl.ok hlt'
        simp only [Option.some.injEq, Addr.mk.injEq, and_true] at e
        obtain ⟨rfl, _⟩ := e
        omega
      have hbne : ¬ (b = n4 ∨ b = n4 + 1) := by omega
      have c1r := (hkx.cell hb hbne).trans c1
      have c2r := (hkx.cell hb hbne).trans c2
      have EQ := hid (show ptZ l r = (qx, qy) from ptZ_get hxr.out)
      clear c1 c2
      obtain ⟨W7, eW7, hw7, hlt7, hbox7⟩ := one_box wr #[.int .i64 qx, .int .i64 qy] 57
      go_upto_region 7 with fail
      clear eW7
      have y1 := hbox7.out W7 (Aft.refl _) 0 (.int .i64 qx) rfl
      have y2 := hbox7.out W7 (Aft.refl _) 1 (.int .i64 qy) rfl
      clear hbox7 p1r p2r c1r c2r
      obtain ⟨x1, x2⟩ := hB4.out
      obtain ⟨x3, x4⟩ := hB5.out
      have tr : ∀ {b o : Nat} {v : Value}, wr.cell? ⟨b, o, none⟩ = some v → W7.cell? ⟨b, o, none⟩ = some v := fun h => (hw7.cell (World.block_lt_of_cell? _ _ h)).trans h
      have k1 := (hw7.frozen (World.block_lt_of_cell? _ _ x1)).trans z1
      have k2 := (hw7.frozen (World.block_lt_of_cell? _ _ x1)).trans z2
      have k3 := (hw7.frozen (World.block_lt_of_cell? _ _ x3)).trans z3
      have k4 := (hw7.frozen (World.block_lt_of_cell? _ _ x3)).trans z4
      have hq7 : n4 + 1 < wr.heap.size := World.block_lt_of_cell? _ _ x3
      replace x1 := tr x1
      replace x2 := tr x2
      replace x3 := tr x3
      replace x4 := tr x4
      clear tr z1 z2 z3 z4 hB4 hB5
      have hk7 := hkx.trans (aft_kx hw7)
      rcases Nat.eq_zero_or_pos r with h0 | h0
      · subst h0
        have P4 := put2 (W := W7) (b := n4) ⟨x1, x2⟩ qx qy
        have P5 := put2 (b := n4 + 1) (B2.kx ⟨x3, x4⟩ P4.2 (by omega)) qx qy
        have P6 := put2 (b := n4) (B2.kx P4.1 P5.2 (by omega)) qx qy
        have P7 := put2 (b := n4 + 1) (B2.kx P5.1 P6.2 (by omega)) qx qy
        have HK := hid (hk7.trans ((P4.2.sub (Y := fun j => j = n4 ∨ j = n4 + 1) fun j h => .inl h).trans ((P5.2.sub fun j h => .inr h).trans ((P6.2.sub fun j h => .inl h).trans (P7.2.sub fun j h => .inr h)))))
        have HA := hid (B2.kx P6.1 P7.2 (by omega))
        have HB := hid P7.1
        clear P4 P5 P6 P7
        have L1 := hid (show loG l 1 = (qx, qy) from (loF_one l).trans EQ.out)
        have L2 := hid (show hiG l 1 = (qx, qy) from (hiF_one l).trans EQ.out)
        generalize wr.heap.size = n7 at *
        go_wp2
        go_roundw
        case rel => exact ⟨1, by omega, by go_num, HK.out, hid (by rw [L1.out]; exact HA.out), hid (by rw [L2.out]; exact HB.out), ⟨by simp only [World.frozen?_setCell]; exact k1, by simp only [World.frozen?_setCell]; exact k2⟩, ⟨by simp only [World.frozen?_setCell]; exact k3, by simp only [World.frozen?_setCell]; exact k4⟩⟩
        case measure => simp only [intOf]; omega
      · obtain ⟨⟨lx, ly⟩, hlo⟩ : ∃ s, loG l r = s := ⟨_, rfl⟩
        obtain ⟨⟨ux, uy⟩, hhi⟩ : ∃ s, hiG l r = s := ⟨_, rfl⟩
        have hr0 : r ≠ 0 := by omega
        rw [hlo] at x1 x2
        rw [hhi] at x3 x4
        simp only at x1 x2 x3 x4
        obtain ⟨m1, e1⟩ : ∃ m, (if qx < lx then qx else lx) = m := ⟨_, rfl⟩
        obtain ⟨m2, e2⟩ : ∃ m, (if qy < ly then qy else ly) = m := ⟨_, rfl⟩
        obtain ⟨m3, e3⟩ : ∃ m, (if ux < qx then qx else ux) = m := ⟨_, rfl⟩
        obtain ⟨m4, e4⟩ : ∃ m, (if uy < qy then qy else uy) = m := ⟨_, rfl⟩
        have hlF : loF l r = (lx, ly) := by unfold loG at hlo; rwa [if_neg hr0] at hlo
        have hhF : hiF l r = (ux, uy) := by unfold hiG at hhi; rwa [if_neg hr0] at hhi
        have L1 : Hid (loG l (r + 1) = (m1, m2)) := hid (by
          show (min (loF l r).1 (ptZ l r).1, min (loF l r).2 (ptZ l r).2) = _
          rw [hlF, EQ.out, ← e1, ← e2, min_if, min_if])
        have L2 : Hid (hiG l (r + 1) = (m3, m4)) := hid (by
          show (max (hiF l r).1 (ptZ l r).1, max (hiF l r).2 (ptZ l r).2) = _
          rw [hhF, EQ.out, ← e3, ← e4, max_if, max_if])
        clear hlo hhi hlF hhF
        have hne0 : ¬ ((r : Int) = 0) := by omega
        have P4 := put2 (W := W7) (b := n4) ⟨x1, x2⟩ m1 m2
        have P5 := put2 (b := n4 + 1) (B2.kx ⟨x3, x4⟩ P4.2 (by omega)) m3 m4
        have HK := hid (hk7.trans ((P4.2.sub (Y := fun j => j = n4 ∨ j = n4 + 1) fun j h => .inl h).trans (P5.2.sub fun j h => .inr h)))
        have HA := hid (B2.kx P4.1 P5.2 (by omega))
        have HB := hid P5.1
        clear P4 P5
        generalize wr.heap.size = n7 at *
        go_wp2
        go_roundw
        case rel => exact ⟨r + 1, by omega, by go_num, HK.out, hid (by rw [L1.out]; exact HA.out), hid (by rw [L2.out]; exact HB.out), ⟨by simp only [World.frozen?_setCell]; exact k1, by simp only [World.frozen?_setCell]; exact k2⟩, ⟨by simp only [World.frozen?_setCell]; exact k3, by simp only [World.frozen?_setCell]; exact k4⟩⟩
        case measure => simp only [intOf]; omega
    · obtain rfl : r = l.length := by omega
      have q1 : n0 + 1 < W2.heap.size := World.block_lt_of_cell? _ _ d1x
      have q3 : n3 < W2.heap.size := World.block_lt_of_cell? _ _ d3x
      have h1 : n0 + 1 ≠ n4 := by omega
      have h2 : n0 + 1 ≠ n4 + 1 := by omega
      have h3 : n3 ≠ n4 := by omega
      have h4 : n3 ≠ n4 + 1 := by omega
      have a1 := (hkx.cell q1 (show ¬ (n0 + 1 = n4 ∨ n0 + 1 = n4 + 1) by omega)).trans d1x
      have a2 := (hkx.cell q1 (show ¬ (n0 + 1 = n4 ∨ n0 + 1 = n4 + 1) by omega)).trans d2x
      have a3 := (hkx.cell q3 (show ¬ (n3 = n4 ∨ n3 = n4 + 1) by omega)).trans d3x
      have a4 := (hkx.cell q3 (show ¬ (n3 = n4 ∨ n3 = n4 + 1) by omega)).trans d4x
      have fr : ∀ {b o : Nat}, b < W2.heap.size → ¬ (b = n4 ∨ b = n4 + 1) → wr.frozen? ⟨b, o, none⟩ = W2.frozen? ⟨b, o, none⟩ := fun h1 h2 => World.frozen?_of_block (a := ⟨_, _, none⟩) (hkx.block _ h1 h2)
      have j1 := (fr (o := 0) q1 (by omega)).trans g1x
      have j2 := (fr (o := 1) q1 (by omega)).trans g2x
      have j3 := (fr (o := 0) q3 (by omega)).trans g3x
      have j4 := (fr (o := 1) q3 (by omega)).trans g4x
      clear fr d1x d2x d3x d4x g1x g2x g3x g4x z1 z2 z3 z4
      obtain ⟨⟨lx, ly⟩, hlo⟩ : ∃ s, loG l l.length = s := ⟨_, rfl⟩
      obtain ⟨⟨ux, uy⟩, hhi⟩ : ∃ s, hiG l l.length = s := ⟨_, rfl⟩
      obtain ⟨x1, x2⟩ := hB4.out
      obtain ⟨x3, x4⟩ := hB5.out
      rw [hlo] at x1 x2
      rw [hhi] at x3 x4
      simp only at x1 x2 x3 x4
      have hres : Hid (boxZ l = ((lx, ly), (ux, uy))) := hid (by rw [boxZ_G, hlo, hhi])
      clear hB4 hB5 hlo hhi
      have q1' := World.block_lt_of_cell? _ _ x1
      have q3' := World.block_lt_of_cell? _ _ x3
      generalize hn5 : n4 + 1 = n5 at *
      go_upto_region 14 with fail
      go_region_held3 (fun W => (W.cell? ⟨n4, 0, none⟩ = some (.int .i64 lx) ∧ W.cell? ⟨n4, 1, none⟩ = some (.int .i64 ly)) ∧ W.cell? ⟨n5, 0, none⟩ = some (.int .i64 ux) ∧ W.cell? ⟨n5, 1, none⟩ = some (.int .i64 uy))
        (first | go_keep | exact ⟨⟨held_store x1 h1 _ _, held_store x2 h1 _ _⟩, held_store x3 h2 _ _, held_store x4 h2 _ _⟩ | exact ⟨⟨held_store2 x1 h1 h3 _ _ _ _, held_store2 x2 h1 h3 _ _ _ _⟩, held_store2 x3 h2 h4 _ _ _ _, held_store2 x4 h2 h4 _ _ _ _⟩)
        (fail)
      have P2 := put2 (W := wr) (b := n0 + 1) ⟨a1, a2⟩ lx ly
      have P3 := put2 (b := n3) (B2.kx ⟨a3, a4⟩ P2.2 (by omega)) ux uy
      have hk0 := (hkx.sub (Y := fun j => (j = n0 + 1 ∨ j = n3) ∨ (j = n4 ∨ j = n5)) fun j h => .inr h).trans ((P2.2.sub fun j h => .inl (.inl h)).trans (P3.2.sub fun j h => .inl (.inr h)))
      have HE := hid (kx_aft hw12 (fun j hj => by rcases hj with (rfl | rfl) | (rfl | rfl) <;> omega) hk0)
      have HA := hid (B2.kx P2.1 P3.2 (by omega))
      have HB := hid P3.1
      clear P2 P3 hk0
      go_wp2
      refine bodyPost_ret (results_pts rfl _ _ (n0 + 1) n3 lx ly ux uy rfl rfl HA.out HB.out) rfl ?_
      exact ⟨by rw [hres.out]; rfl, HE.out.drew⟩
end Go.Proofs.Ytokdclbfjlnnjaa
/- The reference's Left. -/
namespace Go.Proofs.Ytokdclbfjlnnjaa
open Go.RowKit Go.BigFrame

def rleftZ (la lb : List Pt) : Bool := !(la.any fun p => lb.any fun q => decide (q.1 ≤ p.1)) && (decide (0 < la.length) && decide (0 < lb.length))

set_option maxRecDepth 100000 in
set_option maxHeartbeats 8000000 in
theorem rleft_any (ka kb : Int) (va vb : Value) (la lb : List Pt) (w : World) (hla : Prs w va la) (hlb : Prs w vb lb) :
    Calls Try.prog 42 #[.agg #[.int .i64 ka, va], .agg #[.int .i64 kb, vb]] w fun e w' => e = .returned (.bool (rleftZ la lb)) ∧ Aft w w' := by
  have hPa := hla
  have hPb := hlb
  obtain ⟨aa, ca, rfl, hla⟩ := hla
  obtain ⟨ab, cb, rfl, hlb⟩ := hlb
  have hna := hla.le
  have hnb := hlb.le
  obtain ⟨W0, eW0, hw0, hlt, hbox⟩ := two_boxes w #[.int .i64 ka, .slice aa la.length ca] #[.int .i64 kb, .slice ab lb.length cb] 51 51
  go_enter Try.func42, Try.ntmps42
  go_upto_region 1 with fail
  clear eW0
  have hF : Hid (∀ W, Aft W0 W → (W.cell? ⟨w.heap.size, 0, none⟩ = some (.int .i64 ka) ∧ W.cell? ⟨w.heap.size, 1, none⟩ = some (.slice aa la.length ca)) ∧ W.cell? ⟨w.heap.size + 1, 0, none⟩ = some (.int .i64 kb) ∧ W.cell? ⟨w.heap.size + 1, 1, none⟩ = some (.slice ab lb.length cb)) := hid fun W hW =>
    ⟨⟨(hbox.out W hW).1 0 _ rfl, (hbox.out W hW).1 1 _ rfl⟩, (hbox.out W hW).2 0 _ rfl, (hbox.out W hW).2 1 _ rfl⟩
  clear hbox
  generalize hn0 : w.heap.size = n0 at *
  go_wp2
  go_loopw [5] (fun i wr => ∃ r : Nat, r ≤ la.length ∧ i = .int .i64 r ∧ Hid (∀ p ∈ la.take r, ∀ q ∈ lb, p.1 < q.1) ∧ Aft W0 wr) (fun i _ => la.length - (intOf i).toNat)
  case atStart => exact ⟨0, by omega, rfl, hid (by simp), Aft.refl _⟩
  case round =>
    obtain ⟨r, hr, rfl, hno, hwr⟩ := hrel
    obtain ⟨⟨p1, p2⟩, p3, p4⟩ := hF.out wr hwr
    rcases Nat.lt_or_ge r la.length with hlt' | hge
    · have hri : (r : Int) < la.length := by omega
      have hlr := hla.aft (hw0.trans hwr)
      obtain ⟨b, off, x, y, rfl, c1, c2, hb, hx, _⟩ := hlr.rd.pair hlr.ok hlt'
      clear p1 p2 p3 p4
      obtain ⟨⟨p1, p2⟩, p3, p4⟩ := hF.out wr hwr
      have c1 := hid c1
      clear c2
      go_wp2
      go_loopw [6] (fun j wq => ∃ q : Nat, q ≤ lb.length ∧ j = .int .i64 q ∧ Hid (∀ u ∈ lb.take q, x < u.1) ∧ Aft wr wq) (fun j _ => lb.length - (intOf j).toNat)
      case atStart => exact ⟨0, by omega, rfl, hid (by simp), Aft.refl _⟩
      case round =>
        obtain ⟨q, hq, rfl, hno2, hwq⟩ := hrel
        clear p1 p2 p3 p4
        obtain ⟨⟨p1, p2⟩, p3, p4⟩ := hF.out _ (hwr.trans hwq)
        have hw1 := hwr.trans hwq
        rcases Nat.lt_or_ge q lb.length with hltq | hgeq
        · have hqi : (q : Int) < lb.length := by omega
          have hlq := hlb.aft (hw0.trans hw1)
          obtain ⟨b', off', x', y', rfl, d1, d2, hb', hx', _⟩ := hlq.rd.pair hlq.ok hltq
          have c1' := (hwq.cell hb).trans c1.out
          clear p1 p2 p3 p4
          obtain ⟨⟨p1, p2⟩, p3, p4⟩ := hF.out _ hw1
          have g1 := World.block_lt_of_cell? _ _ p1
          have g2 := World.block_lt_of_cell? _ _ p3
          have g3 := World.block_lt_of_cell? _ _ c1'
          by_cases hge2 : x' ≤ x
          · have HQ := hid (show rleftZ la lb = false by
              unfold rleftZ
              rw [List.any_eq_true.2 ⟨(x, y), List.mem_of_getElem? hx.out, List.any_eq_true.2 ⟨(x', y'), List.mem_of_getElem? hx'.out, by simpa using hge2⟩⟩]; rfl)
            obtain ⟨W2, hW2⟩ : ∃ W2, W2 = wr := ⟨_, rfl⟩
            subst hW2
            go_upto_region 7 with fail
            refine wp_region_lat W2 (Aft.refl _) (by kernel_rfl) (by kernel_rfl) ?_
            repeat (go_big_quiet_step (fail))
            refine wpQuiet_nil ?_
            intro _ hw'; obtain ⟨z, rfl⟩ := hw'
            go_wp2
            go_ret
            exact ⟨by rw [HQ.out]; rfl, (hw0.trans hw1).trans z.aft⟩
          · have HN := hid (show ∀ u ∈ lb.take (q + 1), x < u.1 from fun u hu => by
              rw [take_snoc hx'.out] at hu
              rcases List.mem_append.1 hu with h | h
              · exact hno2.out u h
              · obtain rfl : u = (x', y') := by simpa using h
                show x < x'
                omega)
            obtain ⟨W2, hW2⟩ : ∃ W2, W2 = wr := ⟨_, rfl⟩
            subst hW2
            go_upto_region 7 with fail
            refine wp_region_lat W2 (Aft.refl _) (by kernel_rfl) (by kernel_rfl) ?_
            repeat (go_big_quiet_step (fail))
            refine wpQuiet_nil ?_
            intro _ hw'; obtain ⟨z, rfl⟩ := hw'
            go_wp2
            go_roundw
            case rel => exact ⟨q + 1, by omega, by go_num, HN, hwq.trans z.aft⟩
            case measure => simp only [intOf]; omega
        · obtain rfl : q = lb.length := by omega
          have HN := hid (show ∀ p ∈ la.take (r + 1), ∀ q ∈ lb, p.1 < q.1 from fun p hp u hu => by
            rw [take_snoc hx.out] at hp
            rcases List.mem_append.1 hp with h | h
            · exact hno.out p h u hu
            · obtain rfl : p = (x, y) := by simpa using h
              exact hno2.out u (by rw [List.take_length]; exact hu))
          go_wp2
          go_roundw
          case rel => exact ⟨r + 1, by omega, by go_num, HN, hw1⟩
          case measure => simp only [intOf]; omega
    · obtain rfl : r = la.length := by omega
      have hany : (la.any fun p => lb.any fun q => decide (q.1 ≤ p.1)) = false := List.any_eq_false.2 (fun p hp => by
        rw [Bool.not_eq_true]
        exact List.any_eq_false.2 (fun q hq => by
          have := hno.out p (by rw [List.take_length]; exact hp) q hq
          simp; omega))
      have HQ := hid (show rleftZ la lb = (decide (0 < la.length) && decide (0 < lb.length)) by unfold rleftZ; rw [hany]; rfl)
      clear hany
      have hfin := hw0.trans hwr
      by_cases g1 : 0 < la.length
      · have g1' : decide ((0 : Int) < la.length) = true := by simp; omega
        have HQ2 := hid (show rleftZ la lb = decide (0 < lb.length) by rw [HQ.out]; simp [g1])
        go_wp2
        go_ret
        exact ⟨by rw [HQ2.out]; rfl, hfin⟩
      · have g1' : ¬ ((0 : Int) < la.length) := by omega
        have HQ2 := hid (show rleftZ la lb = false by rw [HQ.out]; simp only [g1]; simp)
        go_wp2
        go_ret
        exact ⟨by rw [HQ2.out]; rfl, hfin⟩
end Go.Proofs.Ytokdclbfjlnnjaa
/- Small functions of the statements about the plane: near, dot, rect. -/
namespace Go.Proofs.Ytokdclbfjlnnjaa
open Go.RowKit Go.BigFrame

set_option maxRecDepth 100000 in
set_option maxHeartbeats 2000000 in
theorem nearIs_any (ka kb n d : Int) (va vb : Value) (la lb : List Pt) (ox oy : Int) (w : World) (hla : Prs w va la) (hlb : Prs w vb lb) (hsa : la.length ≤ 1000) (hsb : lb.length ≤ 1000) (hsca : ScL la) (hscb : ScL lb)
    (hda : ka = 0 → la.length = 1) (hdb : kb = 0 → lb.length = 1) (hna : ∀ j, Near1 ox oy (ptZ la j)) (hnb : ∀ j, Near1 ox oy (ptZ lb j)) :
    Calls Try.prog 29 #[.agg #[.int .i64 ka, va], .agg #[.int .i64 kb, vb], .int .i64 n, .int .i64 d] w fun e w' => e = .returned (.bool (decide ((nearZ ka la kb lb).1 = n) && decide ((nearZ ka la kb lb).2 = d))) ∧ Aft w w' := by
  have hPa := hla
  have hPb := hlb
  obtain ⟨aa, ca, rfl, hla⟩ := hla
  obtain ⟨ab, cb, rfl, hlb⟩ := hlb
  obtain ⟨W0, eW0, hw0, hlt, hbox⟩ := two_boxes w #[.int .i64 ka, .slice aa la.length ca] #[.int .i64 kb, .slice ab lb.length cb] 51 51
  go_enter Try.func29, Try.ntmps29
  go_upto_region 1 with fail
  clear eW0
  have p1 := (hbox.out W0 (Aft.refl _)).1 0 (.int .i64 ka) rfl
  have p2 := (hbox.out W0 (Aft.refl _)).1 1 (.slice aa la.length ca) rfl
  have p3 := (hbox.out W0 (Aft.refl _)).2 0 (.int .i64 kb) rfl
  have p4 := (hbox.out W0 (Aft.refl _)).2 1 (.slice ab lb.length cb) rfl
  clear hbox
  generalize hn0 : w.heap.size = n0 at *
  go_wp2_with fail
  refine (near_any ka kb _ _ la lb ox oy W0 (hPa.aft hw0) (hPb.aft hw0) hsa hsb hsca hscb hda hdb hna hnb).mono ?_
  rintro e W1 ⟨rfl, hw1⟩
  have hw := hw0.trans hw1
  obtain ⟨⟨x, y⟩, hxy⟩ : ∃ s, nearZ ka la kb lb = s := ⟨_, rfl⟩
  rw [hxy]
  have HX := hid hxy; clear hxy
  simp only
  by_cases h1 : x = n
  · have HQ := hid (show (decide ((nearZ ka la kb lb).1 = n) && decide ((nearZ ka la kb lb).2 = d)) = decide (y = d) by rw [HX.out]; simp [h1])
    have h1' : (x == n) = true := by simpa using h1
    clear h1
    go_wp2
    go_ret
    exact ⟨by rw [HQ.out]; rfl, hw⟩
  · have HQ := hid (show (decide ((nearZ ka la kb lb).1 = n) && decide ((nearZ ka la kb lb).2 = d)) = false by rw [HX.out]; simp [h1])
    have h1' : (x == n) = false := by simpa using h1
    clear h1
    go_wp2
    go_ret
    exact ⟨by rw [HQ.out]; rfl, hw⟩

theorem results_shape {fn : Func} {p : Tmp} (h : fn.results = #[.cell p 51]) (tmps : Array Value) (w : World) (b : Nat) (k : Int) (vp : Value) (hp : tmps.getD p undef = .pointer (some ⟨b, 0, none⟩)) (hc : w.cell? ⟨b, 0, none⟩ = some (.int .i64 k)) (hc' : w.cell? ⟨b, 1, none⟩ = some vp) :
    (results fn tmps).run Try.prog w = .ok (.agg #[.int .i64 k, vp]) w := by
  have hp' : tmps[p]?.getD undef = .pointer (some ⟨b, 0, none⟩) := by simpa using hp
  simp only [Go.results, h]
  simp [hp', asAddr, go_sem, hc, hc']

theorem shape_new (w : World) (k : Int) (cs : Array Value) (l : List Pt) (hcs : cs.toList = prs l) (ok : okP l) (hs : l.length ≤ 1000) (u : Value) :
    let W' := (w.alloc (.cells #[.int .i64 k, u] 51)).alloc (.cells cs 57)
    W'.cell? ⟨w.heap.size, 0, none⟩ = some (.int .i64 k) ∧ W'.cell? ⟨w.heap.size, 1, none⟩ = some u ∧ Prs W' (.slice (some ⟨w.heap.size + 1, 0, none⟩) l.length l.length) l ∧ Aft w W' := by
  have h := box_cells w #[.int .i64 k, u] cs 51 57 _ (Aft.refl _)
  have hr := Rd.new (w := w.alloc (.cells #[.int .i64 k, u] 51)) (cs := cs) (e := 57)
  rw [World.size_alloc, hcs] at hr
  exact ⟨h.1 0 _ rfl, h.1 1 _ rfl, ⟨_, _, rfl, rfl, hr, ok, Nat.le_refl _, (fun h => by cases h), by omega⟩, ((Aft.refl w).alloc _).alloc _⟩

set_option maxRecDepth 100000 in
set_option maxHeartbeats 2000000 in
theorem dot_any (x y : Int) (w : World) (hx : Sc x) (hy : Sc y) :
    Calls Try.prog 82 #[.int .i64 x, .int .i64 y] w fun e w' => ∃ vp, e = .returned (.agg #[.int .i64 0, vp]) ∧ Prs w' vp [(x, y)] ∧ Aft w w' := by
  have hn := shape_new w 0 #[.int .i64 x, .int .i64 y] [(x, y)] rfl (by unfold Sc at *; intro p hp; simp at hp; subst hp; exact ⟨by simp; omega, by simp; omega⟩) (by simp) (.slice (some ⟨w.heap.size + 1, 0, none⟩) 1 1)
  have HN := hid hn
  clear hn
  go_enter Try.func82, Try.ntmps82
  go_wp2
  obtain ⟨h1, h2, h3, h4⟩ := HN.out
  refine bodyPost_ret (results_shape rfl _ _ w.heap.size 0 _ rfl h1 h2) rfl ?_
  exact ⟨_, rfl, h3, h4⟩

def rectL (x y wd h : Int) : List Pt := [(x, y), (x + wd, y), (x + wd, y + h), (x, y + h)]
set_option maxRecDepth 100000 in
set_option maxHeartbeats 2000000 in
theorem rect_any (x y wd h : Int) (w : World) (hx : 0 ≤ x ∧ x ≤ 1000) (hy : 0 ≤ y ∧ y ≤ 1000) (hw : 0 ≤ wd ∧ wd ≤ 1000) (hh : 0 ≤ h ∧ h ≤ 1000) :
    Calls Try.prog 113 #[.int .i64 x, .int .i64 y, .int .i64 wd, .int .i64 h] w fun e w' => ∃ vp, e = .returned (.agg #[.int .i64 2, vp]) ∧ Prs w' vp (rectL x y wd h) ∧ Aft w w' := by
  have hn := shape_new w 2 #[.int .i64 x, .int .i64 y, .int .i64 (x + wd), .int .i64 y, .int .i64 (x + wd), .int .i64 (y + h), .int .i64 x, .int .i64 (y + h)] (rectL x y wd h) rfl
    (by intro p hp; simp [rectL] at hp; rcases hp with rfl | rfl | rfl | rfl <;> (refine ⟨?_, ?_⟩ <;> simp <;> omega)) (by simp [rectL]) (.slice (some ⟨w.heap.size + 1, 0, none⟩) 4 4)
  have HN := hid hn
  clear hn
  go_enter Try.func113, Try.ntmps113
  go_wp2
  obtain ⟨h1, h2, h3, h4⟩ := HN.out
  refine bodyPost_ret (results_shape rfl _ _ w.heap.size 2 _ rfl h1 h2) rfl ?_
  exact ⟨_, rfl, h3, h4⟩
end Go.Proofs.Ytokdclbfjlnnjaa
/- Plain laws of the plane: winding numbers and crossings. -/
namespace Go.Proofs.Ytokdclbfjlnnjaa

theorem cross_swap (a b c : Pt) : crossZ b a c = -crossZ a b c := by unfold crossZ; grind
theorem crossB_wind (p : Pt) (s : Pt × Pt) : crossB p s = decide (wind1 p s ≠ 0) := by
  have hsw := cross_swap s.1 s.2 p
  unfold crossB wind1
  rw [hsw]
  generalize crossZ s.1 s.2 p = c
  rw [Bool.eq_iff_iff]
  split
  · simp only [decide_eq_true_eq]
    rw [if_neg (by omega)]
    split
    · simp; omega
    · simp; omega
  · simp only [decide_eq_true_eq]
    split
    · simp; omega
    · rw [if_neg (by omega)]
      simp; omega
theorem odd_wind (p : Pt) (l : List Pt) : ∀ r, oddS p l r = decide (windS p l (List.range r) % 2 ≠ 0)
  | 0 => by simp [oddS, windS]
  | r + 1 => by
    have hb := wind1_bd p (sgZ l r)
    rw [oddS, odd_wind p l r, crossB_wind, List.range_succ, windS_snoc]
    generalize windS p l (List.range r) = u
    generalize wind1 p (sgZ l r) = v at *
    have hv : v = -1 ∨ v = 0 ∨ v = 1 := by omega
    rw [Bool.eq_iff_iff]
    by_cases hu : u % 2 = 0
    · rcases hv with rfl | rfl | rfl <;> simp [hu] <;> omega
    · rcases hv with rfl | rfl | rfl <;> simp [hu] <;> omega
theorem within_strictly {p : Pt} {k : Int} {l : List Pt} (h : -1 ≤ windS p l (List.range (nSeg k l)) ∧ windS p l (List.range (nSeg k l)) ≤ 1) : withinZ p k l = strictlyZ p k l := by
  unfold withinZ strictlyZ
  rw [odd_wind]
  congr 1
  generalize windS p l (List.range (nSeg k l)) = u at *
  rw [Bool.eq_iff_iff]
  simp
  omega
theorem inside_eq {ka kb : Int} {la lb : List Pt} (h : kb = 2 → ∀ p ∈ la, withinZ p kb lb = strictlyZ p kb lb) : insideZ ka la kb lb = rinsideZ ka la kb lb := by
  unfold insideZ rinsideZ
  by_cases hk : kb = 2
  · have : (la.any fun p => !withinZ p kb lb) = (la.any fun p => !strictlyZ p kb lb) := by
      rw [Bool.eq_iff_iff, List.any_eq_true, List.any_eq_true]
      constructor
      · rintro ⟨p, hp, hq⟩; exact ⟨p, hp, by rw [← h hk p hp]; exact hq⟩
      · rintro ⟨p, hp, hq⟩; exact ⟨p, hp, by rw [h hk p hp]; exact hq⟩
    rw [this]
  · simp [hk]

theorem loF_le (l : List Pt) : ∀ r j, j < r → (loF l r).1 ≤ (ptZ l j).1 ∧ (loF l r).2 ≤ (ptZ l j).2
  | r + 1, j, h => by
    by_cases hj : j = r
    · subst hj; exact ⟨Int.min_le_right _ _, Int.min_le_right _ _⟩
    · have := loF_le l r j (by omega)
      exact ⟨Int.le_trans (Int.min_le_left _ _) this.1, Int.le_trans (Int.min_le_left _ _) this.2⟩
theorem hiF_le (l : List Pt) : ∀ r j, j < r → (ptZ l j).1 ≤ (hiF l r).1 ∧ (ptZ l j).2 ≤ (hiF l r).2
  | r + 1, j, h => by
    by_cases hj : j = r
    · subst hj; exact ⟨Int.le_max_right _ _, Int.le_max_right _ _⟩
    · have := hiF_le l r j (by omega)
      exact ⟨Int.le_trans this.1 (Int.le_max_left _ _), Int.le_trans this.2 (Int.le_max_left _ _)⟩
theorem loF_in (l : List Pt) (h : l ≠ []) : ∀ r, (∃ p ∈ l, (loF l r).1 = p.1) ∧ (∃ p ∈ l, (loF l r).2 = p.2)
  | 0 => ⟨⟨_, ptZ_mem h 0, rfl⟩, ⟨_, ptZ_mem h 0, rfl⟩⟩
  | r + 1 => by
    obtain ⟨⟨p, hp, e1⟩, ⟨q, hq, e2⟩⟩ := loF_in l h r
    refine ⟨?_, ?_⟩
    · show ∃ p ∈ l, min (loF l r).1 (ptZ l r).1 = p.1
      rcases Int.le_total (loF l r).1 (ptZ l r).1 with h' | h'
      · exact ⟨p, hp, by rw [Int.min_eq_left h', e1]⟩
      · exact ⟨_, ptZ_mem h r, by rw [Int.min_eq_right h']⟩
    · show ∃ p ∈ l, min (loF l r).2 (ptZ l r).2 = p.2
      rcases Int.le_total (loF l r).2 (ptZ l r).2 with h' | h'
      · exact ⟨q, hq, by rw [Int.min_eq_left h', e2]⟩
      · exact ⟨_, ptZ_mem h r, by rw [Int.min_eq_right h']⟩
theorem hiF_in (l : List Pt) (h : l ≠ []) : ∀ r, (∃ p ∈ l, (hiF l r).1 = p.1) ∧ (∃ p ∈ l, (hiF l r).2 = p.2)
  | 0 => ⟨⟨_, ptZ_mem h 0, rfl⟩, ⟨_, ptZ_mem h 0, rfl⟩⟩
  | r + 1 => by
    obtain ⟨⟨p, hp, e1⟩, ⟨q, hq, e2⟩⟩ := hiF_in l h r
    refine ⟨?_, ?_⟩
    · show ∃ p ∈ l, max (hiF l r).1 (ptZ l r).1 = p.1
      rcases Int.le_total (hiF l r).1 (ptZ l r).1 with h' | h'
      · exact ⟨_, ptZ_mem h r, by rw [Int.max_eq_right h']⟩
      · exact ⟨p, hp, by rw [Int.max_eq_left h', e1]⟩
    · show ∃ p ∈ l, max (hiF l r).2 (ptZ l r).2 = p.2
      rcases Int.le_total (hiF l r).2 (ptZ l r).2 with h' | h'
      · exact ⟨_, ptZ_mem h r, by rw [Int.max_eq_right h']⟩
      · exact ⟨q, hq, by rw [Int.max_eq_left h', e2]⟩
theorem ptZ_of_mem {l : List Pt} {p : Pt} (h : p ∈ l) : ∃ j, j < l.length ∧ ptZ l j = p := by
  obtain ⟨j, hj, e⟩ := List.mem_iff_getElem.1 h
  exact ⟨j, hj, ptZ_get (by rw [List.getElem?_eq_getElem hj, e])⟩
/-- The box of a list that is not empty: its bounds are reached, and none lies outside. -/
theorem box_spec {l : List Pt} (h : l ≠ []) : (∀ p ∈ l, (boxZ l).1.1 ≤ p.1 ∧ (boxZ l).1.2 ≤ p.2 ∧ p.1 ≤ (boxZ l).2.1 ∧ p.2 ≤ (boxZ l).2.2) ∧ (∃ p ∈ l, (boxZ l).1.1 = p.1) ∧ (∃ p ∈ l, (boxZ l).1.2 = p.2) ∧ (∃ p ∈ l, (boxZ l).2.1 = p.1) ∧ (∃ p ∈ l, (boxZ l).2.2 = p.2) := by
  unfold boxZ
  rw [if_neg h]
  refine ⟨fun p hp => ?_, (loF_in l h _).1, (loF_in l h _).2, (hiF_in l h _).1, (hiF_in l h _).2⟩
  obtain ⟨j, hj, rfl⟩ := ptZ_of_mem hp
  exact ⟨(loF_le l _ j hj).1, (loF_le l _ j hj).2, (hiF_le l _ j hj).1, (hiF_le l _ j hj).2⟩
theorem left_eq (la lb : List Pt) : leftZ la lb = rleftZ la lb := by
  unfold leftZ rleftZ
  rw [Bool.eq_iff_iff]
  rcases Decidable.em (la = []) with h | h
  · simp [h]
  rcases Decidable.em (lb = []) with h' | h'
  · simp [h']
  have hla := List.length_pos_iff.2 h
  have hlb := List.length_pos_iff.2 h'
  obtain ⟨a1, _, _, ⟨p, hp, ep⟩, _⟩ := box_spec h
  obtain ⟨b1, ⟨q, hq, eq⟩, _, _, _⟩ := box_spec h'
  simp only [hla, hlb, decide_true, Bool.and_true, Bool.true_and, decide_eq_true_eq, Bool.not_eq_true', List.any_eq_false]
  constructor
  · intro hlt u hu
    rw [Bool.not_eq_true, List.any_eq_false]
    intro v hv
    have := (a1 u hu).2.2.1
    have := (b1 v hv).1
    simp; omega
  · intro hall
    have := hall p hp
    rw [Bool.not_eq_true, List.any_eq_false] at this
    have := this q hq
    simp at this
    omega
end Go.Proofs.Ytokdclbfjlnnjaa
/- Plain laws of the plane: the winding numbers of the generated areas. -/
namespace Go.Proofs.Ytokdclbfjlnnjaa

theorem wind1_up (p : Pt) (s : Pt × Pt) (h : s.1.2 ≤ s.2.2) : 0 ≤ wind1 p s ∧ wind1 p s ≤ 1 ∧ (wind1 p s = 1 → s.1.2 ≤ p.2 ∧ p.2 < s.2.2) := by
  unfold wind1
  generalize crossZ s.1 s.2 p = c
  split
  · omega
  · rw [if_neg (by omega)]; omega
theorem wind1_down (p : Pt) (s : Pt × Pt) (h : s.2.2 ≤ s.1.2) : -1 ≤ wind1 p s ∧ wind1 p s ≤ 0 := by
  unfold wind1
  generalize crossZ s.1 s.2 p = c
  rw [if_neg (by omega)]
  split <;> omega
theorem wind1_flat (p : Pt) (s : Pt × Pt) (h : s.2.2 = s.1.2) : wind1 p s = 0 := by
  have h1 := wind1_up p s (by omega)
  have h2 := wind1_down p s (by omega)
  omega

def triL (x y wd t1 t2 h : Int) : List Pt := [(x, y), (x + wd, y + t1), (x + t2, y + h)]
def braL (x y wd h : Int) : List Pt := [(x, y), (x + wd, y), (x + wd, y + 1), (x + 1, y + 1), (x + 1, y + h), (x, y + h)]

theorem rect_wind (p : Pt) (x y wd h : Int) (hh : 0 ≤ h) : -1 ≤ windS p (rectL x y wd h) (List.range (nSeg 2 (rectL x y wd h))) ∧ windS p (rectL x y wd h) (List.range (nSeg 2 (rectL x y wd h))) ≤ 1 := by
  have hn : nSeg 2 (rectL x y wd h) = 4 := by simp [nSeg, rectL]
  rw [hn]
  have e : windS p (rectL x y wd h) (List.range 4) = wind1 p ((x, y), (x + wd, y)) + (wind1 p ((x + wd, y), (x + wd, y + h)) + (wind1 p ((x + wd, y + h), (x, y + h)) + (wind1 p ((x, y + h), (x, y)) + 0))) := by
    rw [show List.range 4 = [0, 1, 2, 3] from rfl]
    simp [windS, sgZ, ptZ, rectL]
  rw [e]
  have w0 := wind1_flat p ((x, y), (x + wd, y)) rfl
  have w1 := wind1_up p ((x + wd, y), (x + wd, y + h)) (by simp; omega)
  have w2 := wind1_flat p ((x + wd, y + h), (x, y + h)) rfl
  have w3 := wind1_down p ((x, y + h), (x, y)) (by simp; omega)
  omega
theorem tri_wind (p : Pt) (x y wd t1 t2 h : Int) (h1 : 0 ≤ t1) (h2 : t1 ≤ h) : -1 ≤ windS p (triL x y wd t1 t2 h) (List.range (nSeg 2 (triL x y wd t1 t2 h))) ∧ windS p (triL x y wd t1 t2 h) (List.range (nSeg 2 (triL x y wd t1 t2 h))) ≤ 1 := by
  have hn : nSeg 2 (triL x y wd t1 t2 h) = 3 := by simp [nSeg, triL]
  rw [hn]
  have e : windS p (triL x y wd t1 t2 h) (List.range 3) = wind1 p ((x, y), (x + wd, y + t1)) + (wind1 p ((x + wd, y + t1), (x + t2, y + h)) + (wind1 p ((x + t2, y + h), (x, y)) + 0)) := by
    rw [show List.range 3 = [0, 1, 2] from rfl]
    simp [windS, sgZ, ptZ, triL]
  rw [e]
  have w0 := wind1_up p ((x, y), (x + wd, y + t1)) (by simp; omega)
  have w1 := wind1_up p ((x + wd, y + t1), (x + t2, y + h)) (by simp; omega)
  have w2 := wind1_down p ((x + t2, y + h), (x, y)) (by simp; omega)
  simp only at w0 w1
  omega
theorem bra_wind (p : Pt) (x y wd h : Int) (hh : 1 ≤ h) : -1 ≤ windS p (braL x y wd h) (List.range (nSeg 2 (braL x y wd h))) ∧ windS p (braL x y wd h) (List.range (nSeg 2 (braL x y wd h))) ≤ 1 := by
  have hn : nSeg 2 (braL x y wd h) = 6 := by simp [nSeg, braL]
  rw [hn]
  have e : windS p (braL x y wd h) (List.range 6) = wind1 p ((x, y), (x + wd, y)) + (wind1 p ((x + wd, y), (x + wd, y + 1)) + (wind1 p ((x + wd, y + 1), (x + 1, y + 1)) + (wind1 p ((x + 1, y + 1), (x + 1, y + h)) + (wind1 p ((x + 1, y + h), (x, y + h)) + (wind1 p ((x, y + h), (x, y)) + 0))))) := by
    rw [show List.range 6 = [0, 1, 2, 3, 4, 5] from rfl]
    simp [windS, sgZ, ptZ, braL]
  rw [e]
  have w0 := wind1_flat p ((x, y), (x + wd, y)) rfl
  have w1 := wind1_up p ((x + wd, y), (x + wd, y + 1)) (by simp; omega)
  have w2 := wind1_flat p ((x + wd, y + 1), (x + 1, y + 1)) rfl
  have w3 := wind1_up p ((x + 1, y + 1), (x + 1, y + h)) (by simp; omega)
  have w4 := wind1_flat p ((x + 1, y + h), (x, y + h)) rfl
  have w5 := wind1_down p ((x, y + h), (x, y)) (by simp; omega)
  simp only at w1 w3
  omega
end Go.Proofs.Ytokdclbfjlnnjaa
/- Plain laws of the plane: what is strictly inside of a rectangle. -/
namespace Go.Proofs.Ytokdclbfjlnnjaa

theorem mul_sign {h u : Int} (hh : 0 < h) : (0 < h * u ↔ 0 < u) ∧ (h * u < 0 ↔ u < 0) ∧ (h * u = 0 ↔ u = 0) := by
  rcases Int.lt_trichotomy u 0 with hu | rfl | hu
  · have := Int.mul_neg_of_pos_of_neg hh hu; omega
  · simp
  · have := Int.mul_pos hh hu; omega

theorem rect_within (px py x y wd h : Int) (hw : 0 < wd) (hh : 0 < h) : withinZ (px, py) 2 (rectL x y wd h) = decide (x < px ∧ px < x + wd ∧ y < py ∧ py < y + h) := by
  have hn : nSeg 2 (rectL x y wd h) = 4 := by simp [nSeg, rectL]
  have s0 : sgZ (rectL x y wd h) 0 = ((x, y), (x + wd, y)) := by simp [sgZ, ptZ, rectL]
  have s1 : sgZ (rectL x y wd h) 1 = ((x + wd, y), (x + wd, y + h)) := by simp [sgZ, ptZ, rectL]
  have s2 : sgZ (rectL x y wd h) 2 = ((x + wd, y + h), (x, y + h)) := by simp [sgZ, ptZ, rectL]
  have s3 : sgZ (rectL x y wd h) 3 = ((x, y + h), (x, y)) := by simp [sgZ, ptZ, rectL]
  have c0 : crossZ (x, y) (x + wd, y) (px, py) = wd * (py - y) := by simp only [crossZ]; grind
  have c1 : crossZ (x + wd, y) (x + wd, y + h) (px, py) = h * (x + wd - px) := by simp only [crossZ]; grind
  have c2 : crossZ (x + wd, y + h) (x, y + h) (px, py) = wd * (y + h - py) := by simp only [crossZ]; grind
  have c3 : crossZ (x, y + h) (x, y) (px, py) = h * (px - x) := by simp only [crossZ]; grind
  have m0 := mul_sign (u := py - y) hw
  have m1 := mul_sign (u := x + wd - px) hh
  have m2 := mul_sign (u := y + h - py) hw
  have m3 := mul_sign (u := px - x) hh
  unfold withinZ
  rw [hn, show List.range 4 = [0, 1, 2, 3] from rfl]
  simp only [windS, List.any_cons, List.any_nil, s0, s1, s2, s3, onZ_box, c0, c1, c2, c3]
  have w0 := wind1_flat (px, py) ((x, y), (x + wd, y)) rfl
  have w2 := wind1_flat (px, py) ((x + wd, y + h), (x, y + h)) rfl
  have w1 : wind1 (px, py) ((x + wd, y), (x + wd, y + h)) = if y ≤ py ∧ py < y + h ∧ px < x + wd then 1 else 0 := by
    unfold wind1
    simp only [c1]
    split <;> split <;> (try split) <;> omega
  have w3 : wind1 (px, py) ((x, y + h), (x, y)) = if y ≤ py ∧ py < y + h ∧ px < x then -1 else 0 := by
    unfold wind1
    simp only [c3]
    split <;> (try split) <;> (try split) <;> omega
  rw [w0, w1, w2, w3, Bool.eq_iff_iff]
  simp only [Bool.and_eq_true, Bool.not_eq_true', Bool.or_eq_false_iff, Bool.and_eq_false_iff, decide_eq_false_iff_not, decide_eq_true_eq, bne_iff_ne, Bool.or_false]
  constructor
  · rintro ⟨h1, h2⟩
    have : (y ≤ py ∧ py < y + h) ∧ x ≤ px ∧ px < x + wd := by
      split at h2 <;> split at h2 <;> omega
    omega
  · intro hin
    refine ⟨by omega, ?_⟩
    rw [if_pos (by omega), if_neg (by omega)]
    omega

/-- A bracket is so thin that no point with integer coordinates is strictly inside of it. -/
theorem bra_within (px py x y wd h : Int) (hw : 1 < wd) (hh : 1 < h) : withinZ (px, py) 2 (braL x y wd h) = false := by
  have hn : nSeg 2 (braL x y wd h) = 6 := by simp [nSeg, braL]
  have s0 : sgZ (braL x y wd h) 0 = ((x, y), (x + wd, y)) := by simp [sgZ, ptZ, braL]
  have s1 : sgZ (braL x y wd h) 1 = ((x + wd, y), (x + wd, y + 1)) := by simp [sgZ, ptZ, braL]
  have s2 : sgZ (braL x y wd h) 2 = ((x + wd, y + 1), (x + 1, y + 1)) := by simp [sgZ, ptZ, braL]
  have s3 : sgZ (braL x y wd h) 3 = ((x + 1, y + 1), (x + 1, y + h)) := by simp [sgZ, ptZ, braL]
  have s4 : sgZ (braL x y wd h) 4 = ((x + 1, y + h), (x, y + h)) := by simp [sgZ, ptZ, braL]
  have s5 : sgZ (braL x y wd h) 5 = ((x, y + h), (x, y)) := by simp [sgZ, ptZ, braL]
  have c0 : crossZ (x, y) (x + wd, y) (px, py) = wd * (py - y) := by simp only [crossZ]; grind
  have c1 : crossZ (x + wd, y) (x + wd, y + 1) (px, py) = x + wd - px := by simp only [crossZ]; grind
  have c3 : crossZ (x + 1, y + 1) (x + 1, y + h) (px, py) = (h - 1) * (x + 1 - px) := by simp only [crossZ]; grind
  have c5 : crossZ (x, y + h) (x, y) (px, py) = h * (px - x) := by simp only [crossZ]; grind
  have m0 := mul_sign (u := py - y) (show 0 < wd by omega)
  have m3 := mul_sign (h := h - 1) (u := x + 1 - px) (by omega)
  have m5 := mul_sign (u := px - x) (show 0 < h by omega)
  have w0 := wind1_flat (px, py) ((x, y), (x + wd, y)) rfl
  have w2 := wind1_flat (px, py) ((x + wd, y + 1), (x + 1, y + 1)) rfl
  have w4 := wind1_flat (px, py) ((x + 1, y + h), (x, y + h)) rfl
  have w1 : wind1 (px, py) ((x + wd, y), (x + wd, y + 1)) = if py = y ∧ px < x + wd then 1 else 0 := by
    unfold wind1
    simp only [c1]
    split <;> split <;> (try split) <;> omega
  have w3 : wind1 (px, py) ((x + 1, y + 1), (x + 1, y + h)) = if y + 1 ≤ py ∧ py < y + h ∧ px < x + 1 then 1 else 0 := by
    unfold wind1
    simp only [c3]
    split <;> split <;> (try split) <;> omega
  have w5 : wind1 (px, py) ((x, y + h), (x, y)) = if y ≤ py ∧ py < y + h ∧ px < x then -1 else 0 := by
    unfold wind1
    simp only [c5]
    split <;> (try split) <;> (try split) <;> omega
  have on0 : onZ (px, py) ((x, y), (x + wd, y)) = decide (py = y ∧ x ≤ px ∧ px ≤ x + wd) := by
    rw [onZ_box, c0, Bool.eq_iff_iff]
    simp only [Bool.and_eq_true, decide_eq_true_eq]
    omega
  have on5 : onZ (px, py) ((x, y + h), (x, y)) = decide (px = x ∧ y ≤ py ∧ py ≤ y + h) := by
    rw [onZ_box, c5, Bool.eq_iff_iff]
    simp only [Bool.and_eq_true, decide_eq_true_eq]
    omega
  unfold withinZ
  rw [hn, show List.range 6 = [0, 1, 2, 3, 4, 5] from rfl]
  simp only [windS, List.any_cons, List.any_nil, s0, s1, s2, s3, s4, s5, on0, on5, w0, w1, w2, w3, w4, w5]
  by_cases g0 : py = y ∧ x ≤ px ∧ px ≤ x + wd
  · simp [g0]
  by_cases g5 : px = x ∧ y ≤ py ∧ py ≤ y + h
  · simp [g5]
  have : (0 + ((if py = y ∧ px < x + wd then (1 : Int) else 0) + (0 + ((if y + 1 ≤ py ∧ py < y + h ∧ px < x + 1 then 1 else 0) + (0 + ((if y ≤ py ∧ py < y + h ∧ px < x then -1 else 0) + 0)))))) = 0 := by
    split <;> split <;> split <;> omega
  rw [this]
  simp
end Go.Proofs.Ytokdclbfjlnnjaa
/- Plain laws of the plane: what is strictly inside of a triangle. -/
namespace Go.Proofs.Ytokdclbfjlnnjaa

theorem tri_ids (px py x y wd t1 t2 h : Int) :
    (wd * h - t1 * t2) * (py - y) = crossZ (x + t2, y + h) (x, y) (px, py) * t1 + crossZ (x, y) (x + wd, y + t1) (px, py) * h ∧
    (wd * h - t1 * t2) * (y + h - py) = crossZ (x + wd, y + t1) (x + t2, y + h) (px, py) * h + crossZ (x + t2, y + h) (x, y) (px, py) * (h - t1) ∧
    (wd * h - t1 * t2) * (py - y - t1) = crossZ (x, y) (x + wd, y + t1) (px, py) * (h - t1) - crossZ (x + wd, y + t1) (x + t2, y + h) (px, py) * t1 ∧
    (wd * h - t1 * t2) * (px - x) = crossZ (x + t2, y + h) (x, y) (px, py) * wd + crossZ (x, y) (x + wd, y + t1) (px, py) * t2 ∧
    wd * h - t1 * t2 = crossZ (x, y) (x + wd, y + t1) (px, py) + crossZ (x + wd, y + t1) (x + t2, y + h) (px, py) + crossZ (x + t2, y + h) (x, y) (px, py) := by
  simp only [crossZ]
  refine ⟨?_, ?_, ?_, ?_, ?_⟩ <;> grind

theorem pos_of {a b : Int} (ha : 0 < a) (h : 0 < a * b) : 0 < b := (mul_sign ha).1.1 h
theorem neg_of {a b : Int} (ha : 0 < a) (h : a * b < 0) : b < 0 := (mul_sign ha).2.1.1 h
/-- The number of windings of a triangle around a point that lies on none of its sides, by the signs of the three areas. v: the point's height above the lowest corner. -/
theorem tri_core {A c0 c1 c2 t1 h v : Int} (hA : 0 < A) (hh : 0 < h) (ht : 0 ≤ t1) (hth : t1 < h) (I1 : A * v = c2 * t1 + c0 * h) (I2 : A * (h - v) = c1 * h + c2 * (h - t1)) (I3 : A * (v - t1) = c0 * (h - t1) - c1 * t1)
    (n0 : ¬ (c0 = 0 ∧ 0 ≤ c1 ∧ 0 ≤ c2)) (n2 : ¬ (c2 = 0 ∧ 0 ≤ c0 ∧ 0 ≤ c1)) (u0 u1 u2 : Int) (e0 : u0 = if 0 ≤ v ∧ v < t1 ∧ 0 < c0 then 1 else 0) (e1 : u1 = if t1 ≤ v ∧ v < h ∧ 0 < c1 then 1 else 0) (e2 : u2 = if 0 ≤ v ∧ v < h ∧ c2 < 0 then -1 else 0) :
    u0 + u1 + u2 ≠ 0 ↔ 0 < c0 ∧ 0 < c1 ∧ 0 < c2 := by
  have hht : 0 < h - t1 := by omega
  constructor
  · intro hne
    by_cases hb : 0 ≤ v ∧ v < h
    · by_cases hl : v < t1
      · have ht1 : 0 < t1 := by omega
        have hneg : A * (v - t1) < 0 := Int.mul_neg_of_pos_of_neg hA (by omega)
        by_cases hc0 : 0 < c0
        · have p0 := Int.mul_pos hc0 hht
          have p1 : 0 < t1 * c1 := by rw [Int.mul_comm]; omega
          have hc1 := pos_of ht1 p1
          have hc2 : ¬ c2 < 0 := fun hc => hne (by rw [e0, e1, e2, if_pos ⟨hb.1, hl, hc0⟩, if_neg (by omega), if_pos ⟨hb.1, hb.2, hc⟩]; omega)
          omega
        · exfalso
          have hc2 : c2 < 0 := Classical.byContradiction fun hc => hne (by rw [e0, e1, e2, if_neg (by omega), if_neg (by omega), if_neg (by omega)]; omega)
          have q1 := Int.mul_neg_of_neg_of_pos hc2 ht1
          have q2 := Int.mul_nonpos_of_nonpos_of_nonneg (show c0 ≤ 0 by omega) (show 0 ≤ h by omega)
          have q3 := neg_of hA (show A * v < 0 by omega)
          omega
      · have hge : 0 ≤ A * (v - t1) := Int.mul_nonneg (by omega) (by omega)
        by_cases hc1 : 0 < c1
        · have hc2 : ¬ c2 < 0 := fun hc => hne (by rw [e0, e1, e2, if_neg (by omega), if_pos ⟨by omega, hb.2, hc1⟩, if_pos ⟨hb.1, hb.2, hc⟩]; omega)
          have q1 := Int.mul_nonneg (show 0 ≤ c1 by omega) ht
          have hc0 : 0 ≤ c0 := Classical.byContradiction fun hc => by
            have := Int.mul_neg_of_neg_of_pos (show c0 < 0 by omega) hht
            omega
          omega
        · exfalso
          have hc2 : c2 < 0 := Classical.byContradiction fun hc => hne (by rw [e0, e1, e2, if_neg (by omega), if_neg (by omega), if_neg (by omega)]; omega)
          have q1 := Int.mul_nonpos_of_nonpos_of_nonneg (show c1 ≤ 0 by omega) (show 0 ≤ h by omega)
          have q2 := Int.mul_neg_of_neg_of_pos hc2 hht
          have q3 := neg_of hA (show A * (h - v) < 0 by omega)
          omega
    · exact absurd (by rw [e0, e1, e2, if_neg (by omega), if_neg (by omega), if_neg (by omega)]; rfl) hne
  · rintro ⟨h0, h1, h2⟩
    have q1 := Int.mul_nonneg (show 0 ≤ c2 by omega) ht
    have q2 := Int.mul_pos h0 hh
    have q3 := pos_of hA (show 0 < A * v by omega)
    have q4 := Int.mul_pos h1 hh
    have q5 := Int.mul_pos h2 hht
    have q6 := pos_of hA (show 0 < A * (h - v) by omega)
    rw [e0, e1, e2]
    by_cases hl : v < t1
    · rw [if_pos ⟨by omega, hl, h0⟩, if_neg (by omega), if_neg (by omega)]; omega
    · rw [if_neg (by omega), if_pos ⟨by omega, by omega, h1⟩, if_neg (by omega)]; omega

theorem nonneg_of {a b : Int} (ha : 0 < a) (h : 0 ≤ a * b) : 0 ≤ b := Classical.byContradiction fun hb => by
  have := Int.mul_neg_of_pos_of_neg ha (show b < 0 by omega)
  omega
theorem tri_within (px py x y wd t1 t2 h : Int) (hw : 0 < wd) (hh : 0 < h) (ht : 0 ≤ t1) (hth : t1 < h) (ht2 : 0 ≤ t2) (hA : 0 < wd * h - t1 * t2) :
    withinZ (px, py) 2 (triL x y wd t1 t2 h) = decide (0 < crossZ (x, y) (x + wd, y + t1) (px, py) ∧ 0 < crossZ (x + wd, y + t1) (x + t2, y + h) (px, py) ∧ 0 < crossZ (x + t2, y + h) (x, y) (px, py)) := by
  have hn : nSeg 2 (triL x y wd t1 t2 h) = 3 := by simp [nSeg, triL]
  have s0 : sgZ (triL x y wd t1 t2 h) 0 = ((x, y), (x + wd, y + t1)) := by simp [sgZ, ptZ, triL]
  have s1 : sgZ (triL x y wd t1 t2 h) 1 = ((x + wd, y + t1), (x + t2, y + h)) := by simp [sgZ, ptZ, triL]
  have s2 : sgZ (triL x y wd t1 t2 h) 2 = ((x + t2, y + h), (x, y)) := by simp [sgZ, ptZ, triL]
  obtain ⟨I1, I2, I3, I4, I5⟩ := tri_ids px py x y wd t1 t2 h
  unfold withinZ
  rw [hn, show List.range 3 = [0, 1, 2] from rfl]
  simp only [windS, List.any_cons, List.any_nil, s0, s1, s2, onZ_box]
  have u0 : wind1 (px, py) ((x, y), (x + wd, y + t1)) = if 0 ≤ py - y ∧ py - y < t1 ∧ 0 < crossZ (x, y) (x + wd, y + t1) (px, py) then 1 else 0 := by
    unfold wind1; simp only; split <;> split <;> (try split) <;> omega
  have u1 : wind1 (px, py) ((x + wd, y + t1), (x + t2, y + h)) = if t1 ≤ py - y ∧ py - y < h ∧ 0 < crossZ (x + wd, y + t1) (x + t2, y + h) (px, py) then 1 else 0 := by
    unfold wind1; simp only; split <;> split <;> (try split) <;> omega
  have u2 : wind1 (px, py) ((x + t2, y + h), (x, y)) = if 0 ≤ py - y ∧ py - y < h ∧ crossZ (x + t2, y + h) (x, y) (px, py) < 0 then -1 else 0 := by
    unfold wind1; simp only; split <;> (try split) <;> (try split) <;> omega
  rw [show y + h - py = h - (py - y) by omega] at I2
  generalize crossZ (x, y) (x + wd, y + t1) (px, py) = c0 at *
  generalize crossZ (x + wd, y + t1) (x + t2, y + h) (px, py) = c1 at *
  generalize crossZ (x + t2, y + h) (x, y) (px, py) = c2 at *
  generalize wd * h - t1 * t2 = A at *
  rw [Bool.eq_iff_iff]
  simp only [Bool.and_eq_true, Bool.not_eq_true', Bool.or_eq_false_iff, Bool.and_eq_false_iff, decide_eq_false_iff_not, decide_eq_true_eq, bne_iff_ne, Bool.or_false]
  constructor
  · rintro ⟨⟨o0, o1, o2⟩, hwn⟩
    refine (tri_core hA hh ht hth I1 I2 I3 ?_ ?_ _ _ _ u0 u1 u2).1 (by omega)
    · rintro ⟨z0, z1, z2⟩
      subst z0
      have a1 := nonneg_of hA (b := px - x) (by rw [I4]; have := Int.mul_nonneg z2 (show 0 ≤ wd by omega); omega)
      have a2 := nonneg_of hA (b := x + wd - px) (by have e : A * (x + wd - px) = c1 * wd := by grind
                                                     rw [e]; exact Int.mul_nonneg z1 (by omega))
      have a3 := nonneg_of hA (b := py - y) (by rw [I1]; have := Int.mul_nonneg z2 ht; omega)
      have a4 := nonneg_of hA (b := t1 - (py - y)) (by have e : A * (t1 - (py - y)) = c1 * t1 := by grind
                                                       rw [e]; exact Int.mul_nonneg z1 ht)
      omega
    · rintro ⟨z2, z0, z1⟩
      subst z2
      have a1 := nonneg_of hA (b := px - x) (by rw [I4]; have := Int.mul_nonneg z0 ht2; omega)
      have a2 := nonneg_of hA (b := x + t2 - px) (by have e : A * (x + t2 - px) = c1 * t2 := by grind
                                                     rw [e]; exact Int.mul_nonneg z1 ht2)
      have a3 := nonneg_of hA (b := py - y) (by rw [I1]; have := Int.mul_nonneg z0 (show 0 ≤ h by omega); omega)
      have a4 := nonneg_of hA (b := h - (py - y)) (by rw [I2]; have := Int.mul_nonneg z1 (show 0 ≤ h by omega); omega)
      omega
  · intro hpos
    have := (tri_core hA hh ht hth I1 I2 I3 (by omega) (by omega) _ _ _ u0 u1 u2).2 hpos
    refine ⟨by omega, by omega⟩
end Go.Proofs.Ytokdclbfjlnnjaa
/- Plain laws of the plane: what lies on the left of a line. -/
namespace Go.Proofs.Ytokdclbfjlnnjaa

/-- A point of a segment whose ends lie strictly on the left of a line does so, too. -/
theorem on_left {a b z p q : Pt} (hz : onZ z (p, q) = true) (hp : 0 < crossZ a b p) (hq : 0 < crossZ a b q) : 0 < crossZ a b z := by
  rw [onZ_box] at hz
  simp only [Bool.and_eq_true, decide_eq_true_eq] at hz
  obtain ⟨hc, hx1, hx2, hy1, hy2⟩ := hz
  have e1 : (q.1 - p.1) * crossZ a b z = (q.1 - z.1) * crossZ a b p + (z.1 - p.1) * crossZ a b q := by simp only [crossZ] at *; grind
  have e2 : (q.2 - p.2) * crossZ a b z = (q.2 - z.2) * crossZ a b p + (z.2 - p.2) * crossZ a b q := by simp only [crossZ] at *; grind
  have key : ∀ {u v d c P Q : Int}, 0 < P → 0 < Q → d = u + v → d * c = u * P + v * Q → (0 ≤ u ∧ 0 ≤ v ∧ 0 < d) ∨ (u ≤ 0 ∧ v ≤ 0 ∧ d < 0) → 0 < c := by
    intro u v d c P Q hP hQ hd he hs
    rcases hs with ⟨hu, hv, hd0⟩ | ⟨hu, hv, hd0⟩
    · have h1 := Int.mul_nonneg hu (show 0 ≤ P by omega)
      have h2 := Int.mul_nonneg hv (show 0 ≤ Q by omega)
      rcases Int.lt_or_le 0 u with h | h
      · have := Int.mul_pos h hP; exact pos_of hd0 (by omega)
      · have := Int.mul_pos (show 0 < v by omega) hQ; exact pos_of hd0 (by omega)
    · have h1 := Int.mul_nonpos_of_nonpos_of_nonneg hu (show 0 ≤ P by omega)
      have h2 := Int.mul_nonpos_of_nonpos_of_nonneg hv (show 0 ≤ Q by omega)
      have hneg : d * c < 0 := by
        rcases Int.lt_or_le u 0 with h | h
        · have := Int.mul_neg_of_neg_of_pos h hP; omega
        · have := Int.mul_neg_of_neg_of_pos (show v < 0 by omega) hQ; omega
      exact pos_of (a := -d) (by omega) (by rw [Int.neg_mul]; omega)
  rcases Int.lt_trichotomy p.1 q.1 with h | h | h
  · exact key hp hq (by omega) e1 (.inl ⟨by omega, by omega, by omega⟩)
  · rcases Int.lt_trichotomy p.2 q.2 with h' | h' | h'
    · exact key hp hq (by omega) e2 (.inl ⟨by omega, by omega, by omega⟩)
    · have : z = p := Prod.ext (by omega) (by omega)
      rw [this]; exact hp
    · exact key hp hq (by omega) e2 (.inr ⟨by omega, by omega, by omega⟩)
  · exact key hp hq (by omega) e1 (.inr ⟨by omega, by omega, by omega⟩)
/-- A segment whose ends lie strictly on the left of a line does not meet a segment of that line. -/
theorem left_no_meet {a b p q : Pt} (hp : 0 < crossZ a b p) (hq : 0 < crossZ a b q) : meetZ (p, q) (a, b) = false := by
  have za : crossZ a b a = 0 := by simp [crossZ]
  have zb : crossZ a b b = 0 := by simp only [crossZ]; grind
  have o1 : onZ p (a, b) = false := by unfold onZ; simp only; rw [decide_eq_false (by omega)]; rfl
  have o2 : onZ q (a, b) = false := by unfold onZ; simp only; rw [decide_eq_false (by omega)]; rfl
  have o3 : onZ a (p, q) = false := by
    cases h : onZ a (p, q)
    · rfl
    · have := on_left h hp hq; omega
  have o4 : onZ b (p, q) = false := by
    cases h : onZ b (p, q)
    · rfl
    · have := on_left h hp hq; omega
  unfold meetZ
  simp only [o1, o2, o3, o4, Bool.false_or]
  rw [show oppZ (crossZ a b p) (crossZ a b q) = false by unfold oppZ; exact decide_eq_false (by omega)]
  simp

/-- A point inside of a rectangle lies on the left of a line that has all four corners on its left. -/
theorem rect_left {a b : Pt} {px py x y wd h : Int} (hx : x < px ∧ px < x + wd) (hy : y < py ∧ py < y + h)
    (h0 : 0 < crossZ a b (x, y)) (h1 : 0 < crossZ a b (x + wd, y)) (h2 : 0 < crossZ a b (x + wd, y + h)) (h3 : 0 < crossZ a b (x, y + h)) : 0 < crossZ a b (px, py) := by
  have e : (wd * h) * crossZ a b (px, py) = ((x + wd - px) * (y + h - py)) * crossZ a b (x, y) + ((px - x) * (y + h - py)) * crossZ a b (x + wd, y) + ((px - x) * (py - y)) * crossZ a b (x + wd, y + h) + ((x + wd - px) * (py - y)) * crossZ a b (x, y + h) := by
    simp only [crossZ]; grind
  have p0 := Int.mul_pos (Int.mul_pos (show 0 < x + wd - px by omega) (show 0 < y + h - py by omega)) h0
  have p1 := Int.mul_pos (Int.mul_pos (show 0 < px - x by omega) (show 0 < y + h - py by omega)) h1
  have p2 := Int.mul_pos (Int.mul_pos (show 0 < px - x by omega) (show 0 < py - y by omega)) h2
  have p3 := Int.mul_pos (Int.mul_pos (show 0 < x + wd - px by omega) (show 0 < py - y by omega)) h3
  exact pos_of (Int.mul_pos (show 0 < wd by omega) (show 0 < h by omega)) (by rw [e]; omega)
theorem tri_left {a b : Pt} {px py x y wd t1 t2 h : Int} (hA : 0 < wd * h - t1 * t2)
    (k0 : 0 < crossZ (x, y) (x + wd, y + t1) (px, py)) (k1 : 0 < crossZ (x + wd, y + t1) (x + t2, y + h) (px, py)) (k2 : 0 < crossZ (x + t2, y + h) (x, y) (px, py))
    (h0 : 0 < crossZ a b (x, y)) (h1 : 0 < crossZ a b (x + wd, y + t1)) (h2 : 0 < crossZ a b (x + t2, y + h)) : 0 < crossZ a b (px, py) := by
  have e : (wd * h - t1 * t2) * crossZ a b (px, py) = crossZ (x + wd, y + t1) (x + t2, y + h) (px, py) * crossZ a b (x, y) + crossZ (x + t2, y + h) (x, y) (px, py) * crossZ a b (x + wd, y + t1) + crossZ (x, y) (x + wd, y + t1) (px, py) * crossZ a b (x + t2, y + h) := by
    simp only [crossZ]; grind
  have p0 := Int.mul_pos k1 h0
  have p1 := Int.mul_pos k2 h1
  have p2 := Int.mul_pos k0 h2
  exact pos_of hA (by rw [e]; omega)
end Go.Proofs.Ytokdclbfjlnnjaa
/- Plain laws of the plane: the least of fractions, and the distance that comes of it. -/
namespace Go.Proofs.Ytokdclbfjlnnjaa

def leF (f g : Int × Int) : Prop := f.1 * g.2 ≤ g.1 * f.2
theorem leF_refl (f : Int × Int) : leF f f := Int.le_refl _
theorem leF_trans {f g h : Int × Int} (hf : 0 < f.2) (hg : 0 < g.2) (hh : 0 < h.2) (h1 : leF f g) (h2 : leF g h) : leF f h := by
  unfold leF at *
  have a := Int.mul_le_mul_of_nonneg_right h1 (show 0 ≤ h.2 by omega)
  have b := Int.mul_le_mul_of_nonneg_right h2 (show 0 ≤ f.2 by omega)
  have e1 : g.1 * f.2 * h.2 = g.1 * h.2 * f.2 := by grind
  have e2 : f.1 * g.2 * h.2 = g.2 * (f.1 * h.2) := by grind
  have e3 : h.1 * g.2 * f.2 = g.2 * (h.1 * f.2) := by grind
  rw [e1, e2] at a
  rw [e3] at b
  exact Int.le_of_mul_le_mul_left (by omega) hg
/-- What is kept is the least of what was there. -/
def MinO (S : Int × Int → Prop) (st : Option (Int × Int)) : Prop := match st with
  | none => ∀ g, ¬ S g
  | some f => S f ∧ ∀ g, S g → leF f g
theorem better_min {S : Int × Int → Prop} {st : Option (Int × Int)} {f : Int × Int} (hS : ∀ g, S g → 0 < g.2) (h : MinO S st) (hf : 0 < f.2) : MinO (fun g => S g ∨ g = f) (better st f) := by
  cases st with
  | none =>
    refine ⟨.inr rfl, fun g hg => ?_⟩
    rcases hg with hg | rfl
    · exact absurd hg (h g)
    · exact leF_refl _
  | some x =>
    obtain ⟨n, d⟩ := x
    obtain ⟨h1, h2⟩ := h
    rw [show better (some (n, d)) f = if f.1 * d < n * f.2 then some f else some (n, d) from rfl]
    by_cases hlt : f.1 * d < n * f.2
    · rw [if_pos hlt]
      refine ⟨.inr rfl, fun g hg => ?_⟩
      rcases hg with hg | rfl
      · exact leF_trans hf (hS _ h1) (hS _ hg) (by unfold leF; simp only; omega) (h2 g hg)
      · exact leF_refl _
    · rw [if_neg hlt]
      refine ⟨.inl h1, fun g hg => ?_⟩
      rcases hg with hg | rfl
      · exact h2 g hg
      · unfold leF; simp only; omega
theorem MinO.congr {S T : Int × Int → Prop} (h : ∀ g, S g ↔ T g) {st : Option (Int × Int)} (hm : MinO S st) : MinO T st := by
  have : S = T := funext fun g => propext (h g)
  rw [← this]; exact hm
theorem far_den {p : Pt} {s : Pt × Pt} : 0 < (farZ p s).2 := by
  unfold farZ
  split
  · rename_i h
    obtain ⟨h1, h2⟩ := h
    unfold sqZ
    grind
  · simp
theorem far_num {p : Pt} {s : Pt × Pt} : 0 ≤ (farZ p s).1 := by
  unfold farZ
  split
  · exact sq_nonneg _
  · have a := sq_nonneg (p.1 - s.1.1)
    have b := sq_nonneg (p.2 - s.1.2)
    have c := sq_nonneg (p.1 - s.2.1)
    have d := sq_nonneg (p.2 - s.2.2)
    unfold sqZ
    simp only
    omega
/-- The four fractions of two segments; all fractions of two shapes. -/
def far4 (s t : Pt × Pt) (g : Int × Int) : Prop := g = farZ s.1 t ∨ g = farZ s.2 t ∨ g = farZ t.1 s ∨ g = farZ t.2 s
def farS (la lb : List Pt) (m m' : Nat) (g : Int × Int) : Prop := ∃ i, i < m ∧ ∃ j, j < m' ∧ far4 (sgZ la i) (sgZ lb j) g
theorem far4_den {s t : Pt × Pt} {g : Int × Int} (h : far4 s t g) : 0 < g.2 := by rcases h with rfl | rfl | rfl | rfl <;> exact far_den
theorem far4_num {s t : Pt × Pt} {g : Int × Int} (h : far4 s t g) : 0 ≤ g.1 := by rcases h with rfl | rfl | rfl | rfl <;> exact far_num
theorem far4_swap {s t : Pt × Pt} {g : Int × Int} : far4 s t g ↔ far4 t s g := by unfold far4; constructor <;> (rintro (h | h | h | h) <;> simp [h])
theorem pairFar_min {S : Int × Int → Prop} {st : Option (Int × Int)} {s t : Pt × Pt} (hS : ∀ g, S g → 0 < g.2) (h : MinO S st) : MinO (fun g => S g ∨ far4 s t g) (pairFar s t st) := by
  have h1 := better_min hS h (far_den (p := s.1) (s := t))
  have S1 : ∀ g, (S g ∨ g = farZ s.1 t) → 0 < g.2 := fun g hg => by
    rcases hg with hg | hg
    · exact hS g hg
    · rw [hg]; exact far_den
  have h2 := better_min S1 h1 (far_den (p := s.2) (s := t))
  have S2 : ∀ g, ((S g ∨ g = farZ s.1 t) ∨ g = farZ s.2 t) → 0 < g.2 := fun g hg => by
    rcases hg with hg | hg
    · exact S1 g hg
    · rw [hg]; exact far_den
  have h3 := better_min S2 h2 (far_den (p := t.1) (s := s))
  have S3 : ∀ g, (((S g ∨ g = farZ s.1 t) ∨ g = farZ s.2 t) ∨ g = farZ t.1 s) → 0 < g.2 := fun g hg => by
    rcases hg with hg | hg
    · exact S2 g hg
    · rw [hg]; exact far_den
  have h4 := better_min S3 h3 (far_den (p := t.2) (s := s))
  exact h4.congr fun g => by unfold far4; simp [or_assoc]
theorem rowFar_min {S : Int × Int → Prop} {st : Option (Int × Int)} {s : Pt × Pt} {lb : List Pt} (hS : ∀ g, S g → 0 < g.2) (h : MinO S st) : ∀ j, MinO (fun g => S g ∨ ∃ i, i < j ∧ far4 s (sgZ lb i) g) (rowFar s lb j st)
  | 0 => h.congr fun g => by simp
  | j + 1 => (pairFar_min (fun g hg => by
      rcases hg with hg | ⟨i, _, hg⟩
      · exact hS g hg
      · exact far4_den hg) (rowFar_min hS h j)).congr fun g => by
    constructor
    · rintro ((h | ⟨i, hi, h⟩) | h)
      · exact .inl h
      · exact .inr ⟨i, by omega, h⟩
      · exact .inr ⟨j, by omega, h⟩
    · rintro (h | ⟨i, hi, h⟩)
      · exact .inl (.inl h)
      · rcases Nat.lt_or_ge i j with h' | h'
        · exact .inl (.inr ⟨i, h', h⟩)
        · obtain rfl : i = j := by omega
          exact .inr h
theorem allFar_min (la lb : List Pt) (m' : Nat) : ∀ m, MinO (farS la lb m m') (allFar la lb m' m)
  | 0 => fun g h => by obtain ⟨i, hi, _⟩ := h; omega
  | m + 1 => (rowFar_min (fun g hg => by obtain ⟨_, _, _, _, hg⟩ := hg; exact far4_den hg) (allFar_min la lb m' m) m').congr fun g => by
    unfold farS
    constructor
    · rintro (⟨i, hi, h⟩ | h)
      · exact ⟨i, by omega, h⟩
      · exact ⟨m, by omega, h⟩
    · rintro ⟨i, hi, h⟩
      rcases Nat.lt_or_ge i m with h' | h'
      · exact .inl ⟨i, h', h⟩
      · obtain rfl : i = m := by omega
        exact .inr h

theorem gcd_cross {n d n' d' : Nat} (h : n * d' = n' * d) : n * Nat.gcd d' n' = n' * Nat.gcd d n := by
  rw [← Nat.gcd_mul_left, ← Nat.gcd_mul_left, h, Nat.mul_comm n n']
theorem gcd_cross2 {n d n' d' : Nat} (h : n * d' = n' * d) : d * Nat.gcd d' n' = d' * Nat.gcd d n := by
  rw [← Nat.gcd_mul_left, ← Nat.gcd_mul_left, Nat.mul_comm d d', Nat.mul_comm d n', ← h, Nat.mul_comm n d']
theorem div_cross {a b g g' : Nat} (hg : 0 < g) (hg' : 0 < g') (h1 : g ∣ a) (h2 : g' ∣ b) (h : a * g' = b * g) : a / g = b / g' := by
  obtain ⟨u, rfl⟩ := h1
  obtain ⟨v, rfl⟩ := h2
  rw [Nat.mul_div_cancel_left _ hg, Nat.mul_div_cancel_left _ hg']
  have : (g * g') * u = (g * g') * v := by grind
  exact Nat.eq_of_mul_eq_mul_left (Nat.mul_pos hg hg') this
theorem frac_same {f g : Int × Int} (hf : 0 < f.2) (hg : 0 < g.2) (hf1 : 0 ≤ f.1) (hg1 : 0 ≤ g.1) (h : f.1 * g.2 = g.1 * f.2) : fracZ (some f) = fracZ (some g) := by
  obtain ⟨n, d⟩ := f
  obtain ⟨n', d'⟩ := g
  simp only at *
  obtain ⟨n, rfl⟩ := Int.eq_ofNat_of_zero_le hf1
  obtain ⟨n', rfl⟩ := Int.eq_ofNat_of_zero_le hg1
  obtain ⟨d, rfl⟩ := Int.eq_ofNat_of_zero_le (show 0 ≤ d by omega)
  obtain ⟨d', rfl⟩ := Int.eq_ofNat_of_zero_le (show 0 ≤ d' by omega)
  have hN : n * d' = n' * d := by exact_mod_cast h
  unfold fracZ
  simp only [Int.toNat_natCast]
  have hd0 : 0 < d := by omega
  have hd0' : 0 < d' := by omega
  by_cases hz : n = 0
  · subst hz
    have hz' : n' = 0 := by
      rw [Nat.zero_mul] at hN
      rcases Nat.mul_eq_zero.1 hN.symm with h | h
      · exact h
      · omega
    subst hz'
    simp
  · have hz' : n' ≠ 0 := by
      rintro rfl
      rw [Nat.zero_mul] at hN
      rcases Nat.mul_eq_zero.1 hN with h | h <;> omega
    rw [if_neg (by omega), if_neg (by omega)]
    have g1 : 0 < Nat.gcd d n := Nat.gcd_pos_of_pos_left _ hd0
    have g2 : 0 < Nat.gcd d' n' := Nat.gcd_pos_of_pos_left _ hd0'
    have e1 := div_cross g1 g2 (Nat.gcd_dvd_right d n) (Nat.gcd_dvd_right d' n') (gcd_cross hN)
    have e2 := div_cross g1 g2 (Nat.gcd_dvd_left d n) (Nat.gcd_dvd_left d' n') (gcd_cross2 hN)
    rw [← Int.natCast_ediv, ← Int.natCast_ediv, ← Int.natCast_ediv, ← Int.natCast_ediv, e1, e2]
theorem frac_min_same {S : Int × Int → Prop} (hS : ∀ g, S g → 0 < g.2 ∧ 0 ≤ g.1) {st st' : Option (Int × Int)} (h : MinO S st) (h' : MinO S st') : fracZ st = fracZ st' := by
  cases st with
  | none => cases st' with
    | none => rfl
    | some g => exact absurd h'.1 (h g)
  | some f => cases st' with
    | none => exact absurd h.1 (h' f)
    | some g =>
      have a := h.2 g h'.1
      have b := h'.2 f h.1
      unfold leF at a b
      exact frac_same (hS f h.1).1 (hS g h'.1).1 (hS f h.1).2 (hS g h'.1).2 (by omega)
/-- Shapes with the same fractions, and that meet alike, are as far from each other. -/
theorem near_same {ka kb ka' kb' : Int} {la lb la' lb' : List Pt} (hm : meets la lb (nPart ka la) (nPart kb lb) = meets la' lb' (nPart ka' la') (nPart kb' lb'))
    (hf : ∀ g, farS la lb (nPart ka la) (nPart kb lb) g ↔ farS la' lb' (nPart ka' la') (nPart kb' lb') g) : nearZ ka la kb lb = nearZ ka' la' kb' lb' := by
  unfold nearZ
  rw [hm]
  split
  · rfl
  · exact frac_min_same (S := farS la' lb' (nPart ka' la') (nPart kb' lb')) (fun g hg => by obtain ⟨_, _, _, _, hg⟩ := hg; exact ⟨far4_den hg, far4_num hg⟩) ((allFar_min la lb _ _).congr hf) (allFar_min la' lb' _ _)
theorem meetZ_swap (s t : Pt × Pt) : meetZ s t = meetZ t s := by
  unfold meetZ
  rw [Bool.and_comm]
  cases onZ s.1 t <;> cases onZ s.2 t <;> cases onZ t.1 s <;> cases onZ t.2 s <;> rfl
theorem meets_iff {la lb : List Pt} {m m' : Nat} : meets la lb m m' = true ↔ ∃ i, i < m ∧ ∃ j, j < m' ∧ meetZ (sgZ la i) (sgZ lb j) = true := by
  unfold meets
  simp only [List.any_eq_true, List.mem_range]
theorem near_swap (ka kb : Int) (la lb : List Pt) : nearZ ka la kb lb = nearZ kb lb ka la := by
  refine near_same ?_ fun g => ?_
  · rw [Bool.eq_iff_iff, meets_iff, meets_iff]
    constructor
    · rintro ⟨i, hi, j, hj, h⟩
      exact ⟨j, hj, i, hi, by rw [meetZ_swap]; exact h⟩
    · rintro ⟨i, hi, j, hj, h⟩
      exact ⟨j, hj, i, hi, by rw [meetZ_swap]; exact h⟩
  · unfold farS
    constructor
    · rintro ⟨i, hi, j, hj, h⟩
      exact ⟨j, hj, i, hi, far4_swap.1 h⟩
    · rintro ⟨i, hi, j, hj, h⟩
      exact ⟨j, hj, i, hi, far4_swap.1 h⟩
end Go.Proofs.Ytokdclbfjlnnjaa
/- Plain laws of the plane: what the statement on distances asks. -/
namespace Go.Proofs.Ytokdclbfjlnnjaa

theorem sq_zero {a b : Pt} (h : sqZ a b = 0) : a = b := by
  have h1 := sq_nonneg (a.1 - b.1)
  have h2 := sq_nonneg (a.2 - b.2)
  unfold sqZ at h
  have e1 : (a.1 - b.1) * (a.1 - b.1) = 0 := by omega
  have e2 : (a.2 - b.2) * (a.2 - b.2) = 0 := by omega
  have f1 : a.1 - b.1 = 0 := by rcases Int.mul_eq_zero.1 e1 with h | h <;> exact h
  have f2 : a.2 - b.2 = 0 := by rcases Int.mul_eq_zero.1 e2 with h | h <;> exact h
  exact Prod.ext (by omega) (by omega)
theorem sqZ_nonneg (a b : Pt) : 0 ≤ sqZ a b := by
  have h1 := sq_nonneg (a.1 - b.1)
  have h2 := sq_nonneg (a.2 - b.2)
  unfold sqZ; omega
theorem on_first (a b : Pt) : onZ a (a, b) = true := by
  have z : crossZ a b a = 0 := by simp [crossZ]
  unfold onZ
  simp [z]
theorem on_last (a b : Pt) : onZ b (a, b) = true := by
  have z : crossZ a b b = 0 := by simp only [crossZ]; grind
  unfold onZ
  simp [z]
theorem far_zero {p : Pt} {s : Pt × Pt} (h : (farZ p s).1 = 0) : onZ p s = true := by
  obtain ⟨a, b⟩ := s
  unfold farZ at h
  split at h
  · rename_i hc
    obtain ⟨hA, hB⟩ := hc
    simp only at h hA hB
    have hz : crossZ a b p = 0 := by rcases Int.mul_eq_zero.1 h with h | h <;> exact h
    unfold onZ
    simp only [hz, decide_true, Bool.true_and, Bool.and_eq_true, decide_eq_true_eq]
    have hS : 0 < sqZ a b := by unfold sqZ; grind
    have ex : (p.1 - a.1) * sqZ a b = (b.1 - a.1) * ((p.1 - a.1) * (b.1 - a.1) + (p.2 - a.2) * (b.2 - a.2)) := by simp only [crossZ, sqZ] at *; grind
    have ey : (p.2 - a.2) * sqZ a b = (b.2 - a.2) * ((p.1 - a.1) * (b.1 - a.1) + (p.2 - a.2) * (b.2 - a.2)) := by simp only [crossZ, sqZ] at *; grind
    have ex' : (p.1 - b.1) * sqZ a b = (a.1 - b.1) * ((p.1 - b.1) * (a.1 - b.1) + (p.2 - b.2) * (a.2 - b.2)) := by simp only [crossZ, sqZ] at *; grind
    have ey' : (p.2 - b.2) * sqZ a b = (a.2 - b.2) * ((p.1 - b.1) * (a.1 - b.1) + (p.2 - b.2) * (a.2 - b.2)) := by simp only [crossZ, sqZ] at *; grind
    generalize sqZ a b = S at *
    generalize (p.1 - a.1) * (b.1 - a.1) + (p.2 - a.2) * (b.2 - a.2) = A at *
    generalize (p.1 - b.1) * (a.1 - b.1) + (p.2 - b.2) * (a.2 - b.2) = B at *
    have key : ∀ {u v d : Int}, u * S = d * A → v * S = (-d) * B → u * v ≤ 0 := by
      intro u v d h1 h2
      refine Classical.byContradiction fun hn => ?_
      have hp : 0 < u * v := by omega
      have e : (u * v) * (S * S) = -((d * d) * (A * B)) := by
        have : (u * v) * (S * S) = (u * S) * (v * S) := by grind
        rw [this, h1, h2]; grind
      have q1 := Int.mul_pos hp (Int.mul_pos hS hS)
      have q2 := Int.mul_nonneg (sq_nonneg d) (show 0 ≤ A * B from Int.mul_nonneg (by omega) (by omega))
      omega
    exact ⟨key ex (by rw [ex']; congr 1; omega), key ey (by rw [ey']; congr 1; omega)⟩
  · simp only at h
    have h1 := sqZ_nonneg p a
    have h2 := sqZ_nonneg p b
    have : sqZ p a = 0 ∨ sqZ p b = 0 := by omega
    rcases this with h | h
    · rw [sq_zero h]; exact on_first a b
    · rw [sq_zero h]; exact on_last a b
theorem far_sq (p : Pt) (s : Pt × Pt) : (farZ p s).1 ≤ sqZ p s.1 * (farZ p s).2 := by
  obtain ⟨a, b⟩ := s
  unfold farZ
  split
  · simp only
    have e : sqZ p a * sqZ a b = crossZ a b p * crossZ a b p + ((p.1 - a.1) * (b.1 - a.1) + (p.2 - a.2) * (b.2 - a.2)) * ((p.1 - a.1) * (b.1 - a.1) + (p.2 - a.2) * (b.2 - a.2)) := by
      unfold sqZ crossZ; grind
    have := sq_nonneg ((p.1 - a.1) * (b.1 - a.1) + (p.2 - a.2) * (b.2 - a.2))
    omega
  · simp only
    omega
theorem sq_mono {g u : Int} (hg : 0 ≤ g) (h : g ≤ u ∨ g ≤ -u) : g * g ≤ u * u := by
  rcases h with h | h
  · exact Int.mul_le_mul h h hg (by omega)
  · have := Int.mul_le_mul h h hg (by omega)
    have e : -u * -u = u * u := by grind
    omega
theorem far_gap {g : Int} {p : Pt} {s : Pt × Pt} (hg : 0 ≤ g) (h : (g ≤ s.1.1 - p.1 ∧ g ≤ s.2.1 - p.1) ∨ (g ≤ -(s.1.1 - p.1) ∧ g ≤ -(s.2.1 - p.1))) : g * g * (farZ p s).2 ≤ (farZ p s).1 := by
  obtain ⟨a, b⟩ := s
  simp only at h
  unfold farZ
  split
  · rename_i hc
    obtain ⟨hA, hB⟩ := hc
    simp only at hA hB ⊢
    have hS : sqZ a b = ((p.1 - a.1) * (b.1 - a.1) + (p.2 - a.2) * (b.2 - a.2)) + ((p.1 - b.1) * (a.1 - b.1) + (p.2 - b.2) * (a.2 - b.2)) := by unfold sqZ; grind
    have e : crossZ a b p * crossZ a b p * sqZ a b =
        ((a.1 - p.1) * ((p.1 - b.1) * (a.1 - b.1) + (p.2 - b.2) * (a.2 - b.2)) + (b.1 - p.1) * ((p.1 - a.1) * (b.1 - a.1) + (p.2 - a.2) * (b.2 - a.2))) *
        ((a.1 - p.1) * ((p.1 - b.1) * (a.1 - b.1) + (p.2 - b.2) * (a.2 - b.2)) + (b.1 - p.1) * ((p.1 - a.1) * (b.1 - a.1) + (p.2 - a.2) * (b.2 - a.2))) +
        ((a.2 - p.2) * ((p.1 - b.1) * (a.1 - b.1) + (p.2 - b.2) * (a.2 - b.2)) + (b.2 - p.2) * ((p.1 - a.1) * (b.1 - a.1) + (p.2 - a.2) * (b.2 - a.2))) *
        ((a.2 - p.2) * ((p.1 - b.1) * (a.1 - b.1) + (p.2 - b.2) * (a.2 - b.2)) + (b.2 - p.2) * ((p.1 - a.1) * (b.1 - a.1) + (p.2 - a.2) * (b.2 - a.2))) := by
      have ea : a.1 = (a.1 - p.1) + p.1 := by omega
      unfold sqZ crossZ
      grind
    generalize (p.1 - a.1) * (b.1 - a.1) + (p.2 - a.2) * (b.2 - a.2) = A at *
    generalize (p.1 - b.1) * (a.1 - b.1) + (p.2 - b.2) * (a.2 - b.2) = B at *
    generalize crossZ a b p * crossZ a b p = C at *
    have hy := sq_nonneg ((a.2 - p.2) * B + (b.2 - p.2) * A)
    have hx : (g * sqZ a b) * (g * sqZ a b) ≤ ((a.1 - p.1) * B + (b.1 - p.1) * A) * ((a.1 - p.1) * B + (b.1 - p.1) * A) := by
      refine sq_mono (Int.mul_nonneg hg (by omega)) ?_
      rw [hS, Int.mul_add]
      rcases h with ⟨h1, h2⟩ | ⟨h1, h2⟩
      · have := Int.mul_le_mul_of_nonneg_right h1 (show 0 ≤ B by omega)
        have := Int.mul_le_mul_of_nonneg_right h2 (show 0 ≤ A by omega)
        exact .inl (by omega)
      · have a1 := Int.mul_le_mul_of_nonneg_right h1 (show 0 ≤ B by omega)
        have a2 := Int.mul_le_mul_of_nonneg_right h2 (show 0 ≤ A by omega)
        rw [Int.neg_mul] at a1 a2
        exact .inr (by omega)
    have hSp : 0 < sqZ a b := by omega
    generalize sqZ a b = S at *
    refine Int.le_of_mul_le_mul_right (a := S) ?_ hSp
    have : g * g * S * S = g * S * (g * S) := by grind
    omega
  · simp only
    have e1 := sq_nonneg (p.2 - a.2)
    have e2 := sq_nonneg (p.2 - b.2)
    have q1 : g * g ≤ (p.1 - a.1) * (p.1 - a.1) := sq_mono hg (by omega)
    have q2 : g * g ≤ (p.1 - b.1) * (p.1 - b.1) := sq_mono hg (by omega)
    unfold sqZ
    omega
theorem frac_facts {f : Int × Int} (h2 : 0 < f.2) (h1 : 0 ≤ f.1) : 1 ≤ (fracZ (some f)).2 ∧ 0 ≤ (fracZ (some f)).1 ∧ (fracZ (some f)).1 * f.2 = f.1 * (fracZ (some f)).2 := by
  obtain ⟨n, d⟩ := f
  simp only at *
  obtain ⟨n, rfl⟩ := Int.eq_ofNat_of_zero_le h1
  obtain ⟨d, rfl⟩ := Int.eq_ofNat_of_zero_le (show 0 ≤ d by omega)
  have hd0 : 0 < d := by omega
  unfold fracZ
  simp only [Int.toNat_natCast]
  by_cases hz : n = 0
  · subst hz; simp
  · rw [if_neg (by omega)]
    have g1 : 0 < Nat.gcd d n := Nat.gcd_pos_of_pos_left _ hd0
    obtain ⟨u, hu⟩ := Nat.gcd_dvd_left d n
    obtain ⟨v, hv⟩ := Nat.gcd_dvd_right d n
    generalize Nat.gcd d n = g at *
    simp only [← Int.natCast_ediv]
    have e1 : d / g = u := by rw [hu, Nat.mul_div_cancel_left _ g1]
    have e2 : n / g = v := by rw [hv, Nat.mul_div_cancel_left _ g1]
    rw [e1, e2]
    refine ⟨?_, by omega, ?_⟩
    · have : u ≠ 0 := by rintro rfl; simp at hu; omega
      omega
    · rw [hu, hv]
      have : v * (g * u) = g * v * u := by grind
      exact_mod_cast this
theorem cross_x (s t : Pt × Pt) : crossZ t.1 t.2 s.2 * s.1.1 - crossZ t.1 t.2 s.1 * s.2.1 + crossZ s.1 s.2 t.2 * t.1.1 - crossZ s.1 s.2 t.1 * t.2.1 = 0 := by
  obtain ⟨⟨a, b⟩, c, d⟩ := s
  obtain ⟨⟨e, f⟩, g, h⟩ := t
  simp only [crossZ]
  grind
theorem cross_d (s t : Pt × Pt) : crossZ t.1 t.2 s.2 - crossZ t.1 t.2 s.1 = -(crossZ s.1 s.2 t.2 - crossZ s.1 s.2 t.1) := by
  obtain ⟨⟨a, b⟩, c, d⟩ := s
  obtain ⟨⟨e, f⟩, g, h⟩ := t
  simp only [crossZ]
  grind
theorem on_x {p : Pt} {s : Pt × Pt} (h : onZ p s = true) : min s.1.1 s.2.1 ≤ p.1 ∧ p.1 ≤ max s.1.1 s.2.1 := by
  obtain ⟨a, b⟩ := s
  rw [onZ_box] at h
  simp only [Bool.and_eq_true, decide_eq_true_eq] at h
  exact ⟨h.2.1, h.2.2.1⟩
/-- Segments on different sides of a vertical line do not meet. -/
theorem apart_no_meet {s t : Pt × Pt} {hi lo : Int} (hlt : hi < lo) (h1 : s.1.1 ≤ hi) (h2 : s.2.1 ≤ hi) (h3 : lo ≤ t.1.1) (h4 : lo ≤ t.2.1) : meetZ s t = false := by
  have ho : ∀ {p : Pt} {s : Pt × Pt}, onZ p s = true → min s.1.1 s.2.1 ≤ p.1 ∧ p.1 ≤ max s.1.1 s.2.1 := fun h => on_x h
  cases hm : meetZ s t with
  | false => rfl
  | true =>
    exfalso
    unfold meetZ at hm
    simp only [Bool.or_eq_true, Bool.and_eq_true] at hm
    rcases hm with hm | hm | hm | hm | ⟨hm, hm'⟩
    · have := ho hm; omega
    · have := ho hm; omega
    · have := ho hm; omega
    · have := ho hm; omega
    · have e1 := cross_x s t
      have e2 := cross_d s t
      unfold oppZ at hm hm'
      simp only [decide_eq_true_eq] at hm hm'
      generalize crossZ t.1 t.2 s.2 = c2 at *
      generalize crossZ t.1 t.2 s.1 = c1 at *
      generalize crossZ s.1 s.2 t.2 = f2 at *
      generalize crossZ s.1 s.2 t.1 = f1 at *
      have key : ∀ {c1 c2 f1 f2 : Int}, c1 < 0 → 0 < c2 → f2 < 0 → 0 < f1 → c2 - c1 = -(f2 - f1) → c2 * s.1.1 - c1 * s.2.1 + f2 * t.1.1 - f1 * t.2.1 = 0 → False := by
        intro c1 c2 f1 f2 a1 a2 a3 a4 hd he
        have m1 := Int.mul_le_mul_of_nonneg_left h1 (show 0 ≤ c2 by omega)
        have m2 := Int.mul_le_mul_of_nonneg_left h2 (show 0 ≤ -c1 by omega)
        have m3 := Int.mul_le_mul_of_nonneg_left h3 (show 0 ≤ -f2 by omega)
        have m4 := Int.mul_le_mul_of_nonneg_left h4 (show 0 ≤ f1 by omega)
        rw [Int.neg_mul, Int.neg_mul] at m2 m3
        have q1 : (c2 - c1) * hi = c2 * hi - c1 * hi := Int.sub_mul _ _ _
        have q2 : (c2 - c1) * lo = f1 * lo - f2 * lo := by rw [hd]; grind
        have q3 := Int.mul_lt_mul_of_pos_left hlt (show 0 < c2 - c1 by omega)
        omega
      rcases hm with ⟨a1, a2⟩ | ⟨a1, a2⟩ <;> rcases hm' with ⟨a3, a4⟩ | ⟨a3, a4⟩
      · omega
      · exact key a3 a4 a2 a1 e2 e1
      · exact key (c1 := -c1) (c2 := -c2) (f1 := -f1) (f2 := -f2) (by omega) (by omega) (by omega) (by omega) (by omega) (by simp only [Int.neg_mul]; omega)
      · omega
/-- What is said of the distance of two shapes that have parts. -/
theorem near_facts {ka kb : Int} {la lb : List Pt} (h1 : 0 < nPart ka la) (h2 : 0 < nPart kb lb) :
    1 ≤ (nearZ ka la kb lb).2 ∧ 0 ≤ (nearZ ka la kb lb).1 ∧ ((nearZ ka la kb lb).1 = 0 ↔ meets la lb (nPart ka la) (nPart kb lb) = true) ∧
    (∀ i, i < nPart ka la → ∀ j, j < nPart kb lb → (nearZ ka la kb lb).1 ≤ sqZ (sgZ la i).1 (sgZ lb j).1 * (nearZ ka la kb lb).2) ∧
    (∀ hi lo, hi < lo → (∀ i, (ptZ la i).1 ≤ hi) → (∀ j, lo ≤ (ptZ lb j).1) → (lo - hi) * (lo - hi) * (nearZ ka la kb lb).2 ≤ (nearZ ka la kb lb).1) := by
  cases hm : meets la lb (nPart ka la) (nPart kb lb) with
  | true =>
    have e : nearZ ka la kb lb = (0, 1) := by unfold nearZ; rw [if_pos hm]
    rw [e]
    refine ⟨by simp, by simp, by simp, fun i _ j _ => by simp only; have := sqZ_nonneg (sgZ la i).1 (sgZ lb j).1; omega, fun hi lo hlt ha hb => ?_⟩
    obtain ⟨i, _, j, _, h⟩ := meets_iff.1 hm
    rw [apart_no_meet hlt (ha i) (ha (i + 1)) (hb j) (hb (j + 1))] at h
    cases h
  | false =>
    have e : nearZ ka la kb lb = fracZ (allFar la lb (nPart kb lb) (nPart ka la)) := by unfold nearZ; rw [hm]; rfl
    have hmin := allFar_min la lb (nPart kb lb) (nPart ka la)
    rw [e]
    cases hst : allFar la lb (nPart kb lb) (nPart ka la) with
    | none =>
      rw [hst] at hmin
      exact absurd ⟨0, h1, 0, h2, .inl rfl⟩ (hmin _)
    | some f =>
      rw [hst] at hmin
      obtain ⟨⟨i, hi, j, hj, hf⟩, hle⟩ := hmin
      have fd := far4_den hf
      have fn := far4_num hf
      obtain ⟨r2, r1, rx⟩ := frac_facts fd fn
      generalize fracZ (some f) = r at *
      have hpos : f.1 ≠ 0 := by
        intro h0
        have hmt : meetZ (sgZ la i) (sgZ lb j) = true := by
          unfold meetZ
          simp only [Bool.or_eq_true, Bool.and_eq_true]
          rcases hf with rfl | rfl | rfl | rfl
          · exact .inl (far_zero h0)
          · exact .inr (.inl (far_zero h0))
          · exact .inr (.inr (.inl (far_zero h0)))
          · exact .inr (.inr (.inr (.inl (far_zero h0))))
        rw [meets_iff.2 ⟨i, hi, j, hj, hmt⟩] at hm
        cases hm
      refine ⟨r2, r1, ?_, fun i' hi' j' hj' => ?_, fun hi' lo' hlt ha hb => ?_⟩
      · constructor
        · intro h0
          rw [h0, Int.zero_mul] at rx
          rcases Int.mul_eq_zero.1 rx.symm with h | h
          · exact absurd h hpos
          · omega
        · intro h; cases h
      · have hl := hle _ ⟨i', hi', j', hj', .inl rfl⟩
        have hs := far_sq (sgZ la i').1 (sgZ lb j')
        have hd := far_den (p := (sgZ la i').1) (s := sgZ lb j')
        unfold leF at hl
        generalize farZ (sgZ la i').1 (sgZ lb j') = g at *
        generalize sqZ (sgZ la i').1 (sgZ lb j').1 = c at *
        -- f.1 * g.2 ≤ g.1 * f.2 ≤ c * g.2 * f.2
        have a1 := Int.mul_le_mul_of_nonneg_right hs (show 0 ≤ f.2 by omega)
        have a2 : f.1 * g.2 ≤ (c * f.2) * g.2 := by
          have : c * g.2 * f.2 = c * f.2 * g.2 := by grind
          omega
        have a3 : f.1 ≤ c * f.2 := Int.le_of_mul_le_mul_right a2 hd
        have a4 := Int.mul_le_mul_of_nonneg_right a3 (show 0 ≤ r.2 by omega)
        refine Int.le_of_mul_le_mul_right (a := f.2) ?_ fd
        have : c * f.2 * r.2 = c * r.2 * f.2 := by grind
        omega
      · have hgap : (lo' - hi') * (lo' - hi') * f.2 ≤ f.1 := by
          have b1 := ha i
          have b2 := ha (i + 1)
          have b3 := hb j
          have b4 := hb (j + 1)
          unfold far4 sgZ at hf
          rcases hf with rfl | rfl | rfl | rfl
          · exact far_gap (by omega) (.inl ⟨by simp only; omega, by simp only; omega⟩)
          · exact far_gap (by omega) (.inl ⟨by simp only; omega, by simp only; omega⟩)
          · exact far_gap (by omega) (.inr ⟨by simp only; omega, by simp only; omega⟩)
          · exact far_gap (by omega) (.inr ⟨by simp only; omega, by simp only; omega⟩)
        generalize (lo' - hi') * (lo' - hi') = c at *
        have a4 := Int.mul_le_mul_of_nonneg_right hgap (show 0 ≤ r.2 by omega)
        refine Int.le_of_mul_le_mul_right (a := f.2) ?_ fd
        have : c * f.2 * r.2 = c * r.2 * f.2 := by grind
        omega
end Go.Proofs.Ytokdclbfjlnnjaa
