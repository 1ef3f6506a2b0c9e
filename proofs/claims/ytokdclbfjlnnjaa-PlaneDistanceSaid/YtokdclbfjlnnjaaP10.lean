/- The program's Near. -/
import Derived.Test.YtokdclbfjlnnjaaP8
namespace Go.Proofs.Ytokdclbfjlnnjaa
open Go.RowKit Go.BigFrame

def better (st : Option (Int × Int)) (f : Int × Int) : Option (Int × Int) := match st with
  | none => some f
  | some (n, d) => if f.1 * d < n * f.2 then some f else some (n, d)
def pairFar (s t : Pt × Pt) (st : Option (Int × Int)) : Option (Int × Int) := better (better (better (better st (farZ s.1 t)) (farZ s.2 t)) (farZ t.1 s)) (farZ t.2 s)
/-- Over the first j segments of b, with the segment s. -/
def rowFar (s : Pt × Pt) (lb : List Pt) : Nat → Option (Int × Int) → Option (Int × Int)
  | 0, st => st
  | j + 1, st => pairFar s (sgZ lb j) (rowFar s lb j st)
def allFar (la lb : List Pt) (m' : Nat) : Nat → Option (Int × Int)
  | 0 => none
  | i + 1 => rowFar (sgZ la i) lb m' (allFar la lb m' i)
def meets (la lb : List Pt) (m m' : Nat) : Bool := (List.range m).any fun i => (List.range m').any fun j => meetZ (sgZ la i) (sgZ lb j)
def fracZ (st : Option (Int × Int)) : Int × Int := match st with
  | none => (0, 1)
  | some (n, d) => if n ≤ 0 then (0, 1) else (n / (Nat.gcd d.toNat n.toNat : Nat), d / (Nat.gcd d.toNat n.toNat : Nat))
def nearZ (ka : Int) (la : List Pt) (kb : Int) (lb : List Pt) : Int × Int := if meets la lb (nPart ka la) (nPart kb lb) then (0, 1) else fracZ (allFar la lb (nPart kb lb) (nPart ka la))

/-- A fraction as it comes: a square, a size. -/
def Frac (f : Int × Int) : Prop := 0 ≤ f.1 ∧ f.1 ≤ 400000000 ∧ 1 ≤ f.2 ∧ f.2 ≤ 20000
def FracO (st : Option (Int × Int)) : Prop := ∀ f, st = some f → Frac f
/-- The coordinates lie in one square. -/
def Near1 (ox oy : Int) (p : Pt) : Prop := (ox ≤ p.1 ∧ p.1 ≤ ox + 100) ∧ (oy ≤ p.2 ∧ p.2 ≤ oy + 100)
theorem mul_bd100 {x y : Int} (hx : -100 ≤ x ∧ x ≤ 100) (hy : -100 ≤ y ∧ y ≤ 100) : -10000 ≤ x * y ∧ x * y ≤ 10000 := by
  have h1 : x.natAbs ≤ 100 := by omega
  have h2 : y.natAbs ≤ 100 := by omega
  have h3 := Nat.mul_le_mul h1 h2
  rw [← Int.natAbs_mul] at h3
  omega
theorem sq_bd100 {ox oy : Int} {a b : Pt} (ha : Near1 ox oy a) (hb : Near1 ox oy b) : 0 ≤ sqZ a b ∧ sqZ a b ≤ 20000 := by
  unfold Near1 at *
  have m1 := mul_bd100 (x := a.1 - b.1) (y := a.1 - b.1) (by omega) (by omega)
  have m2 := mul_bd100 (x := a.2 - b.2) (y := a.2 - b.2) (by omega) (by omega)
  have m3 := sq_nonneg (a.1 - b.1)
  have m4 := sq_nonneg (a.2 - b.2)
  unfold sqZ
  omega
theorem far_frac {ox oy : Int} {p : Pt} {s : Pt × Pt} (hp : Near1 ox oy p) (h1 : Near1 ox oy s.1) (h2 : Near1 ox oy s.2) : Frac (farZ p s) := by
  unfold farZ Frac
  have q0 := sq_bd100 h1 h2
  split
  · rename_i h
    have hc : -20000 ≤ crossZ s.1 s.2 p ∧ crossZ s.1 s.2 p ≤ 20000 := by
      unfold Near1 at *
      have m1 := mul_bd100 (x := s.2.1 - s.1.1) (y := p.2 - s.1.2) (by omega) (by omega)
      have m2 := mul_bd100 (x := s.2.2 - s.1.2) (y := p.1 - s.1.1) (by omega) (by omega)
      unfold crossZ
      omega
    have hs := sq_nonneg (crossZ s.1 s.2 p)
    have hn : (crossZ s.1 s.2 p).natAbs ≤ 20000 := by omega
    have h3 := Nat.mul_le_mul hn hn
    rw [← Int.natAbs_mul] at h3
    have hpos : 0 < sqZ s.1 s.2 := by
      have h4 := h.1
      have h5 := h.2
      unfold sqZ
      grind
    simp only
    omega
  · have q1 := sq_bd100 hp h1
    have q2 := sq_bd100 hp h2
    simp only
    omega
theorem better_frac {st : Option (Int × Int)} {f : Int × Int} (hs : FracO st) (hf : Frac f) : FracO (better st f) := by
  intro g hg
  unfold better at hg
  cases st with
  | none => cases hg; exact hf
  | some x =>
    obtain ⟨n, d⟩ := x
    simp only at hg
    split at hg
    · cases hg; exact hf
    · cases hg; exact hs _ rfl

/-- What the program keeps of it: the number, the denominator. -/
def encN : Option (Int × Int) → Int
  | none => -1
  | some f => f.1
def encD : Option (Int × Int) → Int
  | none => 1
  | some f => f.2
theorem mul_frac {a b : Int} (ha : 0 ≤ a ∧ a ≤ 400000000) (hb : 1 ≤ b ∧ b ≤ 20000) : 0 ≤ a * b ∧ a * b ≤ 8000000000000 := by
  have h1 : a.natAbs ≤ 400000000 := by omega
  have h2 : b.natAbs ≤ 20000 := by omega
  have h3 := Nat.mul_le_mul h1 h2
  rw [← Int.natAbs_mul] at h3
  have := Int.mul_nonneg ha.1 (show 0 ≤ b by omega)
  omega

def Pair (W : World) (n6 n7 : Nat) (st : Option (Int × Int)) : Prop := W.cell? ⟨n6, 0, none⟩ = some (.int .i64 (encN st)) ∧ W.cell? ⟨n7, 0, none⟩ = some (.int .i64 (encD st)) ∧ W.frozen? ⟨n6, 0, none⟩ = false ∧ W.frozen? ⟨n7, 0, none⟩ = false

set_option maxRecDepth 100000 in
set_option maxHeartbeats 2000000 in
theorem take_frac (n6 n7 : Nat) (hne : n6 ≠ n7) (st : Option (Int × Int)) (f : Int × Int) (w : World) (hp : Pair w n6 n7 st) (hst : FracO st) (hf : Frac f) :
    Calls Try.prog 73 #[.int .i64 f.1, .int .i64 f.2, .pointer (some ⟨n6, 0, none⟩), .pointer (some ⟨n7, 0, none⟩)] w fun e w' => (∃ v, e = .returned v) ∧ Kx (fun j => j = n6 ∨ j = n7) w w' ∧ Pair w' n6 n7 (better st f) := by
  obtain ⟨n, d⟩ := f
  obtain ⟨c6, c7, f6, f7⟩ := hp
  obtain ⟨a1, a2, a3, a4⟩ := hf
  simp only at a1 a2 a3 a4
  have hset : Pair ((w.setCell ⟨n6, 0, none⟩ (.int .i64 n)).setCell ⟨n7, 0, none⟩ (.int .i64 d)) n6 n7 (some (n, d)) := by
    refine ⟨?_, World.cell?_setCell_same' _ _ _ (by rw [World.cell?_setCell_other _ _ _ _ (by simp <;> omega), c7]; rfl), by rw [World.frozen?_setCell, World.frozen?_setCell]; exact f6, by rw [World.frozen?_setCell, World.frozen?_setCell]; exact f7⟩
    rw [World.cell?_setCell_other _ _ _ _ (by simp <;> omega)]
    exact World.cell?_setCell_same' _ _ _ (by rw [c6]; rfl)
  have hkx : Kx (fun j => j = n6 ∨ j = n7) w ((w.setCell ⟨n6, 0, none⟩ (.int .i64 n)).setCell ⟨n7, 0, none⟩ (.int .i64 d)) := (Kx.setCell _ (.inl rfl)).trans (Kx.setCell _ (.inr rfl))
  have HS := hid hset; clear hset
  have HK := hid hkx; clear hkx
  cases st with
  | none =>
    have HB := hid (show better none (n, d) = some (n, d) from rfl)
    simp only [encN, encD] at c6 c7
    go_enter Try.func73, Try.ntmps73
    go_wp2
    go_end0
    exact ⟨⟨_, rfl⟩, HK.out, by rw [HB.out]; exact HS.out⟩
  | some x =>
    obtain ⟨n0, d0⟩ := x
    obtain ⟨b1, b2, b3, b4⟩ := hst _ rfl
    simp only at b1 b2 b3 b4
    simp only [encN, encD] at c6 c7
    have m1 := mul_frac (a := n) (b := d0) ⟨a1, a2⟩ ⟨b3, b4⟩
    have m2 := mul_frac (a := n0) (b := d) ⟨b1, b2⟩ ⟨a3, a4⟩
    by_cases hlt : n * d0 < n0 * d
    · have HB := hid (show better (some (n0, d0)) (n, d) = some (n, d) from if_pos hlt)
      have hlt' : decide (n * d0 < n0 * d) = true := by simpa using hlt
      go_enter Try.func73, Try.ntmps73
      go_wp2
      go_end0
      exact ⟨⟨_, rfl⟩, HK.out, by rw [HB.out]; exact HS.out⟩
    · have HB := hid (show better (some (n0, d0)) (n, d) = some (n0, d0) from if_neg hlt)
      have hlt' : decide (n * d0 < n0 * d) = false := by simpa using hlt
      go_enter Try.func73, Try.ntmps73
      go_wp2
      go_end0
      exact ⟨⟨_, rfl⟩, Kx.refl _ _, by rw [HB.out]; exact ⟨c6, c7, f6, f7⟩⟩
end Go.Proofs.Ytokdclbfjlnnjaa
