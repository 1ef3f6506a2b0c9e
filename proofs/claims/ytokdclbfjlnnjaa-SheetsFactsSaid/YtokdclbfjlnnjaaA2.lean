/- The plane: points, segments, and what is within. Conditions are in the theorems. -/
import Derived.Test.YtokdclbfjlnnjaaA1
import Derived.BigQuiet
import Derived.Deep.QuietTactic
import Derived.Deep.DeepCutAuto
import Derived.RangeFuncNested
import Derived.RangeFuncBound
import Derived.RangeFuncCalls
import Derived.RangeFuncLeaves
import Derived.OwnWalkIn
import Derived.TacticsInMore
import Derived.Shelf.Abstract
import Derived.Maps.OwnIn
import Derived.Maps.AppendAt
/- Contracts of the small functions of the plane: points and segments. -/
namespace Go.Proofs.Ytokdclbfjlnnjaa
open Go.RowKit Go.BigFrame

abbrev Pt := Int × Int
def crossZ (a b c : Pt) : Int := (b.1 - a.1) * (c.2 - a.2) - (b.2 - a.2) * (c.1 - a.1)
/-- A coordinate that is small enough. -/
def Sc (x : Int) : Prop := -5000 ≤ x ∧ x ≤ 5000

theorem mul_bd {x y : Int} (hx : -10000 ≤ x ∧ x ≤ 10000) (hy : -10000 ≤ y ∧ y ≤ 10000) : -100000000 ≤ x * y ∧ x * y ≤ 100000000 := by
  have h1 : x.natAbs ≤ 10000 := by omega
  have h2 : y.natAbs ≤ 10000 := by omega
  have h3 := Nat.mul_le_mul h1 h2
  rw [← Int.natAbs_mul] at h3
  omega
theorem sub_bd {x y : Int} (hx : Sc x) (hy : Sc y) : -10000 ≤ x - y ∧ x - y ≤ 10000 := by unfold Sc at *; omega

theorem box_cells (w : World) (c1 c2 : Array Value) (t1 t2 : TypeId) : ∀ W, Aft ((w.alloc (.cells c1 t1)).alloc (.cells c2 t2)) W →
    (∀ i v, c1[i]? = some v → W.cell? ⟨w.heap.size, i, none⟩ = some v) ∧ (∀ i v, c2[i]? = some v → W.cell? ⟨w.heap.size + 1, i, none⟩ = some v) := fun W hW => by
  have h1 : (w.alloc (.cells c1 t1)).heap.size = w.heap.size + 1 := by simp
  have h2 : ((w.alloc (.cells c1 t1)).alloc (.cells c2 t2)).heap.size = w.heap.size + 2 := by simp
  refine ⟨fun i v h => ?_, fun i v h => ?_⟩
  · rw [hW.cell (by rw [h2]; omega), ((Aft.refl _).alloc _).cell (by rw [h1]; omega)]
    simp only [World.cell?, heap_alloc_new]
    exact h
  · rw [hW.cell (by rw [h2]; omega), ← h1]
    simp only [World.cell?, heap_alloc_new]
    exact h

set_option maxHeartbeats 1000000 in
theorem turn_any {ax ay bx by_ cx cy : Int} (w : World) (h1 : Sc ax) (h2 : Sc ay) (h3 : Sc bx) (h4 : Sc by_) (h5 : Sc cx) (h6 : Sc cy) :
    Calls Try.prog 115 #[.agg #[.int .i64 ax, .int .i64 ay], .agg #[.int .i64 bx, .int .i64 by_], .agg #[.int .i64 cx, .int .i64 cy]] w fun e w' => e = .returned (.int .i64 (crossZ (ax, ay) (bx, by_) (cx, cy))) ∧ Aft w w' := by
  have m1 := mul_bd (sub_bd h3 h1) (sub_bd h6 h2)
  have m2 := mul_bd (sub_bd h4 h2) (sub_bd h5 h1)
  unfold Sc at *
  go_enter Try.func115, Try.ntmps115
  go_wp2
  go_ret
  exact ⟨ret_int rfl, (((Aft.refl w).alloc _).alloc _).alloc _⟩

set_option maxHeartbeats 1000000 in
theorem cross_any {ax ay bx by_ cx cy : Int} (w : World) (h1 : Sc ax) (h2 : Sc ay) (h3 : Sc bx) (h4 : Sc by_) (h5 : Sc cx) (h6 : Sc cy) :
    Calls Try.prog 81 #[.agg #[.int .i64 ax, .int .i64 ay], .agg #[.int .i64 bx, .int .i64 by_], .agg #[.int .i64 cx, .int .i64 cy]] w fun e w' => e = .returned (.int .i64 (crossZ (ax, ay) (bx, by_) (cx, cy))) ∧ Aft w w' := by
  have m1 := mul_bd (sub_bd h3 h1) (sub_bd h6 h2)
  have m2 := mul_bd (sub_bd h4 h2) (sub_bd h5 h1)
  unfold Sc at *
  go_enter Try.func81, Try.ntmps81
  go_wp2
  go_ret
  exact ⟨ret_int rfl, (((Aft.refl w).alloc _).alloc _).alloc _⟩

def oppZ (a b : Int) : Bool := decide (0 < a ∧ b < 0 ∨ a < 0 ∧ 0 < b)
set_option maxHeartbeats 1000000 in
theorem opp_any (a b : Int) (w : World) :
    Calls Try.prog 80 #[.int .i64 a, .int .i64 b] w fun e w' => e = .returned (.bool (oppZ a b)) ∧ w = w' := by
  rcases Int.lt_trichotomy a 0 with ha | rfl | ha <;> rcases Int.lt_trichotomy b 0 with hb | rfl | hb
  all_goals
    go_enter Try.func80, Try.ntmps80
    go_wp2
    go_ret
    exact ⟨ret_bool (by unfold oppZ; rw [Bool.eq_iff_iff]; simp; try omega), rfl⟩

def signZ (n : Int) : Int := min 1 (max (-1) n)
set_option maxHeartbeats 1000000 in
theorem sign_any (n : Int) (w : World) :
    Calls Try.prog 114 #[.int .i64 n] w fun e w' => e = .returned (.int .i64 (signZ n)) ∧ w = w' := by
  go_enter Try.func114, Try.ntmps114
  go_wp2
  all_goals go_ret
  all_goals exact ⟨ret_int (by unfold signZ; omega), rfl⟩

theorem signZ_bd (n : Int) : -1 ≤ signZ n ∧ signZ n ≤ 1 := by unfold signZ; omega
theorem signZ_mul (a b : Int) : decide (signZ a * signZ b < 0) = oppZ a b := by
  have h : ∀ n : Int, signZ n = if n < 0 then -1 else if n = 0 then 0 else 1 := fun n => by unfold signZ; split <;> (try split) <;> omega
  rw [h, h]
  rcases Int.lt_trichotomy a 0 with ha | rfl | ha <;> rcases Int.lt_trichotomy b 0 with hb | rfl | hb
  all_goals simp [oppZ]
  all_goals (try (repeat' split)) <;> simp_all <;> omega

theorem cross_to {ax ay bx by_ cx cy c : Int} (h : crossZ (ax, ay) (bx, by_) (cx, cy) = c) (w : World) (h1 : Sc ax) (h2 : Sc ay) (h3 : Sc bx) (h4 : Sc by_) (h5 : Sc cx) (h6 : Sc cy) :
    Calls Try.prog 81 #[.agg #[.int .i64 ax, .int .i64 ay], .agg #[.int .i64 bx, .int .i64 by_], .agg #[.int .i64 cx, .int .i64 cy]] w fun e w' => e = .returned (.int .i64 c) ∧ Aft w w' := by
  rw [← h]; exact cross_any w h1 h2 h3 h4 h5 h6
theorem opp_to {a b : Int} {y : Bool} (h : oppZ a b = y) (w : World) : Calls Try.prog 80 #[.int .i64 a, .int .i64 b] w fun e w' => e = .returned (.bool y) ∧ Aft w w' := by
  rw [← h]; exact (opp_any a b w).mono fun _ _ ⟨h1, h2⟩ => ⟨h1, h2 ▸ Aft.refl w⟩
theorem sign_aft (n : Int) (w : World) : Calls Try.prog 114 #[.int .i64 n] w fun e w' => e = .returned (.int .i64 (signZ n)) ∧ Aft w w' :=
  (sign_any n w).mono fun _ _ ⟨h1, h2⟩ => ⟨h1, h2 ▸ Aft.refl w⟩
theorem signZ_mulbd (a b : Int) : -1 ≤ signZ a * signZ b ∧ signZ a * signZ b ≤ 1 := by
  have ha := signZ_bd a
  have hb := signZ_bd b
  have h1 : signZ a = -1 ∨ signZ a = 0 ∨ signZ a = 1 := by omega
  rcases h1 with h | h | h <;> rw [h] <;> omega

def onZ (p : Pt) (s : Pt × Pt) : Bool := decide (crossZ s.1 s.2 p = 0) && (decide ((p.1 - s.1.1) * (p.1 - s.2.1) ≤ 0) && decide ((p.2 - s.1.2) * (p.2 - s.2.2) ≤ 0))

/-- A point, a segment, a segment with two numbers, as they lie in a block. -/
def B2 (W : World) (b : Nat) (x y : Int) : Prop := W.cell? ⟨b, 0, none⟩ = some (.int .i64 x) ∧ W.cell? ⟨b, 1, none⟩ = some (.int .i64 y)
def B4 (W : World) (b : Nat) (x y z u : Int) : Prop := B2 W b x y ∧ W.cell? ⟨b, 2, none⟩ = some (.int .i64 z) ∧ W.cell? ⟨b, 3, none⟩ = some (.int .i64 u)
def B6 (W : World) (b : Nat) (x y z u f t : Int) : Prop := B4 W b x y z u ∧ W.cell? ⟨b, 4, none⟩ = some (.int .i64 f) ∧ W.cell? ⟨b, 5, none⟩ = some (.int .i64 t)

theorem two_boxes (w : World) (c1 c2 : Array Value) (t1 t2 : TypeId) : ∃ W0, (w.alloc (.cells c1 t1)).alloc (.cells c2 t2) = W0 ∧ Aft w W0 ∧ w.heap.size + 1 < W0.heap.size ∧ Hid (∀ W, Aft W0 W →
    (∀ i v, c1[i]? = some v → W.cell? ⟨w.heap.size, i, none⟩ = some v) ∧ (∀ i v, c2[i]? = some v → W.cell? ⟨w.heap.size + 1, i, none⟩ = some v)) :=
  ⟨_, rfl, ((Aft.refl w).alloc _).alloc _, by simp, hid (box_cells w c1 c2 t1 t2)⟩

set_option maxRecDepth 100000 in
set_option maxHeartbeats 1000000 in
theorem ron_any {px py ax ay bx by_ : Int} (f t : Int) (w : World) (h1 : Sc ax) (h2 : Sc ay) (h3 : Sc bx) (h4 : Sc by_) (h5 : Sc px) (h6 : Sc py) :
    Calls Try.prog 79 #[.agg #[.int .i64 px, .int .i64 py], .agg #[.int .i64 ax, .int .i64 ay, .int .i64 bx, .int .i64 by_, .int .i64 f, .int .i64 t]] w
      fun e w' => e = .returned (.bool (onZ (px, py) ((ax, ay), (bx, by_)))) ∧ Aft w w' := by
  have m1 := mul_bd (sub_bd h5 h1) (sub_bd h5 h3)
  have m2 := mul_bd (sub_bd h6 h2) (sub_bd h6 h4)
  obtain ⟨W0, eW0, hw0, hlt, hbox⟩ := two_boxes w #[.int .i64 px, .int .i64 py] #[.int .i64 ax, .int .i64 ay, .int .i64 bx, .int .i64 by_, .int .i64 f, .int .i64 t] 57 59
  go_enter Try.func79, Try.ntmps79
  go_upto_region 1 with fail
  clear eW0
  have hF : Hid (∀ W, Aft W0 W → B2 W w.heap.size px py ∧ B6 W (w.heap.size + 1) ax ay bx by_ f t) := hid fun W hW =>
    ⟨⟨(hbox.out W hW).1 0 _ rfl, (hbox.out W hW).1 1 _ rfl⟩, ⟨⟨(hbox.out W hW).2 0 _ rfl, (hbox.out W hW).2 1 _ rfl⟩, (hbox.out W hW).2 2 _ rfl, (hbox.out W hW).2 3 _ rfl⟩, (hbox.out W hW).2 4 _ rfl, (hbox.out W hW).2 5 _ rfl⟩
  clear hbox
  generalize w.heap.size = n0 at *
  obtain ⟨⟨p1, p2⟩, ⟨⟨q1, q2⟩, q3, q4⟩, q5, q6⟩ := hF.out W0 (Aft.refl _)
  go_wp2_with fail
  refine (cross_any _ h1 h2 h3 h4 h5 h6).mono ?_
  rintro e w1 ⟨rfl, hw1⟩
  clear p1 p2 q1 q2 q3 q4 q5 q6
  obtain ⟨⟨p1, p2⟩, ⟨⟨q1, q2⟩, q3, q4⟩, q5, q6⟩ := hF.out w1 hw1
  have hw := hw0.trans hw1
  by_cases hc : crossZ (ax, ay) (bx, by_) (px, py) = 0
  · by_cases hd : (px - ax) * (px - bx) ≤ 0
    · have hd' : decide ((px - ax) * (px - bx) ≤ 0) = true := by simpa using hd
      unfold Sc at *
      go_wp2
      go_ret
      exact ⟨ret_bool (by unfold onZ; simp only [hc, hd']; simp), hw⟩
    · have hd' : decide ((px - ax) * (px - bx) ≤ 0) = false := by simpa using hd
      unfold Sc at *
      go_wp2
      go_ret
      exact ⟨ret_bool (by unfold onZ; simp only [hc, hd']; simp), hw⟩
  · unfold Sc at *
    go_wp2
    go_ret
    exact ⟨ret_bool (by simp [onZ, hc]), hw⟩

theorem min_if (a b : Int) : (if b < a then b else a) = min a b := by split <;> omega
theorem max_if (a b : Int) : (if a < b then b else a) = max a b := by split <;> omega
theorem between {p a b : Int} : ((p - a) * (p - b) ≤ 0) ↔ (min a b ≤ p ∧ p ≤ max a b) := by
  constructor
  · intro h
    refine Classical.byContradiction fun hn => ?_
    have : p < a ∧ p < b ∨ a < p ∧ b < p := by omega
    rcases this with ⟨h1, h2⟩ | ⟨h1, h2⟩
    · have := Int.mul_pos_of_neg_of_neg (a := p - a) (b := p - b) (by omega) (by omega)
      omega
    · have := Int.mul_pos (a := p - a) (b := p - b) (by omega) (by omega)
      omega
  · rintro ⟨h1, h2⟩
    have : (0 ≤ p - a ∧ p - b ≤ 0) ∨ (p - a ≤ 0 ∧ 0 ≤ p - b) := by omega
    rcases this with ⟨h3, h4⟩ | ⟨h3, h4⟩
    · exact Int.mul_nonpos_of_nonneg_of_nonpos h3 h4
    · exact Int.mul_nonpos_of_nonpos_of_nonneg h3 h4
theorem onZ_box (p a b : Pt) : onZ p (a, b) = (decide (crossZ a b p = 0) && (decide (min a.1 b.1 ≤ p.1) && (decide (p.1 ≤ max a.1 b.1) && (decide (min a.2 b.2 ≤ p.2) && decide (p.2 ≤ max a.2 b.2))))) := by
  unfold onZ
  rw [Bool.eq_iff_iff]
  simp only [Bool.and_eq_true, decide_eq_true_eq, between]
  constructor
  · rintro ⟨h1, ⟨h2, h3⟩, h4, h5⟩; exact ⟨h1, h2, h3, h4, h5⟩
  · rintro ⟨h1, h2, h3, h4, h5⟩; exact ⟨h1, ⟨h2, h3⟩, h4, h5⟩

set_option maxRecDepth 100000 in
set_option maxHeartbeats 1000000 in
theorem on_any {px py ax ay bx by_ : Int} (w : World) (h1 : Sc ax) (h2 : Sc ay) (h3 : Sc bx) (h4 : Sc by_) (h5 : Sc px) (h6 : Sc py) :
    Calls Try.prog 101 #[.agg #[.int .i64 px, .int .i64 py], .agg #[.int .i64 ax, .int .i64 ay, .int .i64 bx, .int .i64 by_]] w
      fun e w' => e = .returned (.bool (onZ (px, py) ((ax, ay), (bx, by_)))) ∧ Aft w w' := by
  rw [onZ_box]
  dsimp only
  obtain ⟨c, ec⟩ : ∃ c, crossZ (ax, ay) (bx, by_) (px, py) = c := ⟨_, rfl⟩
  rw [ec]
  obtain ⟨mx, e1⟩ : ∃ mx, (if bx < ax then bx else ax) = mx := ⟨_, rfl⟩
  obtain ⟨Mx, e2⟩ : ∃ mx, (if ax < bx then bx else ax) = mx := ⟨_, rfl⟩
  obtain ⟨my, e3⟩ : ∃ mx, (if by_ < ay then by_ else ay) = mx := ⟨_, rfl⟩
  obtain ⟨My, e4⟩ : ∃ mx, (if ay < by_ then by_ else ay) = mx := ⟨_, rfl⟩
  rw [show min ax bx = mx from (min_if _ _).symm.trans e1, show max ax bx = Mx from (max_if _ _).symm.trans e2, show min ay by_ = my from (min_if _ _).symm.trans e3, show max ay by_ = My from (max_if _ _).symm.trans e4]
  obtain ⟨W0, eW0, hw0, hlt, hbox⟩ := two_boxes w #[.int .i64 px, .int .i64 py] #[.int .i64 ax, .int .i64 ay, .int .i64 bx, .int .i64 by_] 57 112
  go_enter Try.func101, Try.ntmps101
  go_upto_region 1 with fail
  clear eW0
  have hF : Hid (∀ W, Aft W0 W → B2 W w.heap.size px py ∧ B4 W (w.heap.size + 1) ax ay bx by_) := hid fun W hW =>
    ⟨⟨(hbox.out W hW).1 0 _ rfl, (hbox.out W hW).1 1 _ rfl⟩, ⟨(hbox.out W hW).2 0 _ rfl, (hbox.out W hW).2 1 _ rfl⟩, (hbox.out W hW).2 2 _ rfl, (hbox.out W hW).2 3 _ rfl⟩
  clear hbox
  generalize w.heap.size = n0 at *
  obtain ⟨⟨p1, p2⟩, ⟨q1, q2⟩, q3, q4⟩ := hF.out W0 (Aft.refl _)
  go_wp2_with fail
  refine (turn_any _ h1 h2 h3 h4 h5 h6).mono ?_
  rintro e w1 ⟨rfl, hw1⟩
  rw [ec]
  clear p1 p2 q1 q2 q3 q4
  obtain ⟨⟨p1, p2⟩, ⟨q1, q2⟩, q3, q4⟩ := hF.out w1 hw1
  have hw := hw0.trans hw1
  by_cases g0 : c = 0
  · by_cases g1 : mx ≤ px
    · by_cases g2 : px ≤ Mx
      · by_cases g3 : my ≤ py
        · go_wp2
          go_ret
          exact ⟨ret_bool (by simp [g0, g1, g2, g3]), hw⟩
        · go_wp2
          go_ret
          exact ⟨ret_bool (by simp; omega), hw⟩
      · go_wp2
        go_ret
        exact ⟨ret_bool (by simp; omega), hw⟩
    · go_wp2
      go_ret
      exact ⟨ret_bool (by simp; omega), hw⟩
  · go_wp2
    go_ret
    exact ⟨ret_bool (by simp [g0]), hw⟩

def meetZ (s t : Pt × Pt) : Bool := onZ s.1 t || (onZ s.2 t || (onZ t.1 s || (onZ t.2 s || (oppZ (crossZ s.1 s.2 t.1) (crossZ s.1 s.2 t.2) && oppZ (crossZ t.1 t.2 s.1) (crossZ t.1 t.2 s.2)))))

set_option maxRecDepth 100000 in
set_option maxHeartbeats 4000000 in
theorem meet_any {ax ay bx by_ cx cy dx dy : Int} (w : World) (h1 : Sc ax) (h2 : Sc ay) (h3 : Sc bx) (h4 : Sc by_) (h5 : Sc cx) (h6 : Sc cy) (h7 : Sc dx) (h8 : Sc dy) :
    Calls Try.prog 75 #[.agg #[.int .i64 ax, .int .i64 ay, .int .i64 bx, .int .i64 by_], .agg #[.int .i64 cx, .int .i64 cy, .int .i64 dx, .int .i64 dy]] w
      fun e w' => e = .returned (.bool (meetZ ((ax, ay), (bx, by_)) ((cx, cy), (dx, dy)))) ∧ Aft w w' := by
  unfold meetZ
  dsimp only
  obtain ⟨o1, e1⟩ : ∃ o, onZ (ax, ay) ((cx, cy), (dx, dy)) = o := ⟨_, rfl⟩
  obtain ⟨o2, e2⟩ : ∃ o, onZ (bx, by_) ((cx, cy), (dx, dy)) = o := ⟨_, rfl⟩
  obtain ⟨o3, e3⟩ : ∃ o, onZ (cx, cy) ((ax, ay), (bx, by_)) = o := ⟨_, rfl⟩
  obtain ⟨o4, e4⟩ : ∃ o, onZ (dx, dy) ((ax, ay), (bx, by_)) = o := ⟨_, rfl⟩
  rw [e1, e2, e3, e4]
  obtain ⟨W0, eW0, hw0, hlt, hbox⟩ := two_boxes w #[.int .i64 ax, .int .i64 ay, .int .i64 bx, .int .i64 by_] #[.int .i64 cx, .int .i64 cy, .int .i64 dx, .int .i64 dy] 112 112
  go_enter Try.func75, Try.ntmps75
  go_upto_region 1 with fail
  clear eW0
  have hF : Hid (∀ W, Aft W0 W → B4 W w.heap.size ax ay bx by_ ∧ B4 W (w.heap.size + 1) cx cy dx dy) := hid fun W hW =>
    ⟨⟨⟨(hbox.out W hW).1 0 _ rfl, (hbox.out W hW).1 1 _ rfl⟩, (hbox.out W hW).1 2 _ rfl, (hbox.out W hW).1 3 _ rfl⟩, ⟨(hbox.out W hW).2 0 _ rfl, (hbox.out W hW).2 1 _ rfl⟩, (hbox.out W hW).2 2 _ rfl, (hbox.out W hW).2 3 _ rfl⟩
  clear hbox
  generalize w.heap.size = n0 at *
  obtain ⟨⟨⟨p1, p2⟩, p3, p4⟩, ⟨q1, q2⟩, q3, q4⟩ := hF.out W0 (Aft.refl _)
  go_wp2_with fail
  refine (on_any _ h5 h6 h7 h8 h1 h2).mono ?_
  rintro e w1 ⟨rfl, hw1⟩
  rw [e1]
  clear e1 p1 p2 p3 p4 q1 q2 q3 q4
  obtain ⟨⟨⟨p1, p2⟩, p3, p4⟩, ⟨q1, q2⟩, q3, q4⟩ := hF.out w1 hw1
  have hw := hw0.trans hw1
  cases o1
  case true =>
    go_wp2
    go_ret
    exact ⟨ret_bool (by simp), hw⟩
  case false =>
    go_wp2_with fail
    refine (on_any _ h5 h6 h7 h8 h3 h4).mono ?_
    rintro e w2 ⟨rfl, hw2⟩
    rw [e2]
    clear e2 p1 p2 p3 p4 q1 q2 q3 q4
    replace hw2 := hw1.trans hw2
    obtain ⟨⟨⟨p1, p2⟩, p3, p4⟩, ⟨q1, q2⟩, q3, q4⟩ := hF.out w2 hw2
    replace hw := hw0.trans hw2
    cases o2
    case true =>
      go_wp2
      go_ret
      exact ⟨ret_bool (by simp), hw⟩
    case false =>
      go_wp2_with fail
      refine (on_any _ h1 h2 h3 h4 h5 h6).mono ?_
      rintro e w3 ⟨rfl, hw3⟩
      rw [e3]
      clear e3 p1 p2 p3 p4 q1 q2 q3 q4
      replace hw3 := hw2.trans hw3
      obtain ⟨⟨⟨p1, p2⟩, p3, p4⟩, ⟨q1, q2⟩, q3, q4⟩ := hF.out w3 hw3
      replace hw := hw0.trans hw3
      cases o3
      case true =>
        go_wp2
        go_ret
        exact ⟨ret_bool (by simp), hw⟩
      case false =>
        go_wp2_with fail
        refine (on_any _ h1 h2 h3 h4 h7 h8).mono ?_
        rintro e w4 ⟨rfl, hw4⟩
        rw [e4]
        clear e4 p1 p2 p3 p4 q1 q2 q3 q4
        replace hw4 := hw3.trans hw4
        obtain ⟨⟨⟨p1, p2⟩, p3, p4⟩, ⟨q1, q2⟩, q3, q4⟩ := hF.out w4 hw4
        replace hw := hw0.trans hw4
        cases o4
        case true =>
          go_wp2
          go_ret
          exact ⟨ret_bool (by simp), hw⟩
        case false =>
          have hl0 : n0 < w4.heap.size := by have := hw4.size; omega
          have hl1 : n0 + 1 < w4.heap.size := by have := hw4.size; omega
          have b1 := signZ_mulbd (crossZ (ax, ay) (bx, by_) (cx, cy)) (crossZ (ax, ay) (bx, by_) (dx, dy))
          have b2 := signZ_mulbd (crossZ (cx, cy) (dx, dy) (ax, ay)) (crossZ (cx, cy) (dx, dy) (bx, by_))
          have g1 := signZ_mul (crossZ (ax, ay) (bx, by_) (cx, cy)) (crossZ (ax, ay) (bx, by_) (dx, dy))
          have g2 := signZ_mul (crossZ (cx, cy) (dx, dy) (ax, ay)) (crossZ (cx, cy) (dx, dy) (bx, by_))
          cases ho : oppZ (crossZ (ax, ay) (bx, by_) (cx, cy)) (crossZ (ax, ay) (bx, by_) (dx, dy))
          all_goals
            rw [ho] at g1
            have HO := hid ho
            clear ho
            go_upto_region 3 with fail
            refine wp_region_lat w4 (Aft.refl _) (by kernel_rfl) (by kernel_rfl) ?_
            repeat (go_big_quiet_step (first | (go_at_call 115; exact Calls.lat (turn_any _ (by assumption) (by assumption) (by assumption) (by assumption) (by assumption) (by assumption))) | (go_at_call 114; exact Calls.lat (sign_aft _ _))))
            refine wpQuiet_nil ?_
            intro _ hw'; obtain ⟨z, rfl⟩ := hw'
            go_wp2
            go_ret
            exact ⟨ret_bool (by rw [HO.out]; simp), hw.trans z.aft⟩
set_option maxRecDepth 100000 in
set_option maxHeartbeats 4000000 in
theorem rmeet_any {ax ay bx by_ cx cy dx dy : Int} (f t f' t' : Int) (w : World) (h1 : Sc ax) (h2 : Sc ay) (h3 : Sc bx) (h4 : Sc by_) (h5 : Sc cx) (h6 : Sc cy) (h7 : Sc dx) (h8 : Sc dy) :
    Calls Try.prog 31 #[.agg #[.int .i64 ax, .int .i64 ay, .int .i64 bx, .int .i64 by_, .int .i64 f, .int .i64 t], .agg #[.int .i64 cx, .int .i64 cy, .int .i64 dx, .int .i64 dy, .int .i64 f', .int .i64 t']] w
      fun e w' => e = .returned (.bool (meetZ ((ax, ay), (bx, by_)) ((cx, cy), (dx, dy)))) ∧ Aft w w' := by
  unfold meetZ
  dsimp only
  obtain ⟨o1, e1⟩ : ∃ o, onZ (ax, ay) ((cx, cy), (dx, dy)) = o := ⟨_, rfl⟩
  obtain ⟨o2, e2⟩ : ∃ o, onZ (bx, by_) ((cx, cy), (dx, dy)) = o := ⟨_, rfl⟩
  obtain ⟨o3, e3⟩ : ∃ o, onZ (cx, cy) ((ax, ay), (bx, by_)) = o := ⟨_, rfl⟩
  obtain ⟨o4, e4⟩ : ∃ o, onZ (dx, dy) ((ax, ay), (bx, by_)) = o := ⟨_, rfl⟩
  rw [e1, e2, e3, e4]
  obtain ⟨c1, x1⟩ : ∃ c, crossZ (ax, ay) (bx, by_) (cx, cy) = c := ⟨_, rfl⟩
  obtain ⟨c2, x2⟩ : ∃ c, crossZ (ax, ay) (bx, by_) (dx, dy) = c := ⟨_, rfl⟩
  obtain ⟨c3, x3⟩ : ∃ c, crossZ (cx, cy) (dx, dy) (ax, ay) = c := ⟨_, rfl⟩
  obtain ⟨c4, x4⟩ : ∃ c, crossZ (cx, cy) (dx, dy) (bx, by_) = c := ⟨_, rfl⟩
  rw [x1, x2, x3, x4]
  obtain ⟨y1, x5⟩ : ∃ y, oppZ c1 c2 = y := ⟨_, rfl⟩
  obtain ⟨y2, x6⟩ : ∃ y, oppZ c3 c4 = y := ⟨_, rfl⟩
  rw [x5, x6]
  obtain ⟨W0, eW0, hw0, hlt, hbox⟩ := two_boxes w #[.int .i64 ax, .int .i64 ay, .int .i64 bx, .int .i64 by_, .int .i64 f, .int .i64 t] #[.int .i64 cx, .int .i64 cy, .int .i64 dx, .int .i64 dy, .int .i64 f', .int .i64 t'] 59 59
  go_enter Try.func31, Try.ntmps31
  go_upto_region 1 with fail
  clear eW0
  have hF : Hid (∀ W, Aft W0 W → B6 W w.heap.size ax ay bx by_ f t ∧ B6 W (w.heap.size + 1) cx cy dx dy f' t') := hid fun W hW =>
    ⟨⟨⟨⟨(hbox.out W hW).1 0 _ rfl, (hbox.out W hW).1 1 _ rfl⟩, (hbox.out W hW).1 2 _ rfl, (hbox.out W hW).1 3 _ rfl⟩, (hbox.out W hW).1 4 _ rfl, (hbox.out W hW).1 5 _ rfl⟩, ⟨⟨(hbox.out W hW).2 0 _ rfl, (hbox.out W hW).2 1 _ rfl⟩, (hbox.out W hW).2 2 _ rfl, (hbox.out W hW).2 3 _ rfl⟩, (hbox.out W hW).2 4 _ rfl, (hbox.out W hW).2 5 _ rfl⟩
  clear hbox
  generalize w.heap.size = n0 at *
  obtain ⟨⟨⟨⟨p1, p2⟩, p3, p4⟩, p5, p6⟩, ⟨⟨q1, q2⟩, q3, q4⟩, q5, q6⟩ := hF.out W0 (Aft.refl _)
  go_wp2_with fail
  refine (ron_any _ _ _ h5 h6 h7 h8 h1 h2).mono ?_
  rintro e w1 ⟨rfl, hw1⟩
  rw [e1]
  clear e1 p1 p2 p3 p4 p5 p6 q1 q2 q3 q4 q5 q6
  obtain ⟨⟨⟨⟨p1, p2⟩, p3, p4⟩, p5, p6⟩, ⟨⟨q1, q2⟩, q3, q4⟩, q5, q6⟩ := hF.out w1 hw1
  have hw := hw0.trans hw1
  cases o1
  case true =>
    go_wp2
    go_ret
    exact ⟨ret_bool (by simp), hw⟩
  case false =>
    go_wp2_with fail
    refine (ron_any _ _ _ h5 h6 h7 h8 h3 h4).mono ?_
    rintro e w2 ⟨rfl, hw2⟩
    rw [e2]
    clear e2 p1 p2 p3 p4 p5 p6 q1 q2 q3 q4 q5 q6
    replace hw2 := hw1.trans hw2
    obtain ⟨⟨⟨⟨p1, p2⟩, p3, p4⟩, p5, p6⟩, ⟨⟨q1, q2⟩, q3, q4⟩, q5, q6⟩ := hF.out w2 hw2
    replace hw := hw0.trans hw2
    cases o2
    case true =>
      go_wp2
      go_ret
      exact ⟨ret_bool (by simp), hw⟩
    case false =>
      go_wp2_with fail
      refine (ron_any _ _ _ h1 h2 h3 h4 h5 h6).mono ?_
      rintro e w3 ⟨rfl, hw3⟩
      rw [e3]
      clear e3 p1 p2 p3 p4 p5 p6 q1 q2 q3 q4 q5 q6
      replace hw3 := hw2.trans hw3
      obtain ⟨⟨⟨⟨p1, p2⟩, p3, p4⟩, p5, p6⟩, ⟨⟨q1, q2⟩, q3, q4⟩, q5, q6⟩ := hF.out w3 hw3
      replace hw := hw0.trans hw3
      cases o3
      case true =>
        go_wp2
        go_ret
        exact ⟨ret_bool (by simp), hw⟩
      case false =>
        go_wp2_with fail
        refine (ron_any _ _ _ h1 h2 h3 h4 h7 h8).mono ?_
        rintro e w4 ⟨rfl, hw4⟩
        rw [e4]
        clear e4 p1 p2 p3 p4 p5 p6 q1 q2 q3 q4 q5 q6
        replace hw4 := hw3.trans hw4
        obtain ⟨⟨⟨⟨p1, p2⟩, p3, p4⟩, p5, p6⟩, ⟨⟨q1, q2⟩, q3, q4⟩, q5, q6⟩ := hF.out w4 hw4
        replace hw := hw0.trans hw4
        cases o4
        case true =>
          go_wp2
          go_ret
          exact ⟨ret_bool (by simp), hw⟩
        case false =>
          have hl0 : n0 < w4.heap.size := by have := hw4.size; omega
          have hl1 : n0 + 1 < w4.heap.size := by have := hw4.size; omega
          cases y1
          all_goals
            go_upto_region 3 with fail
            refine wp_region_lat w4 (Aft.refl _) (by kernel_rfl) (by kernel_rfl) ?_
            repeat (go_big_quiet_step (first | (go_at_call 81; exact Calls.lat (cross_to (by assumption) _ (by assumption) (by assumption) (by assumption) (by assumption) (by assumption) (by assumption))) | (go_at_call 80; exact Calls.lat (opp_to (by assumption) _))))
            refine wpQuiet_nil ?_
            intro _ hw'; obtain ⟨z, rfl⟩ := hw'
            go_wp2
            go_ret
            exact ⟨ret_bool (by simp), hw.trans z.aft⟩
end Go.Proofs.Ytokdclbfjlnnjaa
/- Contracts of the small functions of the plane: distances, divisors. -/
namespace Go.Proofs.Ytokdclbfjlnnjaa
open Go.RowKit Go.BigFrame

def sqZ (a b : Pt) : Int := (a.1 - b.1) * (a.1 - b.1) + (a.2 - b.2) * (a.2 - b.2)

def sizeZ (n : Int) : Int := max n (-n)

def farZ (p : Pt) (s : Pt × Pt) : Int × Int :=
  if 0 < (p.1 - s.1.1) * (s.2.1 - s.1.1) + (p.2 - s.1.2) * (s.2.2 - s.1.2) ∧ 0 < (p.1 - s.2.1) * (s.1.1 - s.2.1) + (p.2 - s.2.2) * (s.1.2 - s.2.2) then (crossZ s.1 s.2 p * crossZ s.1 s.2 p, sqZ s.1 s.2)
  else (min (sqZ p s.1) (sqZ p s.2), 1)

end Go.Proofs.Ytokdclbfjlnnjaa
/- Segments of a shape: the reference's list, the program's iterator and list. -/
namespace Go.Proofs.Ytokdclbfjlnnjaa
open Go.RowKit Go.BigFrame

theorem Try.info59 : (Try.prog.info? 59).map (fun i => (i.zero, i.size, i.bytes)) = some (some (.agg #[.int .i64 0, .int .i64 0, .int .i64 0, .int .i64 0, .int .i64 0, .int .i64 0]), 6, 48) := by kernel_rfl
theorem Try.info112 : (Try.prog.info? 112).map (fun i => (i.zero, i.size, i.bytes)) = some (some (.agg #[.int .i64 0, .int .i64 0, .int .i64 0, .int .i64 0]), 4, 32) := by kernel_rfl

/-- Point number i, around. -/
def ptZ (l : List Pt) (i : Nat) : Pt := l.getD (i % l.length) (0, 0)
def sgZ (l : List Pt) (i : Nat) : Pt × Pt := (ptZ l i, ptZ l (i + 1))
def nSeg (k : Int) (l : List Pt) : Nat := if k = 0 ∨ l.length < 2 then 0 else if k = 2 then l.length else l.length - 1
def segsZ (k : Int) (l : List Pt) : List (Pt × Pt) := (List.range (nSeg k l)).map (sgZ l)
def ecells (s : Pt × Pt) (f t : Int) : List Value := [.int .i64 s.1.1, .int .i64 s.1.2, .int .i64 s.2.1, .int .i64 s.2.2, .int .i64 f, .int .i64 t]
def scells (s : Pt × Pt) : List Value := [.int .i64 s.1.1, .int .i64 s.1.2, .int .i64 s.2.1, .int .i64 s.2.2]
def endsC (l : List Pt) (m : Nat) : List Value := (List.range m).flatMap fun i => ecells (sgZ l i) i ((i + 1) % l.length : Nat)
def segC (l : List Pt) (m : Nat) : List Value := (List.range m).flatMap fun i => scells (sgZ l i)

theorem endsC_succ (l : List Pt) (m : Nat) : endsC l (m + 1) = endsC l m ++ ecells (sgZ l m) m ((m + 1) % l.length : Nat) := by simp [endsC, List.range_succ]
theorem segC_succ (l : List Pt) (m : Nat) : segC l (m + 1) = segC l m ++ scells (sgZ l m) := by simp [segC, List.range_succ]
theorem endsC_length (l : List Pt) (m : Nat) : (endsC l m).length = m * 6 := by
  induction m with
  | zero => rfl
  | succ m ih => rw [endsC_succ, List.length_append, ih]; simp [ecells]; omega
theorem segC_length (l : List Pt) (m : Nat) : (segC l m).length = m * 4 := by
  induction m with
  | zero => rfl
  | succ m ih => rw [segC_succ, List.length_append, ih]; simp [scells]; omega
theorem endsC_get (l : List Pt) : ∀ (m i : Nat), i < m → ∀ j, j < 6 → (endsC l m)[i * 6 + j]? = (ecells (sgZ l i) i ((i + 1) % l.length : Nat))[j]?
  | m + 1, i, h, j, hj => by
    rw [endsC_succ]
    by_cases he : i = m
    · subst he
      rw [List.getElem?_append_right (by rw [endsC_length]; omega), endsC_length]
      congr 1; omega
    · rw [List.getElem?_append_left (by rw [endsC_length]; omega)]
      exact endsC_get l m i (by omega) j hj
theorem segC_get (l : List Pt) : ∀ (m i : Nat), i < m → ∀ j, j < 4 → (segC l m)[i * 4 + j]? = (scells (sgZ l i))[j]?
  | m + 1, i, h, j, hj => by
    rw [segC_succ]
    by_cases he : i = m
    · subst he
      rw [List.getElem?_append_right (by rw [segC_length]; omega), segC_length]
      congr 1; omega
    · rw [List.getElem?_append_left (by rw [segC_length]; omega)]
      exact segC_get l m i (by omega) j hj
theorem ptZ_get {l : List Pt} {i : Nat} {p : Pt} (h : l[i]? = some p) : ptZ l i = p := by
  have hlt := (List.getElem?_eq_some_iff.1 h).1
  unfold ptZ
  rw [Nat.mod_eq_of_lt hlt]
  simp [List.getD, h]
theorem ptZ_round {l : List Pt} {p : Pt} (h : l[0]? = some p) : ptZ l l.length = p := by
  unfold ptZ
  rw [Nat.mod_self]
  simp [List.getD, h]
theorem cells_one (s : Pt × Pt) (f t : Int) : ∀ u ∈ ecells s f t, u.oneCell' = true := by intro u hu; simp [ecells] at hu; rcases hu with rfl | rfl | rfl | rfl | rfl | rfl <;> rfl
theorem scells_one (s : Pt × Pt) : ∀ u ∈ scells s, u.oneCell' = true := by intro u hu; simp [scells] at hu; rcases hu with rfl | rfl | rfl | rfl <;> rfl
def fvNew (cs : List Value) : FV := ⟨fun v W => ∃ g, v = .slice (some ⟨g, 0, none⟩) 1 1 ∧ Rd W (some ⟨g, 0, none⟩) cs, fun _ _ _ ⟨g, h1, h2⟩ hw => ⟨g, h1, h2.aft hw⟩⟩

theorem one_box (w : World) (c1 : Array Value) (t1 : TypeId) : ∃ W0, w.alloc (.cells c1 t1) = W0 ∧ Aft w W0 ∧ w.heap.size < W0.heap.size ∧ Hid (∀ W, Aft W0 W →
    (∀ i v, c1[i]? = some v → W.cell? ⟨w.heap.size, i, none⟩ = some v)) :=
  ⟨_, rfl, (Aft.refl w).alloc _, by simp, hid fun W hW i v h => by
    have h1 : (w.alloc (.cells c1 t1)).heap.size = w.heap.size + 1 := by simp
    rw [hW.cell (by rw [h1]; omega)]
    simp only [World.cell?, heap_alloc_new]
    exact h⟩

theorem ownsRow_mono {w : World} {base base' : Nat} {e : TypeId} {size n : Nat} {v : Value} {xs : List Value} (h : w.ownsRow base e size v n xs) (hb : base' ≤ base) : w.ownsRow base' e size v n xs := by
  refine ⟨h.1, h.2.imp id ?_⟩
  rintro ⟨g, cap, cur, h1, h2, h3⟩
  exact ⟨g, cap, cur, h1, by omega, h3⟩

theorem ownsRow_lit (W : World) (cs : Array Value) (n : Nat) (e : TypeId) (size : Nat) (hs : cs.size = n * size) (hm : n ≤ maxLen) : (W.alloc (.cells cs e)).ownsRow W.heap.size e size (.slice (some ⟨W.heap.size, 0, none⟩) n n) n cs.toList :=
  ⟨by simpa using hs, .inr ⟨W.heap.size, n, cs, rfl, Nat.le_refl _, heap_alloc_new W _, Nat.le_refl _, hm, hs, by rw [List.take_of_length_le (by simp; omega)]⟩⟩

set_option maxRecDepth 100000 in
set_option maxHeartbeats 2000000 in
theorem segments_any (k : Int) (vp : Value) (l : List Pt) (w : World) (hl : Prs w vp l) (hsm : l.length ≤ 1000) :
    Calls Try.prog 78 #[.agg #[.int .i64 k, vp]] w fun e w' => ∃ v, e = .returned v ∧ w'.ownsRow w.heap.size 59 6 v (nSeg k l) (endsC l (nSeg k l)) ∧ Aft w w' := by
  obtain ⟨a, c, rfl, hl⟩ := hl
  have hn := hl.le
  obtain ⟨W0, eW0, hw0, hlt, hbox⟩ := one_box w #[.int .i64 k, .slice a l.length c] 51
  go_enter Try.func78, Try.ntmps78
  go_upto_region 2 with fail
  clear eW0
  have hF : Hid (∀ W, Aft W0 W → W.cell? ⟨w.heap.size, 0, none⟩ = some (.int .i64 k) ∧ W.cell? ⟨w.heap.size, 1, none⟩ = some (.slice a l.length c)) := hid fun W hW => ⟨hbox.out W hW 0 _ rfl, hbox.out W hW 1 _ rfl⟩
  clear hbox
  generalize hn0 : w.heap.size = n0 at *
  have hnil : ∀ W : World, W.ownsRow W0.heap.size 59 6 (.slice none 0 0) 0 (endsC l 0) := fun W => World.ownsRow_nil _ _ _ _
  obtain ⟨p1, p2⟩ := hF.out W0 (Aft.refl _)
  have hl0 := hl.aft hw0
  clear hl
  by_cases hk : k = 0
  · have e0 : nSeg k l = 0 := by unfold nSeg; rw [if_pos (.inl hk)]
    have E0 := hid e0; clear e0
    have hni := hid (hnil W0); clear hnil
    go_wp2
    go_ret
    exact ⟨_, rfl, by rw [E0.out]; exact ownsRow_mono hni.out hw0.size, hw0⟩
  have ek : (k == 0) = false := by simpa using hk
  by_cases h2 : l.length < 2
  · have e0 : nSeg k l = 0 := by unfold nSeg; rw [if_pos (.inr h2)]
    have E0 := hid e0; clear e0
    have hni := hid (hnil W0); clear hnil
    go_wp2
    go_ret
    exact ⟨_, rfl, by rw [E0.out]; exact ownsRow_mono hni.out hw0.size, hw0⟩
  have h2' : 2 ≤ l.length := by omega
  have hni := hid (hnil W0); clear hnil
  go_wp2
  clear p1 p2
  go_loopw [3, 5] (fun v i wr => ∃ r : Nat, r + 1 ≤ l.length ∧ i = .int .i64 r ∧ wr.ownsRow W0.heap.size 59 6 v r (endsC l r) ∧ Aft W0 wr) (fun _ i _ => l.length - (intOf i).toNat)
  case atStart => exact ⟨0, by omega, rfl, hni.out, Aft.refl _⟩
  case round =>
    obtain ⟨r, hr, rfl, hown, hwr⟩ := hrel
    have hww := hw0.trans hwr
    have hz1 := hww.size
    have hz2 := hwr.size
    obtain ⟨p1, p2⟩ := hF.out wr hwr
    have hlr := hl0.aft hwr
    rcases Nat.lt_or_ge (r + 1) l.length with hlt' | hge
    · have hlt2 : (r : Int) + 1 < l.length := by omega
      have hlt3 : (r : Int) < l.length := by omega
      obtain ⟨b, off, x, y, rfl, c1, c2, hb, hx, _⟩ := hlr.rd.pair hlr.ok (show r < l.length by omega)
      obtain ⟨x', y', c3, c4, hx', _⟩ := Rd.pair_at hlr.rd hlr.ok hlt'
      have hsg : sgZ l r = ((x, y), (x', y')) := by unfold sgZ; rw [ptZ_get hx.out, ptZ_get hx'.out]
      have hmod : (r + 1) % l.length = r + 1 := Nat.mod_eq_of_lt hlt'
      have SG := hid hsg; clear hsg
      have MD := hid hmod; clear hmod
      go_upto_region 8 with fail
      refine wp_region_flow _ (Aft.refl _) [FV.is (u3), FV.is (.pointer (some ⟨n0, 1, none⟩)), FV.is (.slice (some ⟨b, off, none⟩) l.length c), FV.is (.int .i64 r), FV.is (.pointer (some ⟨b, off + r * 2, none⟩)), FV.is (.agg #[.int .i64 x, .int .i64 y]), FV.is (.pointer (some ⟨n0, 1, none⟩)), FV.is (.slice (some ⟨b, off, none⟩) l.length c), FV.is (.int .i64 r), FV.is (.int .i64 ((r : Int) + 1)), FV.is (.pointer (some ⟨b, off + (r + 1) * 2, none⟩)), FV.is (.agg #[.int .i64 x', .int .i64 y']), FV.is (.int .i64 r), FV.is (.int .i64 r), FV.is (.int .i64 ((r : Int) + 1)), FV.is (.agg #[.int .i64 x, .int .i64 y, .int .i64 x', .int .i64 y', .int .i64 r, .int .i64 ((r : Int) + 1)]), fvNew (ecells ((x, y), (x', y')) r ((r : Int) + 1))]
        [(0, 22), (1, 23), (2, 24), (3, 25), (4, 26), (5, 27), (6, 28), (7, 29), (8, 30), (9, 31), (10, 32), (11, 33), (12, 34), (13, 35), (14, 36), (15, 37), (16, 38)]
        [[], [], [(1, 23)], [], [(2, 24), (3, 25)], [(4, 26)], [], [(6, 28)], [], [(8, 30)], [(7, 29), (9, 31)], [(10, 32)], [], [], [(13, 35)], [(5, 27), (11, 33), (12, 34), (14, 36)], [(15, 37)]] (by kernel_rfl) (by kernel_rfl) ?_ ?_
      · refine flowObs_cons (fun W hW => flowOb_nil ?_) ?_
        · go_wp2
          exact ⟨rfl, Aft.refl W⟩
        refine flowObs_cons (fun W hW => flowOb_nil ?_) ?_
        · go_wp2
          exact ⟨rfl, Aft.refl W⟩
        refine flowObs_cons (fun W hW => flowOb_cons fun v0 h0 => flowOb_nil ?_) ?_
        · obtain rfl := h0
          have p2W := (hW.cell (World.block_lt_of_cell? _ _ p2)).trans p2
          have c1W := (hW.cell (World.block_lt_of_cell? _ _ c1)).trans c1
          have c2W := (hW.cell (World.block_lt_of_cell? _ _ c2)).trans c2
          have c3W := (hW.cell (World.block_lt_of_cell? _ _ c3)).trans c3
          have c4W := (hW.cell (World.block_lt_of_cell? _ _ c4)).trans c4
          go_wp2
          exact ⟨rfl, Aft.refl W⟩
        refine flowObs_cons (fun W hW => flowOb_nil ?_) ?_
        · go_wp2
          exact ⟨rfl, Aft.refl W⟩
        refine flowObs_cons (fun W hW => flowOb_cons fun v0 h0 => flowOb_cons fun v1 h1 => flowOb_nil ?_) ?_
        · obtain rfl := h0
          obtain rfl := h1
          go_wp2
          exact ⟨rfl, Aft.refl W⟩
        refine flowObs_cons (fun W hW => flowOb_cons fun v0 h0 => flowOb_nil ?_) ?_
        · obtain rfl := h0
          have p2W := (hW.cell (World.block_lt_of_cell? _ _ p2)).trans p2
          have c1W := (hW.cell (World.block_lt_of_cell? _ _ c1)).trans c1
          have c2W := (hW.cell (World.block_lt_of_cell? _ _ c2)).trans c2
          have c3W := (hW.cell (World.block_lt_of_cell? _ _ c3)).trans c3
          have c4W := (hW.cell (World.block_lt_of_cell? _ _ c4)).trans c4
          go_wp2
          exact ⟨rfl, Aft.refl W⟩
        refine flowObs_cons (fun W hW => flowOb_nil ?_) ?_
        · go_wp2
          exact ⟨rfl, Aft.refl W⟩
        refine flowObs_cons (fun W hW => flowOb_cons fun v0 h0 => flowOb_nil ?_) ?_
        · obtain rfl := h0
          have p2W := (hW.cell (World.block_lt_of_cell? _ _ p2)).trans p2
          have c1W := (hW.cell (World.block_lt_of_cell? _ _ c1)).trans c1
          have c2W := (hW.cell (World.block_lt_of_cell? _ _ c2)).trans c2
          have c3W := (hW.cell (World.block_lt_of_cell? _ _ c3)).trans c3
          have c4W := (hW.cell (World.block_lt_of_cell? _ _ c4)).trans c4
          go_wp2
          exact ⟨rfl, Aft.refl W⟩
        refine flowObs_cons (fun W hW => flowOb_nil ?_) ?_
        · go_wp2
          exact ⟨rfl, Aft.refl W⟩
        refine flowObs_cons (fun W hW => flowOb_cons fun v0 h0 => flowOb_nil ?_) ?_
        · obtain rfl := h0
          go_wp2
          exact ⟨rfl, Aft.refl W⟩
        refine flowObs_cons (fun W hW => flowOb_cons fun v0 h0 => flowOb_cons fun v1 h1 => flowOb_nil ?_) ?_
        · obtain rfl := h0
          obtain rfl := h1
          go_wp2
          exact ⟨rfl, Aft.refl W⟩
        refine flowObs_cons (fun W hW => flowOb_cons fun v0 h0 => flowOb_nil ?_) ?_
        · obtain rfl := h0
          have p2W := (hW.cell (World.block_lt_of_cell? _ _ p2)).trans p2
          have c1W := (hW.cell (World.block_lt_of_cell? _ _ c1)).trans c1
          have c2W := (hW.cell (World.block_lt_of_cell? _ _ c2)).trans c2
          have c3W := (hW.cell (World.block_lt_of_cell? _ _ c3)).trans c3
          have c4W := (hW.cell (World.block_lt_of_cell? _ _ c4)).trans c4
          go_wp2
          exact ⟨rfl, Aft.refl W⟩
        refine flowObs_cons (fun W hW => flowOb_nil ?_) ?_
        · go_wp2
          exact ⟨rfl, Aft.refl W⟩
        refine flowObs_cons (fun W hW => flowOb_nil ?_) ?_
        · go_wp2
          exact ⟨rfl, Aft.refl W⟩
        refine flowObs_cons (fun W hW => flowOb_cons fun v0 h0 => flowOb_nil ?_) ?_
        · obtain rfl := h0
          go_wp2
          exact ⟨rfl, Aft.refl W⟩
        refine flowObs_cons (fun W hW => flowOb_cons fun v0 h0 => flowOb_cons fun v1 h1 => flowOb_cons fun v2 h2 => flowOb_cons fun v3 h3 => flowOb_nil ?_) ?_
        · obtain rfl := h0
          obtain rfl := h1
          obtain rfl := h2
          obtain rfl := h3
          go_wp2
          exact ⟨rfl, Aft.refl W⟩
        refine flowObs_cons (fun W hW => flowOb_cons fun v0 h0 => flowOb_nil ?_) flowObs_nil
        · obtain rfl := h0
          go_wp2
          exact ⟨⟨_, rfl, Rd.new⟩, (Aft.refl W).alloc _⟩
      · intro W hW
        refine flowEnd_cons fun v0 h0 => ?_
        obtain rfl := h0
        iterate 15 refine flowEnd_cons fun _ _ => ?_
        refine flowEnd_cons fun v h => flowEnd_nil ?_
        obtain ⟨g, rfl, hrd⟩ := h
        have hownW := ownsRow_aft hown hW
        have hz3 := hW.size
        simp only [Act.put, List.setIfInBounds_toArray, List.set_cons_succ, List.set_cons_zero]
        refine wpList_app _ rfl (.tmp 22) (.tmp 38) 53 rfl W0.heap.size 59 (.agg #[.int .i64 0, .int .i64 0, .int .i64 0, .int .i64 0, .int .i64 0, .int .i64 0]) 6 48 Try.underlying53 Try.info59 rfl (by decide) _ r (endsC l r) rfl hownW (some ⟨g, 0, none⟩) 1 1 (ecells ((x, y), (x', y')) r ((r : Int) + 1)) rfl (fun h => by cases h) rfl hrd (cells_one _ _ _) (by unfold maxLen; omega) (by omega) (by omega) ?_
        intro v' w' hown' hgrow hloc
        go_wp2
        have hfin := (hwr.trans hW).grown hgrow (fun j hj => (hownW.lt j hj).1)
        go_roundw
        case rel => exact ⟨r + 1, by omega, by go_num, by rw [endsC_succ, SG.out, MD.out]; exact hown', hfin⟩
        case measure => simp only [intOf]; omega
    · have hre : l.length = r + 1 := by omega
      have hge2 : ¬ ((r : Int) + 1 < (l.length : Int)) := by omega
      by_cases hk2 : k = 2
      · have em : nSeg k l = l.length := by unfold nSeg; rw [if_neg (by omega), if_pos hk2]
        have EM := hid em; clear em
        obtain ⟨b, off, x, y, rfl, c1, c2, hb, hx, _⟩ := hlr.rd.pair hlr.ok (show l.length - 1 < l.length by omega)
        obtain ⟨x', y', c3, c4, hx', _⟩ := Rd.pair_at hlr.rd hlr.ok (show 0 < l.length by omega)
        have hsg : sgZ l r = ((x, y), (x', y')) := by
          unfold sgZ
          have h1 : l.length - 1 = r := by omega
          have h2 := hx.out
          rw [h1] at h2
          rw [ptZ_get h2, ← hre, ptZ_round hx'.out]
        have hmod : (r + 1) % l.length = 0 := by rw [← hre, Nat.mod_self]
        have SG := hid hsg; clear hsg
        have MD := hid hmod; clear hmod
        rw [Nat.zero_mul, Nat.add_zero] at c3 c4
        have hr1 : l.length - 1 = r := by omega
        rw [hr1] at c1 c2
        clear hr1
        have ht4 : (l.length : Int) - 1 = r := by omega
        have hgl : (r : Int) < l.length := by omega
        have hg0 : (0 : Int) < l.length := by omega
        subst hk2
        go_upto_region 10 with fail
        refine wp_region_flow _ (Aft.refl _) [FV.is (u3), FV.is (.pointer (some ⟨n0, 1, none⟩)), FV.is (.slice (some ⟨b, off, none⟩) l.length c), FV.is (.int .i64 l.length), FV.is (.int .i64 r), FV.is (.pointer (some ⟨b, off + r * 2, none⟩)), FV.is (.agg #[.int .i64 x, .int .i64 y]), FV.is (.pointer (some ⟨n0, 1, none⟩)), FV.is (.slice (some ⟨b, off, none⟩) l.length c), FV.is (.pointer (some ⟨b, off, none⟩)), FV.is (.agg #[.int .i64 x', .int .i64 y']), FV.is (.int .i64 l.length), FV.is (.int .i64 r), FV.is (.agg #[.int .i64 x, .int .i64 y, .int .i64 x', .int .i64 y', .int .i64 r, .int .i64 0]), fvNew (ecells ((x, y), (x', y')) r 0)]
          [(0, 43), (1, 44), (2, 45), (3, 46), (4, 47), (5, 48), (6, 49), (7, 50), (8, 51), (9, 52), (10, 53), (11, 54), (12, 55), (13, 56), (14, 57)]
          [[], [], [(1, 44)], [], [(3, 46)], [(2, 45), (4, 47)], [(5, 48)], [], [(7, 50)], [(8, 51)], [(9, 52)], [], [(11, 54)], [(6, 49), (10, 53), (12, 55)], [(13, 56)]] (by kernel_rfl) (by kernel_rfl) ?_ ?_
        · refine flowObs_cons (fun W hW => flowOb_nil ?_) ?_
          · go_wp2
            exact ⟨rfl, Aft.refl W⟩
          refine flowObs_cons (fun W hW => flowOb_nil ?_) ?_
          · go_wp2
            exact ⟨rfl, Aft.refl W⟩
          refine flowObs_cons (fun W hW => flowOb_cons fun v0 h0 => flowOb_nil ?_) ?_
          · obtain rfl := h0
            have p2W := (hW.cell (World.block_lt_of_cell? _ _ p2)).trans p2
            have c1W := (hW.cell (World.block_lt_of_cell? _ _ c1)).trans c1
            have c2W := (hW.cell (World.block_lt_of_cell? _ _ c2)).trans c2
            have c3W := (hW.cell (World.block_lt_of_cell? _ _ c3)).trans c3
            have c4W := (hW.cell (World.block_lt_of_cell? _ _ c4)).trans c4
            go_wp2
            exact ⟨rfl, Aft.refl W⟩
          refine flowObs_cons (fun W hW => flowOb_nil ?_) ?_
          · go_wp2
            exact ⟨rfl, Aft.refl W⟩
          refine flowObs_cons (fun W hW => flowOb_cons fun v0 h0 => flowOb_nil ?_) ?_
          · obtain rfl := h0
            go_wp2
            exact ⟨rfl, Aft.refl W⟩
          refine flowObs_cons (fun W hW => flowOb_cons fun v0 h0 => flowOb_cons fun v1 h1 => flowOb_nil ?_) ?_
          · obtain rfl := h0
            obtain rfl := h1
            go_wp2
            exact ⟨rfl, Aft.refl W⟩
          refine flowObs_cons (fun W hW => flowOb_cons fun v0 h0 => flowOb_nil ?_) ?_
          · obtain rfl := h0
            have p2W := (hW.cell (World.block_lt_of_cell? _ _ p2)).trans p2
            have c1W := (hW.cell (World.block_lt_of_cell? _ _ c1)).trans c1
            have c2W := (hW.cell (World.block_lt_of_cell? _ _ c2)).trans c2
            have c3W := (hW.cell (World.block_lt_of_cell? _ _ c3)).trans c3
            have c4W := (hW.cell (World.block_lt_of_cell? _ _ c4)).trans c4
            go_wp2
            exact ⟨rfl, Aft.refl W⟩
          refine flowObs_cons (fun W hW => flowOb_nil ?_) ?_
          · go_wp2
            exact ⟨rfl, Aft.refl W⟩
          refine flowObs_cons (fun W hW => flowOb_cons fun v0 h0 => flowOb_nil ?_) ?_
          · obtain rfl := h0
            have p2W := (hW.cell (World.block_lt_of_cell? _ _ p2)).trans p2
            have c1W := (hW.cell (World.block_lt_of_cell? _ _ c1)).trans c1
            have c2W := (hW.cell (World.block_lt_of_cell? _ _ c2)).trans c2
            have c3W := (hW.cell (World.block_lt_of_cell? _ _ c3)).trans c3
            have c4W := (hW.cell (World.block_lt_of_cell? _ _ c4)).trans c4
            go_wp2
            exact ⟨rfl, Aft.refl W⟩
          refine flowObs_cons (fun W hW => flowOb_cons fun v0 h0 => flowOb_nil ?_) ?_
          · obtain rfl := h0
            go_wp2
            exact ⟨rfl, Aft.refl W⟩
          refine flowObs_cons (fun W hW => flowOb_cons fun v0 h0 => flowOb_nil ?_) ?_
          · obtain rfl := h0
            have p2W := (hW.cell (World.block_lt_of_cell? _ _ p2)).trans p2
            have c1W := (hW.cell (World.block_lt_of_cell? _ _ c1)).trans c1
            have c2W := (hW.cell (World.block_lt_of_cell? _ _ c2)).trans c2
            have c3W := (hW.cell (World.block_lt_of_cell? _ _ c3)).trans c3
            have c4W := (hW.cell (World.block_lt_of_cell? _ _ c4)).trans c4
            go_wp2
            exact ⟨rfl, Aft.refl W⟩
          refine flowObs_cons (fun W hW => flowOb_nil ?_) ?_
          · go_wp2
            exact ⟨rfl, Aft.refl W⟩
          refine flowObs_cons (fun W hW => flowOb_cons fun v0 h0 => flowOb_nil ?_) ?_
          · obtain rfl := h0
            go_wp2
            exact ⟨rfl, Aft.refl W⟩
          refine flowObs_cons (fun W hW => flowOb_cons fun v0 h0 => flowOb_cons fun v1 h1 => flowOb_cons fun v2 h2 => flowOb_nil ?_) ?_
          · obtain rfl := h0
            obtain rfl := h1
            obtain rfl := h2
            go_wp2
            exact ⟨rfl, Aft.refl W⟩
          refine flowObs_cons (fun W hW => flowOb_cons fun v0 h0 => flowOb_nil ?_) flowObs_nil
          · obtain rfl := h0
            go_wp2
            exact ⟨⟨_, rfl, Rd.new⟩, (Aft.refl W).alloc _⟩
        · intro W hW
          refine flowEnd_cons fun v0 h0 => ?_
          obtain rfl := h0
          iterate 13 refine flowEnd_cons fun _ _ => ?_
          refine flowEnd_cons fun v h => flowEnd_nil ?_
          obtain ⟨g, rfl, hrd⟩ := h
          have hownW := ownsRow_aft hown hW
          have hz3 := hW.size
          simp only [Act.put, List.setIfInBounds_toArray, List.set_cons_succ, List.set_cons_zero]
          refine wpList_app _ rfl (.tmp 43) (.tmp 57) 53 rfl W0.heap.size 59 (.agg #[.int .i64 0, .int .i64 0, .int .i64 0, .int .i64 0, .int .i64 0, .int .i64 0]) 6 48 Try.underlying53 Try.info59 rfl (by decide) _ r (endsC l r) rfl hownW (some ⟨g, 0, none⟩) 1 1 (ecells ((x, y), (x', y')) r 0) rfl (fun h => by cases h) rfl hrd (cells_one _ _ _) (by unfold maxLen; omega) (by omega) (by omega) ?_
          intro v' w' hown' hgrow hloc
          have hfin := (hwr.trans hW).grown hgrow (fun j hj => (hownW.lt j hj).1)
          go_wp2
          go_ret
          refine ⟨_, rfl, ?_, hw0.trans hfin⟩
          rw [EM.out, hre, endsC_succ, SG.out, MD.out]
          exact ownsRow_mono hown' (by have := hw0.size; omega)
      · have em : nSeg k l = r := by unfold nSeg; rw [if_neg (by omega), if_neg hk2]; omega
        have EM := hid em; clear em
        go_wp2
        go_ret
        exact ⟨_, rfl, by rw [EM.out]; exact ownsRow_mono hown (by have := hw0.size; omega), hww⟩

def nPart (k : Int) (l : List Pt) : Nat := if k = 0 then 1 else nSeg k l

end Go.Proofs.Ytokdclbfjlnnjaa
/- The program's iterator over the segments of a shape. -/
namespace Go.Proofs.Ytokdclbfjlnnjaa
open Go.RowKit Go.BigFrame
attribute [local go_sem] Oper.semAt_some

def segV (s : Pt × Pt) : Value := .agg #[.int .i64 s.1.1, .int .i64 s.1.2, .int .i64 s.2.1, .int .i64 s.2.2]
/-- A shape in a box. -/
structure ShBox (W : World) (Bs : Nat) (k : Int) (vp : Value) (l : List Pt) : Prop where
  kind : W.cell? ⟨Bs, 0, none⟩ = some (.int .i64 k)
  pts : W.cell? ⟨Bs, 1, none⟩ = some vp
  prs : Prs W vp l
theorem ShBox.aft {W W' : World} {Bs : Nat} {k : Int} {vp : Value} {l : List Pt} (h : ShBox W Bs k vp l) (hw : Aft W W') : ShBox W' Bs k vp l :=
  ⟨(hw.cell (World.block_lt_of_cell? _ _ h.kind)).trans h.kind, (hw.cell (World.block_lt_of_cell? _ _ h.pts)).trans h.pts, h.prs.aft hw⟩

set_option maxHeartbeats 400000 in
theorem segments_fn (k : Int) (vp : Value) (w : World) :
    Calls Try.prog 83 #[.agg #[.int .i64 k, vp]] w fun e w' => e = .returned (.func (.func 116) #[] #[.pointer (some ⟨w.heap.size, 0, none⟩)]) ∧ w.alloc (.cells #[.int .i64 k, vp] 51) = w' := by
  go_enter Try.func83, Try.ntmps83
  go_wp2
  go_ret
  exact ⟨rfl, rfl⟩

set_option maxRecDepth 100000 in
set_option maxHeartbeats 2000000 in
theorem segs1_any (n : Nat) (h1n : 1 ≤ n) (k : Int) (l : List Pt) (vp : Value) (Bs : Nat) (Kp : World → World → Prop) (w : World) (hG : ShBox w Bs k vp l) (hsm : l.length ≤ 1000)
    (hKp : ∀ A B, Kp A B → ShBox A Bs k vp l → ShBox B Bs k vp l) :
    SeqStopsK Fence.wide n Try.prog 116 #[.pointer (some ⟨Bs, 0, none⟩)] (fun i : Nat => #[segV (sgZ l i)]) Kp (fun xs => xs = List.range (nSeg k l)) (fun pre => ∃ j, j ≤ nSeg k l ∧ pre = List.range j) (nSeg k l) w := by
  intro y J Jx W hW hJ hJx hY h0
  refine callsIn_wide.2 ?_
  have hG0 := hG.aft hW
  clear hG
  have hY := hid hY
  have hJ := hid hJ
  have hKp := hid hKp
  have hG1 := hG0
  obtain ⟨p1, p2, ⟨a, c, rfl, hl⟩⟩ := hG0
  have hn := hl.le
  go_enter Try.func116, Try.ntmps116
  by_cases hk : k = 0
  · have e0 : nSeg k l = 0 := by unfold nSeg; rw [if_pos (.inl hk)]
    subst hk
    have E0 := hid e0; clear e0
    have H0 := hid h0
    go_wp2
    refine bodyPost_ret (results_none rfl _ _ _) rfl ?_
    exact ⟨⟨_, rfl⟩, .inl (by rw [E0.out]; exact H0.out)⟩
  have ek : (k == 0) = false := by simpa using hk
  by_cases h2 : l.length < 2
  · have e0 : nSeg k l = 0 := by unfold nSeg; rw [if_pos (.inr h2)]
    have E0 := hid e0; clear e0
    have H0 := hid h0
    go_wp2
    refine bodyPost_ret (results_none rfl _ _ _) rfl ?_
    exact ⟨⟨_, rfl⟩, .inl (by rw [E0.out]; exact H0.out)⟩
  have h2' : 2 ≤ l.length := by omega
  obtain ⟨m, hm⟩ : ∃ m, nSeg k l = m := ⟨_, rfl⟩
  have hmk : (k = 2 ∧ m = l.length) ∨ (k ≠ 2 ∧ m + 1 = l.length) := by
    unfold nSeg at hm
    rw [if_neg (by omega)] at hm
    split at hm <;> omega
  have HM := hid hm
  rw [hm] at hY
  clear hm
  have hne : l ≠ [] := by rintro rfl; simp at h2'
  go_wp2
  clear p1 p2
  go_loopw [16] (fun i wr => ∃ r : Nat, r ≤ m ∧ i = .int .i64 r ∧ Hid (J (List.range r) wr) ∧ ShBox wr Bs k (.slice a l.length c) l) (fun i _ => l.length - (intOf i).toNat)
  case atStart => exact ⟨0, by omega, rfl, h0, hG1⟩
  case round =>
    obtain ⟨r, hr, rfl, hJr, hS⟩ := hrel
    have hS0 := hS
    obtain ⟨p1, p2, ⟨a', c', he, hlr⟩⟩ := hS
    simp only [Value.slice.injEq, true_and] at he
    obtain ⟨rfl, rfl⟩ := he
    rcases Nat.lt_or_ge r m with hlt | hge
    · have hrl : r < l.length := by omega
      have hlt3 : (r : Int) < l.length := by omega
      obtain ⟨b, off, px, py, rfl, c1, c2, hb, hx, _⟩ := hlr.rd.pair hlr.ok hrl
      have hq : (r + 1) % l.length < l.length := Nat.mod_lt _ (by omega)
      obtain ⟨q, hqe⟩ : ∃ q, (r + 1) % l.length = q := ⟨_, rfl⟩
      rw [hqe] at hq
      obtain ⟨qx, qy, c3, c4, hx', _⟩ := Rd.pair_at hlr.rd hlr.ok hq
      have hqi : (q : Int) < l.length := by omega
      have hsg : sgZ l r = ((px, py), (qx, qy)) := by
        have h1 := hx'.out
        unfold sgZ
        rw [ptZ_get hx.out]
        unfold ptZ
        rw [hqe]
        simp [List.getD, h1]
      have hmod : ((r : Int) + 1).tmod l.length = q := by
        rw [Int.tmod_eq_emod_of_nonneg (by omega), ← hqe]
        simp
      have hmod2 : ((r : Int) + 1) % l.length = q := by
        rw [← hqe]
        simp
      have SG := hid hsg; clear hsg hqe
      have hnl : ¬ ((l.length : Int) = 0) := by omega
      have hgo : ((r : Int) == (l.length : Int) - 1) = false ∨ (((r : Int) == (l.length : Int) - 1) = true ∧ k = 2) := by
        by_cases hh : (r : Int) = (l.length : Int) - 1
        · exact .inr ⟨by simp; omega, by omega⟩
        · exact .inl (by simp; omega)
      have HMK := hid hmk
      clear hmk hnl
      have hgo' : ((r : Int) == (l.length : Int) - 1) = false ∨ (((r : Int) == (l.length : Int) - 1) = true ∧ (k != 2) = false) := hgo.imp id fun ⟨h1, h2⟩ => ⟨h1, by simp [h2]⟩
      clear hgo
      rcases hgo' with hgo | ⟨hgo, hb2⟩
      all_goals
        go_upto_region 6 with fail
        refine (wpIn_wide (n := n)).1 ?_
        refine wpIn_region_flow Fence.free_wide _ (Aft.refl _) [FV.is (.func (.yield y) #[] #[]), FV.is (.pointer (some ⟨Bs, 1, none⟩)), FV.is (.slice (some ⟨b, off, none⟩) l.length c), FV.is (.int .i64 r), FV.is (.pointer (some ⟨b, off + r * 2, none⟩)), FV.is (.agg #[.int .i64 px, .int .i64 py]), FV.is (.pointer (some ⟨Bs, 1, none⟩)), FV.is (.slice (some ⟨b, off, none⟩) l.length c), FV.is (.int .i64 r), FV.is (.int .i64 ((r : Int) + 1)), FV.is (.int .i64 l.length), FV.is (.int .i64 q), FV.is (.pointer (some ⟨b, off + q * 2, none⟩)), FV.is (.agg #[.int .i64 qx, .int .i64 qy]), FV.is (.agg #[.int .i64 px, .int .i64 py, .int .i64 qx, .int .i64 qy])]
          [(0, 28), (1, 29), (2, 30), (3, 31), (4, 32), (5, 33), (6, 34), (7, 35), (8, 36), (9, 37), (10, 38), (11, 39), (12, 40), (13, 41), (14, 42)]
          [[], [], [(1, 29)], [], [(2, 30), (3, 31)], [(4, 32)], [], [(6, 34)], [], [(8, 36)], [], [(9, 37), (10, 38)], [(7, 35), (11, 39)], [(12, 40)], [(5, 33), (13, 41)]] (by kernel_rfl) (by kernel_rfl) (by kernel_rfl) ?_ ?_
        · refine flowObs_cons (fun W hW => flowOb_nil ?_) ?_
          · go_wp2
            exact ⟨rfl, Aft.refl W⟩
          refine flowObs_cons (fun W hW => flowOb_nil ?_) ?_
          · go_wp2
            exact ⟨rfl, Aft.refl W⟩
          refine flowObs_cons (fun W hW => flowOb_cons fun v0 h0 => flowOb_nil ?_) ?_
          · obtain rfl := h0
            have p2W := (hW.cell (World.block_lt_of_cell? _ _ p2)).trans p2
            have c1W := (hW.cell (World.block_lt_of_cell? _ _ c1)).trans c1
            have c2W := (hW.cell (World.block_lt_of_cell? _ _ c2)).trans c2
            have c3W := (hW.cell (World.block_lt_of_cell? _ _ c3)).trans c3
            have c4W := (hW.cell (World.block_lt_of_cell? _ _ c4)).trans c4
            go_wp2
            exact ⟨rfl, Aft.refl W⟩
          refine flowObs_cons (fun W hW => flowOb_nil ?_) ?_
          · go_wp2
            exact ⟨rfl, Aft.refl W⟩
          refine flowObs_cons (fun W hW => flowOb_cons fun v0 h0 => flowOb_cons fun v1 h1 => flowOb_nil ?_) ?_
          · obtain rfl := h0
            obtain rfl := h1
            go_wp2
            exact ⟨rfl, Aft.refl W⟩
          refine flowObs_cons (fun W hW => flowOb_cons fun v0 h0 => flowOb_nil ?_) ?_
          · obtain rfl := h0
            have p2W := (hW.cell (World.block_lt_of_cell? _ _ p2)).trans p2
            have c1W := (hW.cell (World.block_lt_of_cell? _ _ c1)).trans c1
            have c2W := (hW.cell (World.block_lt_of_cell? _ _ c2)).trans c2
            have c3W := (hW.cell (World.block_lt_of_cell? _ _ c3)).trans c3
            have c4W := (hW.cell (World.block_lt_of_cell? _ _ c4)).trans c4
            go_wp2
            exact ⟨rfl, Aft.refl W⟩
          refine flowObs_cons (fun W hW => flowOb_nil ?_) ?_
          · go_wp2
            exact ⟨rfl, Aft.refl W⟩
          refine flowObs_cons (fun W hW => flowOb_cons fun v0 h0 => flowOb_nil ?_) ?_
          · obtain rfl := h0
            have p2W := (hW.cell (World.block_lt_of_cell? _ _ p2)).trans p2
            have c1W := (hW.cell (World.block_lt_of_cell? _ _ c1)).trans c1
            have c2W := (hW.cell (World.block_lt_of_cell? _ _ c2)).trans c2
            have c3W := (hW.cell (World.block_lt_of_cell? _ _ c3)).trans c3
            have c4W := (hW.cell (World.block_lt_of_cell? _ _ c4)).trans c4
            go_wp2
            exact ⟨rfl, Aft.refl W⟩
          refine flowObs_cons (fun W hW => flowOb_nil ?_) ?_
          · go_wp2
            exact ⟨rfl, Aft.refl W⟩
          refine flowObs_cons (fun W hW => flowOb_cons fun v0 h0 => flowOb_nil ?_) ?_
          · obtain rfl := h0
            go_wp2
            exact ⟨rfl, Aft.refl W⟩
          refine flowObs_cons (fun W hW => flowOb_nil ?_) ?_
          · go_wp2
            exact ⟨rfl, Aft.refl W⟩
          refine flowObs_cons (fun W hW => flowOb_cons fun v0 h0 => flowOb_cons fun v1 h1 => flowOb_nil ?_) ?_
          · obtain rfl := h0
            obtain rfl := h1
            go_wp2
            exact ⟨rfl, Aft.refl W⟩
          refine flowObs_cons (fun W hW => flowOb_cons fun v0 h0 => flowOb_cons fun v1 h1 => flowOb_nil ?_) ?_
          · obtain rfl := h0
            obtain rfl := h1
            go_wp2
            exact ⟨rfl, Aft.refl W⟩
          refine flowObs_cons (fun W hW => flowOb_cons fun v0 h0 => flowOb_nil ?_) ?_
          · obtain rfl := h0
            have p2W := (hW.cell (World.block_lt_of_cell? _ _ p2)).trans p2
            have c1W := (hW.cell (World.block_lt_of_cell? _ _ c1)).trans c1
            have c2W := (hW.cell (World.block_lt_of_cell? _ _ c2)).trans c2
            have c3W := (hW.cell (World.block_lt_of_cell? _ _ c3)).trans c3
            have c4W := (hW.cell (World.block_lt_of_cell? _ _ c4)).trans c4
            go_wp2
            exact ⟨rfl, Aft.refl W⟩
          refine flowObs_cons (fun W hW => flowOb_cons fun v0 h0 => flowOb_cons fun v1 h1 => flowOb_nil ?_) flowObs_nil
          · obtain rfl := h0
            obtain rfl := h1
            go_wp2
            exact ⟨rfl, Aft.refl W⟩
        · intro W' hW'
          refine flowEndIn_cons fun v0 h0 => ?_
          obtain rfl := h0
          iterate 13 refine flowEndIn_cons fun _ _ => ?_
          refine flowEndIn_cons fun v h => flowEndIn_nil ?_
          obtain rfl := h
          simp only [Act.put, List.setIfInBounds_toArray, List.set_cons_succ, List.set_cons_zero]
          have hJW := hJ.out _ _ _ none hJr.out (hW'.grows none) (by simp)
          have hSW := hS0.aft hW'
          obtain ⟨fn, tmps, assign, body, hy, hR⟩ := hY.out _ r W' hJW (by rw [List.length_range]; exact hlt)
          rw [SG.out] at hy
          dsimp only [segV] at hy
          gi_wp2
          refine hR.mono ?_
          rintro e W3 (⟨rfl, hJ3, hk3⟩ | ⟨rfl, hJx3⟩)
          · have hS3 := hKp.out _ _ hk3 hSW
            have HJ3 := hid hJ3
            clear hJ3 hk3
            gi_wp2
            go_wp2
            go_roundw
            case rel => exact ⟨r + 1, by omega, by go_num, hid (by rw [List.range_succ]; exact HJ3.out), hS3⟩
            case measure => simp only [intOf]; omega
          · have HJ3 := hid hJx3
            clear hJx3
            gi_wp2
            go_wp2
            refine bodyPost_ret (results_none rfl _ _ _) rfl ?_
            exact ⟨⟨_, rfl⟩, .inr ⟨_, ⟨r + 1, by rw [HM.out]; omega, rfl⟩, by rw [List.range_succ]; exact HJ3.out⟩⟩
    · obtain rfl : m = r := by omega
      have hnl : ¬ ((l.length : Int) = 0) := by omega
      have hcc : (k = 2 ∧ (m : Int) = (l.length : Int)) ∨ (((m : Int) == (l.length : Int) - 1) = true ∧ (k != 2) = true ∧ (m : Int) < l.length) := by
        rcases hmk with ⟨h1, h2⟩ | ⟨h1, h2⟩
        · exact .inl ⟨h1, by omega⟩
        · exact .inr ⟨by simp; omega, by simpa using h1, by omega⟩
      have HMK := hid hmk
      clear hmk
      rcases hcc with ⟨hk2, hc⟩ | ⟨hc1, hc2, hc3⟩
      · have hc' : ¬ ((m : Int) < (l.length : Int)) := by omega
        clear hc
        have HM2 : Hid (nSeg 2 l = m) := hid (by rw [← hk2]; exact HM.out)
        go_wp2
        go_end0
        exact ⟨⟨_, rfl⟩, .inl (by rw [HM2.out]; exact hJr.out)⟩
      · go_wp2
        refine bodyPost_ret (results_none rfl _ _ _) rfl ?_
        exact ⟨⟨_, rfl⟩, .inl ⟨_, rfl, by rw [HM.out]; exact hJr.out⟩⟩
end Go.Proofs.Ytokdclbfjlnnjaa
/- A loop over the segments of a shape: one law for all of the program's. -/
namespace Go.Proofs.Ytokdclbfjlnnjaa
open Go.RowKit Go.BigFrame
attribute [local go_sem] Oper.semAt_some

/-- From A to B nothing below n has turned but the blocks X. -/
structure Kn (n : Nat) (X : Nat → Prop) (A B : World) : Prop where
  os : B.os = A.os
  tape : B.tape = A.tape
  output : B.output = A.output
  size : A.heap.size ≤ B.heap.size
  block : ∀ j, j < n → ¬ X j → B.heap[j]? = A.heap[j]?
def Kx (X : Nat → Prop) (A B : World) : Prop := Kn A.heap.size X A B
theorem Kn.refl (n : Nat) (X : Nat → Prop) (A : World) : Kn n X A A := ⟨rfl, rfl, rfl, Nat.le_refl _, fun _ _ _ => rfl⟩
theorem Kn.trans {n : Nat} {X : Nat → Prop} {A B C : World} (h : Kn n X A B) (k : Kn n X B C) : Kn n X A C :=
  ⟨k.os.trans h.os, k.tape.trans h.tape, k.output.trans h.output, Nat.le_trans h.size k.size, fun j h1 h2 => (k.block j h1 h2).trans (h.block j h1 h2)⟩
theorem Kn.mono {n m : Nat} {X : Nat → Prop} {A B : World} (h : Kn n X A B) (hm : m ≤ n) : Kn m X A B := { h with block := fun j h1 h2 => h.block j (by omega) h2 }
theorem Kx.kn {n : Nat} {X : Nat → Prop} {A B : World} (h : Kx X A B) (hn : n ≤ A.heap.size) : Kn n X A B := Kn.mono h hn
theorem Kx.trans {X : Nat → Prop} {A B C : World} (h : Kx X A B) (k : Kx X B C) : Kx X A C := Kn.trans h (k.kn h.size)
theorem Kx.refl (X : Nat → Prop) (A : World) : Kx X A A := Kn.refl _ _ _
theorem aft_kx {X : Nat → Prop} {A B : World} (h : Aft A B) : Kx X A B := ⟨h.os, h.tape, h.output, h.size, fun j h1 _ => h.block j h1⟩
theorem Kx.setCell {X : Nat → Prop} {A : World} {p : Addr} (u : Value) (hX : X p.block) : Kx X A (A.setCell p u) :=
  ⟨rfl, rfl, rfl, by show A.heap.size ≤ (A.heap.modify _ _).size; rw [Array.size_modify]; exact Nat.le_refl _, fun j _ h2 => Below.heap_setCell A p u j (fun e => h2 (e ▸ hX))⟩
theorem Kx.keeps {n : Nat} {X : Nat → Prop} {A B : World} (h : Kx X A B) (hX : ∀ j, X j → j < n) : KeepsFrom n A B :=
  ⟨h.size, fun k o hk ho _ => (h.block k (Array.getElem?_eq_some_iff.1 ho).1 (fun hx => by have := hX k hx; omega)).trans ho⟩
theorem Kx.sub {X Y : Nat → Prop} {A B : World} (h : Kx X A B) (hs : ∀ j, X j → Y j) : Kx Y A B := { h with block := fun j h1 h2 => h.block j h1 fun hx => h2 (hs j hx) }

theorem Prs.same {w A B : World} {v : Value} {l : List Pt} (h0 : Prs w v l) (hA : Prs A v l) (hs : ∀ j, j < w.heap.size → B.heap[j]? = A.heap[j]?) : Prs B v l := by
  obtain ⟨a, c, rfl, h0⟩ := h0
  obtain ⟨a', c', e, hA⟩ := hA
  simp only [Value.slice.injEq, true_and] at e
  obtain ⟨rfl, rfl⟩ := e
  refine ⟨a, c, rfl, { hA with rd := fun j u hj => ?_ }⟩
  obtain ⟨ad, e1, h1⟩ := hA.rd j u hj
  obtain ⟨ad', e2, h2⟩ := h0.rd j u hj
  rw [e1] at e2
  cases e2
  exact ⟨ad, e1, (World.cell?_of_block (hs _ (World.block_lt_of_cell? _ _ h2))).trans h1⟩

/-- How a round may be left. -/
def segPost (X : Nat → Prop) (C : List Nat → World → Prop) (Cx : Code → List Nat → World → Prop) (xs : List Nat) (W : World) : Exit → Act → World → Prop
  | .normal, _, W' => Kx X W W' ∧ C xs W'
  | .ret, _, W' => Kx X W W' ∧ Cx .ret xs W'
  | .exit id, _, W' => Kx X W W' ∧ Cx (.exit id) xs W'
  | .goto t, _, W' => Kx X W W' ∧ Cx (.goto t) xs W'
  | .panic _, _, _ => False
  | .outgrown, _, _ => False

/-- What turns on the blocks X alone. -/
def OnX (X : Nat → Prop) {β : Type} (C : β → World → Prop) : Prop := ∀ s A B, C s A → (∀ j, X j → B.heap[j]? = A.heap[j]?) → C s B

section
variable {X : Nat → Prop} {w₀ w : World} {Bs : Nat} {k : Int} {vp : Value} {l : List Pt}

theorem kn_box (hP : Prs w₀ vp l) (hw : w₀.heap.size ≤ w.heap.size) (hX : ∀ j, X j → w₀.heap.size ≤ j ∧ j < w.heap.size ∧ j ≠ Bs) (hB : Bs < w.heap.size) :
    ∀ A B, Kn w.heap.size X A B → ShBox A Bs k vp l → ShBox B Bs k vp l := fun A B h hA => by
  have hb := h.block Bs hB (fun hx => (hX Bs hx).2.2 rfl)
  exact ⟨(World.cell?_of_block (a := ⟨Bs, 0, none⟩) hb).trans hA.kind, (World.cell?_of_block (a := ⟨Bs, 1, none⟩) hb).trans hA.pts, Prs.same hP hA.prs fun j hj => h.block j (by omega) fun hx => by have := (hX j hx).1; omega⟩

theorem own_kn {β : Type} {C : β → World → Prop} (hX : ∀ j, X j → j < w.heap.size) (hC : OnX X C) : OwnFrom w.heap.size (fun (s : β) W => Kn w.heap.size X w W ∧ C s W) := fun s A B row hs hg hr => by
  obtain ⟨h1, h2⟩ := hs
  have hne : ∀ j, j < w.heap.size → B.heap[j]? = A.heap[j]? := fun j hj => hg.block j (by have := h1.size; omega) (fun e => by have := (hr j e.symm).1; omega)
  exact ⟨⟨hg.os.trans h1.os, hg.tape.trans h1.tape, hg.output.trans h1.output, Nat.le_trans h1.size hg.size, fun j hj hx => (hne j hj).trans (h1.block j hj hx)⟩, hC s A B h2 fun j hx => hne j (hX j hx)⟩

def SegAt (mk : Nat → Int → Int → Int → Int → Act) (w : World) (l : List Pt) (i : Nat) (a' : Act) (W : World) : Prop := ∃ Bx, w.heap.size ≤ Bx ∧ B4 W Bx (sgZ l i).1.1 (sgZ l i).1.2 (sgZ l i).2.1 (sgZ l i).2.2 ∧ a' = mk Bx (sgZ l i).1.1 (sgZ l i).1.2 (sgZ l i).2.1 (sgZ l i).2.2
theorem segAt_own (mk : Nat → Int → Int → Int → Int → Act) (i : Nat) (a' : Act) : OwnFrom w.heap.size (fun (_ : Unit) W => SegAt mk w l i a' W) := fun _ A B row hs hg hr => by
  obtain ⟨Bx, h1, ⟨⟨c1, c2⟩, c3, c4⟩, h3⟩ := hs
  have hr' := fun r e => (hr r e).2
  exact ⟨Bx, h1, ⟨⟨cell_kept c1 hg hr', cell_kept c2 hg hr'⟩, cell_kept c3 hg hr', cell_kept c4 hg hr'⟩, h3⟩

theorem kn_b (W : World) (y : Nat) (o o' : Obj) (hy : w.heap.size ≤ y) (_ : W.heap[y]? = some o) (_ : o.isCells = false) (_ : o.isWalk = false) : Kn w.heap.size X W (W.putObj y o') :=
  ⟨rfl, rfl, rfl, by simp, fun j hj _ => World.putObj_heap_other (by omega)⟩

theorem segPost_own {C : List Nat → World → Prop} {Cx : Code → List Nat → World → Prop} {xs : List Nat} {W : World} (hX : ∀ j, X j → j < w.heap.size) (hW : Kn w.heap.size X w W) :
    ∀ (e : Exit) (a : Act) (W' : World), segPost X C Cx xs W e a W' → ownPostG w.heap.size (Kn w.heap.size X) (fun s W => Kn w.heap.size X w W ∧ C s W) (fun c s W => Kn w.heap.size X w W ∧ Cx c s W) xs W e a W'
  | .normal, _, _, h => ⟨h.1.keeps hX, h.1.kn hW.size, hW.trans (h.1.kn hW.size), h.2⟩
  | .ret, _, _, h => ⟨h.1.keeps hX, hW.trans (h.1.kn hW.size), h.2⟩
  | .exit _, _, _, h => ⟨h.1.keeps hX, hW.trans (h.1.kn hW.size), h.2⟩
  | .goto _, _, _, h => ⟨h.1.keeps hX, hW.trans (h.1.kn hW.size), h.2⟩

/-- A loop over the segments of a shape. -/
theorem wp_segs {g : Operand} {p : Tmp} {assign body : Code} {Q : Exit → Act → World → Prop} {a : Act}
    (hP : Prs w₀ vp l) (hw : w₀.heap.size ≤ w.heap.size) (hsm : l.length ≤ 1000) (hB : ShBox w Bs k vp l) (hX : ∀ j, X j → w₀.heap.size ≤ j ∧ j < w.heap.size ∧ j ≠ Bs)
    (hg : a.eval g = .func (.func 116) #[] #[.pointer (some ⟨Bs, 0, none⟩)])
    (C : List Nat → World → Prop) (Cx : Code → List Nat → World → Prop) (hC : OnX X C) (hCx : ∀ c, OnX X (Cx c)) (h0 : C [] w) (mk : Nat → Int → Int → Int → Int → Act)
    (hassign : ∀ (y : Nat) (ax ay bx by_ : Int) (W : World) (K : Act → World → Prop), (∀ Bx W', Aft W W' → W.heap.size ≤ Bx → B4 W' Bx ax ay bx by_ → K (mk Bx ax ay bx by_) W') →
      assign.wpIn (Fence.wide.inRound y) 7 Try.prog (Exit.then K (fun _ _ _ => False)) { tmps := a.tmps.setIfInBounds p (.agg #[.int .i64 ax, .int .i64 ay, .int .i64 bx, .int .i64 by_]), defers := [] } W)
    (hbody : ∀ (y : Nat) (pre : List Nat) (i Bx : Nat) (ax ay bx by_ : Int) (W : World), Hid (sgZ l i = ((ax, ay), (bx, by_))) → w.heap.size ≤ y → (∃ r, W.heap[y]? = some (.loop r)) → Kn w.heap.size X w W → C pre W → w.heap.size ≤ Bx → B4 W Bx ax ay bx by_ → pre.length < nSeg k l →
      body.wpIn (Fence.wide.inRound y) 7 Try.prog (segPost X C Cx (pre ++ [i]) W) (mk Bx ax ay bx by_) W)
    (hdone : ∀ (D : Nat) (W : World), w.heap.size ≤ D → Kn w.heap.size X w W → C (List.range (nSeg k l)) W → W.heap[D]? = some (.deferred (some [])) → Q .normal { a with defers := { target := .collected D, args := #[] } :: a.defers } W)
    (hstop : ∀ (D : Nat) (c : Code) (m : Nat) (W : World), w.heap.size ≤ D → m ≤ nSeg k l → Kn w.heap.size X w W → Cx c (List.range m) W → W.heap[D]? = some (.deferred (some [])) → c.wp Try.prog Q { a with defers := { target := .collected D, args := #[] } :: a.defers } W) :
    (Code.rangeFunc g #[p] assign body).wp Try.prog Q a w := by
  have hXn : ∀ j, X j → j < w.heap.size := fun j h => (hX j h).2.1
  have hBs := World.block_lt_of_cell? _ _ hB.kind
  refine (wpIn_wide (n := 9)).1 (wpIn_rangeFunc_ownH (F := Fence.wide) (n := 9) rfl (by omega) (gf := 116) (lb := #[.pointer (some ⟨Bs, 0, none⟩)]) hg trivial (Go.Proofs.enters_of Try.func116 (by kernel_rfl) rfl)
    (segs1_any 8 (by omega) k l vp Bs (Kn w.heap.size X) w hB hsm (kn_box hP hw hX hBs)) (fun h k => h.trans k) kn_b (Below.refl _ _) (fun _ => rfl)
    (fun s W => Kn w.heap.size X w W ∧ C s W) (fun c s W => Kn w.heap.size X w W ∧ Cx c s W) (own_kn hXn hC) (fun c => own_kn hXn (hCx c)) ⟨Kn.refl _ _ _, h0⟩ (SegAt mk w l) (segAt_own mk) ?_ ?_ ?_ ?_)
  · intro y pre i W K hI hK
    have e : (#[p].zip #[segV (sgZ l i)]).foldl (fun t (x : Tmp × Value) => t.setIfInBounds x.1 x.2) a.tmps = a.tmps.setIfInBounds p (segV (sgZ l i)) := by simp
    refine (show _ from e ▸ hassign y _ _ _ _ W K fun Bx W' h1 h2 h3 => ?_)
    have hkx : Kx X W W' := aft_kx h1
    refine hK _ _ (hkx.keeps hXn) (hkx.kn hI.1.size) ⟨hI.1.trans (hkx.kn hI.1.size), hC _ _ _ hI.2 fun j hx => h1.block j (by have := hI.1.size; have := hXn j hx; omega)⟩ ⟨Bx, by have := hI.1.size; omega, h3, rfl⟩
  · rintro y pre i a' W hy hr ⟨hI, hC'⟩ ⟨Bx, hBx, h4, rfl⟩ hlen
    exact wpIn_mono (hbody y pre i Bx _ _ _ _ W rfl hy hr hI hC' hBx h4 hlen) (segPost_own hXn hI)
  · rintro D xs W hD rfl ⟨hI, hC'⟩ hd
    exact hdone D W hD hI hC' hd
  · rintro D c pre W hD ⟨m, hm, rfl⟩ ⟨hI, hC'⟩ hd
    exact wpIn_wide.2 (hstop D c m W hD hm hI hC' hd)
end

/-- A function whose body holds such loops. -/
theorem calls_of_wp_segs {f : FuncId} {fn : Func} {c : Code} {args : Array Value} {w : World} {R : Ending → World → Prop} (hf : Try.prog.funcs[f]? = some fn) (hb : fn.body = some c)
    (h : c.wp Try.prog (bodyPostM Fence.wide 9 Try.prog fn R) { tmps := args ++ Array.replicate (fn.ntmps - args.size) undef, defers := [] } w) : Calls Try.prog f args w R :=
  (callsIn_wide (n := 9)).1 (callsIn_of_wp_marks hf hb trivial (wpIn_wide.2 h) rfl)
theorem kn_end {w W2 W : World} {X : Nat → Prop} {D : Nat} {o : Obj} (h : Aft w W2) (hX : ∀ j, X j → w.heap.size ≤ j) (hk : Kn W2.heap.size X W2 W) (hD : W2.heap.size ≤ D) : Aft w (W.putObj D o) :=
  ⟨hk.os.trans h.os, hk.tape.trans h.tape, hk.output.trans h.output, by have := h.size; have := hk.size; simp; omega, fun j hj => by
    have := h.size
    rw [World.putObj_heap_other (by omega), hk.block j (by omega) (fun hx => by have := hX j hx; omega), h.block j hj]⟩
end Go.Proofs.Ytokdclbfjlnnjaa
/- The program's Length, within, Inside. -/
namespace Go.Proofs.Ytokdclbfjlnnjaa
open Go.RowKit Go.BigFrame
attribute [local go_sem] Oper.semAt_some

theorem run_max_int4 (P : Program) (w : World) (ts : Array TypeId) (t : TypeId) (x y z u : Int) : (Builtin.max_ ts t #[.int .i64 x, .int .i64 y, .int .i64 z, .int .i64 u]).run P w = .ok (.int .i64 (max (max x y) (max z u))) w := by
  have h : (Builtin.max_ ts t #[.int .i64 x, .int .i64 y, .int .i64 z, .int .i64 u]).run P w = .ok (.int .i64 (if u > (if z > (if y > x then y else x) then z else (if y > x then y else x)) then u else (if z > (if y > x then y else x) then z else (if y > x then y else x)))) w := by
    simp [Builtin.max_, Builtin.max2]
  rw [h]
  congr 2
  omega

theorem nSeg_le (k : Int) (l : List Pt) : nSeg k l ≤ l.length := by unfold nSeg; split <;> (try split) <;> omega

def ScL (l : List Pt) : Prop := ∀ p ∈ l, Sc p.1 ∧ Sc p.2
theorem ptZ_sc {l : List Pt} (h : ScL l) (i : Nat) : Sc (ptZ l i).1 ∧ Sc (ptZ l i).2 := by
  unfold ptZ
  rcases Nat.lt_or_ge (i % l.length) l.length with hh | hh
  · rw [List.getD_eq_getElem?_getD, List.getElem?_eq_getElem hh]
    exact h _ (List.getElem_mem hh)
  · rw [List.getD_eq_getElem?_getD, List.getElem?_eq_none hh]
    simp [Sc]
theorem sgZ_sc {l : List Pt} (h : ScL l) (i : Nat) : Sc (sgZ l i).1.1 ∧ Sc (sgZ l i).1.2 ∧ Sc (sgZ l i).2.1 ∧ Sc (sgZ l i).2.2 :=
  ⟨(ptZ_sc h i).1, (ptZ_sc h i).2, (ptZ_sc h (i + 1)).1, (ptZ_sc h (i + 1)).2⟩

def slen (s : Pt × Pt) : Int := max (max (s.2.1 - s.1.1) (-(s.2.1 - s.1.1))) (max (s.2.2 - s.1.2) (-(s.2.2 - s.1.2)))
def lenS (l : List Pt) : List Nat → Int
  | [] => 0
  | i :: pre => slen (sgZ l i) + lenS l pre
theorem lenS_snoc (l : List Pt) : ∀ (pre : List Nat) (i : Nat), lenS l (pre ++ [i]) = lenS l pre + slen (sgZ l i)
  | [], i => by simp [lenS]
  | j :: pre, i => by simp only [List.cons_append, lenS, lenS_snoc l pre i]; omega
theorem slen_bd {s : Pt × Pt} (h : Sc s.1.1 ∧ Sc s.1.2 ∧ Sc s.2.1 ∧ Sc s.2.2) : 0 ≤ slen s ∧ slen s ≤ 10000 := by
  obtain ⟨h1, h2, h3, h4⟩ := h
  unfold Sc at *
  unfold slen
  omega
theorem lenS_bd {l : List Pt} (h : ScL l) : ∀ pre : List Nat, 0 ≤ lenS l pre ∧ lenS l pre ≤ 10000 * pre.length
  | [] => by simp [lenS]
  | i :: pre => by
    have h1 := slen_bd (sgZ_sc h i)
    have h2 := lenS_bd h pre
    simp only [lenS, List.length_cons]
    omega
def lengthZ (k : Int) (l : List Pt) : Int := lenS l (List.range (nSeg k l))

theorem onX_cell {β : Type} (b : Nat) (f : β → Value) : OnX (fun j => j = b) (fun s W => W.cell? ⟨b, 0, none⟩ = some (f s) ∧ W.frozen? ⟨b, 0, none⟩ = false) := fun _ _ _ h hb =>
  ⟨(World.cell?_of_block (a := ⟨b, 0, none⟩) (hb b rfl)).trans h.1, (World.frozen?_of_block (a := ⟨b, 0, none⟩) (hb b rfl)).trans h.2⟩

set_option maxRecDepth 100000 in
set_option maxHeartbeats 2000000 in
theorem length_any (k : Int) (vp : Value) (l : List Pt) (w : World) (hl : Prs w vp l) (hsm : l.length ≤ 1000) (hsc : ScL l) :
    Calls Try.prog 37 #[.agg #[.int .i64 k, vp]] w fun e w' => e = .returned (.int .i64 (lengthZ k l)) ∧ Aft w w' := by
  have hP := hl
  obtain ⟨a, c, rfl, hl⟩ := hl
  obtain ⟨W0, eW0, hw0, hlt, hbox⟩ := one_box w #[.int .i64 k, .slice a l.length c] 51
  refine calls_of_wp_segs Try.func37 rfl ?_
  simp only [Try.ntmps37, List.size_toArray, List.length_cons, List.length_nil, Nat.reduceAdd, Nat.reduceSub, Array.replicate_succ, Array.replicate_zero, List.push_toArray, List.append_toArray, List.nil_append, List.cons_append]
  go_upto_region 1 with fail
  clear eW0
  have hF : Hid (∀ W, Aft W0 W → W.cell? ⟨w.heap.size, 0, none⟩ = some (.int .i64 k) ∧ W.cell? ⟨w.heap.size, 1, none⟩ = some (.slice a l.length c)) := hid fun W hW => ⟨hbox.out W hW 0 _ rfl, hbox.out W hW 1 _ rfl⟩
  clear hbox
  go_upto_region 2 with fail
  have hc0 := cell_new W0 #[.int .i64 0] 3 0 _ rfl
  have hf0 := frozen_new W0 #[.int .i64 0] 3 0
  have hs1 := size_new W0 (.cells #[.int .i64 0] 3)
  have hw1 := (Aft.refl W0).alloc (.cells #[.int .i64 0] 3)
  generalize hW1 : W0.alloc (.cells #[.int .i64 0] 3) = W1 at *
  obtain ⟨p1, p2⟩ := hF.out W1 hw1
  have hw01 := hw0.trans hw1
  generalize hn3 : W0.heap.size = n3 at *
  go_wp2_with fail
  refine (segments_fn k _ W1).mono ?_
  rintro e W2 ⟨rfl, hW2⟩
  have hB : ShBox W2 W1.heap.size k (.slice a l.length c) l := by
    rw [← hW2]
    exact ⟨cell_new _ _ _ _ _ rfl, cell_new _ _ _ _ _ rfl, (hP.aft hw01).aft ((Aft.refl _).alloc _)⟩
  have hw12 : Aft W1 W2 := hW2 ▸ (Aft.refl W1).alloc _
  have hs2 : W1.heap.size < W2.heap.size := hW2 ▸ size_new _ _
  have hc2 : W2.cell? ⟨n3, 0, none⟩ = some (.int .i64 0) := (hw12.cell hs1).trans hc0
  have hf2 : W2.frozen? ⟨n3, 0, none⟩ = false := (hw12.frozen hs1).trans hf0
  have hz := hw0.size
  clear hW2 hW1
  go_wp2
  refine wp_segs (w₀ := w) (X := fun j => j = n3) hP (by have := hw12.size; omega) hsm hB (fun j hj => by subst hj; omega) rfl
    (fun pre W => W.cell? ⟨n3, 0, none⟩ = some (.int .i64 (lenS l pre)) ∧ W.frozen? ⟨n3, 0, none⟩ = false) (fun _ _ _ => False) (onX_cell n3 fun pre => .int .i64 (lenS l pre)) (fun _ _ _ _ h _ => h) ⟨hc2, hf2⟩ (fun Bx ax ay bx by_ => { tmps := #[.agg #[.int .i64 k, .slice a l.length c], .pointer (some ⟨w.heap.size, 0, none⟩), .int .i64 0, .pointer (some ⟨n3, 0, none⟩), .pointer (some ⟨Bx, 0, none⟩), undef, undef, .agg #[.int .i64 k, .slice a l.length c], .func (.func 116) #[] #[.pointer (some ⟨W1.heap.size, 0, none⟩)], .agg #[.int .i64 ax, .int .i64 ay, .int .i64 bx, .int .i64 by_], undef, undef, undef, undef, undef, undef, undef, undef, undef, undef, undef, undef, undef, undef, undef, undef, undef, undef, undef, undef, undef, undef, undef, undef], defers := [] }) ?assign ?body ?done ?stop
  case assign =>
    intro y ax ay bx by_ W K hK
    gi_wp2
    exact hK _ _ ((Aft.refl W).alloc _) (Nat.le_refl _) ⟨⟨cell_new _ _ _ _ _ rfl, cell_new _ _ _ _ _ rfl⟩, cell_new _ _ _ _ _ rfl, cell_new _ _ _ _ _ rfl⟩
  case body =>
    rintro y pre i Bx ax ay bx by_ W hs hy hr hKn ⟨hcc, hff⟩ hBx h4 hlen
    have hsc4 := sgZ_sc hsc i
    have hlb := lenS_bd hsc pre
    have hns := nSeg_le k l
    have hsn := lenS_snoc l pre i
    rw [hs.out] at hsc4 hsn
    obtain ⟨⟨q1, q2⟩, q3, q4⟩ := h4
    obtain ⟨⟨u1, u1'⟩, ⟨u2, u2'⟩, ⟨u3, u3'⟩, u4, u4'⟩ := hsc4
    have hmx := @run_max_int4 Try.prog
    gi_wp2_with fail
    refine wpIn_region_flow (Fence.free_wide.inRound y) _ (Aft.refl _) [FV.is (.pointer (some ⟨Bx, 2, none⟩)), FV.is (.pointer (some ⟨Bx, 2, none⟩)), FV.is (.int .i64 bx), FV.is (.pointer (some ⟨Bx, 0, none⟩)), FV.is (.pointer (some ⟨Bx, 0, none⟩)), FV.is (.int .i64 ax), FV.is (.int .i64 (bx - ax)), FV.is (.pointer (some ⟨Bx, 2, none⟩)), FV.is (.pointer (some ⟨Bx, 3, none⟩)), FV.is (.int .i64 by_), FV.is (.pointer (some ⟨Bx, 0, none⟩)), FV.is (.pointer (some ⟨Bx, 1, none⟩)), FV.is (.int .i64 ay), FV.is (.int .i64 (by_ - ay)), FV.is (.int .i64 (bx - ax)), FV.is (.int .i64 (by_ - ay))]
      [(0, 10), (1, 11), (2, 12), (3, 13), (4, 14), (5, 15), (6, 16), (7, 17), (8, 18), (9, 19), (10, 20), (11, 21), (12, 22), (13, 23), (14, 5), (15, 6)]
      [[], [(0, 10)], [(1, 11)], [], [(3, 13)], [(4, 14)], [(2, 12), (5, 15)], [], [(7, 17)], [(8, 18)], [], [(10, 20)], [(11, 21)], [(9, 19), (12, 22)], [(6, 16)], [(13, 23)]] (by kernel_rfl) (by kernel_rfl) (by kernel_rfl) ?_ ?_
    · refine flowObs_cons (fun W hW => flowOb_nil ?_) ?_
      · go_wp2
        exact ⟨rfl, Aft.refl W⟩
      refine flowObs_cons (fun W hW => flowOb_cons fun v0 h0 => flowOb_nil ?_) ?_
      · obtain rfl := h0
        go_wp2
        exact ⟨rfl, Aft.refl W⟩
      refine flowObs_cons (fun W hW => flowOb_cons fun v0 h0 => flowOb_nil ?_) ?_
      · obtain rfl := h0
        have q1W := (hW.cell (World.block_lt_of_cell? _ _ q1)).trans q1
        have q2W := (hW.cell (World.block_lt_of_cell? _ _ q2)).trans q2
        have q3W := (hW.cell (World.block_lt_of_cell? _ _ q3)).trans q3
        have q4W := (hW.cell (World.block_lt_of_cell? _ _ q4)).trans q4
        go_wp2
        exact ⟨rfl, Aft.refl W⟩
      refine flowObs_cons (fun W hW => flowOb_nil ?_) ?_
      · go_wp2
        exact ⟨rfl, Aft.refl W⟩
      refine flowObs_cons (fun W hW => flowOb_cons fun v0 h0 => flowOb_nil ?_) ?_
      · obtain rfl := h0
        go_wp2
        exact ⟨rfl, Aft.refl W⟩
      refine flowObs_cons (fun W hW => flowOb_cons fun v0 h0 => flowOb_nil ?_) ?_
      · obtain rfl := h0
        have q1W := (hW.cell (World.block_lt_of_cell? _ _ q1)).trans q1
        have q2W := (hW.cell (World.block_lt_of_cell? _ _ q2)).trans q2
        have q3W := (hW.cell (World.block_lt_of_cell? _ _ q3)).trans q3
        have q4W := (hW.cell (World.block_lt_of_cell? _ _ q4)).trans q4
        go_wp2
        exact ⟨rfl, Aft.refl W⟩
      refine flowObs_cons (fun W hW => flowOb_cons fun v0 h0 => flowOb_cons fun v1 h1 => flowOb_nil ?_) ?_
      · obtain rfl := h0
        obtain rfl := h1
        go_wp2
        exact ⟨rfl, Aft.refl W⟩
      refine flowObs_cons (fun W hW => flowOb_nil ?_) ?_
      · go_wp2
        exact ⟨rfl, Aft.refl W⟩
      refine flowObs_cons (fun W hW => flowOb_cons fun v0 h0 => flowOb_nil ?_) ?_
      · obtain rfl := h0
        go_wp2
        exact ⟨rfl, Aft.refl W⟩
      refine flowObs_cons (fun W hW => flowOb_cons fun v0 h0 => flowOb_nil ?_) ?_
      · obtain rfl := h0
        have q1W := (hW.cell (World.block_lt_of_cell? _ _ q1)).trans q1
        have q2W := (hW.cell (World.block_lt_of_cell? _ _ q2)).trans q2
        have q3W := (hW.cell (World.block_lt_of_cell? _ _ q3)).trans q3
        have q4W := (hW.cell (World.block_lt_of_cell? _ _ q4)).trans q4
        go_wp2
        exact ⟨rfl, Aft.refl W⟩
      refine flowObs_cons (fun W hW => flowOb_nil ?_) ?_
      · go_wp2
        exact ⟨rfl, Aft.refl W⟩
      refine flowObs_cons (fun W hW => flowOb_cons fun v0 h0 => flowOb_nil ?_) ?_
      · obtain rfl := h0
        go_wp2
        exact ⟨rfl, Aft.refl W⟩
      refine flowObs_cons (fun W hW => flowOb_cons fun v0 h0 => flowOb_nil ?_) ?_
      · obtain rfl := h0
        have q1W := (hW.cell (World.block_lt_of_cell? _ _ q1)).trans q1
        have q2W := (hW.cell (World.block_lt_of_cell? _ _ q2)).trans q2
        have q3W := (hW.cell (World.block_lt_of_cell? _ _ q3)).trans q3
        have q4W := (hW.cell (World.block_lt_of_cell? _ _ q4)).trans q4
        go_wp2
        exact ⟨rfl, Aft.refl W⟩
      refine flowObs_cons (fun W hW => flowOb_cons fun v0 h0 => flowOb_cons fun v1 h1 => flowOb_nil ?_) ?_
      · obtain rfl := h0
        obtain rfl := h1
        go_wp2
        exact ⟨rfl, Aft.refl W⟩
      refine flowObs_cons (fun W hW => flowOb_cons fun v0 h0 => flowOb_nil ?_) ?_
      · obtain rfl := h0
        go_wp2
        exact ⟨rfl, Aft.refl W⟩
      refine flowObs_cons (fun W hW => flowOb_cons fun v0 h0 => flowOb_nil ?_) flowObs_nil
      · obtain rfl := h0
        go_wp2
        exact ⟨rfl, Aft.refl W⟩
    · intro W' hW'
      iterate 14 refine flowEndIn_cons fun _ _ => ?_
      refine flowEndIn_cons fun v h => flowEndIn_cons fun v' h' => flowEndIn_nil ?_
      obtain rfl := h
      obtain rfl := h'
      simp only [Act.put, List.setIfInBounds_toArray, List.set_cons_succ, List.set_cons_zero]
      have hcc' := (hW'.cell (World.block_lt_of_cell? _ _ hcc)).trans hcc
      have hff' := (hW'.frozen (World.block_lt_of_cell? _ _ hcc)).trans hff
      have hk1 := aft_kx (X := fun j => j = n3) hW'
      gi_wp2
      have hval : lenS l pre + max (bx - ax) (max (-(bx - ax)) (max (by_ - ay) (-(by_ - ay)))) = lenS l (pre ++ [i]) := by
        rw [hsn]
        unfold slen
        simp only
        omega
      rw [hval]
      exact ⟨hk1.trans (Kx.setCell _ rfl), World.cell?_setCell_same' _ _ _ (by rw [hcc']; rfl), by rw [World.frozen?_setCell]; exact hff'⟩
  case done =>
    rintro D W hD hKn ⟨hcc, hff⟩ hd
    have hfin := kn_end (o := .deferred none) (hw01.trans hw12) (fun j hj => by subst hj; omega) hKn hD
    go_wp2
    refine ⟨by simp, .inl ⟨_, _, rfl, run_takeDeferred hd, ?_⟩⟩
    exact ⟨_, results_tmp rfl _ _ _, rfl, hfin⟩
  case stop =>
    rintro D cd m W _ _ _ h _
    exact h.elim
end Go.Proofs.Ytokdclbfjlnnjaa
/- The program's within: whether a point is strictly inside of an Area. -/
namespace Go.Proofs.Ytokdclbfjlnnjaa
open Go.RowKit Go.BigFrame
attribute [local go_sem] Oper.semAt_some

theorem results_cell1 {fn : Func} {p : Tmp} (h : fn.results = #[.cell p 4]) (tmps : Array Value) (w : World) (b : Nat) (v : Bool) (hp : tmps.getD p undef = .pointer (some ⟨b, 0, none⟩)) (hc : w.cell? ⟨b, 0, none⟩ = some (.bool v)) :
    (results fn tmps).run Try.prog w = .ok (.bool v) w := by
  have hp' : tmps[p]?.getD undef = .pointer (some ⟨b, 0, none⟩) := by simpa using hp
  simp only [Go.results, h]
  simp [hp', asAddr, go_sem, hc]
theorem end_cell {W : World} {D b : Nat} {v : Value} (hc : W.cell? ⟨b, 0, none⟩ = some v) (hd : W.heap[D]? = some (.deferred (some []))) : (W.putObj D (.deferred none)).cell? ⟨b, 0, none⟩ = some v :=
  cell_kept hc (grownBy_putObj' _ D _) (fun r e => by cases e; exact ⟨_, hd, rfl⟩)
def wind1 (p : Pt) (s : Pt × Pt) : Int := if s.1.2 ≤ p.2 ∧ p.2 < s.2.2 ∧ 0 < crossZ s.1 s.2 p then 1 else if p.2 < s.1.2 ∧ s.2.2 ≤ p.2 ∧ crossZ s.1 s.2 p < 0 then -1 else 0
def windS (p : Pt) (l : List Pt) : List Nat → Int
  | [] => 0
  | i :: pre => wind1 p (sgZ l i) + windS p l pre
theorem windS_snoc (p : Pt) (l : List Pt) : ∀ (pre : List Nat) (i : Nat), windS p l (pre ++ [i]) = windS p l pre + wind1 p (sgZ l i)
  | [], i => by simp [windS]
  | j :: pre, i => by simp only [List.cons_append, windS, windS_snoc p l pre i]; omega
theorem wind1_bd (p : Pt) (s : Pt × Pt) : -1 ≤ wind1 p s ∧ wind1 p s ≤ 1 := by unfold wind1; split <;> (try split) <;> omega
theorem windS_bd (p : Pt) (l : List Pt) : ∀ pre : List Nat, -(pre.length : Int) ≤ windS p l pre ∧ windS p l pre ≤ pre.length
  | [] => by simp [windS]
  | i :: pre => by
    have h1 := wind1_bd p (sgZ l i)
    have h2 := windS_bd p l pre
    simp only [windS, List.length_cons]
    omega
def withinZ (p : Pt) (k : Int) (l : List Pt) : Bool := !((List.range (nSeg k l)).any fun i => onZ p (sgZ l i)) && (windS p l (List.range (nSeg k l)) != 0)

theorem Kn.cell {n : Nat} {X : Nat → Prop} {A B : World} (h : Kn n X A B) {b o : Nat} (hb : b < n) (hx : ¬ X b) : B.cell? ⟨b, o, none⟩ = A.cell? ⟨b, o, none⟩ := World.cell?_of_block (a := ⟨b, o, none⟩) (h.block b hb hx)

set_option maxRecDepth 100000 in
set_option maxHeartbeats 4000000 in
theorem within_any (px py k : Int) (vp : Value) (l : List Pt) (w : World) (hl : Prs w vp l) (hsm : l.length ≤ 1000) (hsc : ScL l) (hpx : Sc px) (hpy : Sc py) :
    Calls Try.prog 89 #[.agg #[.int .i64 px, .int .i64 py], .agg #[.int .i64 k, vp]] w fun e w' => e = .returned (.bool (withinZ (px, py) k l)) ∧ Aft w w' := by
  have hP := hl
  obtain ⟨a, c, rfl, hl⟩ := hl
  obtain ⟨W0, eW0, hw0, hlt, hbox⟩ := two_boxes w #[.int .i64 px, .int .i64 py] #[.int .i64 k, .slice a l.length c] 57 51
  refine calls_of_wp_segs Try.func89 rfl ?_
  simp only [Try.ntmps89, List.size_toArray, List.length_cons, List.length_nil, Nat.reduceAdd, Nat.reduceSub, Array.replicate_succ, Array.replicate_zero, List.push_toArray, List.append_toArray, List.nil_append, List.cons_append]
  go_upto_region 1 with fail
  clear eW0
  have hF : Hid (∀ W, Aft W0 W → B2 W w.heap.size px py ∧ W.cell? ⟨w.heap.size + 1, 0, none⟩ = some (.int .i64 k) ∧ W.cell? ⟨w.heap.size + 1, 1, none⟩ = some (.slice a l.length c)) := hid fun W hW =>
    ⟨⟨(hbox.out W hW).1 0 _ rfl, (hbox.out W hW).1 1 _ rfl⟩, (hbox.out W hW).2 0 _ rfl, (hbox.out W hW).2 1 _ rfl⟩
  clear hbox
  have hc0 : (W0.alloc (.cells #[.bool false] 4)).cell? ⟨W0.heap.size, 0, none⟩ = some (.bool false) := cell_new W0 #[.bool false] 4 0 _ rfl
  have hf0 := frozen_new W0 #[.bool false] 4 0
  have hs1 := size_new W0 (.cells #[.bool false] 4)
  have hw1 := (Aft.refl W0).alloc (.cells #[.bool false] 4)
  generalize hW1 : W0.alloc (.cells #[.bool false] 4) = W1 at *
  go_upto_region 2 with fail
  have hc1 : (W1.alloc (.cells #[.int .i64 0] 3)).cell? ⟨W1.heap.size, 0, none⟩ = some (.int .i64 0) := cell_new W1 #[.int .i64 0] 3 0 _ rfl
  have hf1 := frozen_new W1 #[.int .i64 0] 3 0
  have hs2 := size_new W1 (.cells #[.int .i64 0] 3)
  have hw2 := (Aft.refl W1).alloc (.cells #[.int .i64 0] 3)
  generalize hW3 : W1.alloc (.cells #[.int .i64 0] 3) = W3 at *
  clear hW1 hW3
  replace hc0 : W3.cell? ⟨W0.heap.size, 0, none⟩ = some (.bool false) := (hw2.cell hs1).trans hc0
  replace hf0 : W3.frozen? ⟨W0.heap.size, 0, none⟩ = false := (hw2.frozen hs1).trans hf0
  have hz0 := hw0.size
  have hz1 := hw1.size
  have hz2 := hw2.size
  have hw03 := hw0.trans (hw1.trans hw2)
  obtain ⟨⟨p1, p2⟩, p3, p4⟩ := hF.out W3 (hw1.trans hw2)
  generalize hn2 : w.heap.size = n2 at *
  generalize hn4 : W0.heap.size = n4 at *
  generalize hn5 : W1.heap.size = n5 at *
  go_wp2_with fail
  refine (segments_fn k _ W3).mono ?_
  rintro e W4 ⟨rfl, hW4⟩
  have hB : ShBox W4 W3.heap.size k (.slice a l.length c) l := by
    rw [← hW4]
    exact ⟨cell_new _ _ _ _ _ rfl, cell_new _ _ _ _ _ rfl, (hP.aft hw03).aft ((Aft.refl _).alloc _)⟩
  have hw34 : Aft W3 W4 := hW4 ▸ (Aft.refl W3).alloc _
  have hs4 : W3.heap.size < W4.heap.size := hW4 ▸ size_new _ _
  clear hW4
  replace hc0 : W4.cell? ⟨n4, 0, none⟩ = some (.bool false) := (hw34.cell (by omega)).trans hc0
  replace hf0 : W4.frozen? ⟨n4, 0, none⟩ = false := (hw34.frozen (by omega)).trans hf0
  replace hc1 : W4.cell? ⟨n5, 0, none⟩ = some (.int .i64 0) := (hw34.cell (by omega)).trans hc1
  replace hf1 : W4.frozen? ⟨n5, 0, none⟩ = false := (hw34.frozen (by omega)).trans hf1
  replace p1 : W4.cell? ⟨n2, 0, none⟩ = some (.int .i64 px) := (hw34.cell (by omega)).trans p1
  replace p2 : W4.cell? ⟨n2, 1, none⟩ = some (.int .i64 py) := (hw34.cell (by omega)).trans p2
  go_wp2
  refine wp_segs (w₀ := w) (X := fun j => j = n4 ∨ j = n5) hP (by omega) hsm hB (fun j hj => by rcases hj with rfl | rfl <;> omega) rfl
    (fun pre W => (W.cell? ⟨n4, 0, none⟩ = some (.bool false) ∧ W.frozen? ⟨n4, 0, none⟩ = false) ∧ (W.cell? ⟨n5, 0, none⟩ = some (.int .i64 (windS (px, py) l pre)) ∧ W.frozen? ⟨n5, 0, none⟩ = false) ∧ ∀ i ∈ pre, onZ (px, py) (sgZ l i) = false)
    (fun cd pre W => cd = .ret ∧ W.cell? ⟨n4, 0, none⟩ = some (.bool false) ∧ ∃ i ∈ pre, onZ (px, py) (sgZ l i) = true)
    (fun s A B h hx => ⟨⟨(World.cell?_of_block (a := ⟨n4, 0, none⟩) (hx n4 (.inl rfl))).trans h.1.1, (World.frozen?_of_block (a := ⟨n4, 0, none⟩) (hx n4 (.inl rfl))).trans h.1.2⟩, ⟨(World.cell?_of_block (a := ⟨n5, 0, none⟩) (hx n5 (.inr rfl))).trans h.2.1.1, (World.frozen?_of_block (a := ⟨n5, 0, none⟩) (hx n5 (.inr rfl))).trans h.2.1.2⟩, h.2.2⟩)
    (fun cd s A B h hx => ⟨h.1, (World.cell?_of_block (a := ⟨n4, 0, none⟩) (hx n4 (.inl rfl))).trans h.2.1, h.2.2⟩)
    ⟨⟨hc0, hf0⟩, ⟨hc1, hf1⟩, by simp⟩ (fun Bx ax ay bx by_ => { tmps := #[.agg #[.int .i64 px, .int .i64 py], .agg #[.int .i64 k, .slice a l.length c], .pointer (some ⟨n2, 0, none⟩), .pointer (some ⟨n2 + 1, 0, none⟩), .pointer (some ⟨n4, 0, none⟩), .pointer (some ⟨n5, 0, none⟩), .pointer (some ⟨Bx, 0, none⟩), .agg #[.int .i64 k, .slice a l.length c], .func (.func 116) #[] #[.pointer (some ⟨W3.heap.size, 0, none⟩)], .agg #[.int .i64 ax, .int .i64 ay, .int .i64 bx, .int .i64 by_], undef, undef, undef, undef, undef, undef, undef, undef, undef, undef, undef, undef, undef, undef, undef, undef, undef, undef, undef, undef, undef, undef, undef, undef, undef, undef, undef, undef, undef, undef, undef, undef, undef, undef, undef, undef, undef, undef, undef, undef, undef, undef, undef, undef, undef, undef, undef, undef, undef, undef, undef, undef, undef, undef, undef, undef, undef, undef], defers := [] }) ?assign ?body ?done ?stop
  case assign =>
    intro y ax ay bx by_ W K hK
    gi_wp2
    exact hK _ _ ((Aft.refl W).alloc _) (Nat.le_refl _) ⟨⟨cell_new _ _ _ _ _ rfl, cell_new _ _ _ _ _ rfl⟩, cell_new _ _ _ _ _ rfl, cell_new _ _ _ _ _ rfl⟩
  case body =>
    rintro y pre i Bx ax ay bx by_ W hs hy hr hKn ⟨⟨hcr, hfr⟩, ⟨hcc, hff⟩, hon⟩ hBx h4 hlen
    have hsc4 := sgZ_sc hsc i
    have hlb := windS_bd (px, py) l pre
    have hns := nSeg_le k l
    have hsn := windS_snoc (px, py) l pre i
    rw [hs.out] at hsc4 hsn
    obtain ⟨s1, s2, s3, s4⟩ := hsc4
    have hQ : Hid (∀ W', Aft W W' → B2 W' n2 px py ∧ B4 W' Bx ax ay bx by_ ∧ W'.cell? ⟨n4, 0, none⟩ = some (.bool false) ∧ W'.frozen? ⟨n4, 0, none⟩ = false ∧ W'.cell? ⟨n5, 0, none⟩ = some (.int .i64 (windS (px, py) l pre)) ∧ W'.frozen? ⟨n5, 0, none⟩ = false) := hid fun W' hW' => by
      have x1 := (hKn.cell (b := n2) (o := 0) (by omega) (by omega)).trans p1
      have x2 := (hKn.cell (b := n2) (o := 1) (by omega) (by omega)).trans p2
      obtain ⟨⟨y1, y2⟩, y3, y4⟩ := h4
      have tr : ∀ {b o : Nat} {v : Value}, W.cell? ⟨b, o, none⟩ = some v → W'.cell? ⟨b, o, none⟩ = some v := fun h => (hW'.cell (World.block_lt_of_cell? _ _ h)).trans h
      exact ⟨⟨tr x1, tr x2⟩, ⟨⟨tr y1, tr y2⟩, tr y3, tr y4⟩, tr hcr, (hW'.frozen (World.block_lt_of_cell? _ _ hcr)).trans hfr, tr hcc, (hW'.frozen (World.block_lt_of_cell? _ _ hcc)).trans hff⟩
    clear h4 hcr hfr hcc hff p1 p2 p3 p4
    obtain ⟨⟨x1, x2⟩, ⟨⟨q1, q2⟩, q3, q4⟩, hcr, hfr, hcc, hff⟩ := hQ.out W (Aft.refl W)
    gi_wp2_with fail
    refine ⟨trivial, CallsIn.mono (CallsIn.inRound y (callsIn_wide.2 (on_any _ s1 s2 s3 s4 hpx hpy))) ?_⟩
    rintro e w1 ⟨rfl, hw1⟩
    clear x1 x2 q1 q2 q3 q4 hcr hfr hcc hff
    obtain ⟨⟨x1, x2⟩, ⟨⟨q1, q2⟩, q3, q4⟩, hcr, hfr, hcc, hff⟩ := hQ.out w1 hw1
    have hk1 : Kx (fun j => j = n4 ∨ j = n5) W w1 := aft_kx hw1
    obtain ⟨o, ho⟩ : ∃ o, onZ (px, py) ((ax, ay), (bx, by_)) = o := ⟨_, rfl⟩
    rw [ho]
    have HO := hid ho
    clear ho
    cases o
    case true =>
      gi_wp2
      exact ⟨hk1.trans (Kx.setCell _ (.inl rfl)), rfl, World.cell?_setCell_same' _ _ _ (by rw [hcr]; rfl), i, by simp, by rw [hs.out]; exact HO.out⟩
    case false =>
      have hon' : Hid (∀ j ∈ pre ++ [i], onZ (px, py) (sgZ l j) = false) := hid fun j hj => by
        rcases List.mem_append.1 hj with h | h
        · exact hon j h
        · obtain rfl : j = i := by simpa using h
          rw [hs.out]; exact HO.out
      clear hon
      obtain ⟨d, hd⟩ : ∃ d, crossZ (ax, ay) (bx, by_) (px, py) = d := ⟨_, rfl⟩
      have hw1d : wind1 (px, py) ((ax, ay), (bx, by_)) = if ay ≤ py ∧ py < by_ ∧ 0 < d then 1 else if py < ay ∧ by_ ≤ py ∧ d < 0 then -1 else 0 := by unfold wind1; simp only [hd]
      rw [hw1d] at hsn
      have HD := hid hd
      clear hd hw1d
      rcases Int.lt_or_le py ay with g1 | g1
      · rcases Int.lt_or_le py by_ with g2 | g2
        · have hv : windS (px, py) l (pre ++ [i]) = windS (px, py) l pre := by rw [hsn, if_neg (by omega), if_neg (by omega)]; omega
          have HV := hid hv
          clear hv hsn
          gi_wp2
          refine ⟨trivial, ?_⟩
          gi_wp2
          refine ⟨trivial, ?_⟩
          gi_wp2
          exact ⟨hk1, ⟨hcr, hfr⟩, ⟨by rw [HV.out]; exact hcc, hff⟩, hon'.out⟩
        · gi_wp2
          refine ⟨trivial, ?_⟩
          gi_wp2_with fail
          refine ⟨trivial, CallsIn.mono (CallsIn.inRound y (callsIn_wide.2 (turn_any _ s1 s2 s3 s4 hpx hpy))) ?_⟩
          rintro e w2 ⟨rfl, hw2⟩
          rw [HD.out]
          clear x1 x2 q1 q2 q3 q4 hcr hfr hcc hff
          replace hw2 := hw1.trans hw2
          obtain ⟨⟨x1, x2⟩, ⟨⟨q1, q2⟩, q3, q4⟩, hcr, hfr, hcc, hff⟩ := hQ.out w2 hw2
          have hk2 : Kx (fun j => j = n4 ∨ j = n5) W w2 := aft_kx hw2
          rcases Int.lt_or_le d 0 with g3 | g3
          · have hv : windS (px, py) l (pre ++ [i]) = windS (px, py) l pre - 1 := by rw [hsn, if_neg (by omega), if_pos (by omega)]; rfl
            have HV := hid hv
            clear hv hsn
            gi_wp2
            exact ⟨hk2.trans (Kx.setCell _ (.inr rfl)), ⟨by rw [World.cell?_setCell_other _ _ _ _ (by simp <;> omega)]; exact hcr, by rw [World.frozen?_setCell]; exact hfr⟩, ⟨by rw [HV.out]; exact World.cell?_setCell_same' _ _ _ (by rw [hcc]; rfl), by rw [World.frozen?_setCell]; exact hff⟩, hon'.out⟩
          · have hv : windS (px, py) l (pre ++ [i]) = windS (px, py) l pre := by rw [hsn, if_neg (by omega), if_neg (by omega)]; omega
            have HV := hid hv
            clear hv hsn
            gi_wp2
            exact ⟨hk2, ⟨hcr, hfr⟩, ⟨by rw [HV.out]; exact hcc, hff⟩, hon'.out⟩
      · rcases Int.lt_or_le py by_ with g2 | g2
        · gi_wp2_with fail
          refine ⟨trivial, CallsIn.mono (CallsIn.inRound y (callsIn_wide.2 (turn_any _ s1 s2 s3 s4 hpx hpy))) ?_⟩
          rintro e w2 ⟨rfl, hw2⟩
          rw [HD.out]
          clear x1 x2 q1 q2 q3 q4 hcr hfr hcc hff
          replace hw2 := hw1.trans hw2
          obtain ⟨⟨x1, x2⟩, ⟨⟨q1, q2⟩, q3, q4⟩, hcr, hfr, hcc, hff⟩ := hQ.out w2 hw2
          have hk2 : Kx (fun j => j = n4 ∨ j = n5) W w2 := aft_kx hw2
          rcases Int.lt_or_le 0 d with g3 | g3
          · have hv : windS (px, py) l (pre ++ [i]) = windS (px, py) l pre + 1 := by rw [hsn, if_pos (by omega)]
            have HV := hid hv
            clear hv hsn
            gi_wp2
            exact ⟨hk2.trans (Kx.setCell _ (.inr rfl)), ⟨by rw [World.cell?_setCell_other _ _ _ _ (by simp <;> omega)]; exact hcr, by rw [World.frozen?_setCell]; exact hfr⟩, ⟨by rw [HV.out]; exact World.cell?_setCell_same' _ _ _ (by rw [hcc]; rfl), by rw [World.frozen?_setCell]; exact hff⟩, hon'.out⟩
          · have hv : windS (px, py) l (pre ++ [i]) = windS (px, py) l pre := by rw [hsn, if_neg (by omega), if_neg (by omega)]; omega
            have HV := hid hv
            clear hv hsn
            gi_wp2
            refine ⟨trivial, ?_⟩
            gi_wp2
            exact ⟨hk2, ⟨hcr, hfr⟩, ⟨by rw [HV.out]; exact hcc, hff⟩, hon'.out⟩
        · have hv : windS (px, py) l (pre ++ [i]) = windS (px, py) l pre := by rw [hsn, if_neg (by omega), if_neg (by omega)]; omega
          have HV := hid hv
          clear hv hsn
          gi_wp2
          refine ⟨trivial, ?_⟩
          gi_wp2
          refine ⟨trivial, ?_⟩
          gi_wp2
          exact ⟨hk1, ⟨hcr, hfr⟩, ⟨by rw [HV.out]; exact hcc, hff⟩, hon'.out⟩
  case done =>
    rintro D W hD hKn ⟨⟨hcr, hfr⟩, ⟨hcc, hff⟩, hon⟩ hd
    have hres : withinZ (px, py) k l = (windS (px, py) l (List.range (nSeg k l)) != 0) := by
      unfold withinZ
      rw [List.any_eq_false.2 (fun x hx => by rw [hon x hx]; simp)]
      rfl
    have HR := hid hres
    clear hres hon
    obtain ⟨u, hu⟩ : ∃ u, windS (px, py) l (List.range (nSeg k l)) = u := ⟨_, rfl⟩
    rw [hu] at hcc
    have hkf := hKn.trans ((Kx.setCell (A := W) (p := ⟨n4, 0, none⟩) (X := fun j => j = n4 ∨ j = n5) (.bool (u != 0)) (.inl rfl)).kn hKn.size)
    have hfin := kn_end (o := .deferred none) (hw03.trans hw34) (fun j hj => by rcases hj with rfl | rfl <;> omega) hkf hD
    have HF := hid hfin
    clear hfin
    go_wp2
    have hd' : (W.setCell ⟨n4, 0, none⟩ (.bool (u != 0))).heap[D]? = some (.deferred (some [])) := (Below.heap_setCell W ⟨n4, 0, none⟩ _ D (by simp; omega)).trans hd
    refine ⟨by simp, .inl ⟨_, _, rfl, run_takeDeferred hd', ?_⟩⟩
    exact ⟨.bool (u != 0), results_cell1 rfl _ _ n4 _ rfl (end_cell (World.cell?_setCell_same' _ _ _ (by rw [hcr]; rfl)) hd'), by rw [HR.out, hu], HF.out⟩
  case stop =>
    rintro D cd m W hD hm hKn ⟨rfl, hcr, hon⟩ hd
    have hres : withinZ (px, py) k l = false := by
      obtain ⟨j, hj, hj'⟩ := hon
      unfold withinZ
      rw [List.any_eq_true.2 ⟨j, List.mem_range.2 (by have := List.mem_range.1 hj; omega), hj'⟩]
      rfl
    have hfin := kn_end (o := .deferred none) (hw03.trans hw34) (fun j hj => by rcases hj with rfl | rfl <;> omega) hKn hD
    have HF := hid hfin
    have HR := hid hres
    clear hfin hres
    go_wp2
    refine ⟨by simp, .inl ⟨_, _, rfl, run_takeDeferred hd, ?_⟩⟩
    exact ⟨.bool false, results_cell1 rfl _ _ n4 _ rfl (end_cell hcr hd), by rw [HR.out], HF.out⟩
end Go.Proofs.Ytokdclbfjlnnjaa
/- The program's lists of segments: slices.Collect of the iterator; elements. -/
namespace Go.Proofs.Ytokdclbfjlnnjaa
open Go.RowKit Go.BigFrame
attribute [local go_sem] Oper.semAt_some

section
variable {X : Nat → Prop} {w₀ w : World} {Bs : Nat} {k : Int} {vp : Value} {l : List Pt}
/-- How a round that always goes on is left. -/
def segPostG (n : Nat) (X : Nat → Prop) (C : List Nat → World → Prop) (xs : List Nat) (W : World) : Exit → Act → World → Prop
  | .normal, _, W' => KeepsFrom n W W' ∧ Kn n X W W' ∧ C xs W'
  | _, _, _ => False
theorem segPostG_own {C : List Nat → World → Prop} {xs : List Nat} {W : World} (hW : Kn w.heap.size X w W) :
    ∀ (e : Exit) (a : Act) (W' : World), segPostG w.heap.size X C xs W e a W' → ownPostG w.heap.size (Kn w.heap.size X) (fun s W => Kn w.heap.size X w W ∧ C s W) (fun _ _ _ => False) xs W e a W'
  | .normal, _, _, h => ⟨h.1, h.2.1, hW.trans h.2.1, h.2.2⟩
  | .ret, _, _, h => h.elim
  | .exit _, _, _, h => h.elim
  | .goto _, _, _, h => h.elim

/-- A loop over the segments of a shape whose body may write rows laid since. -/
theorem wp_segsG {g : Operand} {p : Tmp} {assign body : Code} {Q : Exit → Act → World → Prop} {a : Act}
    (hP : Prs w₀ vp l) (hw : w₀.heap.size ≤ w.heap.size) (hsm : l.length ≤ 1000) (hB : ShBox w Bs k vp l) (hX : ∀ j, X j → w₀.heap.size ≤ j ∧ j < w.heap.size ∧ j ≠ Bs)
    (hg : a.eval g = .func (.func 116) #[] #[.pointer (some ⟨Bs, 0, none⟩)])
    (C : List Nat → World → Prop) (hO : OwnFrom w.heap.size C) (hA : ∀ s A B, C s A → Aft A B → C s B) (h0 : C [] w) (mk : Nat → Int → Int → Int → Int → Act)
    (hassign : ∀ (y : Nat) (ax ay bx by_ : Int) (W : World) (K : Act → World → Prop), (∀ Bx W', Aft W W' → W.heap.size ≤ Bx → B4 W' Bx ax ay bx by_ → K (mk Bx ax ay bx by_) W') →
      assign.wpIn (Fence.wide.inRound y) 7 Try.prog (Exit.then K (fun _ _ _ => False)) { tmps := a.tmps.setIfInBounds p (.agg #[.int .i64 ax, .int .i64 ay, .int .i64 bx, .int .i64 by_]), defers := [] } W)
    (hbody : ∀ (y : Nat) (pre : List Nat) (i Bx : Nat) (ax ay bx by_ : Int) (W : World), Hid (sgZ l i = ((ax, ay), (bx, by_))) → w.heap.size ≤ y → (∃ r, W.heap[y]? = some (.loop r)) → Kn w.heap.size X w W → C pre W → w.heap.size ≤ Bx → B4 W Bx ax ay bx by_ → pre.length < nSeg k l →
      body.wpIn (Fence.wide.inRound y) 7 Try.prog (segPostG w.heap.size X C (pre ++ [i]) W) (mk Bx ax ay bx by_) W)
    (hdone : ∀ (D : Nat) (W : World), w.heap.size ≤ D → Kn w.heap.size X w W → C (List.range (nSeg k l)) W → W.heap[D]? = some (.deferred (some [])) → Q .normal { a with defers := { target := .collected D, args := #[] } :: a.defers } W) :
    (Code.rangeFunc g #[p] assign body).wp Try.prog Q a w := by
  have hXn : ∀ j, X j → j < w.heap.size := fun j h => (hX j h).2.1
  have hBs := World.block_lt_of_cell? _ _ hB.kind
  have hKO : OwnFrom w.heap.size (fun (_ : List Nat) W => Kn w.heap.size X w W) := fun s A B row hs hg hr => (own_kn (C := fun (_ : List Nat) _ => True) hXn (fun _ _ _ _ _ => trivial) s A B row ⟨hs, trivial⟩ hg hr).1
  refine (wpIn_wide (n := 9)).1 (wpIn_rangeFunc_ownH (F := Fence.wide) (n := 9) rfl (by omega) (gf := 116) (lb := #[.pointer (some ⟨Bs, 0, none⟩)]) hg trivial (Go.Proofs.enters_of Try.func116 (by kernel_rfl) rfl)
    (segs1_any 8 (by omega) k l vp Bs (Kn w.heap.size X) w hB hsm (kn_box hP hw hX hBs)) (fun h k => h.trans k) kn_b (Below.refl _ _) (fun _ => rfl)
    (fun s W => Kn w.heap.size X w W ∧ C s W) (fun _ _ _ => False) (OwnFrom.and hKO hO) (fun _ _ _ _ _ h _ _ => h) ⟨Kn.refl _ _ _, h0⟩ (SegAt mk w l) (segAt_own mk) ?_ ?_ ?_ ?_)
  · intro y pre i W K hI hK
    have e : (#[p].zip #[segV (sgZ l i)]).foldl (fun t (x : Tmp × Value) => t.setIfInBounds x.1 x.2) a.tmps = a.tmps.setIfInBounds p (segV (sgZ l i)) := by simp
    refine (show _ from e ▸ hassign y _ _ _ _ W K fun Bx W' h1 h2 h3 => ?_)
    have hkx : Kx X W W' := aft_kx h1
    exact hK _ _ (hkx.keeps hXn) (hkx.kn hI.1.size) ⟨hI.1.trans (hkx.kn hI.1.size), hA _ _ _ hI.2 h1⟩ ⟨Bx, by have := hI.1.size; omega, h3, rfl⟩
  · rintro y pre i a' W hy hr ⟨hI, hC'⟩ ⟨Bx, hBx, h4, rfl⟩ hlen
    exact wpIn_mono (hbody y pre i Bx _ _ _ _ W rfl hy hr hI hC' hBx h4 hlen) (segPostG_own hI)
  · rintro D xs W hD rfl ⟨hI, hC'⟩ hd
    exact hdone D W hD hI hC' hd
  · rintro D c pre W hD _ h hd
    exact h.elim
end

theorem sep_ne' {g g' n c n' c' : Nat} (h : g ≠ g') : Sep (.slice (some ⟨g, 0, none⟩) n c) (.slice (some ⟨g', 0, none⟩) n' c') := fun k a b => h (by
  simp only [Value.ownBlock, Option.some.injEq] at a b
  omega)
theorem ownsRow_own {A B : World} {row : Option Nat} {base : Nat} {e : TypeId} {size n : Nat} {v : Value} {xs : List Value} (h : A.ownsRow base e size v n xs) (hg : A.grownBy B row) (hr : ∀ r, row = some r → ∃ o : Obj, A.heap[r]? = some o ∧ o.isCells = false) : B.ownsRow base e size v n xs := by
  refine ⟨h.1, h.2.imp id ?_⟩
  rintro ⟨g, cap, cur, h1, h2, h3, h4⟩
  exact ⟨g, cap, cur, h1, h2, (grownBy_keeps_cells hg hr h3 rfl).trans h3, h4⟩

theorem keeps_app {A B : World} {base : Nat} {e : TypeId} {size n : Nat} {v : Value} {xs : List Value} (h : A.ownsRow base e size v n xs) (hg : A.grownBy B v.ownBlock) : KeepsOthers A B :=
  ⟨hg.size, fun k o ho hc => (hg.block k (Array.getElem?_eq_some_iff.1 ho).1 (fun e => by
    rcases h.2 with ⟨rfl, _⟩ | ⟨g, cap, cur, rfl, _, h3, _⟩
    · cases e
    · cases e; rw [h3] at ho; cases ho; cases hc)).trans ho⟩
theorem grown_setCell (A : World) (p : Addr) (u : Value) : A.grownBy (A.setCell p u) (some p.block) :=
  ⟨rfl, rfl, rfl, by show A.heap.size ≤ (A.heap.modify _ _).size; rw [Array.size_modify]; exact Nat.le_refl _, fun j _ h2 => Below.heap_setCell A p u j (fun e => h2 (e ▸ rfl))⟩

/-- A row of segments in a box. -/
def SegRow (n2 base : Nat) (l : List Pt) (pre : List Nat) (W : World) : Prop := ∃ v, W.cell? ⟨n2, 0, none⟩ = some v ∧ W.frozen? ⟨n2, 0, none⟩ = false ∧ W.ownsRow base 112 4 v pre.length (pre.flatMap fun i => scells (sgZ l i))

set_option maxRecDepth 100000 in
set_option maxHeartbeats 4000000 in
theorem appendSeq_any (Bs : Nat) (k : Int) (vp : Value) (l : List Pt) (w : World) (hB : ShBox w Bs k vp l) (hsm : l.length ≤ 1000) :
    Calls Try.prog 119 #[.slice none 0 0, .func (.func 116) #[] #[.pointer (some ⟨Bs, 0, none⟩)]] w fun e w' => ∃ v, e = .returned v ∧ w'.ownsRow w.heap.size 112 4 v (nSeg k l) (segC l (nSeg k l)) ∧ Aft w w' := by
  obtain ⟨W1, eW1, hw1, hlt, hbox⟩ := one_box w #[.slice none 0 0] 109
  have hBs := World.block_lt_of_cell? _ _ hB.kind
  refine calls_of_wp_segs Try.func119 rfl ?_
  simp only [Try.ntmps119, List.size_toArray, List.length_cons, List.length_nil, Nat.reduceAdd, Nat.reduceSub, Array.replicate_succ, Array.replicate_zero, List.push_toArray, List.append_toArray, List.nil_append, List.cons_append]
  have hc0 : W1.cell? ⟨w.heap.size, 0, none⟩ = some (.slice none 0 0) := hbox.out W1 (Aft.refl _) 0 _ rfl
  have hf0 : W1.frozen? ⟨w.heap.size, 0, none⟩ = false := eW1 ▸ frozen_new w _ _ 0
  clear hbox
  have hB1 := hB.aft hw1
  generalize hn2 : w.heap.size = n2 at *
  have hz := hw1.size
  go_wp2
  clear eW1
  refine wp_segsG (w₀ := w) (X := fun j => j = n2) hB.prs (by omega) hsm hB1 (fun j hj => by subst hj; omega) rfl (SegRow n2 W1.heap.size l)
    (fun s A B row h hg hr => by obtain ⟨v, h1, h2, h3⟩ := h; exact ⟨v, cell_kept h1 hg (fun r e => (hr r e).2), (frozen_kept h1 hg (fun r e => (hr r e).2)).trans h2, ownsRow_own h3 hg (fun r e => (hr r e).2)⟩)
    (fun s A B h hw => by obtain ⟨v, h1, h2, h3⟩ := h; exact ⟨v, (hw.cell (World.block_lt_of_cell? _ _ h1)).trans h1, (hw.frozen (World.block_lt_of_cell? _ _ h1)).trans h2, ownsRow_aft h3 hw⟩)
    ⟨_, hc0, hf0, World.ownsRow_nil _ _ _ _⟩ (fun Bx ax ay bx by_ => { tmps := #[.slice none 0 0, .func (.func 116) #[] #[.pointer (some ⟨Bs, 0, none⟩)], .pointer (some ⟨n2, 0, none⟩), undef, .slice none 0 0, .pointer (some ⟨Bx, 0, none⟩), .func (.func 116) #[] #[.pointer (some ⟨Bs, 0, none⟩)], .agg #[.int .i64 ax, .int .i64 ay, .int .i64 bx, .int .i64 by_], undef, undef, undef, undef, undef], defers := [] }) ?assign ?body ?done
  case assign =>
    intro y ax ay bx by_ W K hK
    gi_wp2
    exact hK _ _ ((Aft.refl W).alloc _) (Nat.le_refl _) ⟨⟨cell_new _ _ _ _ _ rfl, cell_new _ _ _ _ _ rfl⟩, cell_new _ _ _ _ _ rfl, cell_new _ _ _ _ _ rfl⟩
  case body =>
    rintro y pre i Bx ax ay bx by_ W hs hy hr hKn ⟨v, hcv, hfv, hrow⟩ hBx ⟨⟨q1, q2⟩, q3, q4⟩ hlen
    have hns := nSeg_le k l
    have hsz := hKn.size
    obtain ⟨i0, hi0, hz0, hz1, hz2⟩ := info_parts Try.info112
    have hflat : (pre ++ [i]).flatMap (fun i => scells (sgZ l i)) = (pre.flatMap fun i => scells (sgZ l i)) ++ scells ((ax, ay), (bx, by_)) := by
      rw [List.flatMap_append]
      simp [hs.out]
    gi_wp2_with (gi_at_builtin; refine wpListIn_append_own_at _ rfl (.tmp 8) (.tmp 10) 109 rfl W1.heap.size 112 i0 (.agg #[.int .i64 0, .int .i64 0, .int .i64 0, .int .i64 0]) 4 32 Try.underlying109 hi0 hz0 hz1 hz2 rfl (by decide) v pre.length _ rfl (hrow.alloc _) ⟨W.heap.size, 0, none⟩ 1 1 (scells ((ax, ay), (bx, by_))) rfl rfl ?_ (scells_one _) (by unfold maxLen; omega) (by omega) (by simp; omega) ?_)
    · intro j u hj
      obtain ⟨ad, e, h⟩ := Rd.new (w := W) (cs := #[.int .i64 ax, .int .i64 ay, .int .i64 bx, .int .i64 by_]) (e := 112) j u hj
      cases e
      exact h
    · intro v' w' hown' hgrow _ _
      have hk1 : KeepsOthers (W.alloc (.cells #[.int .i64 ax, .int .i64 ay, .int .i64 bx, .int .i64 by_] 112)) w' := keeps_app (hrow.alloc _) hgrow
      have hlt2 := fun j e => (hrow.lt j e).1
      have hgs := hgrow.size
      have hrow2 : ∀ j, j < W1.heap.size → w'.heap[j]? = W.heap[j]? := fun j hj =>
        (hgrow.block j (by simp; omega) (fun e => by have := hlt2 j e.symm; omega)).trans (((Aft.refl W).alloc _).block j (by omega))
      obtain ⟨g', cap', rfl⟩ := ownsRow_some' hown' (by omega)
      have hg' := (hown'.lt g' rfl).1
      have hcv' : w'.cell? ⟨n2, 0, none⟩ = some v := (World.cell?_of_block (a := ⟨n2, 0, none⟩) (hrow2 n2 (by omega))).trans hcv
      have hfv' : w'.frozen? ⟨n2, 0, none⟩ = false := (World.frozen?_of_block (a := ⟨n2, 0, none⟩) (hrow2 n2 (by omega))).trans hfv
      simp at hgs
      gi_wp2
      refine ⟨((KeepsOthers.alloc W _).trans (hk1.trans (KeepsOthers.setCell _ _ _))).from _, ⟨hgrow.os, hgrow.tape, hgrow.output, by simp; omega, fun j hj hx => ?_⟩, _, World.cell?_setCell_same' _ _ _ (by rw [hcv']; rfl), by rw [World.frozen?_setCell]; exact hfv', ?_⟩
      · exact (Below.heap_setCell w' ⟨n2, 0, none⟩ _ j hx).trans (hrow2 j hj)
      · rw [hflat, List.length_append]
        exact Sep.kept (v' := .slice (some ⟨n2, 0, none⟩) 0 0) (sep_ne' (by omega)) hown' (grown_setCell w' ⟨n2, 0, none⟩ _)
  case done =>
    rintro D W hD hKn ⟨v, hcv, hfv, hrow⟩ hd
    have hfin := kn_end (o := .deferred none) hw1 (fun j hj => by subst hj; omega) hKn hD
    have HF := hid hfin
    have HR := hid (ownsRow_own (B := W.putObj D (.deferred none)) hrow (grownBy_putObj' _ D _) (fun r e => by cases e; exact ⟨_, hd, rfl⟩))
    clear hrow hfin
    go_wp2
    refine ⟨by simp, .inl ⟨_, _, rfl, run_takeDeferred hd, ?_⟩⟩
    refine ⟨_, results_tmp rfl _ _ _, _, rfl, ?_, HF.out⟩
    have := HR.out
    rw [List.length_range] at this
    exact ownsRow_mono this (by omega)

set_option maxHeartbeats 400000 in
theorem collect_any (Bs : Nat) (k : Int) (vp : Value) (l : List Pt) (w : World) (hB : ShBox w Bs k vp l) (hsm : l.length ≤ 1000) :
    Calls Try.prog 100 #[.func (.func 116) #[] #[.pointer (some ⟨Bs, 0, none⟩)]] w fun e w' => ∃ v, e = .returned v ∧ w'.ownsRow w.heap.size 112 4 v (nSeg k l) (segC l (nSeg k l)) ∧ Aft w w' := by
  go_enter Try.func100, Try.ntmps100
  go_wp2_with fail
  refine (appendSeq_any Bs k vp l w hB hsm).mono ?_
  rintro e w1 ⟨v, rfl, hown, hw⟩
  have HO := hid hown
  clear hown
  go_wp2
  go_ret
  exact ⟨_, rfl, HO.out, hw⟩

end Go.Proofs.Ytokdclbfjlnnjaa
/- The program's Inside: a loop over segments within a loop over segments. -/
namespace Go.Proofs.Ytokdclbfjlnnjaa
open Go.RowKit Go.BigFrame
attribute [local go_sem] Oper.semAt_some

section
variable {X : Nat → Prop} {w₀ w : World} {Bs : Nat} {k : Int} {vp : Value} {l : List Pt}
/-- A loop over the segments of a shape, within a round of the loop y₀. -/
theorem wpIn_segs {y₀ : Nat} {r₀ : Loop} {g : Operand} {p : Tmp} {assign body : Code} {Q : Exit → Act → World → Prop} {a : Act}
    (hl₀ : w.heap[y₀]? = some (.loop r₀))
    (hP : Prs w₀ vp l) (hw : w₀.heap.size ≤ w.heap.size) (hsm : l.length ≤ 1000) (hB : ShBox w Bs k vp l) (hX : ∀ j, X j → w₀.heap.size ≤ j ∧ j < w.heap.size ∧ j ≠ Bs)
    (hg : a.eval g = .func (.func 116) #[] #[.pointer (some ⟨Bs, 0, none⟩)])
    (C : List Nat → World → Prop) (Cx : Code → List Nat → World → Prop) (hC : OnX X C) (hCx : ∀ c, OnX X (Cx c)) (h0 : C [] w) (mk : Nat → Int → Int → Int → Int → Act)
    (hassign : ∀ (y : Nat) (ax ay bx by_ : Int) (W : World) (K : Act → World → Prop), (∀ Bx W', Aft W W' → W.heap.size ≤ Bx → B4 W' Bx ax ay bx by_ → K (mk Bx ax ay bx by_) W') →
      assign.wpIn (Fence.wide.inRound y) 5 Try.prog (Exit.then K (fun _ _ _ => False)) { tmps := a.tmps.setIfInBounds p (.agg #[.int .i64 ax, .int .i64 ay, .int .i64 bx, .int .i64 by_]), defers := [] } W)
    (hbody : ∀ (y : Nat) (pre : List Nat) (i Bx : Nat) (ax ay bx by_ : Int) (W : World), Hid (sgZ l i = ((ax, ay), (bx, by_))) → w.heap.size ≤ y → (∃ r, W.heap[y]? = some (.loop r)) → Kn w.heap.size X w W → C pre W → w.heap.size ≤ Bx → B4 W Bx ax ay bx by_ → pre.length < nSeg k l →
      body.wpIn (Fence.wide.inRound y) 5 Try.prog (segPost X C Cx (pre ++ [i]) W) (mk Bx ax ay bx by_) W)
    (hdone : ∀ (W : World), Kn w.heap.size X w W → C (List.range (nSeg k l)) W → Q .normal a W)
    (hstop : ∀ (c : Code) (m : Nat) (W : World), m ≤ nSeg k l → Kn w.heap.size X w W → Cx c (List.range m) W → c.wpIn (Fence.wide.inRound y₀) 7 Try.prog Q a W) :
    (Code.rangeFunc g #[p] assign body).wpIn (Fence.wide.inRound y₀) 7 Try.prog Q a w := by
  have hXn : ∀ j, X j → j < w.heap.size := fun j h => (hX j h).2.1
  have hBs := World.block_lt_of_cell? _ _ hB.kind
  refine wpIn_rangeFunc_ownN (F := Fence.wide.inRound y₀) (n := 7) (l₀ := y₀) (r₀ := r₀) rfl hl₀ (by omega) (gf := 116) (lb := #[.pointer (some ⟨Bs, 0, none⟩)]) hg trivial (Go.Proofs.enters_of Try.func116 (by kernel_rfl) rfl)
    ((segs1_any 6 (by omega) k l vp Bs (Kn w.heap.size X) w hB hsm (kn_box hP hw hX hBs)).inRound y₀) (fun h k => h.trans k) kn_b (Below.refl _ _) (fun _ => rfl)
    (fun s W => Kn w.heap.size X w W ∧ C s W) (fun c s W => Kn w.heap.size X w W ∧ Cx c s W) (own_kn hXn hC) (fun c => own_kn hXn (hCx c)) ⟨Kn.refl _ _ _, h0⟩ (SegAt mk w l) (segAt_own mk) ?_ ?_ ?_ ?_
  · intro y pre i W K hI hK
    have e : (#[p].zip #[segV (sgZ l i)]).foldl (fun t (x : Tmp × Value) => t.setIfInBounds x.1 x.2) a.tmps = a.tmps.setIfInBounds p (segV (sgZ l i)) := by simp
    refine (show _ from e ▸ hassign y _ _ _ _ W K fun Bx W' h1 h2 h3 => ?_)
    have hkx : Kx X W W' := aft_kx h1
    refine hK _ _ (hkx.keeps hXn) (hkx.kn hI.1.size) ⟨hI.1.trans (hkx.kn hI.1.size), hC _ _ _ hI.2 fun j hx => h1.block j (by have := hI.1.size; have := hXn j hx; omega)⟩ ⟨Bx, by have := hI.1.size; omega, h3, rfl⟩
  · rintro y pre i a' W hy hr ⟨hI, hC'⟩ ⟨Bx, hBx, h4, rfl⟩ hlen
    exact wpIn_mono (hbody y pre i Bx _ _ _ _ W rfl hy hr hI hC' hBx h4 hlen) (segPost_own hXn hI)
  · rintro xs W rfl ⟨hI, hC'⟩
    exact hdone W hI hC'
  · rintro c pre W ⟨m, hm, rfl⟩ ⟨hI, hC'⟩
    exact hstop c m W hm hI hC'
end
set_option maxHeartbeats 400000 in
theorem pindex_any (v : Value) (l : List (Int × Int)) (F : Nat) (caps : Array Value) (g : Int × Int → Bool) (w : World) (hl : Prs w v l)
    (hF : ∀ args w, (callFunc F args).run Try.prog w = .ok (.enter F args) w) (hg : Asks Try.prog F caps l pr g w) :
    Calls Try.prog 117 #[v, .func (.func F) #[] caps] w fun e w' => e = .returned (.int .i64 (idxI (l.findIdx? g))) ∧ Aft w w' := by
  obtain ⟨a, c, rfl, hl⟩ := hl
  have hn := hl.le
  have Hg := hid hg; clear hg
  go_enter Try.func117, Try.ntmps117
  go_wp2
  go_loopw [8, 5] (fun i _ wr => ∃ k : Nat, k ≤ l.length ∧ i = .int .i64 k ∧ Hid (∀ j, j < k → ∀ x, l[j]? = some x → g x = false) ∧ Aft w wr) (fun i _ _ => l.length - (intOf i).toNat)
  case atStart => exact ⟨0, by omega, rfl, fun j hj => by omega, Aft.refl _⟩
  case round =>
    obtain ⟨k, hk, rfl, ht, hw⟩ := hrel
    by_cases hlt : k < l.length
    · obtain ⟨b, off, x, y, rfl, hc1, hc2, hb, hx, _, _, _, _⟩ := (hl.aft hw).rd.pair hl.ok hlt
      go_wp2_with fail
      refine (Hg.out (x, y) (List.mem_of_getElem? hx.out) wr hw).mono ?_
      rintro e w' ⟨rfl, hw'⟩
      have hwf := hw.trans hw'
      cases hgx : g (x, y)
      all_goals go_wp2_with fail
      · go_roundw
        case rel =>
          refine ⟨k + 1, by omega, by go_num, hid fun j hj z hz => ?_, hwf⟩
          rcases Nat.lt_or_ge j k with h | h
          · exact ht.out j h z hz
          · obtain rfl : j = k := by omega
            rw [hx.out] at hz
            cases hz
            exact hgx
        case measure => simp [intOf] <;> omega
      · go_ret
        refine ⟨ret_int ?_, hwf⟩
        rw [findIdx_hit hx.out hgx ht.out]
        rfl
    · go_wp2
      go_ret
      refine ⟨ret_int ?_, hw⟩
      rw [findIdx_miss (fun j hj z hz => ht.out j (by omega) z hz)]
      rfl

/-- ContainsFunc over points. -/
theorem pcontains_any (v : Value) (l : List (Int × Int)) (F : Nat) (caps : Array Value) (g : Int × Int → Bool) (w : World) (hl : Prs w v l)
    (hF : ∀ args w, (callFunc F args).run Try.prog w = .ok (.enter F args) w) (hg : Asks Try.prog F caps l pr g w) :
    Calls Try.prog 87 #[v, .func (.func F) #[] caps] w fun e w' => e = .returned (.bool (l.any g)) ∧ Aft w w' := by
  have hb := idx_ge (l.findIdx? g)
  have he : decide ((0 : Int) ≤ idxI (l.findIdx? g)) = l.any g := idx_any l g
  go_enter Try.func87, Try.ntmps87
  go_wp2_with fail
  refine (pindex_any v l F caps g w hl hF hg).mono ?_
  rintro e w' ⟨rfl, hw⟩
  go_wp2_with fail
  go_ret
  exact ⟨rfl, hw⟩


set_option maxRecDepth 100000 in
set_option maxHeartbeats 2000000 in
theorem insideFn_asks (nb : Nat) (kb : Int) (vb : Value) (la lb : List Pt) (w : World) (hb0 : w.cell? ⟨nb, 0, none⟩ = some (.int .i64 kb)) (hb1 : w.cell? ⟨nb, 1, none⟩ = some vb) (hl : Prs w vb lb) (hsm : lb.length ≤ 1000) (hscb : ScL lb) (hsca : ScL la) :
    Asks Try.prog 88 #[.pointer (some ⟨nb, 0, none⟩)] la pr (fun p => !withinZ p kb lb) w := by
  rintro ⟨px, py⟩ hp w' hw
  obtain ⟨hpx, hpy⟩ := hsca _ hp
  simp only at hpx hpy
  unfold pr
  have c0 : w'.cell? ⟨nb, 0, none⟩ = some (.int .i64 kb) := (hw.cell (World.block_lt_of_cell? _ _ hb0)).trans hb0
  have c1 : w'.cell? ⟨nb, 1, none⟩ = some vb := (hw.cell (World.block_lt_of_cell? _ _ hb1)).trans hb1
  have hlt := World.block_lt_of_cell? _ _ c0
  have hl' := hl.aft hw
  obtain ⟨ab, cb, rfl, _⟩ := id hl
  obtain ⟨W0, eW0, hw0, hlt0, hbox⟩ := one_box w' #[.int .i64 px, .int .i64 py] 57
  go_enter Try.func88, Try.ntmps88
  go_upto_region 1 with fail
  clear eW0
  have p1 := hbox.out W0 (Aft.refl _) 0 (.int .i64 px) rfl
  have p2 := hbox.out W0 (Aft.refl _) 1 (.int .i64 py) rfl
  have c0' : W0.cell? ⟨nb, 0, none⟩ = some (.int .i64 kb) := (hw0.cell hlt).trans c0
  have c1' : W0.cell? ⟨nb, 1, none⟩ = some (.slice ab lb.length cb) := (hw0.cell hlt).trans c1
  clear hbox c0 c1 hb0 hb1
  go_wp2_with fail
  refine (within_any px py kb _ lb W0 (hl'.aft hw0) hsm hscb hpx hpy).mono ?_
  rintro e w2 ⟨rfl, hw2⟩
  have hwf := hw0.trans hw2
  go_wp2
  go_ret
  exact ⟨rfl, hwf⟩

def insideZ (ka : Int) (la : List Pt) (kb : Int) (lb : List Pt) : Bool :=
  decide (kb = 2) && (!la.isEmpty && (!(la.any fun p => !withinZ p kb lb) && !((List.range (nSeg ka la)).any fun i => (List.range (nSeg kb lb)).any fun j => meetZ (sgZ la i) (sgZ lb j))))

set_option maxRecDepth 100000 in
set_option maxHeartbeats 4000000 in
theorem inside_any (ka kb : Int) (va vb : Value) (la lb : List Pt) (w : World) (hla : Prs w va la) (hlb : Prs w vb lb) (hsa : la.length ≤ 1000) (hsb : lb.length ≤ 1000) (hsca : ScL la) (hscb : ScL lb) :
    Calls Try.prog 40 #[.agg #[.int .i64 ka, va], .agg #[.int .i64 kb, vb]] w fun e w' => e = .returned (.bool (insideZ ka la kb lb)) ∧ Aft w w' := by
  have hPa := hla
  have hPb := hlb
  obtain ⟨aa, ca, rfl, hla⟩ := hla
  obtain ⟨ab, cb, rfl, hlb⟩ := hlb
  obtain ⟨W0, eW0, hw0, hlt, hbox⟩ := two_boxes w #[.int .i64 ka, .slice aa la.length ca] #[.int .i64 kb, .slice ab lb.length cb] 51 51
  refine calls_of_wp_segs Try.func40 rfl ?_
  simp only [Try.ntmps40, List.size_toArray, List.length_cons, List.length_nil, Nat.reduceAdd, Nat.reduceSub, Array.replicate_succ, Array.replicate_zero, List.push_toArray, List.append_toArray, List.nil_append, List.cons_append]
  go_upto_region 1 with fail
  clear eW0
  have hF : Hid (∀ W, Aft W0 W → (W.cell? ⟨w.heap.size, 0, none⟩ = some (.int .i64 ka) ∧ W.cell? ⟨w.heap.size, 1, none⟩ = some (.slice aa la.length ca)) ∧ W.cell? ⟨w.heap.size + 1, 0, none⟩ = some (.int .i64 kb) ∧ W.cell? ⟨w.heap.size + 1, 1, none⟩ = some (.slice ab lb.length cb)) := hid fun W hW =>
    ⟨⟨(hbox.out W hW).1 0 _ rfl, (hbox.out W hW).1 1 _ rfl⟩, (hbox.out W hW).2 0 _ rfl, (hbox.out W hW).2 1 _ rfl⟩
  clear hbox
  have hc0 : (W0.alloc (.cells #[.bool false] 4)).cell? ⟨W0.heap.size, 0, none⟩ = some (.bool false) := cell_new W0 #[.bool false] 4 0 _ rfl
  have hf0 := frozen_new W0 #[.bool false] 4 0
  have hs1 := size_new W0 (.cells #[.bool false] 4)
  have hw1 := (Aft.refl W0).alloc (.cells #[.bool false] 4)
  generalize hW1 : W0.alloc (.cells #[.bool false] 4) = W1 at *
  clear hW1
  have hz0 := hw0.size
  have hz1 := hw1.size
  have hw01 := hw0.trans hw1
  obtain ⟨⟨p1, p2⟩, p3, p4⟩ := hF.out W1 hw1
  generalize hn2 : w.heap.size = n2 at *
  generalize hn4 : W0.heap.size = n4 at *
  have endF : ∀ W, Aft W1 W → Aft w (W.setCell ⟨n4, 0, none⟩ (.bool false)) := fun W hW => (hw01.trans hW).setCell (p := ⟨n4, 0, none⟩) (by simp; omega) _
  have EF := hid endF; clear endF
  have hgc := World.cell?_setCell_same' W1 ⟨n4, 0, none⟩ (.bool false) (by rw [hc0]; rfl)
  by_cases hk : kb = 2
  · subst hk
    by_cases hla0 : la = []
    · have hR : insideZ ka la 2 lb = false := by unfold insideZ; simp [hla0]
      have HR := hid hR; clear hR
      have HE := hid (EF.out W1 (Aft.refl _))
      go_wp2
      exact ⟨.bool false, results_cell1 rfl _ _ n4 _ rfl hgc, by rw [HR.out], HE.out⟩
    · have hlb0 : ((la.length : Int) == 0) = false := by simp; exact hla0
      have hR : insideZ ka la 2 lb = (!(la.any fun p => !withinZ p 2 lb) && !((List.range (nSeg ka la)).any fun i => (List.range (nSeg 2 lb)).any fun j => meetZ (sgZ la i) (sgZ lb j))) := by
        unfold insideZ
        cases la with
        | nil => exact absurd rfl hla0
        | cons p0 la' => simp
      have HR := hid hR; clear hR
      go_wp2_with fail
      refine (pcontains_any _ la 88 _ (fun p => !withinZ p 2 lb) W1 (hPa.aft hw01) (Go.Proofs.enters_of Try.func88 (by kernel_rfl) rfl) (insideFn_asks (n2 + 1) 2 _ la lb W1 p3 p4 (hPb.aft hw01) hsb hscb hsca)).mono ?_
      rintro e W2 ⟨rfl, hw2⟩
      obtain ⟨o, ho⟩ : ∃ o, (la.any fun p => !withinZ p 2 lb) = o := ⟨_, rfl⟩
      rw [ho]
      have HO := hid ho; clear ho
      have hc2 : W2.cell? ⟨n4, 0, none⟩ = some (.bool false) := (hw2.cell hs1).trans hc0
      have hf2 : W2.frozen? ⟨n4, 0, none⟩ = false := (hw2.frozen hs1).trans hf0
      have hz2 := hw2.size
      clear hgc p1 p2 p3 p4
      obtain ⟨⟨p1, p2⟩, p3, p4⟩ := hF.out W2 (hw1.trans hw2)
      cases o
      case true =>
        have hgc := World.cell?_setCell_same' W2 ⟨n4, 0, none⟩ (.bool false) (by rw [hc2]; rfl)
        have HE := hid (EF.out W2 hw2)
        go_wp2
        exact ⟨.bool false, results_cell1 rfl _ _ n4 _ rfl hgc, by rw [HR.out, HO.out]; rfl, HE.out⟩
      case false =>
        go_wp2_with fail
        refine (segments_fn ka _ W2).mono ?_
        rintro e W3 ⟨rfl, hW3⟩
        have hw02 := hw01.trans hw2
        have hB : ShBox W3 W2.heap.size ka (.slice aa la.length ca) la := by
          rw [← hW3]
          exact ⟨cell_new _ _ _ _ _ rfl, cell_new _ _ _ _ _ rfl, (hPa.aft hw02).aft ((Aft.refl _).alloc _)⟩
        have hw23 : Aft W2 W3 := hW3 ▸ (Aft.refl W2).alloc _
        have hs3 : W2.heap.size < W3.heap.size := hW3 ▸ size_new _ _
        clear hW3
        have hc3 : W3.cell? ⟨n4, 0, none⟩ = some (.bool false) := (hw23.cell (by omega)).trans hc2
        have hf3 : W3.frozen? ⟨n4, 0, none⟩ = false := (hw23.frozen (by omega)).trans hf2
        have p3' : W3.cell? ⟨n2 + 1, 0, none⟩ = some (.int .i64 2) := (hw23.cell (World.block_lt_of_cell? _ _ p3)).trans p3
        have p4' : W3.cell? ⟨n2 + 1, 1, none⟩ = some (.slice ab lb.length cb) := (hw23.cell (World.block_lt_of_cell? _ _ p4)).trans p4
        have hw03 := hw02.trans hw23
        go_wp2
        refine wp_segs (w₀ := w) (X := fun j => j = n4) hPa (by omega) hsa hB (fun j hj => by subst hj; omega) rfl
          (fun pre W => (W.cell? ⟨n4, 0, none⟩ = some (.bool false) ∧ W.frozen? ⟨n4, 0, none⟩ = false) ∧ ∀ i ∈ pre, ∀ j, j < nSeg 2 lb → meetZ (sgZ la i) (sgZ lb j) = false)
          (fun cd pre W => cd = .ret ∧ W.cell? ⟨n4, 0, none⟩ = some (.bool false) ∧ ∃ i ∈ pre, ∃ j, j < nSeg 2 lb ∧ meetZ (sgZ la i) (sgZ lb j) = true)
          (fun s A B h hx => ⟨⟨(World.cell?_of_block (a := ⟨n4, 0, none⟩) (hx n4 rfl)).trans h.1.1, (World.frozen?_of_block (a := ⟨n4, 0, none⟩) (hx n4 rfl)).trans h.1.2⟩, h.2⟩)
          (fun cd s A B h hx => ⟨h.1, (World.cell?_of_block (a := ⟨n4, 0, none⟩) (hx n4 rfl)).trans h.2.1, h.2.2⟩)
          ⟨⟨hc3, hf3⟩, by simp⟩ (fun Bx ax ay bx by_ => { tmps := #[.agg #[.int .i64 ka, .slice aa la.length ca], .agg #[.int .i64 2, .slice ab lb.length cb], .pointer (some ⟨n2, 0, none⟩), .pointer (some ⟨n2 + 1, 0, none⟩), .pointer (some ⟨n4, 0, none⟩), .pointer (some ⟨Bx, 0, none⟩), undef, .pointer (some ⟨n2 + 1, 0, none⟩), .int .i64 2, .bool false, .bool false, .pointer (some ⟨n2, 1, none⟩), .slice aa la.length ca, .int .i64 la.length, .bool false, .bool false, .pointer (some ⟨n2, 1, none⟩), .slice aa la.length ca, .func (.func 88) #[] #[.pointer (some ⟨n2 + 1, 0, none⟩)], .bool false, .agg #[.int .i64 ka, .slice aa la.length ca], .func (.func 116) #[] #[.pointer (some ⟨W2.heap.size, 0, none⟩)], .agg #[.int .i64 ax, .int .i64 ay, .int .i64 bx, .int .i64 by_], undef, undef, undef, undef, undef, undef], defers := [] }) ?assign ?body ?done ?stop
        case assign =>
          intro y ax ay bx by_ W K hK
          gi_wp2
          exact hK _ _ ((Aft.refl W).alloc _) (Nat.le_refl _) ⟨⟨cell_new _ _ _ _ _ rfl, cell_new _ _ _ _ _ rfl⟩, cell_new _ _ _ _ _ rfl, cell_new _ _ _ _ _ rfl⟩
        case body =>
          rintro y pre i Bx ax ay bx by_ W hs hy ⟨r, hr⟩ hKn ⟨⟨hcr, hfr⟩, hno⟩ hBx h4 hlen
          have hsc4 := sgZ_sc hsca i
          rw [hs.out] at hsc4
          obtain ⟨s1, s2, s3, s4⟩ := hsc4
          have x3 : W.cell? ⟨n2 + 1, 0, none⟩ = some (.int .i64 2) := (hKn.cell (by omega) (by omega)).trans p3'
          have x4 : W.cell? ⟨n2 + 1, 1, none⟩ = some (.slice ab lb.length cb) := (hKn.cell (by omega) (by omega)).trans p4'
          have hPbW : Prs W (.slice ab lb.length cb) lb := Prs.same hPb (hPb.aft hw03) (fun j hj => hKn.block j (by omega) (by omega))
          have hBxW := World.block_lt_of_cell? _ _ h4.1.1
          have hyW := (Array.getElem?_eq_some_iff.1 hr).1
          have hszW := hKn.size
          have HN := hid hno; clear hno
          have h4 := hid h4
          gi_wp2_with fail
          refine ⟨trivial, CallsIn.mono (CallsIn.inRound y (callsIn_wide.2 (segments_fn 2 _ W))) ?_⟩
          rintro e W4 ⟨rfl, hW4⟩
          have hB4 : ShBox W4 W.heap.size 2 (.slice ab lb.length cb) lb := by
            rw [← hW4]
            exact ⟨cell_new _ _ _ _ _ rfl, cell_new _ _ _ _ _ rfl, hPbW.aft ((Aft.refl _).alloc _)⟩
          have hw4 : Aft W W4 := hW4 ▸ (Aft.refl W).alloc _
          have hs4 : W.heap.size < W4.heap.size := hW4 ▸ size_new _ _
          clear hW4
          have hcr4 : W4.cell? ⟨n4, 0, none⟩ = some (.bool false) := (hw4.cell (by omega)).trans hcr
          have hfr4 : W4.frozen? ⟨n4, 0, none⟩ = false := (hw4.frozen (by omega)).trans hfr
          have hr4 : W4.heap[y]? = some (.loop r) := (hw4.block y hyW).trans hr
          gi_wp2
          refine wpIn_segs (w₀ := w) (X := fun j => j = n4) hr4 hPb (by omega) hsb hB4 (fun j hj => by subst hj; omega) rfl
            (fun pre W => (W.cell? ⟨n4, 0, none⟩ = some (.bool false) ∧ W.frozen? ⟨n4, 0, none⟩ = false) ∧ ∀ j ∈ pre, meetZ (sgZ la i) (sgZ lb j) = false)
            (fun cd pre W => cd = .ret ∧ W.cell? ⟨n4, 0, none⟩ = some (.bool false) ∧ ∃ j ∈ pre, meetZ (sgZ la i) (sgZ lb j) = true)
            (fun s A B h hx => ⟨⟨(World.cell?_of_block (a := ⟨n4, 0, none⟩) (hx n4 rfl)).trans h.1.1, (World.frozen?_of_block (a := ⟨n4, 0, none⟩) (hx n4 rfl)).trans h.1.2⟩, h.2⟩)
            (fun cd s A B h hx => ⟨h.1, (World.cell?_of_block (a := ⟨n4, 0, none⟩) (hx n4 rfl)).trans h.2.1, h.2.2⟩)
            ⟨⟨hcr4, hfr4⟩, by simp⟩ (fun Bx' cx cy dx dy => { tmps := #[.agg #[.int .i64 ka, .slice aa la.length ca], .agg #[.int .i64 2, .slice ab lb.length cb], .pointer (some ⟨n2, 0, none⟩), .pointer (some ⟨n2 + 1, 0, none⟩), .pointer (some ⟨n4, 0, none⟩), .pointer (some ⟨Bx, 0, none⟩), (.pointer (some ⟨Bx', 0, none⟩)), .pointer (some ⟨n2 + 1, 0, none⟩), .int .i64 2, .bool false, .bool false, .pointer (some ⟨n2, 1, none⟩), .slice aa la.length ca, .int .i64 la.length, .bool false, .bool false, .pointer (some ⟨n2, 1, none⟩), .slice aa la.length ca, .func (.func 88) #[] #[.pointer (some ⟨n2 + 1, 0, none⟩)], .bool false, .agg #[.int .i64 ka, .slice aa la.length ca], .func (.func 116) #[] #[.pointer (some ⟨W2.heap.size, 0, none⟩)], .agg #[.int .i64 ax, .int .i64 ay, .int .i64 bx, .int .i64 by_], .agg #[.int .i64 2, .slice ab lb.length cb], .func (.func 116) #[] #[.pointer (some ⟨W.heap.size, 0, none⟩)], .agg #[.int .i64 cx, .int .i64 cy, .int .i64 dx, .int .i64 dy], undef, undef, undef], defers := [] }) ?assign2 ?body2 ?done2 ?stop2
          case assign2 =>
            intro y' cx cy dx dy W5 K hK
            gi_wp2
            exact hK _ _ ((Aft.refl W5).alloc _) (Nat.le_refl _) ⟨⟨cell_new _ _ _ _ _ rfl, cell_new _ _ _ _ _ rfl⟩, cell_new _ _ _ _ _ rfl, cell_new _ _ _ _ _ rfl⟩
          case body2 =>
            rintro y' pre' j Bx' cx cy dx dy W5 hs' hy' _ hKn5 ⟨⟨hcr5, hfr5⟩, hno5⟩ hBx' ⟨⟨d1, d2⟩, d3, d4⟩ hlen'
            have hsc5 := sgZ_sc hscb j
            rw [hs'.out] at hsc5
            obtain ⟨t1, t2, t3, t4⟩ := hsc5
            obtain ⟨⟨q1, q2⟩, q3, q4⟩ := h4.out
            have tr : ∀ {o : Nat} {v : Value}, W.cell? ⟨Bx, o, none⟩ = some v → W5.cell? ⟨Bx, o, none⟩ = some v := fun h => (hKn5.cell (by omega) (by omega)).trans ((hw4.cell hBxW).trans h)
            have e1 := tr q1
            have e2 := tr q2
            have e3 := tr q3
            have e4 := tr q4
            clear q1 q2 q3 q4 tr
            have HN5 := hid hno5; clear hno5
            gi_wp2_with fail
            refine ⟨trivial, CallsIn.mono (CallsIn.inRound y' (callsIn_wide.2 (meet_any _ s1 s2 s3 s4 t1 t2 t3 t4))) ?_⟩
            rintro e W6 ⟨rfl, hw6⟩
            obtain ⟨o, ho⟩ : ∃ o, meetZ ((ax, ay), (bx, by_)) ((cx, cy), (dx, dy)) = o := ⟨_, rfl⟩
            rw [ho]
            have HM := hid ho; clear ho
            have hk6 : Kx (fun j => j = n4) W5 W6 := aft_kx hw6
            have hcr6 : W6.cell? ⟨n4, 0, none⟩ = some (.bool false) := (hw6.cell (World.block_lt_of_cell? _ _ hcr5)).trans hcr5
            have hfr6 : W6.frozen? ⟨n4, 0, none⟩ = false := (hw6.frozen (World.block_lt_of_cell? _ _ hcr5)).trans hfr5
            cases o
            case true =>
              gi_wp2
              exact ⟨hk6.trans (Kx.setCell _ rfl), rfl, World.cell?_setCell_same' _ _ _ (by rw [hcr6]; rfl), j, by simp, by rw [hs.out, hs'.out]; exact HM.out⟩
            case false =>
              gi_wp2
              refine ⟨hk6, ⟨hcr6, hfr6⟩, fun z hz => ?_⟩
              rcases List.mem_append.1 hz with h | h
              · exact HN5.out z h
              · obtain rfl : z = j := by simpa using h
                rw [hs.out, hs'.out]; exact HM.out
          case done2 =>
            rintro W5 hKn5 ⟨hn5, hno5⟩
            have hkx : Kx (fun j => j = n4) W W5 := (aft_kx hw4).trans hKn5
            have HN5 := hid hno5; clear hno5
            gi_wp2
            refine ⟨hkx, hn5, fun z hz u hu => ?_⟩
            rcases List.mem_append.1 hz with h | h
            · exact HN.out z h u hu
            · obtain rfl : z = i := by simpa using h
              exact HN5.out u (List.mem_range.2 hu)
          case stop2 =>
            rintro cd m W5 hm hKn5 ⟨rfl, hcr5, j, hj, hmt⟩
            have hkx : Kx (fun j => j = n4) W W5 := (aft_kx hw4).trans hKn5
            have hj' := List.mem_range.1 hj
            gi_wp2
            exact ⟨hkx, rfl, hcr5, i, by simp, j, by omega, hmt⟩
        case done =>
          rintro D W hD hKn ⟨⟨hcr, hfr⟩, hno⟩ hd
          have hres : insideZ ka la 2 lb = true := by
            rw [HR.out, HO.out, List.any_eq_false.2 (fun x hx => by
              rw [Bool.not_eq_true]
              exact List.any_eq_false.2 (fun z hz => by rw [hno x hx z (List.mem_range.1 hz)]; simp))]
            rfl
          have HS := hid hres; clear hres hno
          have hkf := hKn.trans ((Kx.setCell (A := W) (p := ⟨n4, 0, none⟩) (X := fun j => j = n4) (.bool true) rfl).kn hKn.size)
          have HF := hid (kn_end (o := .deferred none) hw03 (fun j hj => by subst hj; omega) hkf hD)
          go_wp2
          have hd' : (W.setCell ⟨n4, 0, none⟩ (.bool true)).heap[D]? = some (.deferred (some [])) := (Below.heap_setCell W ⟨n4, 0, none⟩ _ D (by simp; omega)).trans hd
          refine ⟨by simp, .inl ⟨_, _, rfl, run_takeDeferred hd', ?_⟩⟩
          exact ⟨.bool true, results_cell1 rfl _ _ n4 _ rfl (end_cell (World.cell?_setCell_same' _ _ _ (by rw [hcr]; rfl)) hd'), by rw [HS.out], HF.out⟩
        case stop =>
          rintro D cd m W hD hm hKn ⟨rfl, hcr, i, hi, j, hj, hmt⟩ hd
          have hres : insideZ ka la 2 lb = false := by
            rw [HR.out, HO.out, List.any_eq_true.2 ⟨i, List.mem_range.2 (by have := List.mem_range.1 hi; omega), List.any_eq_true.2 ⟨j, List.mem_range.2 hj, hmt⟩⟩]
            rfl
          have HS := hid hres; clear hres
          have HF := hid (kn_end (o := .deferred none) hw03 (fun j hj => by subst hj; omega) hKn hD)
          go_wp2
          refine ⟨by simp, .inl ⟨_, _, rfl, run_takeDeferred hd, ?_⟩⟩
          exact ⟨.bool false, results_cell1 rfl _ _ n4 _ rfl (end_cell hcr hd), by rw [HS.out], HF.out⟩
  · have hbk : (kb != 2) = true := by simpa using hk
    have hR : insideZ ka la kb lb = false := by unfold insideZ; simp [hk]
    have HR := hid hR; clear hR hk
    have HE := hid (EF.out W1 (Aft.refl _))
    go_wp2
    exact ⟨.bool false, results_cell1 rfl _ _ n4 _ rfl hgc, by rw [HR.out], HE.out⟩
end Go.Proofs.Ytokdclbfjlnnjaa
