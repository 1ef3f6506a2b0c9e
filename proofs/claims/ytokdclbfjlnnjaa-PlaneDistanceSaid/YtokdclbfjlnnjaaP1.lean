/- Contracts of the small functions of the plane: points and segments. -/
import Derived.Test.YtokdclbfjlnnjaaS1
import Derived.BigQuiet
import Derived.Deep.QuietTactic
import Derived.Deep.DeepCutAuto
namespace Go.Proofs.Ytokdclbfjlnnjaa
open Go.RowKit Go.BigFrame

abbrev Pt := Int × Int
def crossZ (a b c : Pt) : Int := (b.1 - a.1) * (c.2 - a.2) - (b.2 - a.2) * (c.1 - a.1)
/-- A coordinate that is small enough. -/
def Sc (x : Int) : Prop := -5000 ≤ x ∧ x ≤ 5000

theorem mul_bd {x y : Int} (hx : -10000 ≤ x ∧ x ≤ 10000) (hy : -10000 ≤ y ∧ y ≤ 10000) : -100000000 ≤ x * y ∧ x * y ≤ 100000000 := by
  have h1 : x.natAbs ≤ 10000 := by omega
  have h2 : y.natAbs ≤ 10000 := by omega
  have h3 := Nat.mul_le_mul h1 h2
  rw [← Int.natAbs_mul] at h3
  omega
theorem sub_bd {x y : Int} (hx : Sc x) (hy : Sc y) : -10000 ≤ x - y ∧ x - y ≤ 10000 := by unfold Sc at *; omega

theorem box_cells (w : World) (c1 c2 : Array Value) (t1 t2 : TypeId) : ∀ W, Aft ((w.alloc (.cells c1 t1)).alloc (.cells c2 t2)) W →
    (∀ i v, c1[i]? = some v → W.cell? ⟨w.heap.size, i, none⟩ = some v) ∧ (∀ i v, c2[i]? = some v → W.cell? ⟨w.heap.size + 1, i, none⟩ = some v) := fun W hW => by
  have h1 : (w.alloc (.cells c1 t1)).heap.size = w.heap.size + 1 := by simp
  have h2 : ((w.alloc (.cells c1 t1)).alloc (.cells c2 t2)).heap.size = w.heap.size + 2 := by simp
  refine ⟨fun i v h => ?_, fun i v h => ?_⟩
  · rw [hW.cell (by rw [h2]; omega), ((Aft.refl _).alloc _).cell (by rw [h1]; omega)]
    simp only [World.cell?, heap_alloc_new]
    exact h
  · rw [hW.cell (by rw [h2]; omega), ← h1]
    simp only [World.cell?, heap_alloc_new]
    exact h

set_option maxHeartbeats 1000000 in
theorem turn_any {ax ay bx by_ cx cy : Int} (w : World) (h1 : Sc ax) (h2 : Sc ay) (h3 : Sc bx) (h4 : Sc by_) (h5 : Sc cx) (h6 : Sc cy) :
    Calls Try.prog 115 #[.agg #[.int .i64 ax, .int .i64 ay], .agg #[.int .i64 bx, .int .i64 by_], .agg #[.int .i64 cx, .int .i64 cy]] w fun e w' => e = .returned (.int .i64 (crossZ (ax, ay) (bx, by_) (cx, cy))) ∧ Aft w w' := by
  have m1 := mul_bd (sub_bd h3 h1) (sub_bd h6 h2)
  have m2 := mul_bd (sub_bd h4 h2) (sub_bd h5 h1)
  unfold Sc at *
  go_enter Try.func115, Try.ntmps115
  go_wp2
  go_ret
  exact ⟨ret_int rfl, (((Aft.refl w).alloc _).alloc _).alloc _⟩

set_option maxHeartbeats 1000000 in
theorem cross_any {ax ay bx by_ cx cy : Int} (w : World) (h1 : Sc ax) (h2 : Sc ay) (h3 : Sc bx) (h4 : Sc by_) (h5 : Sc cx) (h6 : Sc cy) :
    Calls Try.prog 81 #[.agg #[.int .i64 ax, .int .i64 ay], .agg #[.int .i64 bx, .int .i64 by_], .agg #[.int .i64 cx, .int .i64 cy]] w fun e w' => e = .returned (.int .i64 (crossZ (ax, ay) (bx, by_) (cx, cy))) ∧ Aft w w' := by
  have m1 := mul_bd (sub_bd h3 h1) (sub_bd h6 h2)
  have m2 := mul_bd (sub_bd h4 h2) (sub_bd h5 h1)
  unfold Sc at *
  go_enter Try.func81, Try.ntmps81
  go_wp2
  go_ret
  exact ⟨ret_int rfl, (((Aft.refl w).alloc _).alloc _).alloc _⟩

def oppZ (a b : Int) : Bool := decide (0 < a ∧ b < 0 ∨ a < 0 ∧ 0 < b)
set_option maxHeartbeats 1000000 in
theorem opp_any (a b : Int) (w : World) :
    Calls Try.prog 80 #[.int .i64 a, .int .i64 b] w fun e w' => e = .returned (.bool (oppZ a b)) ∧ w = w' := by
  rcases Int.lt_trichotomy a 0 with ha | rfl | ha <;> rcases Int.lt_trichotomy b 0 with hb | rfl | hb
  all_goals
    go_enter Try.func80, Try.ntmps80
    go_wp2
    go_ret
    exact ⟨ret_bool (by unfold oppZ; rw [Bool.eq_iff_iff]; simp; try omega), rfl⟩

def signZ (n : Int) : Int := min 1 (max (-1) n)
set_option maxHeartbeats 1000000 in
theorem sign_any (n : Int) (w : World) :
    Calls Try.prog 114 #[.int .i64 n] w fun e w' => e = .returned (.int .i64 (signZ n)) ∧ w = w' := by
  go_enter Try.func114, Try.ntmps114
  go_wp2
  all_goals go_ret
  all_goals exact ⟨ret_int (by unfold signZ; omega), rfl⟩

theorem signZ_bd (n : Int) : -1 ≤ signZ n ∧ signZ n ≤ 1 := by unfold signZ; omega
theorem signZ_mul (a b : Int) : decide (signZ a * signZ b < 0) = oppZ a b := by
  have h : ∀ n : Int, signZ n = if n < 0 then -1 else if n = 0 then 0 else 1 := fun n => by unfold signZ; split <;> (try split) <;> omega
  rw [h, h]
  rcases Int.lt_trichotomy a 0 with ha | rfl | ha <;> rcases Int.lt_trichotomy b 0 with hb | rfl | hb
  all_goals simp [oppZ]
  all_goals (try (repeat' split)) <;> simp_all <;> omega

theorem cross_to {ax ay bx by_ cx cy c : Int} (h : crossZ (ax, ay) (bx, by_) (cx, cy) = c) (w : World) (h1 : Sc ax) (h2 : Sc ay) (h3 : Sc bx) (h4 : Sc by_) (h5 : Sc cx) (h6 : Sc cy) :
    Calls Try.prog 81 #[.agg #[.int .i64 ax, .int .i64 ay], .agg #[.int .i64 bx, .int .i64 by_], .agg #[.int .i64 cx, .int .i64 cy]] w fun e w' => e = .returned (.int .i64 c) ∧ Aft w w' := by
  rw [← h]; exact cross_any w h1 h2 h3 h4 h5 h6
theorem opp_to {a b : Int} {y : Bool} (h : oppZ a b = y) (w : World) : Calls Try.prog 80 #[.int .i64 a, .int .i64 b] w fun e w' => e = .returned (.bool y) ∧ Aft w w' := by
  rw [← h]; exact (opp_any a b w).mono fun _ _ ⟨h1, h2⟩ => ⟨h1, h2 ▸ Aft.refl w⟩
theorem sign_aft (n : Int) (w : World) : Calls Try.prog 114 #[.int .i64 n] w fun e w' => e = .returned (.int .i64 (signZ n)) ∧ Aft w w' :=
  (sign_any n w).mono fun _ _ ⟨h1, h2⟩ => ⟨h1, h2 ▸ Aft.refl w⟩
theorem opp_aft (a b : Int) (w : World) : Calls Try.prog 80 #[.int .i64 a, .int .i64 b] w fun e w' => e = .returned (.bool (oppZ a b)) ∧ Aft w w' :=
  (opp_any a b w).mono fun _ _ ⟨h1, h2⟩ => ⟨h1, h2 ▸ Aft.refl w⟩
theorem signZ_mulbd (a b : Int) : -1 ≤ signZ a * signZ b ∧ signZ a * signZ b ≤ 1 := by
  have ha := signZ_bd a
  have hb := signZ_bd b
  have h1 : signZ a = -1 ∨ signZ a = 0 ∨ signZ a = 1 := by omega
  rcases h1 with h | h | h <;> rw [h] <;> omega

def onZ (p : Pt) (s : Pt × Pt) : Bool := decide (crossZ s.1 s.2 p = 0) && (decide ((p.1 - s.1.1) * (p.1 - s.2.1) ≤ 0) && decide ((p.2 - s.1.2) * (p.2 - s.2.2) ≤ 0))

/-- A point, a segment, a segment with two numbers, as they lie in a block. -/
def B2 (W : World) (b : Nat) (x y : Int) : Prop := W.cell? ⟨b, 0, none⟩ = some (.int .i64 x) ∧ W.cell? ⟨b, 1, none⟩ = some (.int .i64 y)
def B4 (W : World) (b : Nat) (x y z u : Int) : Prop := B2 W b x y ∧ W.cell? ⟨b, 2, none⟩ = some (.int .i64 z) ∧ W.cell? ⟨b, 3, none⟩ = some (.int .i64 u)
def B6 (W : World) (b : Nat) (x y z u f t : Int) : Prop := B4 W b x y z u ∧ W.cell? ⟨b, 4, none⟩ = some (.int .i64 f) ∧ W.cell? ⟨b, 5, none⟩ = some (.int .i64 t)

theorem two_boxes (w : World) (c1 c2 : Array Value) (t1 t2 : TypeId) : ∃ W0, (w.alloc (.cells c1 t1)).alloc (.cells c2 t2) = W0 ∧ Aft w W0 ∧ w.heap.size + 1 < W0.heap.size ∧ Hid (∀ W, Aft W0 W →
    (∀ i v, c1[i]? = some v → W.cell? ⟨w.heap.size, i, none⟩ = some v) ∧ (∀ i v, c2[i]? = some v → W.cell? ⟨w.heap.size + 1, i, none⟩ = some v)) :=
  ⟨_, rfl, ((Aft.refl w).alloc _).alloc _, by simp, hid (box_cells w c1 c2 t1 t2)⟩

set_option maxRecDepth 100000 in
set_option maxHeartbeats 1000000 in
theorem ron_any {px py ax ay bx by_ : Int} (f t : Int) (w : World) (h1 : Sc ax) (h2 : Sc ay) (h3 : Sc bx) (h4 : Sc by_) (h5 : Sc px) (h6 : Sc py) :
    Calls Try.prog 79 #[.agg #[.int .i64 px, .int .i64 py], .agg #[.int .i64 ax, .int .i64 ay, .int .i64 bx, .int .i64 by_, .int .i64 f, .int .i64 t]] w
      fun e w' => e = .returned (.bool (onZ (px, py) ((ax, ay), (bx, by_)))) ∧ Aft w w' := by
  have m1 := mul_bd (sub_bd h5 h1) (sub_bd h5 h3)
  have m2 := mul_bd (sub_bd h6 h2) (sub_bd h6 h4)
  obtain ⟨W0, eW0, hw0, hlt, hbox⟩ := two_boxes w #[.int .i64 px, .int .i64 py] #[.int .i64 ax, .int .i64 ay, .int .i64 bx, .int .i64 by_, .int .i64 f, .int .i64 t] 57 59
  go_enter Try.func79, Try.ntmps79
  go_upto_region 1 with fail
  clear eW0
  have hF : Hid (∀ W, Aft W0 W → B2 W w.heap.size px py ∧ B6 W (w.heap.size + 1) ax ay bx by_ f t) := hid fun W hW =>
    ⟨⟨(hbox.out W hW).1 0 _ rfl, (hbox.out W hW).1 1 _ rfl⟩, ⟨⟨(hbox.out W hW).2 0 _ rfl, (hbox.out W hW).2 1 _ rfl⟩, (hbox.out W hW).2 2 _ rfl, (hbox.out W hW).2 3 _ rfl⟩, (hbox.out W hW).2 4 _ rfl, (hbox.out W hW).2 5 _ rfl⟩
  clear hbox
  generalize w.heap.size = n0 at *
  obtain ⟨⟨p1, p2⟩, ⟨⟨q1, q2⟩, q3, q4⟩, q5, q6⟩ := hF.out W0 (Aft.refl _)
  go_wp2_with fail
  refine (cross_any _ h1 h2 h3 h4 h5 h6).mono ?_
  rintro e w1 ⟨rfl, hw1⟩
  clear p1 p2 q1 q2 q3 q4 q5 q6
  obtain ⟨⟨p1, p2⟩, ⟨⟨q1, q2⟩, q3, q4⟩, q5, q6⟩ := hF.out w1 hw1
  have hw := hw0.trans hw1
  by_cases hc : crossZ (ax, ay) (bx, by_) (px, py) = 0
  · by_cases hd : (px - ax) * (px - bx) ≤ 0
    · have hd' : decide ((px - ax) * (px - bx) ≤ 0) = true := by simpa using hd
      unfold Sc at *
      go_wp2
      go_ret
      exact ⟨ret_bool (by unfold onZ; simp only [hc, hd']; simp), hw⟩
    · have hd' : decide ((px - ax) * (px - bx) ≤ 0) = false := by simpa using hd
      unfold Sc at *
      go_wp2
      go_ret
      exact ⟨ret_bool (by unfold onZ; simp only [hc, hd']; simp), hw⟩
  · unfold Sc at *
    go_wp2
    go_ret
    exact ⟨ret_bool (by simp [onZ, hc]), hw⟩

theorem min_if (a b : Int) : (if b < a then b else a) = min a b := by split <;> omega
theorem max_if (a b : Int) : (if a < b then b else a) = max a b := by split <;> omega
theorem between {p a b : Int} : ((p - a) * (p - b) ≤ 0) ↔ (min a b ≤ p ∧ p ≤ max a b) := by
  constructor
  · intro h
    refine Classical.byContradiction fun hn => ?_
    have : p < a ∧ p < b ∨ a < p ∧ b < p := by omega
    rcases this with ⟨h1, h2⟩ | ⟨h1, h2⟩
    · have := Int.mul_pos_of_neg_of_neg (a := p - a) (b := p - b) (by omega) (by omega)
      omega
    · have := Int.mul_pos (a := p - a) (b := p - b) (by omega) (by omega)
      omega
  · rintro ⟨h1, h2⟩
    have : (0 ≤ p - a ∧ p - b ≤ 0) ∨ (p - a ≤ 0 ∧ 0 ≤ p - b) := by omega
    rcases this with ⟨h3, h4⟩ | ⟨h3, h4⟩
    · exact Int.mul_nonpos_of_nonneg_of_nonpos h3 h4
    · exact Int.mul_nonpos_of_nonpos_of_nonneg h3 h4
theorem onZ_box (p a b : Pt) : onZ p (a, b) = (decide (crossZ a b p = 0) && (decide (min a.1 b.1 ≤ p.1) && (decide (p.1 ≤ max a.1 b.1) && (decide (min a.2 b.2 ≤ p.2) && decide (p.2 ≤ max a.2 b.2))))) := by
  unfold onZ
  rw [Bool.eq_iff_iff]
  simp only [Bool.and_eq_true, decide_eq_true_eq, between]
  constructor
  · rintro ⟨h1, ⟨h2, h3⟩, h4, h5⟩; exact ⟨h1, h2, h3, h4, h5⟩
  · rintro ⟨h1, h2, h3, h4, h5⟩; exact ⟨h1, ⟨h2, h3⟩, h4, h5⟩

set_option maxRecDepth 100000 in
set_option maxHeartbeats 1000000 in
theorem on_any {px py ax ay bx by_ : Int} (w : World) (h1 : Sc ax) (h2 : Sc ay) (h3 : Sc bx) (h4 : Sc by_) (h5 : Sc px) (h6 : Sc py) :
    Calls Try.prog 101 #[.agg #[.int .i64 px, .int .i64 py], .agg #[.int .i64 ax, .int .i64 ay, .int .i64 bx, .int .i64 by_]] w
      fun e w' => e = .returned (.bool (onZ (px, py) ((ax, ay), (bx, by_)))) ∧ Aft w w' := by
  rw [onZ_box]
  dsimp only
  obtain ⟨c, ec⟩ : ∃ c, crossZ (ax, ay) (bx, by_) (px, py) = c := ⟨_, rfl⟩
  rw [ec]
  obtain ⟨mx, e1⟩ : ∃ mx, (if bx < ax then bx else ax) = mx := ⟨_, rfl⟩
  obtain ⟨Mx, e2⟩ : ∃ mx, (if ax < bx then bx else ax) = mx := ⟨_, rfl⟩
  obtain ⟨my, e3⟩ : ∃ mx, (if by_ < ay then by_ else ay) = mx := ⟨_, rfl⟩
  obtain ⟨My, e4⟩ : ∃ mx, (if ay < by_ then by_ else ay) = mx := ⟨_, rfl⟩
  rw [show min ax bx = mx from (min_if _ _).symm.trans e1, show max ax bx = Mx from (max_if _ _).symm.trans e2, show min ay by_ = my from (min_if _ _).symm.trans e3, show max ay by_ = My from (max_if _ _).symm.trans e4]
  obtain ⟨W0, eW0, hw0, hlt, hbox⟩ := two_boxes w #[.int .i64 px, .int .i64 py] #[.int .i64 ax, .int .i64 ay, .int .i64 bx, .int .i64 by_] 57 112
  go_enter Try.func101, Try.ntmps101
  go_upto_region 1 with fail
  clear eW0
  have hF : Hid (∀ W, Aft W0 W → B2 W w.heap.size px py ∧ B4 W (w.heap.size + 1) ax ay bx by_) := hid fun W hW =>
    ⟨⟨(hbox.out W hW).1 0 _ rfl, (hbox.out W hW).1 1 _ rfl⟩, ⟨(hbox.out W hW).2 0 _ rfl, (hbox.out W hW).2 1 _ rfl⟩, (hbox.out W hW).2 2 _ rfl, (hbox.out W hW).2 3 _ rfl⟩
  clear hbox
  generalize w.heap.size = n0 at *
  obtain ⟨⟨p1, p2⟩, ⟨q1, q2⟩, q3, q4⟩ := hF.out W0 (Aft.refl _)
  go_wp2_with fail
  refine (turn_any _ h1 h2 h3 h4 h5 h6).mono ?_
  rintro e w1 ⟨rfl, hw1⟩
  rw [ec]
  clear p1 p2 q1 q2 q3 q4
  obtain ⟨⟨p1, p2⟩, ⟨q1, q2⟩, q3, q4⟩ := hF.out w1 hw1
  have hw := hw0.trans hw1
  by_cases g0 : c = 0
  · by_cases g1 : mx ≤ px
    · by_cases g2 : px ≤ Mx
      · by_cases g3 : my ≤ py
        · go_wp2
          go_ret
          exact ⟨ret_bool (by simp [g0, g1, g2, g3]), hw⟩
        · go_wp2
          go_ret
          exact ⟨ret_bool (by simp; omega), hw⟩
      · go_wp2
        go_ret
        exact ⟨ret_bool (by simp; omega), hw⟩
    · go_wp2
      go_ret
      exact ⟨ret_bool (by simp; omega), hw⟩
  · go_wp2
    go_ret
    exact ⟨ret_bool (by simp [g0]), hw⟩

def meetZ (s t : Pt × Pt) : Bool := onZ s.1 t || (onZ s.2 t || (onZ t.1 s || (onZ t.2 s || (oppZ (crossZ s.1 s.2 t.1) (crossZ s.1 s.2 t.2) && oppZ (crossZ t.1 t.2 s.1) (crossZ t.1 t.2 s.2)))))

set_option maxRecDepth 100000 in
set_option maxHeartbeats 4000000 in
theorem meet_any {ax ay bx by_ cx cy dx dy : Int} (w : World) (h1 : Sc ax) (h2 : Sc ay) (h3 : Sc bx) (h4 : Sc by_) (h5 : Sc cx) (h6 : Sc cy) (h7 : Sc dx) (h8 : Sc dy) :
    Calls Try.prog 75 #[.agg #[.int .i64 ax, .int .i64 ay, .int .i64 bx, .int .i64 by_], .agg #[.int .i64 cx, .int .i64 cy, .int .i64 dx, .int .i64 dy]] w
      fun e w' => e = .returned (.bool (meetZ ((ax, ay), (bx, by_)) ((cx, cy), (dx, dy)))) ∧ Aft w w' := by
  unfold meetZ
  dsimp only
  obtain ⟨o1, e1⟩ : ∃ o, onZ (ax, ay) ((cx, cy), (dx, dy)) = o := ⟨_, rfl⟩
  obtain ⟨o2, e2⟩ : ∃ o, onZ (bx, by_) ((cx, cy), (dx, dy)) = o := ⟨_, rfl⟩
  obtain ⟨o3, e3⟩ : ∃ o, onZ (cx, cy) ((ax, ay), (bx, by_)) = o := ⟨_, rfl⟩
  obtain ⟨o4, e4⟩ : ∃ o, onZ (dx, dy) ((ax, ay), (bx, by_)) = o := ⟨_, rfl⟩
  rw [e1, e2, e3, e4]
  obtain ⟨W0, eW0, hw0, hlt, hbox⟩ := two_boxes w #[.int .i64 ax, .int .i64 ay, .int .i64 bx, .int .i64 by_] #[.int .i64 cx, .int .i64 cy, .int .i64 dx, .int .i64 dy] 112 112
  go_enter Try.func75, Try.ntmps75
  go_upto_region 1 with fail
  clear eW0
  have hF : Hid (∀ W, Aft W0 W → B4 W w.heap.size ax ay bx by_ ∧ B4 W (w.heap.size + 1) cx cy dx dy) := hid fun W hW =>
    ⟨⟨⟨(hbox.out W hW).1 0 _ rfl, (hbox.out W hW).1 1 _ rfl⟩, (hbox.out W hW).1 2 _ rfl, (hbox.out W hW).1 3 _ rfl⟩, ⟨(hbox.out W hW).2 0 _ rfl, (hbox.out W hW).2 1 _ rfl⟩, (hbox.out W hW).2 2 _ rfl, (hbox.out W hW).2 3 _ rfl⟩
  clear hbox
  generalize w.heap.size = n0 at *
  obtain ⟨⟨⟨p1, p2⟩, p3, p4⟩, ⟨q1, q2⟩, q3, q4⟩ := hF.out W0 (Aft.refl _)
  go_wp2_with fail
  refine (on_any _ h5 h6 h7 h8 h1 h2).mono ?_
  rintro e w1 ⟨rfl, hw1⟩
  rw [e1]
  clear e1 p1 p2 p3 p4 q1 q2 q3 q4
  obtain ⟨⟨⟨p1, p2⟩, p3, p4⟩, ⟨q1, q2⟩, q3, q4⟩ := hF.out w1 hw1
  have hw := hw0.trans hw1
  cases o1
  case true =>
    go_wp2
    go_ret
    exact ⟨ret_bool (by simp), hw⟩
  case false =>
    go_wp2_with fail
    refine (on_any _ h5 h6 h7 h8 h3 h4).mono ?_
    rintro e w2 ⟨rfl, hw2⟩
    rw [e2]
    clear e2 p1 p2 p3 p4 q1 q2 q3 q4
    replace hw2 := hw1.trans hw2
    obtain ⟨⟨⟨p1, p2⟩, p3, p4⟩, ⟨q1, q2⟩, q3, q4⟩ := hF.out w2 hw2
    replace hw := hw0.trans hw2
    cases o2
    case true =>
      go_wp2
      go_ret
      exact ⟨ret_bool (by simp), hw⟩
    case false =>
      go_wp2_with fail
      refine (on_any _ h1 h2 h3 h4 h5 h6).mono ?_
      rintro e w3 ⟨rfl, hw3⟩
      rw [e3]
      clear e3 p1 p2 p3 p4 q1 q2 q3 q4
      replace hw3 := hw2.trans hw3
      obtain ⟨⟨⟨p1, p2⟩, p3, p4⟩, ⟨q1, q2⟩, q3, q4⟩ := hF.out w3 hw3
      replace hw := hw0.trans hw3
      cases o3
      case true =>
        go_wp2
        go_ret
        exact ⟨ret_bool (by simp), hw⟩
      case false =>
        go_wp2_with fail
        refine (on_any _ h1 h2 h3 h4 h7 h8).mono ?_
        rintro e w4 ⟨rfl, hw4⟩
        rw [e4]
        clear e4 p1 p2 p3 p4 q1 q2 q3 q4
        replace hw4 := hw3.trans hw4
        obtain ⟨⟨⟨p1, p2⟩, p3, p4⟩, ⟨q1, q2⟩, q3, q4⟩ := hF.out w4 hw4
        replace hw := hw0.trans hw4
        cases o4
        case true =>
          go_wp2
          go_ret
          exact ⟨ret_bool (by simp), hw⟩
        case false =>
          have hl0 : n0 < w4.heap.size := by have := hw4.size; omega
          have hl1 : n0 + 1 < w4.heap.size := by have := hw4.size; omega
          have b1 := signZ_mulbd (crossZ (ax, ay) (bx, by_) (cx, cy)) (crossZ (ax, ay) (bx, by_) (dx, dy))
          have b2 := signZ_mulbd (crossZ (cx, cy) (dx, dy) (ax, ay)) (crossZ (cx, cy) (dx, dy) (bx, by_))
          have g1 := signZ_mul (crossZ (ax, ay) (bx, by_) (cx, cy)) (crossZ (ax, ay) (bx, by_) (dx, dy))
          have g2 := signZ_mul (crossZ (cx, cy) (dx, dy) (ax, ay)) (crossZ (cx, cy) (dx, dy) (bx, by_))
          cases ho : oppZ (crossZ (ax, ay) (bx, by_) (cx, cy)) (crossZ (ax, ay) (bx, by_) (dx, dy))
          all_goals
            rw [ho] at g1
            have HO := hid ho
            clear ho
            go_upto_region 3 with fail
            refine wp_region_lat w4 (Aft.refl _) (by kernel_rfl) (by kernel_rfl) ?_
            repeat (go_big_quiet_step (first | (go_at_call 115; exact Calls.lat (turn_any _ (by assumption) (by assumption) (by assumption) (by assumption) (by assumption) (by assumption))) | (go_at_call 114; exact Calls.lat (sign_aft _ _))))
            refine wpQuiet_nil ?_
            intro _ hw'; obtain ⟨z, rfl⟩ := hw'
            go_wp2
            go_ret
            exact ⟨ret_bool (by rw [HO.out]; simp), hw.trans z.aft⟩
set_option maxRecDepth 100000 in
set_option maxHeartbeats 4000000 in
theorem rmeet_any {ax ay bx by_ cx cy dx dy : Int} (f t f' t' : Int) (w : World) (h1 : Sc ax) (h2 : Sc ay) (h3 : Sc bx) (h4 : Sc by_) (h5 : Sc cx) (h6 : Sc cy) (h7 : Sc dx) (h8 : Sc dy) :
    Calls Try.prog 31 #[.agg #[.int .i64 ax, .int .i64 ay, .int .i64 bx, .int .i64 by_, .int .i64 f, .int .i64 t], .agg #[.int .i64 cx, .int .i64 cy, .int .i64 dx, .int .i64 dy, .int .i64 f', .int .i64 t']] w
      fun e w' => e = .returned (.bool (meetZ ((ax, ay), (bx, by_)) ((cx, cy), (dx, dy)))) ∧ Aft w w' := by
  unfold meetZ
  dsimp only
  obtain ⟨o1, e1⟩ : ∃ o, onZ (ax, ay) ((cx, cy), (dx, dy)) = o := ⟨_, rfl⟩
  obtain ⟨o2, e2⟩ : ∃ o, onZ (bx, by_) ((cx, cy), (dx, dy)) = o := ⟨_, rfl⟩
  obtain ⟨o3, e3⟩ : ∃ o, onZ (cx, cy) ((ax, ay), (bx, by_)) = o := ⟨_, rfl⟩
  obtain ⟨o4, e4⟩ : ∃ o, onZ (dx, dy) ((ax, ay), (bx, by_)) = o := ⟨_, rfl⟩
  rw [e1, e2, e3, e4]
  obtain ⟨c1, x1⟩ : ∃ c, crossZ (ax, ay) (bx, by_) (cx, cy) = c := ⟨_, rfl⟩
  obtain ⟨c2, x2⟩ : ∃ c, crossZ (ax, ay) (bx, by_) (dx, dy) = c := ⟨_, rfl⟩
  obtain ⟨c3, x3⟩ : ∃ c, crossZ (cx, cy) (dx, dy) (ax, ay) = c := ⟨_, rfl⟩
  obtain ⟨c4, x4⟩ : ∃ c, crossZ (cx, cy) (dx, dy) (bx, by_) = c := ⟨_, rfl⟩
  rw [x1, x2, x3, x4]
  obtain ⟨y1, x5⟩ : ∃ y, oppZ c1 c2 = y := ⟨_, rfl⟩
  obtain ⟨y2, x6⟩ : ∃ y, oppZ c3 c4 = y := ⟨_, rfl⟩
  rw [x5, x6]
  obtain ⟨W0, eW0, hw0, hlt, hbox⟩ := two_boxes w #[.int .i64 ax, .int .i64 ay, .int .i64 bx, .int .i64 by_, .int .i64 f, .int .i64 t] #[.int .i64 cx, .int .i64 cy, .int .i64 dx, .int .i64 dy, .int .i64 f', .int .i64 t'] 59 59
  go_enter Try.func31, Try.ntmps31
  go_upto_region 1 with fail
  clear eW0
  have hF : Hid (∀ W, Aft W0 W → B6 W w.heap.size ax ay bx by_ f t ∧ B6 W (w.heap.size + 1) cx cy dx dy f' t') := hid fun W hW =>
    ⟨⟨⟨⟨(hbox.out W hW).1 0 _ rfl, (hbox.out W hW).1 1 _ rfl⟩, (hbox.out W hW).1 2 _ rfl, (hbox.out W hW).1 3 _ rfl⟩, (hbox.out W hW).1 4 _ rfl, (hbox.out W hW).1 5 _ rfl⟩, ⟨⟨(hbox.out W hW).2 0 _ rfl, (hbox.out W hW).2 1 _ rfl⟩, (hbox.out W hW).2 2 _ rfl, (hbox.out W hW).2 3 _ rfl⟩, (hbox.out W hW).2 4 _ rfl, (hbox.out W hW).2 5 _ rfl⟩
  clear hbox
  generalize w.heap.size = n0 at *
  obtain ⟨⟨⟨⟨p1, p2⟩, p3, p4⟩, p5, p6⟩, ⟨⟨q1, q2⟩, q3, q4⟩, q5, q6⟩ := hF.out W0 (Aft.refl _)
  go_wp2_with fail
  refine (ron_any _ _ _ h5 h6 h7 h8 h1 h2).mono ?_
  rintro e w1 ⟨rfl, hw1⟩
  rw [e1]
  clear e1 p1 p2 p3 p4 p5 p6 q1 q2 q3 q4 q5 q6
  obtain ⟨⟨⟨⟨p1, p2⟩, p3, p4⟩, p5, p6⟩, ⟨⟨q1, q2⟩, q3, q4⟩, q5, q6⟩ := hF.out w1 hw1
  have hw := hw0.trans hw1
  cases o1
  case true =>
    go_wp2
    go_ret
    exact ⟨ret_bool (by simp), hw⟩
  case false =>
    go_wp2_with fail
    refine (ron_any _ _ _ h5 h6 h7 h8 h3 h4).mono ?_
    rintro e w2 ⟨rfl, hw2⟩
    rw [e2]
    clear e2 p1 p2 p3 p4 p5 p6 q1 q2 q3 q4 q5 q6
    replace hw2 := hw1.trans hw2
    obtain ⟨⟨⟨⟨p1, p2⟩, p3, p4⟩, p5, p6⟩, ⟨⟨q1, q2⟩, q3, q4⟩, q5, q6⟩ := hF.out w2 hw2
    replace hw := hw0.trans hw2
    cases o2
    case true =>
      go_wp2
      go_ret
      exact ⟨ret_bool (by simp), hw⟩
    case false =>
      go_wp2_with fail
      refine (ron_any _ _ _ h1 h2 h3 h4 h5 h6).mono ?_
      rintro e w3 ⟨rfl, hw3⟩
      rw [e3]
      clear e3 p1 p2 p3 p4 p5 p6 q1 q2 q3 q4 q5 q6
      replace hw3 := hw2.trans hw3
      obtain ⟨⟨⟨⟨p1, p2⟩, p3, p4⟩, p5, p6⟩, ⟨⟨q1, q2⟩, q3, q4⟩, q5, q6⟩ := hF.out w3 hw3
      replace hw := hw0.trans hw3
      cases o3
      case true =>
        go_wp2
        go_ret
        exact ⟨ret_bool (by simp), hw⟩
      case false =>
        go_wp2_with fail
        refine (ron_any _ _ _ h1 h2 h3 h4 h7 h8).mono ?_
        rintro e w4 ⟨rfl, hw4⟩
        rw [e4]
        clear e4 p1 p2 p3 p4 p5 p6 q1 q2 q3 q4 q5 q6
        replace hw4 := hw3.trans hw4
        obtain ⟨⟨⟨⟨p1, p2⟩, p3, p4⟩, p5, p6⟩, ⟨⟨q1, q2⟩, q3, q4⟩, q5, q6⟩ := hF.out w4 hw4
        replace hw := hw0.trans hw4
        cases o4
        case true =>
          go_wp2
          go_ret
          exact ⟨ret_bool (by simp), hw⟩
        case false =>
          have hl0 : n0 < w4.heap.size := by have := hw4.size; omega
          have hl1 : n0 + 1 < w4.heap.size := by have := hw4.size; omega
          cases y1
          all_goals
            go_upto_region 3 with fail
            refine wp_region_lat w4 (Aft.refl _) (by kernel_rfl) (by kernel_rfl) ?_
            repeat (go_big_quiet_step (first | (go_at_call 81; exact Calls.lat (cross_to (by assumption) _ (by assumption) (by assumption) (by assumption) (by assumption) (by assumption) (by assumption))) | (go_at_call 80; exact Calls.lat (opp_to (by assumption) _))))
            refine wpQuiet_nil ?_
            intro _ hw'; obtain ⟨z, rfl⟩ := hw'
            go_wp2
            go_ret
            exact ⟨ret_bool (by simp), hw.trans z.aft⟩
end Go.Proofs.Ytokdclbfjlnnjaa
