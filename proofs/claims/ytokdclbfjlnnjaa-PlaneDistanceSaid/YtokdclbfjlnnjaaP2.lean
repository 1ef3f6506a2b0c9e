/- Contracts of the small functions of the plane: distances, divisors. -/
import Derived.Test.YtokdclbfjlnnjaaP1
namespace Go.Proofs.Ytokdclbfjlnnjaa
open Go.RowKit Go.BigFrame

def sqZ (a b : Pt) : Int := (a.1 - b.1) * (a.1 - b.1) + (a.2 - b.2) * (a.2 - b.2)
set_option maxHeartbeats 1000000 in
theorem square_any {ax ay bx by_ : Int} (w : World) (h1 : Sc ax) (h2 : Sc ay) (h3 : Sc bx) (h4 : Sc by_) :
    Calls Try.prog 32 #[.agg #[.int .i64 ax, .int .i64 ay], .agg #[.int .i64 bx, .int .i64 by_]] w fun e w' => e = .returned (.int .i64 (sqZ (ax, ay) (bx, by_))) ∧ Aft w w' := by
  have m1 := mul_bd (sub_bd h1 h3) (sub_bd h1 h3)
  have m2 := mul_bd (sub_bd h2 h4) (sub_bd h2 h4)
  unfold Sc at *
  go_enter Try.func32, Try.ntmps32
  go_wp2
  go_ret
  exact ⟨ret_int rfl, ((Aft.refl w).alloc _).alloc _⟩

def sizeZ (n : Int) : Int := max n (-n)
set_option maxHeartbeats 1000000 in
theorem size_any (n : Int) (w : World) (h : -1000000 ≤ n ∧ n ≤ 1000000) :
    Calls Try.prog 84 #[.int .i64 n] w fun e w' => e = .returned (.int .i64 (sizeZ n)) ∧ Aft w w' := by
  go_enter Try.func84, Try.ntmps84
  go_wp2
  all_goals go_ret
  all_goals exact ⟨ret_int (by unfold sizeZ; omega), Aft.refl w⟩

set_option maxHeartbeats 1000000 in
theorem divisor_any (a b : Nat) (w : World) (ha : a ≤ 9000000000000000000) (hb : b ≤ 9000000000000000000) :
    Calls Try.prog 86 #[.int .i64 a, .int .i64 b] w fun e w' => e = .returned (.int .i64 (Nat.gcd b a : Nat)) ∧ Aft w w' := by
  go_enter Try.func86, Try.ntmps86
  go_wp2
  go_loopw [0, 1, 5] (fun x y _ wr => ∃ (p q : Nat), x = .int .i64 p ∧ y = .int .i64 q ∧ p ≤ 9000000000000000000 ∧ q ≤ 9000000000000000000 ∧ Hid (Nat.gcd q p = Nat.gcd b a) ∧ Aft w wr) (fun _ y _ _ => (intOf y).toNat)
  case atStart => exact ⟨a, b, rfl, rfl, ha, hb, rfl, Aft.refl w⟩
  case round =>
    obtain ⟨p, q, rfl, rfl, hp, hq, hg, hw⟩ := hrel
    rcases Nat.eq_zero_or_pos q with rfl | h0
    · go_wp2
      go_ret
      exact ⟨ret_int (by rw [← hg.out]; simp), hw⟩
    · have e1 : ((q : Int) = 0) = False := by simp; omega
      have e2 : Int.tmod (p : Int) q = ((p % q : Nat) : Int) := by rw [Int.tmod_eq_emod_of_nonneg (by omega)]; rfl
      have hlt := Nat.mod_lt p h0
      go_wp2
      go_roundw
      case rel => exact ⟨q, p % q, rfl, by simp, hq, by omega, hid (by rw [← hg.out, Nat.gcd_rec q p]), hw⟩
      case measure => simp only [intOf]; omega

set_option maxHeartbeats 1000000 in
theorem gcd_any (a b : Nat) (w : World) (ha : a ≤ 9000000000000000000) (hb : b ≤ 9000000000000000000) :
    Calls Try.prog 77 #[.int .i64 a, .int .i64 b] w fun e w' => e = .returned (.int .i64 (Nat.gcd b a : Nat)) ∧ Aft w w' := by
  go_enter Try.func77, Try.ntmps77
  go_wp2
  go_loopw [0, 1] (fun x y wr => ∃ (p q : Nat), x = .int .i64 p ∧ y = .int .i64 q ∧ p ≤ 9000000000000000000 ∧ q ≤ 9000000000000000000 ∧ Hid (Nat.gcd q p = Nat.gcd b a) ∧ Aft w wr) (fun _ y _ => (intOf y).toNat)
  case atStart => exact ⟨a, b, rfl, rfl, ha, hb, rfl, Aft.refl w⟩
  case round =>
    obtain ⟨p, q, rfl, rfl, hp, hq, hg, hw⟩ := hrel
    rcases Nat.eq_zero_or_pos q with rfl | h0
    · go_wp2
      go_ret
      exact ⟨ret_int (by rw [← hg.out]; simp), hw⟩
    · have e1 : ((q : Int) = 0) = False := by simp; omega
      have hlt := Nat.mod_lt p h0
      go_wp2
      refine wp_region_lat _ (Aft.refl _) (by kernel_rfl) (by kernel_rfl) ?_
      repeat (go_big_quiet_step (fail))
      refine wpQuiet_nil ?_
      intro _ hw'; obtain ⟨z, rfl⟩ := hw'
      go_wp2
      go_roundw
      case rel => exact ⟨q, p % q, rfl, by simp, hq, by omega, hid (by rw [← hg.out, Nat.gcd_rec q p]), hw.trans z.aft⟩
      case measure => simp only [intOf]; omega

def farZ (p : Pt) (s : Pt × Pt) : Int × Int :=
  if 0 < (p.1 - s.1.1) * (s.2.1 - s.1.1) + (p.2 - s.1.2) * (s.2.2 - s.1.2) ∧ 0 < (p.1 - s.2.1) * (s.1.1 - s.2.1) + (p.2 - s.2.2) * (s.1.2 - s.2.2) then (crossZ s.1 s.2 p * crossZ s.1 s.2 p, sqZ s.1 s.2)
  else (min (sqZ p s.1) (sqZ p s.2), 1)
theorem cross_bd {a b c : Pt} (h1 : Sc a.1) (h2 : Sc a.2) (h3 : Sc b.1) (h4 : Sc b.2) (h5 : Sc c.1) (h6 : Sc c.2) : -200000000 ≤ crossZ a b c ∧ crossZ a b c ≤ 200000000 := by
  have m1 := mul_bd (sub_bd h3 h1) (sub_bd h6 h2)
  have m2 := mul_bd (sub_bd h4 h2) (sub_bd h5 h1)
  unfold crossZ
  omega
theorem sq_nonneg (x : Int) : 0 ≤ x * x := by
  rcases Int.le_total 0 x with h | h
  · exact Int.mul_nonneg h h
  · exact Int.mul_nonneg_of_nonpos_of_nonpos h h
theorem sqZ_bd {a b : Pt} (h1 : Sc a.1) (h2 : Sc a.2) (h3 : Sc b.1) (h4 : Sc b.2) : 0 ≤ sqZ a b ∧ sqZ a b ≤ 200000000 := by
  have m1 := mul_bd (sub_bd h1 h3) (sub_bd h1 h3)
  have m2 := mul_bd (sub_bd h2 h4) (sub_bd h2 h4)
  have m3 := sq_nonneg (a.1 - b.1)
  have m4 := sq_nonneg (a.2 - b.2)
  unfold sqZ
  omega
theorem mul_bd2 {x : Int} (hx : -200000000 ≤ x ∧ x ≤ 200000000) : 0 ≤ x * x ∧ x * x ≤ 40000000000000000 := by
  refine ⟨sq_nonneg x, ?_⟩
  have h1 : x.natAbs ≤ 200000000 := by omega
  have h3 := Nat.mul_le_mul h1 h1
  rw [← Int.natAbs_mul] at h3
  omega
theorem min_eq' {a b m : Int} (h : min a b = m) : (if b < a then b else a) = m := by rw [min_if]; exact h

set_option maxRecDepth 100000 in
set_option maxHeartbeats 2000000 in
theorem far_any {px py ax ay bx by_ : Int} (f t : Int) (w : World) (h1 : Sc ax) (h2 : Sc ay) (h3 : Sc bx) (h4 : Sc by_) (h5 : Sc px) (h6 : Sc py) :
    Calls Try.prog 85 #[.agg #[.int .i64 px, .int .i64 py], .agg #[.int .i64 ax, .int .i64 ay, .int .i64 bx, .int .i64 by_, .int .i64 f, .int .i64 t]] w
      fun e w' => e = .returned (.tuple #[.int .i64 (farZ (px, py) ((ax, ay), (bx, by_))).1, .int .i64 (farZ (px, py) ((ax, ay), (bx, by_))).2]) ∧ Aft w w' := by
  have m1 := mul_bd (sub_bd h5 h1) (sub_bd h3 h1)
  have m2 := mul_bd (sub_bd h6 h2) (sub_bd h4 h2)
  have m3 := mul_bd (sub_bd h5 h3) (sub_bd h1 h3)
  have m4 := mul_bd (sub_bd h6 h4) (sub_bd h2 h4)
  have m5 := mul_bd2 (cross_bd (a := (ax, ay)) (b := (bx, by_)) (c := (px, py)) h1 h2 h3 h4 h5 h6)
  obtain ⟨⟨u1, u1'⟩, ⟨u2, u2'⟩, ⟨u3, u3'⟩, ⟨u4, u4'⟩, ⟨u5, u5'⟩, ⟨u6, u6'⟩⟩ : Sc ax ∧ Sc ay ∧ Sc bx ∧ Sc by_ ∧ Sc px ∧ Sc py := ⟨h1, h2, h3, h4, h5, h6⟩
  obtain ⟨W0, eW0, hw0, hlt, hbox⟩ := two_boxes w #[.int .i64 px, .int .i64 py] #[.int .i64 ax, .int .i64 ay, .int .i64 bx, .int .i64 by_, .int .i64 f, .int .i64 t] 57 59
  go_enter Try.func85, Try.ntmps85
  go_upto_region 1 with fail
  clear eW0
  have hF : Hid (∀ W, Aft W0 W → B2 W w.heap.size px py ∧ B6 W (w.heap.size + 1) ax ay bx by_ f t) := hid fun W hW =>
    ⟨⟨(hbox.out W hW).1 0 _ rfl, (hbox.out W hW).1 1 _ rfl⟩, ⟨⟨(hbox.out W hW).2 0 _ rfl, (hbox.out W hW).2 1 _ rfl⟩, (hbox.out W hW).2 2 _ rfl, (hbox.out W hW).2 3 _ rfl⟩, (hbox.out W hW).2 4 _ rfl, (hbox.out W hW).2 5 _ rfl⟩
  clear hbox
  generalize w.heap.size = n0 at *
  obtain ⟨⟨p1, p2⟩, ⟨⟨q1, q2⟩, q3, q4⟩, q5, q6⟩ := hF.out W0 (Aft.refl _)
  have hlt0 : n0 < W0.heap.size := by omega
  refine wp_region_lat W0 (Aft.refl _) (by kernel_rfl) (by kernel_rfl) ?_
  repeat (go_big_quiet_step ((go_at_call 32; exact Calls.lat (square_any _ (by assumption) (by assumption) (by assumption) (by assumption)))))
  refine wpQuiet_nil ?_
  intro _ hw'; obtain ⟨z, rfl⟩ := hw'
  clear p1 p2 q1 q2 q3 q4 q5 q6
  obtain ⟨⟨p1, p2⟩, ⟨⟨q1, q2⟩, q3, q4⟩, q5, q6⟩ := hF.out z.W z.aft
  have hwz := z.aft
  generalize z.W = w1 at *
  have hw := hw0.trans hwz
  rw [min_if]
  by_cases g1 : 0 < (px - ax) * (bx - ax) + (py - ay) * (by_ - ay)
  · by_cases g2 : 0 < (px - bx) * (ax - bx) + (py - by_) * (ay - by_)
    · have hfz : farZ (px, py) ((ax, ay), (bx, by_)) = (crossZ (ax, ay) (bx, by_) (px, py) * crossZ (ax, ay) (bx, by_) (px, py), sqZ (ax, ay) (bx, by_)) := by unfold farZ; exact if_pos ⟨g1, g2⟩
      have HF := hid hfz
      have g1' : decide (0 < (px - ax) * (bx - ax) + (py - ay) * (by_ - ay)) = true := by simpa using g1
      clear hfz
      go_wp2_with fail
      refine (cross_any _ h1 h2 h3 h4 h5 h6).mono ?_
      rintro e w2 ⟨rfl, hw2⟩
      clear p1 p2 q1 q2 q3 q4 q5 q6
      replace hw2 := hwz.trans hw2
      obtain ⟨⟨p1, p2⟩, ⟨⟨q1, q2⟩, q3, q4⟩, q5, q6⟩ := hF.out w2 hw2
      go_wp2_with fail
      refine (square_any _ h1 h2 h3 h4).mono ?_
      rintro e w3 ⟨rfl, hw3⟩
      go_wp2
      go_ret2
      exact ⟨by rw [HF.out]; rfl, (hw0.trans hw2).trans hw3⟩
    · have hfz : farZ (px, py) ((ax, ay), (bx, by_)) = (min (sqZ (px, py) (ax, ay)) (sqZ (px, py) (bx, by_)), 1) := by unfold farZ; exact if_neg (fun h => g2 h.2)
      have HF := hid hfz
      clear hfz
      go_wp2
      go_ret2
      exact ⟨by rw [HF.out]; rfl, hw⟩
  · have hfz : farZ (px, py) ((ax, ay), (bx, by_)) = (min (sqZ (px, py) (ax, ay)) (sqZ (px, py) (bx, by_)), 1) := by unfold farZ; exact if_neg (fun h => g1 h.1)
    have HF := hid hfz
    clear hfz
    go_wp2
    go_ret2
    exact ⟨by rw [HF.out]; rfl, hw⟩

theorem far_low {px py ax ay bx by_ : Int} (h : (bx - ax) * (px - ax) + (by_ - ay) * (py - ay) ≤ 0) : farZ (px, py) ((ax, ay), (bx, by_)) = ((px - ax) * (px - ax) + (py - ay) * (py - ay), 1) := by
  have m1 := sq_nonneg (bx - ax)
  have m2 := sq_nonneg (by_ - ay)
  unfold farZ
  rw [if_neg (fun hh => by have := hh.1; simp only at this; grind)]
  have : sqZ (px, py) (ax, ay) ≤ sqZ (px, py) (bx, by_) := by simp only [sqZ]; grind
  rw [Int.min_eq_left this]
  rfl
theorem far_high {px py ax ay bx by_ : Int} (h : (bx - ax) * (bx - ax) + (by_ - ay) * (by_ - ay) ≤ (bx - ax) * (px - ax) + (by_ - ay) * (py - ay)) :
    farZ (px, py) ((ax, ay), (bx, by_)) = ((px - ax - (bx - ax)) * (px - ax - (bx - ax)) + (py - ay - (by_ - ay)) * (py - ay - (by_ - ay)), 1) := by
  have m1 := sq_nonneg (bx - ax)
  have m2 := sq_nonneg (by_ - ay)
  unfold farZ
  rw [if_neg (fun hh => by have := hh.2; simp only at this; grind)]
  have : sqZ (px, py) (bx, by_) ≤ sqZ (px, py) (ax, ay) := by simp only [sqZ]; grind
  rw [Int.min_eq_right this]
  simp only [sqZ]
  grind
theorem far_mid {px py ax ay bx by_ : Int} (h : 0 < (bx - ax) * (px - ax) + (by_ - ay) * (py - ay)) (h' : (bx - ax) * (px - ax) + (by_ - ay) * (py - ay) < (bx - ax) * (bx - ax) + (by_ - ay) * (by_ - ay)) :
    farZ (px, py) ((ax, ay), (bx, by_)) = (crossZ (ax, ay) (bx, by_) (px, py) * crossZ (ax, ay) (bx, by_) (px, py), (bx - ax) * (bx - ax) + (by_ - ay) * (by_ - ay)) := by
  unfold farZ
  rw [if_pos ⟨by simp only; grind, by simp only; grind⟩]
  simp only [sqZ]
  grind

set_option maxRecDepth 100000 in
set_option maxHeartbeats 2000000 in
theorem apart_any' {px py ax ay bx by_ : Int} (w : World) (h1 : Sc ax) (h2 : Sc ay) (h3 : Sc bx) (h4 : Sc by_) (h5 : Sc px) (h6 : Sc py) :
    Calls Try.prog 76 #[.agg #[.int .i64 px, .int .i64 py], .agg #[.int .i64 ax, .int .i64 ay, .int .i64 bx, .int .i64 by_]] w
      fun e w' => e = .returned (.tuple #[.int .i64 (farZ (px, py) ((ax, ay), (bx, by_))).1, .int .i64 (farZ (px, py) ((ax, ay), (bx, by_))).2]) ∧ Aft w w' := by
  have m1 := mul_bd (sub_bd h3 h1) (sub_bd h5 h1)
  have m2 := mul_bd (sub_bd h4 h2) (sub_bd h6 h2)
  have m3 := mul_bd (sub_bd h3 h1) (sub_bd h3 h1)
  have m4 := mul_bd (sub_bd h4 h2) (sub_bd h4 h2)
  have m6 := mul_bd (sub_bd h5 h1) (sub_bd h5 h1)
  have m7 := mul_bd (sub_bd h6 h2) (sub_bd h6 h2)
  have m8 : -400000000 ≤ (px - ax - (bx - ax)) * (px - ax - (bx - ax)) ∧ (px - ax - (bx - ax)) * (px - ax - (bx - ax)) ≤ 400000000 := by
    rw [show px - ax - (bx - ax) = px - bx by omega]
    have := mul_bd (sub_bd h5 h3) (sub_bd h5 h3)
    omega
  have m9 : -400000000 ≤ (py - ay - (by_ - ay)) * (py - ay - (by_ - ay)) ∧ (py - ay - (by_ - ay)) * (py - ay - (by_ - ay)) ≤ 400000000 := by
    rw [show py - ay - (by_ - ay) = py - by_ by omega]
    have := mul_bd (sub_bd h6 h4) (sub_bd h6 h4)
    omega
  have m5 := mul_bd2 (cross_bd (a := (ax, ay)) (b := (bx, by_)) (c := (px, py)) h1 h2 h3 h4 h5 h6)
  obtain ⟨⟨u1, u1'⟩, ⟨u2, u2'⟩, ⟨u3, u3'⟩, ⟨u4, u4'⟩, ⟨u5, u5'⟩, ⟨u6, u6'⟩⟩ : Sc ax ∧ Sc ay ∧ Sc bx ∧ Sc by_ ∧ Sc px ∧ Sc py := ⟨h1, h2, h3, h4, h5, h6⟩
  obtain ⟨W0, eW0, hw0, hlt, hbox⟩ := two_boxes w #[.int .i64 px, .int .i64 py] #[.int .i64 ax, .int .i64 ay, .int .i64 bx, .int .i64 by_] 57 112
  go_enter Try.func76, Try.ntmps76
  go_upto_region 1 with fail
  clear eW0
  have hF : Hid (∀ W, Aft W0 W → B2 W w.heap.size px py ∧ B4 W (w.heap.size + 1) ax ay bx by_) := hid fun W hW =>
    ⟨⟨(hbox.out W hW).1 0 _ rfl, (hbox.out W hW).1 1 _ rfl⟩, ⟨(hbox.out W hW).2 0 _ rfl, (hbox.out W hW).2 1 _ rfl⟩, (hbox.out W hW).2 2 _ rfl, (hbox.out W hW).2 3 _ rfl⟩
  clear hbox
  generalize w.heap.size = n0 at *
  obtain ⟨⟨p1, p2⟩, ⟨q1, q2⟩, q3, q4⟩ := hF.out W0 (Aft.refl _)
  have hlt0 : n0 < W0.heap.size := by omega
  refine wp_region_lat W0 (Aft.refl _) (by kernel_rfl) (by kernel_rfl) ?_
  repeat (go_big_quiet_step (fail))
  refine wpQuiet_nil ?_
  intro _ hw'; obtain ⟨z, rfl⟩ := hw'
  clear p1 p2 q1 q2 q3 q4
  obtain ⟨⟨p1, p2⟩, ⟨q1, q2⟩, q3, q4⟩ := hF.out z.W z.aft
  have hwz := z.aft
  have hlt1 : n0 < z.W.heap.size := by have := hwz.size; omega
  have hlt2 : n0 + 1 < z.W.heap.size := by have := hwz.size; omega
  generalize z.W = w1 at *
  go_upto_region 2 with fail
  refine wp_region_lat w1 (Aft.refl _) (by kernel_rfl) (by kernel_rfl) ?_
  repeat (go_big_quiet_step (fail))
  refine wpQuiet_nil ?_
  intro _ hw'; obtain ⟨z, rfl⟩ := hw'
  clear p1 p2 q1 q2 q3 q4
  have hw2 := hwz.trans z.aft
  clear hwz
  obtain ⟨⟨p1, p2⟩, ⟨q1, q2⟩, q3, q4⟩ := hF.out z.W hw2
  generalize z.W = w2 at *
  have hw := hw0.trans hw2
  rcases Int.lt_or_le 0 ((bx - ax) * (px - ax) + (by_ - ay) * (py - ay)) with g1 | g1
  · rcases Int.lt_or_le ((bx - ax) * (px - ax) + (by_ - ay) * (py - ay)) ((bx - ax) * (bx - ax) + (by_ - ay) * (by_ - ay)) with g2 | g2
    · have HF := hid (far_mid g1 g2)
      go_wp2_with fail
      refine (turn_any _ h1 h2 h3 h4 h5 h6).mono ?_
      rintro e w3 ⟨rfl, hw3⟩
      go_wp2
      go_ret2
      exact ⟨by rw [HF.out]; rfl, hw.trans hw3⟩
    · have HF := hid (far_high g2)
      go_wp2
      go_ret2
      exact ⟨by rw [HF.out]; rfl, hw⟩
  · have HF := hid (far_low g1)
    go_wp2
    go_ret2
    exact ⟨by rw [HF.out]; rfl, hw⟩
end Go.Proofs.Ytokdclbfjlnnjaa
