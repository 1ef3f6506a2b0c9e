/- The program's Valid and its closures. -/
import Derived.Test.YtokdclbfjlnnjaaR12
import Derived.Test.YtokdclbfjlnnjaaA5
import Derived.Test.YtokdclbfjlnnjaaA4
namespace Go.Proofs.Ytokdclbfjlnnjaa
open Go.RowKit Go.BigFrame

set_option maxHeartbeats 1000000 in
theorem vlong_any (k : Int) (vp : Value) (l : List Pt) (w : World) (hl : Prs w vp l) :
    Calls Try.prog 94 #[.agg #[.int .i64 k, vp]] w fun e w' => e = .returned (.bool (decide (12 < l.length))) ∧ Aft w w' := by
  obtain ⟨a, c, rfl, hl⟩ := hl
  obtain ⟨W0, eW0, hw0, hlt, hbox⟩ := one_box w #[.int .i64 k, .slice a l.length c] 51
  go_enter Try.func94, Try.ntmps94
  go_upto_region 1 with fail
  clear eW0
  have p2 := hbox.out W0 (Aft.refl _) 1 (.slice a l.length c) rfl
  clear hbox
  have he : decide ((12 : Int) < l.length) = decide (12 < l.length) := by rw [decide_eq_decide]; omega
  go_wp2
  go_ret
  exact ⟨by simp only [← he]; rfl, hw0⟩

set_option maxHeartbeats 1000000 in
theorem vunshaped_any (k : Int) (vp : Value) (l : List Pt) (w : World) (hl : Prs w vp l) (hsm : l.length ≤ 1000) (hkb : -9223372036854775808 ≤ k ∧ k ≤ 9223372036854775807) :
    Calls Try.prog 95 #[.agg #[.int .i64 k, vp]] w fun e w' => e = .returned (.bool (!shapedZ k l)) ∧ Aft w w' := by
  have hP := hl
  obtain ⟨a, c, rfl, hl⟩ := hl
  obtain ⟨W0, eW0, hw0, hlt, hbox⟩ := one_box w #[.int .i64 k, .slice a l.length c] 51
  go_enter Try.func95, Try.ntmps95
  go_upto_region 1 with fail
  clear eW0
  have p1 := hbox.out W0 (Aft.refl _) 0 (.int .i64 k) rfl
  have p2 := hbox.out W0 (Aft.refl _) 1 (.slice a l.length c) rfl
  clear hbox
  go_wp2_with fail
  refine (shaped_any k _ l W0 (hP.aft hw0) hsm hkb).mono ?_
  rintro e w1 ⟨rfl, hw1⟩
  go_wp2_with fail
  go_ret
  exact ⟨rfl, hw0.trans hw1⟩

set_option maxHeartbeats 1000000 in
theorem vbent_any (k : Int) (vp : Value) (l : List Pt) (w : World) (hl : Prs w vp l) (hsm : l.length ≤ 1000) (hsc : ScL l) :
    Calls Try.prog 98 #[.agg #[.int .i64 k, vp]] w fun e w' => e = .returned (.bool (!simpleZ k l)) ∧ Aft w w' := by
  have hP := hl
  obtain ⟨a, c, rfl, hl⟩ := hl
  obtain ⟨W0, eW0, hw0, hlt, hbox⟩ := one_box w #[.int .i64 k, .slice a l.length c] 51
  go_enter Try.func98, Try.ntmps98
  go_upto_region 1 with fail
  clear eW0
  have p1 := hbox.out W0 (Aft.refl _) 0 (.int .i64 k) rfl
  have p2 := hbox.out W0 (Aft.refl _) 1 (.slice a l.length c) rfl
  clear hbox
  go_wp2_with fail
  refine (simple_any k _ l W0 (hP.aft hw0) hsm hsc).mono ?_
  rintro e w1 ⟨rfl, hw1⟩
  go_wp2_with fail
  go_ret
  exact ⟨rfl, hw0.trans hw1⟩

/-- The figure's box, as the closures see it. -/
structure FBox (w : World) (b : Nat) (W H : Int) (v : Value) : Prop where
  c0 : w.cell? ⟨b, 0, none⟩ = some (.int .i64 W)
  c1 : w.cell? ⟨b, 1, none⟩ = some (.int .i64 H)
  c2 : w.cell? ⟨b, 2, none⟩ = some v
theorem FBox.aft {w w' : World} {b : Nat} {W H : Int} {v : Value} (h : FBox w b W H v) (hw : Aft w w') : FBox w' b W H v :=
  have hb : b < w.heap.size := World.block_lt_of_cell? _ _ h.c0
  ⟨(hw.cell hb).trans h.c0, (hw.cell hb).trans h.c1, (hw.cell hb).trans h.c2⟩

set_option maxHeartbeats 4000000 in
theorem vout_any (W H px py : Int) (b : Nat) (v : Value) (w : World) (hf : FBox w b W H v) :
    Calls Try.prog 93 #[.agg #[.int .i64 px, .int .i64 py], .pointer (some ⟨b, 0, none⟩)] w fun e w' => e = .returned (.bool (outZ W H (px, py))) ∧ Aft w w' := by
  obtain ⟨W0, eW0, hw0, hlt, hbox⟩ := one_box w #[.int .i64 px, .int .i64 py] 57
  go_enter Try.func93, Try.ntmps93
  go_upto_region 1 with fail
  clear eW0
  have p1 := hbox.out W0 (Aft.refl _) 0 (.int .i64 px) rfl
  have p2 := hbox.out W0 (Aft.refl _) 1 (.int .i64 py) rfl
  clear hbox
  obtain ⟨q1, q2, _⟩ := hf.aft hw0
  have HO := hid (show outZ W H (px, py) = decide (px < 0 ∨ W < px ∨ py < 0 ∨ H < py) from rfl)
  by_cases h1 : px < 0
  · have HQ := hid (show outZ W H (px, py) = true by rw [HO.out]; simp [h1])
    go_wp2
    go_ret
    exact ⟨by rw [HQ.out]; rfl, hw0⟩
  by_cases h2 : W < px
  · have HQ := hid (show outZ W H (px, py) = true by rw [HO.out]; simp [h2])
    go_wp2
    go_ret
    exact ⟨by rw [HQ.out]; rfl, hw0⟩
  by_cases h3 : py < 0
  · have HQ := hid (show outZ W H (px, py) = true by rw [HO.out]; simp [h3])
    go_wp2
    go_ret
    exact ⟨by rw [HQ.out]; rfl, hw0⟩
  by_cases h4 : H < py
  · have HQ := hid (show outZ W H (px, py) = true by rw [HO.out]; simp [h4])
    go_wp2
    go_ret
    exact ⟨by rw [HQ.out]; rfl, hw0⟩
  have HQ := hid (show outZ W H (px, py) = false by rw [HO.out]; simp [h1, h2, h3, h4])
  go_wp2
  go_ret
  exact ⟨by rw [HQ.out]; rfl, hw0⟩
end Go.Proofs.Ytokdclbfjlnnjaa
