/- The contract of lives: the documented example stands. -/
import Derived.Test.YtokdclbfjlnnjaaS4
import Derived.Test.YtokdclbfjlnnjaaS7
namespace Go.Proofs.Ytokdclbfjlnnjaa
open Go.RowKit Go.BigFrame

def l0 : List (Int × Int) := [(0, 4), (3, 9), (8, 12), (20, 20)]
theorem l0_split : rSplit l0 10 = ([0, 8, 20], [0, 2, 3], 0) := by decide +kernel
theorem l0_c1 : checkE l0 10 [0, 8, 20] [0, 2, 3] = 0 := checkE_right (by decide +kernel) ⟨rfl, by decide +kernel, by decide +kernel, by decide +kernel⟩
theorem l0_c2 : checkE l0 10 [0, 8] [0, 2] = 19 := checkE_wrong (by decide +kernel) fun h => absurd (h.2.1 (20, 20) (by decide +kernel)) (by decide +kernel)
theorem l0_c3 : checkE l0 20 [0, 8, 20] [0, 2, 3] = 19 := checkE_wrong (by decide +kernel) fun h => absurd (h.2.2.2 1 (by decide +kernel) 0 (by decide +kernel)) (by decide +kernel)

theorem Ints.pre {w : World} {a : Option Addr} {n c : Nat} {l : List Int} (h : IntsAt w a n c l) (m : Nat) (hm : m ≤ n) : Ints w (.slice a m c) (l.take m) := by
  have e : (l.take m).length = m := by rw [List.length_take, ← h.len]; omega
  have := h.cap
  have := h.size
  exact ⟨a, c, by rw [e], rfl, by rw [← i64s_take]; exact h.rd.prefix m, fun x hx => h.ok x (List.mem_of_mem_take hx), by omega, h.nil, by omega⟩

theorem Ints.lit {w : World} {c : Nat} {l : List Int} {e : TypeId} (hc : c = l.length) (ok : okI l) (hs : l.length * 8 ≤ 140737488351232) : Ints (w.alloc (.cells (i64s l).toArray e)) (.slice (some ⟨w.heap.size, 0, none⟩) l.length c) l :=
  ⟨_, _, rfl, rfl, by have := Rd.new (w := w) (cs := (i64s l).toArray) (e := e); simpa using this, ok, by omega, fun h => (by cases h), hs⟩

set_option maxRecDepth 100000 in
set_option maxHeartbeats 2000000 in
theorem lives_any (w : World) : Calls Try.prog 22 #[] w fun e w' => e = .returned (.bool true) ∧ Aft w w' := by
  have hP : Prs (w.alloc (.cells #[.int .i64 0, .int .i64 4, .int .i64 3, .int .i64 9, .int .i64 8, .int .i64 12, .int .i64 20, .int .i64 20] 41)) (.slice (some ⟨w.heap.size, 0, none⟩) 4 4) l0 :=
    ⟨_, 4, rfl, rfl, Rd.new, by unfold okP l0; simp, by decide, fun h => (by cases h), by decide⟩
  have ha := (Aft.refl w).alloc (.cells #[.int .i64 0, .int .i64 4, .int .i64 3, .int .i64 9, .int .i64 8, .int .i64 12, .int .i64 20, .int .i64 20] 41)
  go_enter Try.func22, Try.ntmps22
  go_wp2_with fail
  refine (split_any _ l0 10 _ hP).mono ?_
  rw [l0_split]
  rintro e w1 ⟨v, v', rfl, h1, h2, hw1⟩
  obtain ⟨a1, c1, rfl, h1⟩ := h1
  obtain ⟨a2, c2, rfl, h2⟩ := h2
  have hP1 := hP.aft hw1
  have ha1 := ha.trans hw1
  go_wp2_with fail
  refine (same_any _ _ [0, 8, 20] [0, 8, 20] _ (Ints.aft ⟨a1, c1, rfl, h1⟩ ((Aft.refl w1).alloc _)) (Ints.lit rfl (by unfold okI; simp) (by decide))).mono ?_
  rintro e w2 ⟨he, hw2⟩
  have he : e = .returned (.bool true) := he
  subst he
  have hw12 := ((Aft.refl w1).alloc (.cells #[.int .i64 0, .int .i64 8, .int .i64 20] 3)).trans hw2
  go_wp2_with fail
  refine (same_any _ _ [0, 2, 3] [0, 2, 3] _ (Ints.aft ⟨a2, c2, rfl, h2⟩ (hw12.alloc _)) (Ints.lit rfl (by unfold okI; simp) (by decide))).mono ?_
  rintro e w3 ⟨he, hw3⟩
  have he : e = .returned (.bool true) := he
  subst he
  have hw13 := (hw12.alloc (.cells #[.int .i64 0, .int .i64 2, .int .i64 3] 3)).trans hw3
  have k1 := h1.aft hw13
  have k2 := h2.aft hw13
  have hP3 := hP1.aft hw13
  obtain ⟨b1, o1, x1, rfl, _, _, _, _, _⟩ := h1.rd.int h1.ok (show 0 < [0, 8, 20].length by decide)
  obtain ⟨b2, o2, x2, rfl, _, _, _, _, _⟩ := h2.rd.int h2.ok (show 0 < [0, 2, 3].length by decide)
  have hc1 : 3 ≤ c1 := k1.cap
  have hc2 : 3 ≤ c2 := k2.cap
  have haf := ha1.trans hw13
  clear h1 h2 hP hP1 ha ha1 hw13 hw12 hw3 hw2 hw1
  have i1 : Ints w3 (.slice (some ⟨b1, o1, none⟩) 3 c1) [0, 8, 20] := ⟨_, c1, rfl, k1⟩
  have i2 : Ints w3 (.slice (some ⟨b2, o2, none⟩) 3 c2) [0, 2, 3] := ⟨_, c2, rfl, k2⟩
  have j1 : Ints w3 (.slice (some ⟨b1, o1, none⟩) 2 c1) [0, 8] := Ints.pre k1 2 (by decide)
  have j2 : Ints w3 (.slice (some ⟨b2, o2, none⟩) 2 c2) [0, 2] := Ints.pre k2 2 (by decide)
  have C1 : Hid (∀ y : Lat w3, Calls Try.prog 24 #[(Value.slice (some ⟨w.heap.size, 0, none⟩) 4 4), .int .i64 10, .slice (some ⟨b1, o1, none⟩) 3 c1, .slice (some ⟨b2, o2, none⟩) 3 c2] y.W fun e w'' => e = .returned (.int .i64 0) ∧ ∃ z : Lat w3, w'' = z.W) :=
    hid fun y => Calls.lat (by
      have := check_any _ _ _ l0 10 [0, 8, 20] [0, 2, 3] y.W (hP3.aft y.aft) (i1.aft y.aft) (i2.aft y.aft)
      rw [l0_c1] at this
      exact this)
  have C2 : Hid (∀ y : Lat w3, Calls Try.prog 24 #[(Value.slice (some ⟨w.heap.size, 0, none⟩) 4 4), .int .i64 10, .slice (some ⟨b1, o1, none⟩) 2 c1, .slice (some ⟨b2, o2, none⟩) 2 c2] y.W fun e w'' => e = .returned (.int .i64 19) ∧ ∃ z : Lat w3, w'' = z.W) :=
    hid fun y => Calls.lat (by
      have := check_any _ _ _ l0 10 [0, 8] [0, 2] y.W (hP3.aft y.aft) (j1.aft y.aft) (j2.aft y.aft)
      rw [l0_c2] at this
      exact this)
  have C3 : Hid (∀ y : Lat w3, Calls Try.prog 24 #[(Value.slice (some ⟨w.heap.size, 0, none⟩) 4 4), .int .i64 20, .slice (some ⟨b1, o1, none⟩) 3 c1, .slice (some ⟨b2, o2, none⟩) 3 c2] y.W fun e w'' => e = .returned (.int .i64 19) ∧ ∃ z : Lat w3, w'' = z.W) :=
    hid fun y => Calls.lat (by
      have := check_any _ _ _ l0 20 [0, 8, 20] [0, 2, 3] y.W (hP3.aft y.aft) (i1.aft y.aft) (i2.aft y.aft)
      rw [l0_c3] at this
      exact this)
  clear i1 i2 j1 j2 k1 k2 hP3
  go_wp2_with fail
  refine wp_region_lat w3 (Aft.refl w3) (by kernel_rfl) (by kernel_rfl) ?_
  repeat (go_big_quiet_step (first | (with_reducible exact C1.out _) | (with_reducible exact C2.out _) | (with_reducible exact C3.out _)))
  refine wpQuiet_nil ?_
  intro _ hw'; obtain ⟨z, rfl⟩ := hw'
  go_wp2
  go_ret
  exact ⟨rfl, haf.trans z.aft⟩
end Go.Proofs.Ytokdclbfjlnnjaa
