/- The reference's Length, Longer, Strictly. -/
import Derived.Test.YtokdclbfjlnnjaaP13
namespace Go.Proofs.Ytokdclbfjlnnjaa
open Go.RowKit Go.BigFrame

/-- The Ends number i in a row of the reference. -/
def E6 (W : World) (g i : Nat) (l : List Pt) : Prop := W.cell? ⟨g, i * 6, none⟩ = some (.int .i64 (sgZ l i).1.1) ∧ W.cell? ⟨g, i * 6 + 1, none⟩ = some (.int .i64 (sgZ l i).1.2) ∧ W.cell? ⟨g, i * 6 + 2, none⟩ = some (.int .i64 (sgZ l i).2.1) ∧ W.cell? ⟨g, i * 6 + 3, none⟩ = some (.int .i64 (sgZ l i).2.2) ∧
  W.cell? ⟨g, i * 6 + 4, none⟩ = some (.int .i64 i) ∧ W.cell? ⟨g, i * 6 + 5, none⟩ = some (.int .i64 ((i + 1) % l.length : Nat))
theorem ends_cells {W : World} {base : Nat} {v : Value} {l : List Pt} {m : Nat} (h : W.ownsRow base 59 6 v m (endsC l m)) {i : Nat} (hi : i < m) : ∃ g cap, v = .slice (some ⟨g, 0, none⟩) m cap ∧ E6 W g i l := by
  obtain ⟨g, cap, rfl⟩ := ownsRow_some' h (by omega)
  refine ⟨g, cap, rfl, ?_, ?_, ?_, ?_, ?_, ?_⟩
  all_goals refine (fun j u hj => by
    have := h.cells rfl j u hj
    by_cases h0 : j = 0
    · subst h0; simpa [Addr.add] using this
    · simpa [Addr.add, h0] using this : ∀ j u, (endsC l m)[j]? = some u → W.cell? ⟨g, j, none⟩ = some u) _ _ ?_
  · have := endsC_get l m i hi 0 (by omega); rw [Nat.add_zero] at this; exact this
  · exact endsC_get l m i hi 1 (by omega)
  · exact endsC_get l m i hi 2 (by omega)
  · exact endsC_get l m i hi 3 (by omega)
  · exact endsC_get l m i hi 4 (by omega)
  · exact endsC_get l m i hi 5 (by omega)

theorem size_to {n s : Int} (h : sizeZ n = s) (w : World) (hn : -1000000 ≤ n ∧ n ≤ 1000000) : Calls Try.prog 84 #[.int .i64 n] w fun e w' => e = .returned (.int .i64 s) ∧ Aft w w' := by rw [← h]; exact size_any n w hn
theorem size_neg (a b : Int) : sizeZ (a - b) = max (b - a) (-(b - a)) := by unfold sizeZ; omega

set_option maxRecDepth 100000 in
set_option maxHeartbeats 4000000 in
theorem rlength_any (k : Int) (vp : Value) (l : List Pt) (w : World) (hl : Prs w vp l) (hsm : l.length ≤ 1000) (hsc : ScL l) :
    Calls Try.prog 38 #[.agg #[.int .i64 k, vp]] w fun e w' => e = .returned (.int .i64 (lengthZ k l)) ∧ Aft w w' := by
  have hP := hl
  obtain ⟨a, c, rfl, hl⟩ := hl
  obtain ⟨W0, eW0, hw0, hlt, hbox⟩ := one_box w #[.int .i64 k, .slice a l.length c] 51
  go_enter Try.func38, Try.ntmps38
  go_upto_region 2 with fail
  clear eW0
  have p1 := hbox.out W0 (Aft.refl _) 0 (.int .i64 k) rfl
  have p2 := hbox.out W0 (Aft.refl _) 1 (.slice a l.length c) rfl
  clear hbox
  generalize hn0 : w.heap.size = n0 at *
  go_wp2_with fail
  refine (segments_any k _ l W0 (hP.aft hw0) hsm).mono ?_
  rintro e W1 ⟨v1, rfl, hown, hw1⟩
  have hnle := nSeg_le k l
  obtain ⟨m, hm⟩ : ∃ m, nSeg k l = m := ⟨_, rfl⟩
  rw [hm] at hown hnle
  have hZ : lengthZ k l = lenS l (List.range m) := by unfold lengthZ; rw [hm]
  have HZ := hid hZ; clear hZ hm
  have hw01 := hw0.trans hw1
  obtain ⟨a1, c1, rfl, _⟩ := ownsRow_at hown
  clear p1 p2
  go_wp2
  go_loopw [3, 5] (fun s i wr => ∃ r : Nat, r ≤ m ∧ i = .int .i64 r ∧ s = .int .i64 (lenS l (List.range r)) ∧ Aft W1 wr) (fun _ i _ => m - (intOf i).toNat)
  case atStart => exact ⟨0, by omega, rfl, rfl, Aft.refl _⟩
  case round =>
    obtain ⟨r, hr, rfl, rfl, hwr⟩ := hrel
    rcases Nat.lt_or_ge r m with hlt' | hge
    · have hri : (r : Int) < m := by omega
      have hownr := ownsRow_aft hown hwr
      obtain ⟨g, cap, he, q1, q2, q3, q4, q5, q6⟩ := ends_cells hownr hlt'
      simp only [Value.slice.injEq, true_and] at he
      obtain ⟨rfl, rfl⟩ := he
      have hsc4 := sgZ_sc hsc r
      have hlb := lenS_bd hsc (List.range r)
      rw [List.length_range] at hlb
      have hsn := lenS_snoc l (List.range r) r
      rw [← List.range_succ] at hsn
      obtain ⟨⟨⟨ax, ay⟩, bx, by_⟩, hs⟩ : ∃ s, sgZ l r = s := ⟨_, rfl⟩
      rw [hs] at q1 q2 q3 q4 hsc4 hsn
      simp only at q1 q2 q3 q4 hsc4
      obtain ⟨⟨u1, u1'⟩, ⟨u2, u2'⟩, ⟨u3, u3'⟩, u4, u4'⟩ := hsc4
      have hgl := World.block_lt_of_cell? _ _ q1
      obtain ⟨s1, e1⟩ : ∃ s, sizeZ (ax - bx) = s := ⟨_, rfl⟩
      obtain ⟨s2, e2⟩ : ∃ s, sizeZ (ay - by_) = s := ⟨_, rfl⟩
      have hb1 : 0 ≤ s1 ∧ s1 ≤ 10000 := by rw [← e1]; unfold sizeZ; omega
      have hb2 : 0 ≤ s2 ∧ s2 ≤ 10000 := by rw [← e2]; unfold sizeZ; omega
      obtain ⟨mx, e3⟩ : ∃ x, (if s1 < s2 then s2 else s1) = x := ⟨_, rfl⟩
      have hmx : 0 ≤ mx ∧ mx ≤ 10000 := by rw [← e3]; split <;> omega
      have hval : lenS l (List.range r) + mx = lenS l (List.range (r + 1)) := by
        rw [hsn, ← e3, max_if, ← e1, ← e2, size_neg, size_neg]
        rfl
      have HV := hid hval
      clear hval hsn
      have E1 := e1
      have E2 := e2
      clear e1 e2
      obtain ⟨W2, hW2⟩ : ∃ W2, W2 = wr := ⟨_, rfl⟩
      subst hW2
      go_upto_region 6 with fail
      refine wp_region_lat W2 (Aft.refl _) (by kernel_rfl) (by kernel_rfl) ?_
      repeat (go_big_quiet_step ((go_at_call 84; exact Calls.lat (size_to (by assumption) _ (by omega)))))
      refine wpQuiet_nil ?_
      intro _ hw'; obtain ⟨z, rfl⟩ := hw'
      go_wp2
      go_roundw
      case rel => exact ⟨r + 1, by omega, by go_num, by rw [← HV.out], hwr.trans z.aft⟩
      case measure => simp only [intOf]; omega
    · obtain rfl : r = m := by omega
      go_wp2
      go_ret
      exact ⟨by rw [HZ.out]; rfl, hw01.trans hwr⟩
end Go.Proofs.Ytokdclbfjlnnjaa
