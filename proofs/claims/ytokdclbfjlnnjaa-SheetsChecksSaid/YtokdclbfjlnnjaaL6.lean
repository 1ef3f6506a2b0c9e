/- The walk of SheetsMoved. -/
import Derived.Test.YtokdclbfjlnnjaaA1
import Derived.Test.YtokdclbfjlnnjaaMv
namespace Go.Proofs.Ytokdclbfjlnnjaa
open Go.RowKit Go.BigFrame

theorem spans_small (l : List Int) : Small (spansI l) := fun p hp => by
  obtain ⟨i, _, rfl⟩ := List.mem_map.1 hp
  have h1 := atI_lt l (2 * (i : Int)) 90 (by omega)
  have h2 := atI_lt l (2 * (i : Int) + 1) 21 (by omega)
  simp only []
  omega
theorem small_ok {l : List (Int × Int)} (h : Small l) : okP l := fun p hp => by have := h p hp; omega
theorem spans_prs {w : World} {base : Nat} {v : Value} {l : List Int} (h : w.ownsRow base 41 2 v (spansI l).length (prs (spansI l))) : Prs w v (spansI l) :=
  ownsRow_prs h (small_ok (spans_small l)) (by rw [spansI_length]; omega)
theorem sh_take (n : Int) {l : List (Int × Int)} {k : Nat} {p : Int × Int} (h : l[k]? = some p) : sh n (l.take (k + 1)) = sh n (l.take k) ++ [(p.1 + n, p.2 + n)] := by
  rw [take_snoc h]; simp [sh]

set_option maxRecDepth 100000 in
set_option maxHeartbeats 4000000 in
theorem moved_any (v : Value) (l : List Int) (a1 a2 : Int) (w : World) (hl : Ints w v l) (b1 : -9223372036854775808 ≤ a1 ∧ a1 ≤ 9223372036854775807) (b2 : -9223372036854775808 ≤ a2 ∧ a2 ≤ 9223372036854775807) :
    Calls Try.prog 6 #[v, .int .i64 a1, .int .i64 a2] w fun e w' => e = .returned (.bool true) ∧ Aft w w' := by
  obtain ⟨c1, c2⟩ := b1
  obtain ⟨d1, d2⟩ := b2
  go_enter Try.func6, Try.ntmps6
  go_wp2_with fail
  refine (spans_any v l w hl).mono ?_
  rintro e w1 ⟨vx, rfl, hx, hw1⟩
  have hX := spans_prs hx
  have hsm := hid (spans_small l)
  have hlen : (spansI l).length ≤ 10 := by rw [spansI_length]; omega
  generalize spansI l = X at *
  clear hx
  have hX0 := hX
  obtain ⟨ax, cx, rfl, hX⟩ := hX
  go_wp2_with fail
  refine (around_any a2 800 w1 d1 d2).mono ?_
  rintro e w' ⟨rfl, rfl⟩
  obtain ⟨n0, n1⟩ := aroundI_lt a2 800 (by omega)
  generalize aroundI a2 800 = n at *
  go_wp2_with fail
  go_loopw [9, 10] (fun vy i wr => ∃ k : Nat, k ≤ X.length ∧ i = .int .i64 k ∧ wr.ownsRow w1.heap.size 41 2 vy k (prs (sh n (X.take k))) ∧ Aft w1 wr) (fun _ i _ => X.length - (intOf i).toNat)
  case atStart => exact ⟨0, by omega, rfl, World.ownsRow_nil _ _ _ _, Aft.refl _⟩
  case round =>
    obtain ⟨k, hk, rfl, hown, hw⟩ := hrel
    by_cases hlt : k < X.length
    · obtain ⟨b, off, x, y, rfl, hc1', hc2', hb, hxk, _, _, _, _⟩ := hX.rd.pair hX.ok hlt
      have hc1 : wr.cell? ⟨b, off + k * 2, none⟩ = some (.int .i64 x) := by rw [hw.cell hb]; exact hc1'
      have hc2 : wr.cell? ⟨b, off + k * 2 + 1, none⟩ = some (.int .i64 y) := by rw [hw.cell hb]; exact hc2'
      have hxs := hsm.out _ (List.mem_of_getElem? hxk.out)
      obtain ⟨s1, s2, s3⟩ := hxs
      simp only [] at s1 s2 s3
      have hsh := hid (sh_take n hxk.out)
      have hss := hw.size
      have hkk : (0 : Int) ≤ (k : Int) := by omega
      have hkl : (k : Int) < (X.length : Int) := by omega
      have wx : IntKind.i64.wrap (x + n) = x + n := IntWalk.i64_in _ (by omega)
      have wy : IntKind.i64.wrap (y + n) = y + n := IntWalk.i64_in _ (by omega)
      go_wp2_with fail
      go_region_held3 (fun W => W.cell? ⟨b, off + k * 2, none⟩ = some (.int .i64 x) ∧ W.cell? ⟨b, off + k * 2 + 1, none⟩ = some (.int .i64 y))
        (first | go_keep | (refine ⟨?_, ?_⟩ <;> (rw [hw2.cell hb]; assumption)))
        ((refine step_app _ rfl _ _ 23 rfl w1.heap.size 41 (.agg #[.int .i64 0, .int .i64 0]) 2 16 Try.underlying23 Try.info41 rfl (by decide) _ k _ (by rfl) ((hown.alloc _).drew) ⟨wr.heap.size, 0, none⟩ 1 1 (prs [(x + n, y + n)]) (by rfl) rfl Rd.new.drew (prs_one _) (by unfold maxLen; omega) (by omega) (by simp; omega) ?_; intro v' w2 hown2 hgrow _; have hw2 : Aft w1 w2 := ((hw.alloc _).drew).grown hgrow (fun j hj => (hown.lt j hj).1)))
      clear wx wy
      go_wp2
      rw [← prs_append, ← hsh.out] at hown2
      go_roundw
      case rel => exact ⟨k + 1, by omega, by go_num, hown2, hw2⟩
      case measure => simp [intOf] <;> omega
    · obtain rfl : k = X.length := by omega
      rw [List.take_of_length_le (Nat.le_refl _)] at hown
      have hshl : (sh n X).length = X.length := by simp [sh]
      have hY : Prs wr u9 (sh n X) := by
        refine ownsRow_prs (by rw [hshl]; exact hown) (fun p hp => ?_) (by rw [hshl]; omega)
        obtain ⟨q, hq, rfl⟩ := List.mem_map.1 hp
        have := hsm.out q hq
        simp only []
        omega
      have hXr := hX0.aft hw
      have hmv := hid (rSplit_sh (n := n) (wd := 1 + aroundI a1 90) hsm.out n0 (by omega))
      obtain ⟨w90, w91⟩ := aroundI_lt a1 90 (by omega)
      go_wp2_with fail
      refine (around_any a1 90 wr c1 c2).mono ?_
      rintro e w' ⟨rfl, rfl⟩
      generalize aroundI a1 90 = wd0 at *
      go_wp2_with fail
      refine (split_any _ X (1 + wd0) _ hXr).mono ?_
      rintro e w3 ⟨va, vp, rfl, ha, hp, hw3⟩
      go_wp2_with fail
      have hs := split_any _ (sh n X) (1 + wd0) w3 (hY.aft hw3)
      rw [hmv.out] at hs
      clear hmv hY hXr hown
      refine hs.mono ?_
      clear hs
      rintro e w4 ⟨vb, vq, rfl, hb, hq, hw4⟩
      have hw14 := ((hw1.trans hw).trans hw3).trans hw4
      replace ha := ha.aft hw4
      replace hp := hp.aft hw4
      generalize rSplit X (1 + wd0) = r at *
      obtain ⟨at_, pins, E⟩ := r
      simp only [] at ha hp hb hq
      have hE : (E != E) = false := by simp
      have hp0 := hp
      have hq0 := hq
      obtain ⟨aa, ca, rfl, ha⟩ := ha
      obtain ⟨ab, cb, rfl, hb⟩ := hb
      obtain ⟨ap, cp, rfl, hp⟩ := hp
      obtain ⟨aq, cq, rfl, hq⟩ := hq
      have hll : ((at_.length : Int) != ((shI n at_).length : Int)) = false := by simp [shI]
      have hpp := hid (show (pins == pins) = true by simp)
      have hla := ha.le
      have hlb := hb.le
      go_wp2_with fail
      refine (same_any _ _ pins pins w4 hp0 hq0).mono ?_
      rintro e w5 ⟨rfl, hw5⟩
      rw [hpp.out]
      have hw15 := hw14.trans hw5
      go_wp2_with fail
      go_loopw [18] (fun i wr => ∃ k : Nat, k ≤ at_.length ∧ i = .int .i64 k ∧ Aft w5 wr) (fun i _ => at_.length - (intOf i).toNat)
      case atStart => exact ⟨0, by omega, rfl, Aft.refl _⟩
      case round =>
        obtain ⟨k, hk, rfl, hw6⟩ := hrel
        replace ha := ha.aft hw5
        replace hb := hb.aft hw5
        by_cases hlt : k < at_.length
        · have hlt' : k < (shI n at_).length := by simpa [shI] using hlt
          obtain ⟨b1, o1, x, rfl, hc1, hb1, hx, hx1, hx2⟩ := ha.rd.int ha.ok hlt
          obtain ⟨b2, o2, y, rfl, hc2, hb2, hy, hy1, hy2⟩ := hb.rd.int hb.ok hlt'
          have hyx : y = x + n := by
            have h1 := hy.out
            simp only [shI, List.getElem?_map, hx.out, Option.map_some, Option.some.injEq] at h1
            exact h1.symm
          subst hyx
          have hxx : (x + n != x + n) = false := by simp
          go_wp2_with fail
          refine wp_region_lat w5 hw6 (by kernel_rfl) (by kernel_rfl) ?_
          repeat (go_big_quiet_step (fail))
          refine wpQuiet_nil ?_
          intro _ hw'; obtain ⟨z, rfl⟩ := hw'
          go_wp2
          go_roundw
          case rel => exact ⟨k + 1, by omega, by go_num, z.aft⟩
          case measure => simp [intOf] <;> omega
        · go_wp2_with (go_at_call 22; refine (lives_any _).mono ?_; rintro e w7 ⟨rfl, hw7⟩)
          go_ret
          exact ⟨rfl, (hw15.trans hw6).trans hw7⟩
end Go.Proofs.Ytokdclbfjlnnjaa
