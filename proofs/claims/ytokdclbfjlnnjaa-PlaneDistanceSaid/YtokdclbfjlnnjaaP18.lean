/- The reference's Left. -/
import Derived.Test.YtokdclbfjlnnjaaP17
namespace Go.Proofs.Ytokdclbfjlnnjaa
open Go.RowKit Go.BigFrame

def rleftZ (la lb : List Pt) : Bool := !(la.any fun p => lb.any fun q => decide (q.1 ≤ p.1)) && (decide (0 < la.length) && decide (0 < lb.length))

set_option maxRecDepth 100000 in
set_option maxHeartbeats 8000000 in
theorem rleft_any (ka kb : Int) (va vb : Value) (la lb : List Pt) (w : World) (hla : Prs w va la) (hlb : Prs w vb lb) :
    Calls Try.prog 42 #[.agg #[.int .i64 ka, va], .agg #[.int .i64 kb, vb]] w fun e w' => e = .returned (.bool (rleftZ la lb)) ∧ Aft w w' := by
  have hPa := hla
  have hPb := hlb
  obtain ⟨aa, ca, rfl, hla⟩ := hla
  obtain ⟨ab, cb, rfl, hlb⟩ := hlb
  have hna := hla.le
  have hnb := hlb.le
  obtain ⟨W0, eW0, hw0, hlt, hbox⟩ := two_boxes w #[.int .i64 ka, .slice aa la.length ca] #[.int .i64 kb, .slice ab lb.length cb] 51 51
  go_enter Try.func42, Try.ntmps42
  go_upto_region 1 with fail
  clear eW0
  have hF : Hid (∀ W, Aft W0 W → (W.cell? ⟨w.heap.size, 0, none⟩ = some (.int .i64 ka) ∧ W.cell? ⟨w.heap.size, 1, none⟩ = some (.slice aa la.length ca)) ∧ W.cell? ⟨w.heap.size + 1, 0, none⟩ = some (.int .i64 kb) ∧ W.cell? ⟨w.heap.size + 1, 1, none⟩ = some (.slice ab lb.length cb)) := hid fun W hW =>
    ⟨⟨(hbox.out W hW).1 0 _ rfl, (hbox.out W hW).1 1 _ rfl⟩, (hbox.out W hW).2 0 _ rfl, (hbox.out W hW).2 1 _ rfl⟩
  clear hbox
  generalize hn0 : w.heap.size = n0 at *
  go_wp2
  go_loopw [5] (fun i wr => ∃ r : Nat, r ≤ la.length ∧ i = .int .i64 r ∧ Hid (∀ p ∈ la.take r, ∀ q ∈ lb, p.1 < q.1) ∧ Aft W0 wr) (fun i _ => la.length - (intOf i).toNat)
  case atStart => exact ⟨0, by omega, rfl, hid (by simp), Aft.refl _⟩
  case round =>
    obtain ⟨r, hr, rfl, hno, hwr⟩ := hrel
    obtain ⟨⟨p1, p2⟩, p3, p4⟩ := hF.out wr hwr
    rcases Nat.lt_or_ge r la.length with hlt' | hge
    · have hri : (r : Int) < la.length := by omega
      have hlr := hla.aft (hw0.trans hwr)
      obtain ⟨b, off, x, y, rfl, c1, c2, hb, hx, _⟩ := hlr.rd.pair hlr.ok hlt'
      clear p1 p2 p3 p4
      obtain ⟨⟨p1, p2⟩, p3, p4⟩ := hF.out wr hwr
      have c1 := hid c1
      clear c2
      go_wp2
      go_loopw [6] (fun j wq => ∃ q : Nat, q ≤ lb.length ∧ j = .int .i64 q ∧ Hid (∀ u ∈ lb.take q, x < u.1) ∧ Aft wr wq) (fun j _ => lb.length - (intOf j).toNat)
      case atStart => exact ⟨0, by omega, rfl, hid (by simp), Aft.refl _⟩
      case round =>
        obtain ⟨q, hq, rfl, hno2, hwq⟩ := hrel
        clear p1 p2 p3 p4
        obtain ⟨⟨p1, p2⟩, p3, p4⟩ := hF.out _ (hwr.trans hwq)
        have hw1 := hwr.trans hwq
        rcases Nat.lt_or_ge q lb.length with hltq | hgeq
        · have hqi : (q : Int) < lb.length := by omega
          have hlq := hlb.aft (hw0.trans hw1)
          obtain ⟨b', off', x', y', rfl, d1, d2, hb', hx', _⟩ := hlq.rd.pair hlq.ok hltq
          have c1' := (hwq.cell hb).trans c1.out
          clear p1 p2 p3 p4
          obtain ⟨⟨p1, p2⟩, p3, p4⟩ := hF.out _ hw1
          have g1 := World.block_lt_of_cell? _ _ p1
          have g2 := World.block_lt_of_cell? _ _ p3
          have g3 := World.block_lt_of_cell? _ _ c1'
          by_cases hge2 : x' ≤ x
          · have HQ := hid (show rleftZ la lb = false by
              unfold rleftZ
              rw [List.any_eq_true.2 ⟨(x, y), List.mem_of_getElem? hx.out, List.any_eq_true.2 ⟨(x', y'), List.mem_of_getElem? hx'.out, by simpa using hge2⟩⟩]; rfl)
            obtain ⟨W2, hW2⟩ : ∃ W2, W2 = wr := ⟨_, rfl⟩
            subst hW2
            go_upto_region 7 with fail
            refine wp_region_lat W2 (Aft.refl _) (by kernel_rfl) (by kernel_rfl) ?_
            repeat (go_big_quiet_step (fail))
            refine wpQuiet_nil ?_
            intro _ hw'; obtain ⟨z, rfl⟩ := hw'
            go_wp2
            go_ret
            exact ⟨by rw [HQ.out]; rfl, (hw0.trans hw1).trans z.aft⟩
          · have HN := hid (show ∀ u ∈ lb.take (q + 1), x < u.1 from fun u hu => by
              rw [take_snoc hx'.out] at hu
              rcases List.mem_append.1 hu with h | h
              · exact hno2.out u h
              · obtain rfl : u = (x', y') := by simpa using h
                show x < x'
                omega)
            obtain ⟨W2, hW2⟩ : ∃ W2, W2 = wr := ⟨_, rfl⟩
            subst hW2
            go_upto_region 7 with fail
            refine wp_region_lat W2 (Aft.refl _) (by kernel_rfl) (by kernel_rfl) ?_
            repeat (go_big_quiet_step (fail))
            refine wpQuiet_nil ?_
            intro _ hw'; obtain ⟨z, rfl⟩ := hw'
            go_wp2
            go_roundw
            case rel => exact ⟨q + 1, by omega, by go_num, HN, hwq.trans z.aft⟩
            case measure => simp only [intOf]; omega
        · obtain rfl : q = lb.length := by omega
          have HN := hid (show ∀ p ∈ la.take (r + 1), ∀ q ∈ lb, p.1 < q.1 from fun p hp u hu => by
            rw [take_snoc hx.out] at hp
            rcases List.mem_append.1 hp with h | h
            · exact hno.out p h u hu
            · obtain rfl : p = (x, y) := by simpa using h
              exact hno2.out u (by rw [List.take_length]; exact hu))
          go_wp2
          go_roundw
          case rel => exact ⟨r + 1, by omega, by go_num, HN, hw1⟩
          case measure => simp only [intOf]; omega
    · obtain rfl : r = la.length := by omega
      have hany : (la.any fun p => lb.any fun q => decide (q.1 ≤ p.1)) = false := List.any_eq_false.2 (fun p hp => by
        rw [Bool.not_eq_true]
        exact List.any_eq_false.2 (fun q hq => by
          have := hno.out p (by rw [List.take_length]; exact hp) q hq
          simp; omega))
      have HQ := hid (show rleftZ la lb = (decide (0 < la.length) && decide (0 < lb.length)) by unfold rleftZ; rw [hany]; rfl)
      clear hany
      have hfin := hw0.trans hwr
      by_cases g1 : 0 < la.length
      · have g1' : decide ((0 : Int) < la.length) = true := by simp; omega
        have HQ2 := hid (show rleftZ la lb = decide (0 < lb.length) by rw [HQ.out]; simp [g1])
        go_wp2
        go_ret
        exact ⟨by rw [HQ2.out]; rfl, hfin⟩
      · have g1' : ¬ ((0 : Int) < la.length) := by omega
        have HQ2 := hid (show rleftZ la lb = false by rw [HQ.out]; simp only [g1]; simp)
        go_wp2
        go_ret
        exact ⟨by rw [HQ2.out]; rfl, hfin⟩
end Go.Proofs.Ytokdclbfjlnnjaa
