/- The reference's Valid. -/
import Derived.Test.YtokdclbfjlnnjaaR3
namespace Go.Proofs.Ytokdclbfjlnnjaa
open Go.RowKit Go.BigFrame

def outZ (W H : Int) (p : Pt) : Bool := decide (p.1 < 0 ∨ W < p.1 ∨ p.2 < 0 ∨ H < p.2)
def limitZ (W H : Int) (L : List Sh) : Bool := decide (W < 0 ∨ 1000 < W ∨ H < 0 ∨ 1000 < H ∨ 8 < L.length)
def validZ (W H : Int) (L : List Sh) : Int :=
  if limitZ W H L = true then 4
  else if (L.any fun s => decide (12 < s.2.length)) = true then 4
  else if (L.any fun s => !shapedZ s.1 s.2) = true then 1
  else if (L.any fun s => s.2.any (outZ W H)) = true then 5
  else if (L.any fun s => !simpleZ s.1 s.2) = true then 2
  else 0
def ShSc (L : List Sh) : Prop := ∀ s ∈ L, s.2.length ≤ 1000 ∧ ScL s.2
theorem any_of {α : Type} {L : List α} {f : α → Bool} {i : Nat} {s : α} (h : L[i]? = some s) (hf : f s = true) : L.any f = true := List.any_eq_true.2 ⟨s, List.mem_of_getElem? h, hf⟩
theorem any_not {α : Type} {L : List α} {f : α → Bool} (h : ∀ i, i < L.length → ∀ s, L[i]? = some s → f s = false) : L.any f = false := List.any_eq_false.2 (fun p hp => by
  obtain ⟨j, hj, hjp⟩ := List.mem_iff_getElem.1 hp
  rw [h j hj p (by rw [List.getElem?_eq_getElem hj, hjp])]; simp)
theorem shaped_to {k : Int} {o : Bool} {l : List Pt} (h : shapedZ k l = o) {vp : Value} (w : World) (hl : Prs w vp l) (hsm : l.length ≤ 1000) (hsc : ScL l) :
    Calls Try.prog 99 #[.agg #[.int .i64 k, vp]] w fun e w' => e = .returned (.bool o) ∧ Aft w w' := by rw [← h]; exact rshaped_any k vp l w hl hsm hsc
theorem simple_to {k : Int} {o : Bool} {l : List Pt} (h : simpleZ k l = o) {vp : Value} (w : World) (hl : Prs w vp l) (hsm : l.length ≤ 1000) (hsc : ScL l) :
    Calls Try.prog 52 #[.agg #[.int .i64 k, vp]] w fun e w' => e = .returned (.bool o) ∧ Aft w w' := by rw [← h]; exact rsimple_any k vp l w hl hsm hsc
theorem upto_succ {α : Type} {L : List α} {f : α → Bool} {r : Nat} {s : α} (h : ∀ i, i < r → ∀ s, L[i]? = some s → f s = false) (hs : L[r]? = some s) (hf : f s = false) : ∀ i, i < r + 1 → ∀ s, L[i]? = some s → f s = false := fun i hi t ht => by
  rcases Nat.lt_or_ge i r with h' | h'
  · exact h i h' t ht
  · obtain rfl : i = r := by omega
    rw [hs] at ht; cases ht; exact hf

set_option maxRecDepth 100000 in
set_option maxHeartbeats 16000000 in
theorem rvalid_any (W H : Int) (v : Value) (L : List Sh) (w : World) (hv : Shs w v L) (hsc : ShSc L) :
    Calls Try.prog 50 #[.agg #[.int .i64 W, .int .i64 H, v]] w fun e w' => e = .returned (.int .i64 (validZ W H L)) ∧ Aft w w' := by
  obtain ⟨a, c, R, rfl, hv⟩ := hv
  have hle := hv.le
  obtain ⟨W0, eW0, hw0, hlt, hbox⟩ := one_box w #[.int .i64 W, .int .i64 H, .slice a L.length c] 45
  go_enter Try.func50, Try.ntmps50
  go_upto_region 1 with fail
  clear eW0
  have hF : Hid (∀ V, Aft W0 V → V.cell? ⟨w.heap.size, 0, none⟩ = some (.int .i64 W) ∧ V.cell? ⟨w.heap.size, 1, none⟩ = some (.int .i64 H) ∧ V.cell? ⟨w.heap.size, 2, none⟩ = some (.slice a L.length c)) := hid fun V hV => ⟨hbox.out V hV 0 _ rfl, hbox.out V hV 1 _ rfl, hbox.out V hV 2 _ rfl⟩
  clear hbox
  obtain ⟨p1, p2, p3⟩ := hF.out W0 (Aft.refl _)
  have hn0' : w.heap.size < W0.heap.size := hlt
  generalize hn0 : w.heap.size = n0 at *
  have hv0 := hv.aft hw0
  have HD := hid (show validZ W H L = if limitZ W H L = true then 4
    else if (L.any fun s => decide (12 < s.2.length)) = true then 4
    else if (L.any fun s => !shapedZ s.1 s.2) = true then 1
    else if (L.any fun s => s.2.any (outZ W H)) = true then 5
    else if (L.any fun s => !simpleZ s.1 s.2) = true then 2
    else 0 from rfl)
  by_cases hlim : W < 0 ∨ 1000 < W ∨ H < 0 ∨ 1000 < H ∨ 8 < L.length
  · have HQ := hid (show validZ W H L = 4 by rw [HD.out, if_pos (by unfold limitZ; simpa using hlim)])
    by_cases h1 : W < 0
    · go_wp2
      go_ret
      exact ⟨by rw [HQ.out]; rfl, hw0⟩
    by_cases h2 : 1000 < W
    · go_wp2
      go_ret
      exact ⟨by rw [HQ.out]; rfl, hw0⟩
    by_cases h3 : H < 0
    · go_wp2
      go_ret
      exact ⟨by rw [HQ.out]; rfl, hw0⟩
    by_cases h4 : 1000 < H
    · go_wp2
      go_ret
      exact ⟨by rw [HQ.out]; rfl, hw0⟩
    · have h5 : (8 : Int) < L.length := by omega
      go_wp2
      go_ret
      exact ⟨by rw [HQ.out]; rfl, hw0⟩
  have HD1 := hid (show validZ W H L = if (L.any fun s => decide (12 < s.2.length)) = true then 4
    else if (L.any fun s => !shapedZ s.1 s.2) = true then 1
    else if (L.any fun s => s.2.any (outZ W H)) = true then 5
    else if (L.any fun s => !simpleZ s.1 s.2) = true then 2
    else 0 by rw [HD.out, if_neg (by unfold limitZ; simpa using hlim)])
  have hL8 : L.length ≤ 8 := by omega
  have h1 : ¬ W < 0 := by omega
  have h2 : ¬ 1000 < W := by omega
  have h3 : ¬ H < 0 := by omega
  have h4 : ¬ 1000 < H := by omega
  have h5 : ¬ (8 : Int) < L.length := by omega
  clear hlim
  go_wp2
  clear p1 p2 p3
  go_loopw [3] (fun i wr => ∃ r : Nat, r ≤ L.length ∧ i = .int .i64 r ∧ Hid (∀ i, i < r → ∀ s, L[i]? = some s → decide (12 < s.2.length) = false) ∧ Aft W0 wr) (fun i _ => L.length - (intOf i).toNat)
  case atStart => exact ⟨0, by omega, rfl, hid fun j hj => by omega, Aft.refl _⟩
  case round =>
    obtain ⟨r, hr, rfl, hno, hwr⟩ := hrel
    obtain ⟨p1, p2, p3⟩ := hF.out wr hwr
    rcases Nat.lt_or_ge r L.length with hlt' | hge
    · have hri : (r : Int) < L.length := by omega
      have hvr := hv0.aft hwr
      obtain ⟨b, off, k, ps, ap, cp, rfl, c1, c2, hb, hg, hp⟩ := hvr.get hlt'
      by_cases h12 : 12 < ps.length
      · have h12' : (12 : Int) < ps.length := by omega
        have HQ := hid (show validZ W H L = 4 by rw [HD1.out, if_pos (any_of hg.out (by simpa using h12))])
        clear h12
        go_wp2
        go_ret
        exact ⟨by rw [HQ.out]; rfl, hw0.trans hwr⟩
      · have h12' : ¬ (12 : Int) < ps.length := by omega
        have HN := hid (upto_succ hno.out hg.out (by simpa using h12))
        clear h12
        go_wp2
        go_roundw
        case rel => exact ⟨r + 1, by omega, by go_num, HN, hwr⟩
        case measure => simp only [intOf]; omega
    · obtain rfl : r = L.length := by omega
      have HD2 := hid (show validZ W H L = if (L.any fun s => !shapedZ s.1 s.2) = true then 1
        else if (L.any fun s => s.2.any (outZ W H)) = true then 5
        else if (L.any fun s => !simpleZ s.1 s.2) = true then 2
        else 0 by rw [HD1.out, any_not hno.out]; rfl)
      clear HD1 HD hno
      go_wp2
      clear p1 p2 p3
      go_loopw [4] (fun i wr => ∃ r : Nat, r ≤ L.length ∧ i = .int .i64 r ∧ Hid (∀ i, i < r → ∀ s, L[i]? = some s → (!shapedZ s.1 s.2) = false) ∧ Aft W0 wr) (fun i _ => L.length - (intOf i).toNat)
      case atStart => exact ⟨0, by omega, rfl, hid fun j hj => by omega, hwr⟩
      case round =>
        obtain ⟨r, hr, rfl, hno, hwr⟩ := hrel
        obtain ⟨p1, p2, p3⟩ := hF.out wr hwr
        rcases Nat.lt_or_ge r L.length with hlt' | hge
        · have hri : (r : Int) < L.length := by omega
          have hvr := hv0.aft hwr
          obtain ⟨b, off, k, ps, ap, cp, rfl, c1, c2, hb, hg, hp⟩ := hvr.get hlt'
          obtain ⟨hs1, hs2⟩ := hsc _ (List.mem_of_getElem? hg.out)
          obtain ⟨o, ho⟩ : ∃ o, shapedZ k ps = o := ⟨_, rfl⟩
          have HO := hid ho
          go_wp2_with fail
          refine (shaped_to ho wr ⟨_, _, rfl, hp⟩ hs1 hs2).mono ?_
          rintro e w1 ⟨rfl, hw1⟩
          have hwr1 := hwr.trans hw1
          clear ho
          cases o with
          | false =>
            have HQ := hid (show validZ W H L = 1 by rw [HD2.out, if_pos (any_of hg.out (by rw [HO.out]; rfl))])
            go_wp2
            go_ret
            exact ⟨by rw [HQ.out]; rfl, hw0.trans hwr1⟩
          | true =>
            have HN := hid (upto_succ hno.out hg.out (by rw [HO.out]; rfl))
            go_wp2
            go_roundw
            case rel => exact ⟨r + 1, by omega, by go_num, HN, hwr1⟩
            case measure => simp only [intOf]; omega
        · obtain rfl : r = L.length := by omega
          have HD3 := hid (show validZ W H L = if (L.any fun s => s.2.any (outZ W H)) = true then 5
            else if (L.any fun s => !simpleZ s.1 s.2) = true then 2
            else 0 by rw [HD2.out, any_not hno.out]; rfl)
          clear HD2 hno
          go_wp2
          clear p1 p2 p3
          go_loopw [5] (fun i wr => ∃ r : Nat, r ≤ L.length ∧ i = .int .i64 r ∧ Hid (∀ i, i < r → ∀ s, L[i]? = some s → (s.2.any (outZ W H)) = false) ∧ Aft W0 wr) (fun i _ => L.length - (intOf i).toNat)
          case atStart => exact ⟨0, by omega, rfl, hid fun j hj => by omega, hwr⟩
          case round =>
            obtain ⟨r, hr, rfl, hno, hwr⟩ := hrel
            obtain ⟨p1, p2, p3⟩ := hF.out wr hwr
            rcases Nat.lt_or_ge r L.length with hlt' | hge
            · have hri : (r : Int) < L.length := by omega
              have hvr := hv0.aft hwr
              obtain ⟨b, off, k, ps, ap, cp, rfl, c1, c2, hb, hg, hp⟩ := hvr.get hlt'
              obtain ⟨hs1, hs2⟩ := hsc _ (List.mem_of_getElem? hg.out)
              go_wp2
              clear p1 p2 p3 c1 c2
              go_loopw [7] (fun i wq => ∃ q : Nat, q ≤ ps.length ∧ i = .int .i64 q ∧ Hid (∀ i, i < q → ∀ s, ps[i]? = some s → outZ W H s = false) ∧ Aft wr wq) (fun i _ => ps.length - (intOf i).toNat)
              case atStart => exact ⟨0, by omega, rfl, hid fun j hj => by omega, Aft.refl _⟩
              case round =>
                obtain ⟨q, hq, rfl, hnq, hwq⟩ := hrel
                have hwrq := hwr.trans hwq
                obtain ⟨p1, p2, p3⟩ := hF.out wr hwrq
                rcases Nat.lt_or_ge q ps.length with hltq | hgeq
                · have hqi : (q : Int) < ps.length := by omega
                  have hpq := hp.aft hwq
                  obtain ⟨b', off', x, y, rfl, c1, c2, hb', hx, _⟩ := hpq.rd.pair hpq.ok hltq
                  have hl1 := World.block_lt_of_cell? _ _ p1
                  obtain ⟨W2, hW2⟩ : ∃ W2, W2 = wr := ⟨_, rfl⟩
                  subst hW2
                  by_cases hout : x < 0 ∨ W < x ∨ y < 0 ∨ H < y
                  · have HQ := hid (show validZ W H L = 5 by rw [HD3.out, if_pos (any_of hg.out (any_of hx.out (by unfold outZ; simpa using hout)))])
                    have HE := hid (fun (V : World) (h : Aft W2 V) => hw0.trans (hwrq.trans h))
                    by_cases e1 : x < 0
                    · go_upto_region 20 with fail
                      refine wp_region_lat W2 (Aft.refl _) (by kernel_rfl) (by kernel_rfl) ?_
                      repeat (go_big_quiet_step (fail))
                      refine wpQuiet_nil ?_
                      intro _ hw'; obtain ⟨z, rfl⟩ := hw'
                      go_wp2
                      go_ret
                      exact ⟨by rw [HQ.out]; rfl, HE.out _ z.aft⟩
                    by_cases e2 : W < x
                    · go_upto_region 20 with fail
                      refine wp_region_lat W2 (Aft.refl _) (by kernel_rfl) (by kernel_rfl) ?_
                      repeat (go_big_quiet_step (fail))
                      refine wpQuiet_nil ?_
                      intro _ hw'; obtain ⟨z, rfl⟩ := hw'
                      go_wp2
                      go_ret
                      exact ⟨by rw [HQ.out]; rfl, HE.out _ z.aft⟩
                    by_cases e3 : y < 0
                    · go_upto_region 20 with fail
                      refine wp_region_lat W2 (Aft.refl _) (by kernel_rfl) (by kernel_rfl) ?_
                      repeat (go_big_quiet_step (fail))
                      refine wpQuiet_nil ?_
                      intro _ hw'; obtain ⟨z, rfl⟩ := hw'
                      go_wp2
                      go_ret
                      exact ⟨by rw [HQ.out]; rfl, HE.out _ z.aft⟩
                    · have e4 : H < y := by omega
                      go_upto_region 20 with fail
                      refine wp_region_lat W2 (Aft.refl _) (by kernel_rfl) (by kernel_rfl) ?_
                      repeat (go_big_quiet_step (fail))
                      refine wpQuiet_nil ?_
                      intro _ hw'; obtain ⟨z, rfl⟩ := hw'
                      go_wp2
                      go_ret
                      exact ⟨by rw [HQ.out]; rfl, HE.out _ z.aft⟩
                  · have HN := hid (upto_succ hnq.out hx.out (by unfold outZ; simpa using hout))
                    have e1 : ¬ x < 0 := by omega
                    have e2 : ¬ W < x := by omega
                    have e3 : ¬ y < 0 := by omega
                    have e4 : ¬ H < y := by omega
                    clear hout
                    go_upto_region 20 with fail
                    refine wp_region_lat W2 (Aft.refl _) (by kernel_rfl) (by kernel_rfl) ?_
                    repeat (go_big_quiet_step (fail))
                    refine wpQuiet_nil ?_
                    intro _ hw'; obtain ⟨z, rfl⟩ := hw'
                    go_wp2
                    go_roundw
                    case rel => exact ⟨q + 1, by omega, by go_num, HN, hwq.trans z.aft⟩
                    case measure => simp only [intOf]; omega
                · obtain rfl : q = ps.length := by omega
                  have HN := hid (upto_succ hno.out hg.out (any_not hnq.out))
                  go_wp2
                  go_roundw
                  case rel => exact ⟨r + 1, by omega, by go_num, HN, hwrq⟩
                  case measure => simp only [intOf]; omega
            · obtain rfl : r = L.length := by omega
              have HD4 := hid (show validZ W H L = if (L.any fun s => !simpleZ s.1 s.2) = true then 2 else 0 by rw [HD3.out, any_not hno.out]; rfl)
              clear HD3 hno
              go_wp2
              clear p1 p2 p3
              go_loopw [8] (fun i wr => ∃ r : Nat, r ≤ L.length ∧ i = .int .i64 r ∧ Hid (∀ i, i < r → ∀ s, L[i]? = some s → (!simpleZ s.1 s.2) = false) ∧ Aft W0 wr) (fun i _ => L.length - (intOf i).toNat)
              case atStart => exact ⟨0, by omega, rfl, hid fun j hj => by omega, hwr⟩
              case round =>
                obtain ⟨r, hr, rfl, hno, hwr⟩ := hrel
                obtain ⟨p1, p2, p3⟩ := hF.out wr hwr
                rcases Nat.lt_or_ge r L.length with hlt' | hge
                · have hri : (r : Int) < L.length := by omega
                  have hvr := hv0.aft hwr
                  obtain ⟨b, off, k, ps, ap, cp, rfl, c1, c2, hb, hg, hp⟩ := hvr.get hlt'
                  obtain ⟨hs1, hs2⟩ := hsc _ (List.mem_of_getElem? hg.out)
                  obtain ⟨o, ho⟩ : ∃ o, simpleZ k ps = o := ⟨_, rfl⟩
                  have HO := hid ho
                  go_wp2_with fail
                  refine (simple_to ho wr ⟨_, _, rfl, hp⟩ hs1 hs2).mono ?_
                  rintro e w1 ⟨rfl, hw1⟩
                  have hwr1 := hwr.trans hw1
                  clear ho
                  cases o with
                  | false =>
                    have HQ := hid (show validZ W H L = 2 by rw [HD4.out, if_pos (any_of hg.out (by rw [HO.out]; rfl))])
                    go_wp2
                    go_ret
                    exact ⟨by rw [HQ.out]; rfl, hw0.trans hwr1⟩
                  | true =>
                    have HN := hid (upto_succ hno.out hg.out (by rw [HO.out]; rfl))
                    go_wp2
                    go_roundw
                    case rel => exact ⟨r + 1, by omega, by go_num, HN, hwr1⟩
                    case measure => simp only [intOf]; omega
                · obtain rfl : r = L.length := by omega
                  have HQ := hid (show validZ W H L = 0 by rw [HD4.out, any_not hno.out]; rfl)
                  go_wp2
                  go_ret
                  exact ⟨by rw [HQ.out]; rfl, hw0.trans hwr⟩
end Go.Proofs.Ytokdclbfjlnnjaa
