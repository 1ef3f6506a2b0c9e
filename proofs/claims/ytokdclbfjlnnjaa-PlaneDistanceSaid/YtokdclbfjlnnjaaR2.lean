/- The reference's Near. -/
import Derived.Test.YtokdclbfjlnnjaaP19
namespace Go.Proofs.Ytokdclbfjlnnjaa
open Go.RowKit Go.BigFrame

/-- A row of Ends, written out. -/
def endsR (L : List ((Pt × Pt) × Int × Int)) : List Value := L.flatMap fun e => ecells e.1 e.2.1 e.2.2
theorem endsR_get {L : List ((Pt × Pt) × Int × Int)} : ∀ {k : Nat} {e : (Pt × Pt) × Int × Int}, L[k]? = some e → ∀ j, j < 6 → (endsR L)[k * 6 + j]? = (ecells e.1 e.2.1 e.2.2)[j]? := by
  induction L with
  | nil => intro k p h; simp at h
  | cons a l ih =>
    intro k p h j hj
    cases k with
    | zero =>
      simp at h; subst h
      rw [Nat.zero_mul, Nat.zero_add]
      show (ecells a.1 a.2.1 a.2.2 ++ endsR l)[j]? = _
      rw [List.getElem?_append_left (by simpa [ecells] using hj)]
    | succ k =>
      have := ih (k := k) (e := p) (by simpa using h) j hj
      show (ecells a.1 a.2.1 a.2.2 ++ endsR l)[(k + 1) * 6 + j]? = _
      rw [List.getElem?_append_right (by simp [ecells]; omega), ← this]
      congr 1
      simp [ecells]; omega
def fvNew4 (cs : List Value) : FV := ⟨fun v W => ∃ g, v = .slice (some ⟨g, 0, none⟩) 4 4 ∧ Rd W (some ⟨g, 0, none⟩) cs, fun _ _ _ ⟨g, h1, h2⟩ hw => ⟨g, h1, h2.aft hw⟩⟩
def ptsL (s t : Pt × Pt) : List Pt := [s.1, s.2, t.1, t.2]
def othL (s t : Pt × Pt) : List (Pt × Pt) := [t, t, s, s]
def stepFar (s t : Pt × Pt) (st : Option (Int × Int)) : Nat → Option (Int × Int)
  | 0 => st
  | j + 1 => better (stepFar s t st j) (farZ ((ptsL s t).getD j (0, 0)) ((othL s t).getD j ((0, 0), (0, 0))))
theorem stepFar_all (s t : Pt × Pt) (st : Option (Int × Int)) : stepFar s t st 4 = pairFar s t st := rfl
theorem step_frac {ox oy : Int} {s t : Pt × Pt} {st : Option (Int × Int)} (h1 : Near1 ox oy s.1) (h2 : Near1 ox oy s.2) (h3 : Near1 ox oy t.1) (h4 : Near1 ox oy t.2) (hs : FracO st) : ∀ j, j ≤ 4 → FracO (stepFar s t st j)
  | 0, _ => hs
  | 1, _ => better_frac hs (far_frac h1 h3 h4)
  | 2, _ => better_frac (better_frac hs (far_frac h1 h3 h4)) (far_frac h2 h3 h4)
  | 3, _ => better_frac (better_frac (better_frac hs (far_frac h1 h3 h4)) (far_frac h2 h3 h4)) (far_frac h3 h1 h2)
  | 4, _ => pairFar_frac h1 h2 h3 h4 hs
  | n + 5, h => by omega
def encN0 : Option (Int × Int) → Int
  | none => 0
  | some f => f.1
def encD0 : Option (Int × Int) → Int
  | none => 0
  | some f => f.2
theorem far_to {px py ax ay bx by_ f t : Int} {r : Int × Int} (h : farZ (px, py) ((ax, ay), (bx, by_)) = r) (w : World) (h1 : Sc ax) (h2 : Sc ay) (h3 : Sc bx) (h4 : Sc by_) (h5 : Sc px) (h6 : Sc py) :
    Calls Try.prog 85 #[.agg #[.int .i64 px, .int .i64 py], .agg #[.int .i64 ax, .int .i64 ay, .int .i64 bx, .int .i64 by_, .int .i64 f, .int .i64 t]] w
      fun e w' => e = .returned (.tuple #[.int .i64 r.1, .int .i64 r.2]) ∧ Aft w w' := by rw [← h]; exact far_any f t w h1 h2 h3 h4 h5 h6

set_option maxRecDepth 100000 in
set_option maxHeartbeats 8000000 in
theorem rnear_any (ka kb : Int) (va vb : Value) (la lb : List Pt) (ox oy : Int) (w : World) (hla : Prs w va la) (hlb : Prs w vb lb) (hsa : la.length ≤ 1000) (hsb : lb.length ≤ 1000) (hsca : ScL la) (hscb : ScL lb)
    (hda : ka = 0 → la.length = 1) (hdb : kb = 0 → lb.length = 1) (hna : ∀ j, Near1 ox oy (ptZ la j)) (hnb : ∀ j, Near1 ox oy (ptZ lb j)) :
    Calls Try.prog 39 #[.agg #[.int .i64 ka, va], .agg #[.int .i64 kb, vb]] w fun e w' => e = .returned (.tuple #[.int .i64 (nearZ ka la kb lb).1, .int .i64 (nearZ ka la kb lb).2]) ∧ Aft w w' := by
  have hPa := hla
  have hPb := hlb
  obtain ⟨aa, ca0, rfl, hla⟩ := hla
  obtain ⟨ab, cb0, rfl, hlb⟩ := hlb
  have hma := nPart_le hda
  have hmb := nPart_le hdb
  have HFR := hid (allFar_frac hna hnb (nPart kb lb))
  obtain ⟨W0, eW0, hw0, hlt, hbox⟩ := two_boxes w #[.int .i64 ka, .slice aa la.length ca0] #[.int .i64 kb, .slice ab lb.length cb0] 51 51
  go_enter Try.func39, Try.ntmps39
  go_upto_region 1 with fail
  clear eW0
  have hF : Hid (∀ W, Aft W0 W → (W.cell? ⟨w.heap.size, 0, none⟩ = some (.int .i64 ka) ∧ W.cell? ⟨w.heap.size, 1, none⟩ = some (.slice aa la.length ca0)) ∧ W.cell? ⟨w.heap.size + 1, 0, none⟩ = some (.int .i64 kb) ∧ W.cell? ⟨w.heap.size + 1, 1, none⟩ = some (.slice ab lb.length cb0)) := hid fun W hW =>
    ⟨⟨(hbox.out W hW).1 0 _ rfl, (hbox.out W hW).1 1 _ rfl⟩, (hbox.out W hW).2 0 _ rfl, (hbox.out W hW).2 1 _ rfl⟩
  clear hbox
  obtain ⟨⟨p1, p2⟩, p3, p4⟩ := hF.out W0 (Aft.refl _)
  generalize hn0 : w.heap.size = n0 at *
  go_wp2_with fail
  refine (parts_any ka _ la W0 (hPa.aft hw0) hsa hda).mono ?_
  rintro e W3 ⟨v3, rfl, hown3, hw3⟩
  clear p1 p2 p3 p4
  obtain ⟨⟨p1, p2⟩, p3, p4⟩ := hF.out W3 hw3
  go_wp2_with fail
  refine (parts_any kb _ lb W3 (hPb.aft (hw0.trans hw3)) hsb hdb).mono ?_
  rintro e W4 ⟨v4, rfl, hown4, hw4⟩
  clear p1 p2 p3 p4
  have hown3' := ownsRow_aft hown3 hw4
  have HI := hid (show ∀ i j, i < nPart ka la → j < nPart kb lb → meetZ (sgZ la i) (sgZ lb j) = true → nearZ ka la kb lb = (0, 1) from fun i j hi hj h => by
    unfold nearZ
    rw [if_pos]
    exact List.any_eq_true.2 ⟨i, List.mem_range.2 hi, List.any_eq_true.2 ⟨j, List.mem_range.2 hj, h⟩⟩)
  have HJ := hid (show (∀ i, i < nPart ka la → ∀ j, j < nPart kb lb → meetZ (sgZ la i) (sgZ lb j) = false) → nearZ ka la kb lb = fracZ (allFar la lb (nPart kb lb) (nPart ka la)) from fun h => by
    unfold nearZ
    rw [if_neg]
    rw [Bool.not_eq_true]
    unfold meets
    exact List.any_eq_false.2 (fun i hi => by rw [Bool.not_eq_true]; exact List.any_eq_false.2 (fun j hj => by rw [h i (List.mem_range.1 hi) j (List.mem_range.1 hj)]; simp)))
  have hni := @nPart_ne ka la hda
  have hnj := @nPart_ne kb lb hdb
  obtain ⟨m, hm⟩ : ∃ m, nPart ka la = m := ⟨_, rfl⟩
  obtain ⟨m', hm'⟩ : ∃ m, nPart kb lb = m := ⟨_, rfl⟩
  rw [hm] at hown3 hown3' hma HI HJ
  rw [hm'] at hown4 hmb HI HJ HFR
  clear hm hm' hown3
  have hfin := (hw0.trans hw3).trans hw4
  obtain ⟨a3, ca, rfl, _⟩ := ownsRow_at hown3'
  obtain ⟨a4, cb, rfl, _⟩ := ownsRow_at hown4
  go_wp2
  go_loopw [8, 9, 10] (fun n d i wr => ∃ r : Nat, r ≤ m ∧ i = .int .i64 r ∧ n = .int .i64 (encN0 (allFar la lb m' r)) ∧ d = .int .i64 (encD0 (allFar la lb m' r)) ∧ Hid (∀ i, i < r → ∀ j, j < m' → meetZ (sgZ la i) (sgZ lb j) = false) ∧ Aft W4 wr) (fun _ _ i _ => m - (intOf i).toNat)
  case atStart => exact ⟨0, by omega, rfl, rfl, rfl, hid fun j hj => by omega, Aft.refl _⟩
  case round =>
    obtain ⟨i, hi, rfl, rfl, rfl, hno2, hwi⟩ := hrel
    rcases Nat.lt_or_ge i m with hlti | hgei
    · have hii : (i : Int) < m := by omega
      go_wp2
      go_loopw [8, 9, 11] (fun n d j wr => ∃ q : Nat, q ≤ m' ∧ j = .int .i64 q ∧ n = .int .i64 (encN0 (rowFar (sgZ la i) lb q (allFar la lb m' i))) ∧ d = .int .i64 (encD0 (rowFar (sgZ la i) lb q (allFar la lb m' i))) ∧ Hid (∀ j, j < q → meetZ (sgZ la i) (sgZ lb j) = false) ∧ Aft W4 wr) (fun _ _ j _ => m' - (intOf j).toNat)
      case atStart => exact ⟨0, by omega, rfl, rfl, rfl, hid fun j hj => by omega, hwi⟩
      case round =>
        obtain ⟨q, hq, rfl, rfl, rfl, hno3, hwq⟩ := hrel
        rcases Nat.lt_or_ge q m' with hltq | hgeq
        · have hqi : (q : Int) < m' := by omega
          have o3 := ownsRow_aft hown3' hwq
          have o4 := ownsRow_aft hown4 hwq
          obtain ⟨ga, cap, he, q1, q2, q3, q4, q5, q6⟩ := ends_cells o3 hlti
          simp only [Value.slice.injEq, true_and] at he
          obtain ⟨rfl, rfl⟩ := he
          obtain ⟨gb, cap', he', t1, t2, t3, t4, t5, t6⟩ := ends_cells o4 hltq
          simp only [Value.slice.injEq, true_and] at he'
          obtain ⟨rfl, rfl⟩ := he'
          have hsa4 := sgZ_sc hsca i
          have hsb4 := sgZ_sc hscb q
          have hn1 : Near1 ox oy (sgZ la i).1 := hna i
          have hn2 : Near1 ox oy (sgZ la i).2 := hna (i + 1)
          have hn3 : Near1 ox oy (sgZ lb q).1 := hnb q
          have hn4 : Near1 ox oy (sgZ lb q).2 := hnb (q + 1)
          have hstq := rowFar_frac (s := sgZ la i) (lb := lb) hn1 hn2 hnb (HFR.out i) q
          have HR1 : Hid (rowFar (sgZ la i) lb (q + 1) (allFar la lb m' i) = stepFar (sgZ la i) (sgZ lb q) (rowFar (sgZ la i) lb q (allFar la lb m' i)) 4) := hid rfl
          have HSF := hid (step_frac hn1 hn2 hn3 hn4 hstq)
          have HM1 := hid (HI.out i q hlti hltq)
          generalize rowFar (sgZ la i) lb q (allFar la lb m' i) = st at *
          obtain ⟨tq, htq⟩ : ∃ t : Int, (((q + 1) % lb.length : Nat) : Int) = t := ⟨_, rfl⟩
          obtain ⟨ti, hti⟩ : ∃ t : Int, (((i + 1) % la.length : Nat) : Int) = t := ⟨_, rfl⟩
          rw [htq] at t6
          rw [hti] at q6
          clear htq hti
          obtain ⟨⟨⟨ax, ay⟩, bx, by_⟩, hs⟩ : ∃ s, sgZ la i = s := ⟨_, rfl⟩
          obtain ⟨⟨⟨cx, cy⟩, dx, dy⟩, ht⟩ : ∃ s, sgZ lb q = s := ⟨_, rfl⟩
          rw [hs] at q1 q2 q3 q4 hsa4 HSF HM1 hn1 hn2
          rw [ht] at t1 t2 t3 t4 hsb4 HSF HM1 hn3 hn4
          have HNR := hid (And.intro hn1 (And.intro hn2 (And.intro hn3 hn4)))
          simp only at q1 q2 q3 q4 hsa4 t1 t2 t3 t4 hsb4
          obtain ⟨s1, s2, s3, s4⟩ := hsa4
          obtain ⟨s5, s6, s7, s8⟩ := hsb4
          have HS := hid hs
          have HT := hid ht
          clear hs ht hn1 hn2 hn3 hn4 hstq
          have hg1 := World.block_lt_of_cell? _ _ q1
          have hg2 := World.block_lt_of_cell? _ _ t1
          obtain ⟨o, ho⟩ : ∃ o, meetZ ((ax, ay), (bx, by_)) ((cx, cy), (dx, dy)) = o := ⟨_, rfl⟩
          have HO := hid ho
          obtain ⟨W2, hW2⟩ : ∃ W2, W2 = wr := ⟨_, rfl⟩
          subst hW2
          go_upto_region 11 with fail
          refine wp_region_lat W2 (Aft.refl _) (by kernel_rfl) (by kernel_rfl) ?_
          repeat (go_big_quiet_step ((go_at_call 31; exact Calls.lat (rmeet_to ho _ s1 s2 s3 s4 s5 s6 s7 s8))))
          refine wpQuiet_nil ?_
          intro _ hw'; obtain ⟨z, rfl⟩ := hw'
          cases o
          case true =>
            have HQ := hid (HM1.out HO.out)
            go_wp2
            go_ret2
            exact ⟨by rw [HQ.out]; rfl, (hfin.trans hwq).trans z.aft⟩
          case false =>
            have HN := hid (show ∀ j, j < q + 1 → meetZ (sgZ la i) (sgZ lb j) = false from fun j hj => by
              rcases Nat.lt_or_ge j q with h | h
              · exact hno3.out j h
              · obtain rfl : j = q := by omega
                rw [HS.out, HT.out]; exact HO.out)
            obtain ⟨WZ, hWZ⟩ : ∃ WZ, WZ = z.W := ⟨_, rfl⟩
            have hzW := z.aft
            rw [← hWZ] at hzW ⊢
            clear ho hWZ z
            have hwZ := hwq.trans hzW
            replace q1 := (hzW.cell (World.block_lt_of_cell? _ _ q1)).trans q1
            replace q2 := (hzW.cell (World.block_lt_of_cell? _ _ q2)).trans q2
            replace q3 := (hzW.cell (World.block_lt_of_cell? _ _ q3)).trans q3
            replace q4 := (hzW.cell (World.block_lt_of_cell? _ _ q4)).trans q4
            replace q5 := (hzW.cell (World.block_lt_of_cell? _ _ q5)).trans q5
            replace q6 := (hzW.cell (World.block_lt_of_cell? _ _ q6)).trans q6
            replace t1 := (hzW.cell (World.block_lt_of_cell? _ _ t1)).trans t1
            replace t2 := (hzW.cell (World.block_lt_of_cell? _ _ t2)).trans t2
            replace t3 := (hzW.cell (World.block_lt_of_cell? _ _ t3)).trans t3
            replace t4 := (hzW.cell (World.block_lt_of_cell? _ _ t4)).trans t4
            replace t5 := (hzW.cell (World.block_lt_of_cell? _ _ t5)).trans t5
            replace t6 := (hzW.cell (World.block_lt_of_cell? _ _ t6)).trans t6
            go_upto_region 13 with fail
            refine wp_region_flow _ (Aft.refl _) [FV.is (.slice (some ⟨ga, 0, none⟩) m ca), FV.is (.int .i64 i), FV.is (.pointer (some ⟨ga, i * 6, none⟩)), FV.is (.pointer (some ⟨ga, i * 6, none⟩)), FV.is (.agg #[.int .i64 ax, .int .i64 ay]), FV.is (.slice (some ⟨ga, 0, none⟩) m ca), FV.is (.int .i64 i), FV.is (.pointer (some ⟨ga, i * 6, none⟩)), FV.is (.pointer (some ⟨ga, i * 6 + 2, none⟩)), FV.is (.agg #[.int .i64 bx, .int .i64 by_]), FV.is (.slice (some ⟨gb, 0, none⟩) m' cb), FV.is (.int .i64 q), FV.is (.pointer (some ⟨gb, q * 6, none⟩)), FV.is (.pointer (some ⟨gb, q * 6, none⟩)), FV.is (.agg #[.int .i64 cx, .int .i64 cy]), FV.is (.slice (some ⟨gb, 0, none⟩) m' cb), FV.is (.int .i64 q), FV.is (.pointer (some ⟨gb, q * 6, none⟩)), FV.is (.pointer (some ⟨gb, q * 6 + 2, none⟩)), FV.is (.agg #[.int .i64 dx, .int .i64 dy]), fvNew4 (prs [(ax, ay), (bx, by_), (cx, cy), (dx, dy)])]
              [(0, 43), (1, 44), (2, 45), (3, 46), (4, 47), (5, 48), (6, 49), (7, 50), (8, 51), (9, 52), (10, 53), (11, 54), (12, 55), (13, 56), (14, 57), (15, 58), (16, 59), (17, 60), (18, 61), (19, 62), (20, 63)]
              [[], [], [(0, 43), (1, 44)], [(2, 45)], [(3, 46)], [], [], [(5, 48), (6, 49)], [(7, 50)], [(8, 51)], [], [], [(10, 53), (11, 54)], [(12, 55)], [(13, 56)], [], [], [(15, 58), (16, 59)], [(17, 60)], [(18, 61)], [(4, 47), (9, 52), (14, 57), (19, 62)]] (by kernel_rfl) (by kernel_rfl) ?_ ?_
            · refine flowObs_cons (fun W hW => flowOb_nil ?_) ?_
              · go_wp2
                exact ⟨rfl, Aft.refl W⟩
              refine flowObs_cons (fun W hW => flowOb_nil ?_) ?_
              · go_wp2
                exact ⟨rfl, Aft.refl W⟩
              refine flowObs_cons (fun W hW => flowOb_cons fun v0 h0 => flowOb_cons fun v1 h1 => flowOb_nil ?_) ?_
              · obtain rfl := h0
                obtain rfl := h1
                go_wp2
                exact ⟨rfl, Aft.refl W⟩
              refine flowObs_cons (fun W hW => flowOb_cons fun v0 h0 => flowOb_nil ?_) ?_
              · obtain rfl := h0
                go_wp2
                exact ⟨rfl, Aft.refl W⟩
              refine flowObs_cons (fun W hW => flowOb_cons fun v0 h0 => flowOb_nil ?_) ?_
              · obtain rfl := h0
                have q1W := (hW.cell (World.block_lt_of_cell? _ _ q1)).trans q1
                have q2W := (hW.cell (World.block_lt_of_cell? _ _ q2)).trans q2
                have q3W := (hW.cell (World.block_lt_of_cell? _ _ q3)).trans q3
                have q4W := (hW.cell (World.block_lt_of_cell? _ _ q4)).trans q4
                have q5W := (hW.cell (World.block_lt_of_cell? _ _ q5)).trans q5
                have q6W := (hW.cell (World.block_lt_of_cell? _ _ q6)).trans q6
                have t1W := (hW.cell (World.block_lt_of_cell? _ _ t1)).trans t1
                have t2W := (hW.cell (World.block_lt_of_cell? _ _ t2)).trans t2
                have t3W := (hW.cell (World.block_lt_of_cell? _ _ t3)).trans t3
                have t4W := (hW.cell (World.block_lt_of_cell? _ _ t4)).trans t4
                have t5W := (hW.cell (World.block_lt_of_cell? _ _ t5)).trans t5
                have t6W := (hW.cell (World.block_lt_of_cell? _ _ t6)).trans t6
                go_wp2
                exact ⟨rfl, Aft.refl W⟩
              refine flowObs_cons (fun W hW => flowOb_nil ?_) ?_
              · go_wp2
                exact ⟨rfl, Aft.refl W⟩
              refine flowObs_cons (fun W hW => flowOb_nil ?_) ?_
              · go_wp2
                exact ⟨rfl, Aft.refl W⟩
              refine flowObs_cons (fun W hW => flowOb_cons fun v0 h0 => flowOb_cons fun v1 h1 => flowOb_nil ?_) ?_
              · obtain rfl := h0
                obtain rfl := h1
                go_wp2
                exact ⟨rfl, Aft.refl W⟩
              refine flowObs_cons (fun W hW => flowOb_cons fun v0 h0 => flowOb_nil ?_) ?_
              · obtain rfl := h0
                go_wp2
                exact ⟨rfl, Aft.refl W⟩
              refine flowObs_cons (fun W hW => flowOb_cons fun v0 h0 => flowOb_nil ?_) ?_
              · obtain rfl := h0
                have q1W := (hW.cell (World.block_lt_of_cell? _ _ q1)).trans q1
                have q2W := (hW.cell (World.block_lt_of_cell? _ _ q2)).trans q2
                have q3W := (hW.cell (World.block_lt_of_cell? _ _ q3)).trans q3
                have q4W := (hW.cell (World.block_lt_of_cell? _ _ q4)).trans q4
                have q5W := (hW.cell (World.block_lt_of_cell? _ _ q5)).trans q5
                have q6W := (hW.cell (World.block_lt_of_cell? _ _ q6)).trans q6
                have t1W := (hW.cell (World.block_lt_of_cell? _ _ t1)).trans t1
                have t2W := (hW.cell (World.block_lt_of_cell? _ _ t2)).trans t2
                have t3W := (hW.cell (World.block_lt_of_cell? _ _ t3)).trans t3
                have t4W := (hW.cell (World.block_lt_of_cell? _ _ t4)).trans t4
                have t5W := (hW.cell (World.block_lt_of_cell? _ _ t5)).trans t5
                have t6W := (hW.cell (World.block_lt_of_cell? _ _ t6)).trans t6
                go_wp2
                exact ⟨rfl, Aft.refl W⟩
              refine flowObs_cons (fun W hW => flowOb_nil ?_) ?_
              · go_wp2
                exact ⟨rfl, Aft.refl W⟩
              refine flowObs_cons (fun W hW => flowOb_nil ?_) ?_
              · go_wp2
                exact ⟨rfl, Aft.refl W⟩
              refine flowObs_cons (fun W hW => flowOb_cons fun v0 h0 => flowOb_cons fun v1 h1 => flowOb_nil ?_) ?_
              · obtain rfl := h0
                obtain rfl := h1
                go_wp2
                exact ⟨rfl, Aft.refl W⟩
              refine flowObs_cons (fun W hW => flowOb_cons fun v0 h0 => flowOb_nil ?_) ?_
              · obtain rfl := h0
                go_wp2
                exact ⟨rfl, Aft.refl W⟩
              refine flowObs_cons (fun W hW => flowOb_cons fun v0 h0 => flowOb_nil ?_) ?_
              · obtain rfl := h0
                have q1W := (hW.cell (World.block_lt_of_cell? _ _ q1)).trans q1
                have q2W := (hW.cell (World.block_lt_of_cell? _ _ q2)).trans q2
                have q3W := (hW.cell (World.block_lt_of_cell? _ _ q3)).trans q3
                have q4W := (hW.cell (World.block_lt_of_cell? _ _ q4)).trans q4
                have q5W := (hW.cell (World.block_lt_of_cell? _ _ q5)).trans q5
                have q6W := (hW.cell (World.block_lt_of_cell? _ _ q6)).trans q6
                have t1W := (hW.cell (World.block_lt_of_cell? _ _ t1)).trans t1
                have t2W := (hW.cell (World.block_lt_of_cell? _ _ t2)).trans t2
                have t3W := (hW.cell (World.block_lt_of_cell? _ _ t3)).trans t3
                have t4W := (hW.cell (World.block_lt_of_cell? _ _ t4)).trans t4
                have t5W := (hW.cell (World.block_lt_of_cell? _ _ t5)).trans t5
                have t6W := (hW.cell (World.block_lt_of_cell? _ _ t6)).trans t6
                go_wp2
                exact ⟨rfl, Aft.refl W⟩
              refine flowObs_cons (fun W hW => flowOb_nil ?_) ?_
              · go_wp2
                exact ⟨rfl, Aft.refl W⟩
              refine flowObs_cons (fun W hW => flowOb_nil ?_) ?_
              · go_wp2
                exact ⟨rfl, Aft.refl W⟩
              refine flowObs_cons (fun W hW => flowOb_cons fun v0 h0 => flowOb_cons fun v1 h1 => flowOb_nil ?_) ?_
              · obtain rfl := h0
                obtain rfl := h1
                go_wp2
                exact ⟨rfl, Aft.refl W⟩
              refine flowObs_cons (fun W hW => flowOb_cons fun v0 h0 => flowOb_nil ?_) ?_
              · obtain rfl := h0
                go_wp2
                exact ⟨rfl, Aft.refl W⟩
              refine flowObs_cons (fun W hW => flowOb_cons fun v0 h0 => flowOb_nil ?_) ?_
              · obtain rfl := h0
                have q1W := (hW.cell (World.block_lt_of_cell? _ _ q1)).trans q1
                have q2W := (hW.cell (World.block_lt_of_cell? _ _ q2)).trans q2
                have q3W := (hW.cell (World.block_lt_of_cell? _ _ q3)).trans q3
                have q4W := (hW.cell (World.block_lt_of_cell? _ _ q4)).trans q4
                have q5W := (hW.cell (World.block_lt_of_cell? _ _ q5)).trans q5
                have q6W := (hW.cell (World.block_lt_of_cell? _ _ q6)).trans q6
                have t1W := (hW.cell (World.block_lt_of_cell? _ _ t1)).trans t1
                have t2W := (hW.cell (World.block_lt_of_cell? _ _ t2)).trans t2
                have t3W := (hW.cell (World.block_lt_of_cell? _ _ t3)).trans t3
                have t4W := (hW.cell (World.block_lt_of_cell? _ _ t4)).trans t4
                have t5W := (hW.cell (World.block_lt_of_cell? _ _ t5)).trans t5
                have t6W := (hW.cell (World.block_lt_of_cell? _ _ t6)).trans t6
                go_wp2
                exact ⟨rfl, Aft.refl W⟩
              refine flowObs_cons (fun W hW => flowOb_cons fun v0 h0 => flowOb_cons fun v1 h1 => flowOb_cons fun v2 h2 => flowOb_cons fun v3 h3 => flowOb_nil ?_) flowObs_nil
              · obtain rfl := h0
                obtain rfl := h1
                obtain rfl := h2
                obtain rfl := h3
                go_wp2
                exact ⟨⟨_, rfl, Rd.new⟩, (Aft.refl W).alloc _⟩
            · intro W hW
              iterate 20 refine flowEnd_cons fun _ _ => ?_
              refine flowEnd_cons fun v h => flowEnd_nil ?_
              obtain ⟨gp, rfl, hrdp⟩ := h
              simp only [Act.put, List.setIfInBounds_toArray, List.set_cons_succ, List.set_cons_zero]
              replace q1 := (hW.cell (World.block_lt_of_cell? _ _ q1)).trans q1
              replace q2 := (hW.cell (World.block_lt_of_cell? _ _ q2)).trans q2
              replace q3 := (hW.cell (World.block_lt_of_cell? _ _ q3)).trans q3
              replace q4 := (hW.cell (World.block_lt_of_cell? _ _ q4)).trans q4
              replace q5 := (hW.cell (World.block_lt_of_cell? _ _ q5)).trans q5
              replace q6 := (hW.cell (World.block_lt_of_cell? _ _ q6)).trans q6
              replace t1 := (hW.cell (World.block_lt_of_cell? _ _ t1)).trans t1
              replace t2 := (hW.cell (World.block_lt_of_cell? _ _ t2)).trans t2
              replace t3 := (hW.cell (World.block_lt_of_cell? _ _ t3)).trans t3
              replace t4 := (hW.cell (World.block_lt_of_cell? _ _ t4)).trans t4
              replace t5 := (hW.cell (World.block_lt_of_cell? _ _ t5)).trans t5
              replace t6 := (hW.cell (World.block_lt_of_cell? _ _ t6)).trans t6
              have hwW := hwZ.trans hW
              go_upto_region 14 with fail
              have hdp := hrdp
              refine wp_region_flow _ (Aft.refl _) [FV.is (.slice (some ⟨gb, 0, none⟩) m' cb), FV.is (.int .i64 q), FV.is (.pointer (some ⟨gb, q * 6, none⟩)), FV.is (.agg #[.int .i64 cx, .int .i64 cy, .int .i64 dx, .int .i64 dy, .int .i64 q, .int .i64 tq]), FV.is (.slice (some ⟨gb, 0, none⟩) m' cb), FV.is (.int .i64 q), FV.is (.pointer (some ⟨gb, q * 6, none⟩)), FV.is (.agg #[.int .i64 cx, .int .i64 cy, .int .i64 dx, .int .i64 dy, .int .i64 q, .int .i64 tq]), FV.is (.slice (some ⟨ga, 0, none⟩) m ca), FV.is (.int .i64 i), FV.is (.pointer (some ⟨ga, i * 6, none⟩)), FV.is (.agg #[.int .i64 ax, .int .i64 ay, .int .i64 bx, .int .i64 by_, .int .i64 i, .int .i64 ti]), FV.is (.slice (some ⟨ga, 0, none⟩) m ca), FV.is (.int .i64 i), FV.is (.pointer (some ⟨ga, i * 6, none⟩)), FV.is (.agg #[.int .i64 ax, .int .i64 ay, .int .i64 bx, .int .i64 by_, .int .i64 i, .int .i64 ti]), fvNew4 (endsR [(((cx, cy), (dx, dy)), q, tq), (((cx, cy), (dx, dy)), q, tq), (((ax, ay), (bx, by_)), i, ti), (((ax, ay), (bx, by_)), i, ti)])]
                [(0, 64), (1, 65), (2, 66), (3, 67), (4, 68), (5, 69), (6, 70), (7, 71), (8, 72), (9, 73), (10, 74), (11, 75), (12, 76), (13, 77), (14, 78), (15, 79), (16, 80)]
                [[], [], [(0, 64), (1, 65)], [(2, 66)], [], [], [(4, 68), (5, 69)], [(6, 70)], [], [], [(8, 72), (9, 73)], [(10, 74)], [], [], [(12, 76), (13, 77)], [(14, 78)], [(3, 67), (7, 71), (11, 75), (15, 79)]] (by kernel_rfl) (by kernel_rfl) ?_ ?_
              · refine flowObs_cons (fun W hW => flowOb_nil ?_) ?_
                · go_wp2
                  exact ⟨rfl, Aft.refl W⟩
                refine flowObs_cons (fun W hW => flowOb_nil ?_) ?_
                · go_wp2
                  exact ⟨rfl, Aft.refl W⟩
                refine flowObs_cons (fun W hW => flowOb_cons fun v0 h0 => flowOb_cons fun v1 h1 => flowOb_nil ?_) ?_
                · obtain rfl := h0
                  obtain rfl := h1
                  go_wp2
                  exact ⟨rfl, Aft.refl W⟩
                refine flowObs_cons (fun W hW => flowOb_cons fun v0 h0 => flowOb_nil ?_) ?_
                · obtain rfl := h0
                  have q1W := (hW.cell (World.block_lt_of_cell? _ _ q1)).trans q1
                  have q2W := (hW.cell (World.block_lt_of_cell? _ _ q2)).trans q2
                  have q3W := (hW.cell (World.block_lt_of_cell? _ _ q3)).trans q3
                  have q4W := (hW.cell (World.block_lt_of_cell? _ _ q4)).trans q4
                  have q5W := (hW.cell (World.block_lt_of_cell? _ _ q5)).trans q5
                  have q6W := (hW.cell (World.block_lt_of_cell? _ _ q6)).trans q6
                  have t1W := (hW.cell (World.block_lt_of_cell? _ _ t1)).trans t1
                  have t2W := (hW.cell (World.block_lt_of_cell? _ _ t2)).trans t2
                  have t3W := (hW.cell (World.block_lt_of_cell? _ _ t3)).trans t3
                  have t4W := (hW.cell (World.block_lt_of_cell? _ _ t4)).trans t4
                  have t5W := (hW.cell (World.block_lt_of_cell? _ _ t5)).trans t5
                  have t6W := (hW.cell (World.block_lt_of_cell? _ _ t6)).trans t6
                  go_wp2
                  exact ⟨rfl, Aft.refl W⟩
                refine flowObs_cons (fun W hW => flowOb_nil ?_) ?_
                · go_wp2
                  exact ⟨rfl, Aft.refl W⟩
                refine flowObs_cons (fun W hW => flowOb_nil ?_) ?_
                · go_wp2
                  exact ⟨rfl, Aft.refl W⟩
                refine flowObs_cons (fun W hW => flowOb_cons fun v0 h0 => flowOb_cons fun v1 h1 => flowOb_nil ?_) ?_
                · obtain rfl := h0
                  obtain rfl := h1
                  go_wp2
                  exact ⟨rfl, Aft.refl W⟩
                refine flowObs_cons (fun W hW => flowOb_cons fun v0 h0 => flowOb_nil ?_) ?_
                · obtain rfl := h0
                  have q1W := (hW.cell (World.block_lt_of_cell? _ _ q1)).trans q1
                  have q2W := (hW.cell (World.block_lt_of_cell? _ _ q2)).trans q2
                  have q3W := (hW.cell (World.block_lt_of_cell? _ _ q3)).trans q3
                  have q4W := (hW.cell (World.block_lt_of_cell? _ _ q4)).trans q4
                  have q5W := (hW.cell (World.block_lt_of_cell? _ _ q5)).trans q5
                  have q6W := (hW.cell (World.block_lt_of_cell? _ _ q6)).trans q6
                  have t1W := (hW.cell (World.block_lt_of_cell? _ _ t1)).trans t1
                  have t2W := (hW.cell (World.block_lt_of_cell? _ _ t2)).trans t2
                  have t3W := (hW.cell (World.block_lt_of_cell? _ _ t3)).trans t3
                  have t4W := (hW.cell (World.block_lt_of_cell? _ _ t4)).trans t4
                  have t5W := (hW.cell (World.block_lt_of_cell? _ _ t5)).trans t5
                  have t6W := (hW.cell (World.block_lt_of_cell? _ _ t6)).trans t6
                  go_wp2
                  exact ⟨rfl, Aft.refl W⟩
                refine flowObs_cons (fun W hW => flowOb_nil ?_) ?_
                · go_wp2
                  exact ⟨rfl, Aft.refl W⟩
                refine flowObs_cons (fun W hW => flowOb_nil ?_) ?_
                · go_wp2
                  exact ⟨rfl, Aft.refl W⟩
                refine flowObs_cons (fun W hW => flowOb_cons fun v0 h0 => flowOb_cons fun v1 h1 => flowOb_nil ?_) ?_
                · obtain rfl := h0
                  obtain rfl := h1
                  go_wp2
                  exact ⟨rfl, Aft.refl W⟩
                refine flowObs_cons (fun W hW => flowOb_cons fun v0 h0 => flowOb_nil ?_) ?_
                · obtain rfl := h0
                  have q1W := (hW.cell (World.block_lt_of_cell? _ _ q1)).trans q1
                  have q2W := (hW.cell (World.block_lt_of_cell? _ _ q2)).trans q2
                  have q3W := (hW.cell (World.block_lt_of_cell? _ _ q3)).trans q3
                  have q4W := (hW.cell (World.block_lt_of_cell? _ _ q4)).trans q4
                  have q5W := (hW.cell (World.block_lt_of_cell? _ _ q5)).trans q5
                  have q6W := (hW.cell (World.block_lt_of_cell? _ _ q6)).trans q6
                  have t1W := (hW.cell (World.block_lt_of_cell? _ _ t1)).trans t1
                  have t2W := (hW.cell (World.block_lt_of_cell? _ _ t2)).trans t2
                  have t3W := (hW.cell (World.block_lt_of_cell? _ _ t3)).trans t3
                  have t4W := (hW.cell (World.block_lt_of_cell? _ _ t4)).trans t4
                  have t5W := (hW.cell (World.block_lt_of_cell? _ _ t5)).trans t5
                  have t6W := (hW.cell (World.block_lt_of_cell? _ _ t6)).trans t6
                  go_wp2
                  exact ⟨rfl, Aft.refl W⟩
                refine flowObs_cons (fun W hW => flowOb_nil ?_) ?_
                · go_wp2
                  exact ⟨rfl, Aft.refl W⟩
                refine flowObs_cons (fun W hW => flowOb_nil ?_) ?_
                · go_wp2
                  exact ⟨rfl, Aft.refl W⟩
                refine flowObs_cons (fun W hW => flowOb_cons fun v0 h0 => flowOb_cons fun v1 h1 => flowOb_nil ?_) ?_
                · obtain rfl := h0
                  obtain rfl := h1
                  go_wp2
                  exact ⟨rfl, Aft.refl W⟩
                refine flowObs_cons (fun W hW => flowOb_cons fun v0 h0 => flowOb_nil ?_) ?_
                · obtain rfl := h0
                  have q1W := (hW.cell (World.block_lt_of_cell? _ _ q1)).trans q1
                  have q2W := (hW.cell (World.block_lt_of_cell? _ _ q2)).trans q2
                  have q3W := (hW.cell (World.block_lt_of_cell? _ _ q3)).trans q3
                  have q4W := (hW.cell (World.block_lt_of_cell? _ _ q4)).trans q4
                  have q5W := (hW.cell (World.block_lt_of_cell? _ _ q5)).trans q5
                  have q6W := (hW.cell (World.block_lt_of_cell? _ _ q6)).trans q6
                  have t1W := (hW.cell (World.block_lt_of_cell? _ _ t1)).trans t1
                  have t2W := (hW.cell (World.block_lt_of_cell? _ _ t2)).trans t2
                  have t3W := (hW.cell (World.block_lt_of_cell? _ _ t3)).trans t3
                  have t4W := (hW.cell (World.block_lt_of_cell? _ _ t4)).trans t4
                  have t5W := (hW.cell (World.block_lt_of_cell? _ _ t5)).trans t5
                  have t6W := (hW.cell (World.block_lt_of_cell? _ _ t6)).trans t6
                  go_wp2
                  exact ⟨rfl, Aft.refl W⟩
                refine flowObs_cons (fun W hW => flowOb_cons fun v0 h0 => flowOb_cons fun v1 h1 => flowOb_cons fun v2 h2 => flowOb_cons fun v3 h3 => flowOb_nil ?_) flowObs_nil
                · obtain rfl := h0
                  obtain rfl := h1
                  obtain rfl := h2
                  obtain rfl := h3
                  go_wp2
                  exact ⟨⟨_, rfl, Rd.new⟩, (Aft.refl W).alloc _⟩
              · intro V hV
                iterate 16 refine flowEnd_cons fun _ _ => ?_
                refine flowEnd_cons fun v h => flowEnd_nil ?_
                obtain ⟨ge, rfl, hrde⟩ := h
                simp only [Act.put, List.setIfInBounds_toArray, List.set_cons_succ, List.set_cons_zero]
                replace hrdp := hrdp.aft hV
                have hwV := hwW.trans hV
                have HP := hid (show ∀ V', Aft V V' → ∀ (j : Nat) (v : Value), (prs [(ax, ay), (bx, by_), (cx, cy), (dx, dy)])[j]? = some v → V'.cell? ⟨gp, j, none⟩ = some v from fun V' h' j v hj => by
                  obtain ⟨ad, e, hc⟩ := (hrdp.aft h') j v hj
                  cases e
                  by_cases h0 : j = 0
                  · subst h0; simpa [Addr.add] using hc
                  · simpa [Addr.add, h0] using hc)
                have HE := hid (show ∀ V', Aft V V' → ∀ (j : Nat) (v : Value), (endsR [(((cx, cy), (dx, dy)), q, tq), (((cx, cy), (dx, dy)), q, tq), (((ax, ay), (bx, by_)), i, ti), (((ax, ay), (bx, by_)), i, ti)])[j]? = some v → V'.cell? ⟨ge, j, none⟩ = some v from fun V' h' j v hj => by
                  obtain ⟨ad, e, hc⟩ := (hrde.aft h') j v hj
                  cases e
                  by_cases h0 : j = 0
                  · subst h0; simpa [Addr.add] using hc
                  · simpa [Addr.add, h0] using hc)
                clear hrdp hrde hdp q1 q2 q3 q4 q5 q6 t1 t2 t3 t4 t5 t6 o3 o4
                go_wp2
                go_loopw [8, 9, 14, 15, 16] (fun n d j _ _ wr => ∃ r : Nat, r ≤ 4 ∧ j = .int .i64 r ∧ n = .int .i64 (encN0 (stepFar ((ax, ay), (bx, by_)) ((cx, cy), (dx, dy)) st r)) ∧ d = .int .i64 (encD0 (stepFar ((ax, ay), (bx, by_)) ((cx, cy), (dx, dy)) st r)) ∧ Aft V wr) (fun _ _ j _ _ _ => 4 - (intOf j).toNat)
                case atStart => exact ⟨0, by omega, rfl, rfl, rfl, Aft.refl _⟩
                case round =>
                  obtain ⟨r, hr, rfl, rfl, rfl, hwr⟩ := hrel
                  have hwV2 := hwV.trans hwr
                  rcases Nat.lt_or_ge r 4 with hlt4 | hge4
                  · have hri : (r : Int) < 4 := by omega
                    obtain ⟨px, py, ux, uy, vx, vy, ef, et, hpt, hot, z1, z2, z3, z4, z5, z6, hst, hfr⟩ : ∃ px py ux uy vx vy ef et : Int, [(ax, ay), (bx, by_), (cx, cy), (dx, dy)][r]? = some (px, py) ∧ [(((cx, cy), (dx, dy)), (q : Int), tq), (((cx, cy), (dx, dy)), (q : Int), tq), (((ax, ay), (bx, by_)), (i : Int), ti), (((ax, ay), (bx, by_)), (i : Int), ti)][r]? = some (((ux, uy), (vx, vy)), ef, et) ∧
                        Sc px ∧ Sc py ∧ Sc ux ∧ Sc uy ∧ Sc vx ∧ Sc vy ∧ Hid (stepFar ((ax, ay), (bx, by_)) ((cx, cy), (dx, dy)) st (r + 1) = better (stepFar ((ax, ay), (bx, by_)) ((cx, cy), (dx, dy)) st r) (farZ (px, py) ((ux, uy), (vx, vy)))) ∧ Frac (farZ (px, py) ((ux, uy), (vx, vy))) := by
                      obtain ⟨y1, y2, y3, y4⟩ := HNR.out
                      have : r = 0 ∨ r = 1 ∨ r = 2 ∨ r = 3 := by omega
                      rcases this with rfl | rfl | rfl | rfl
                      · exact ⟨ax, ay, cx, cy, dx, dy, q, tq, rfl, rfl, s1, s2, s5, s6, s7, s8, hid rfl, far_frac (p := (ax, ay)) y1 y3 y4⟩
                      · exact ⟨bx, by_, cx, cy, dx, dy, q, tq, rfl, rfl, s3, s4, s5, s6, s7, s8, hid rfl, far_frac (p := (bx, by_)) y2 y3 y4⟩
                      · exact ⟨cx, cy, ax, ay, bx, by_, i, ti, rfl, rfl, s5, s6, s1, s2, s3, s4, hid rfl, far_frac (p := (cx, cy)) y3 y1 y2⟩
                      · exact ⟨dx, dy, ax, ay, bx, by_, i, ti, rfl, rfl, s7, s8, s1, s2, s3, s4, hid rfl, far_frac (p := (dx, dy)) y4 y1 y2⟩
                    have hpg := prs_get hpt
                    have hog := endsR_get hot
                    have c1 := HP.out wr hwr _ _ hpg.1
                    have c2 := HP.out wr hwr _ _ hpg.2
                    have e1 : wr.cell? ⟨ge, r * 6, none⟩ = some (.int .i64 ux) := HE.out wr hwr _ _ (hog 0 (by decide))
                    have e2 : wr.cell? ⟨ge, r * 6 + 1, none⟩ = some (.int .i64 uy) := HE.out wr hwr _ _ (hog 1 (by decide))
                    have e3 : wr.cell? ⟨ge, r * 6 + 2, none⟩ = some (.int .i64 vx) := HE.out wr hwr _ _ (hog 2 (by decide))
                    have e4 : wr.cell? ⟨ge, r * 6 + 3, none⟩ = some (.int .i64 vy) := HE.out wr hwr _ _ (hog 3 (by decide))
                    have e5 : wr.cell? ⟨ge, r * 6 + 4, none⟩ = some (.int .i64 ef) := HE.out wr hwr _ _ (hog 4 (by decide))
                    have e6 : wr.cell? ⟨ge, r * 6 + 5, none⟩ = some (.int .i64 et) := HE.out wr hwr _ _ (hog 5 (by decide))
                    simp only at c1 c2
                    clear hpt hot hpg hog
                    have hg3 := World.block_lt_of_cell? _ _ c1
                    have hg4 := World.block_lt_of_cell? _ _ e1
                    have hsu := HSF.out r (by omega)
                    obtain ⟨su, hsE⟩ : ∃ su, stepFar ((ax, ay), (bx, by_)) ((cx, cy), (dx, dy)) st r = su := ⟨_, rfl⟩
                    rw [hsE] at hst hsu ⊢
                    obtain ⟨⟨fn, fd⟩, hfE⟩ : ∃ f, farZ (px, py) ((ux, uy), (vx, vy)) = f := ⟨_, rfl⟩
                    rw [hfE] at hst hfr
                    obtain ⟨a1, a2, a3, a4⟩ := hfr
                    simp only at a1 a2 a3 a4
                    clear hsE
                    obtain ⟨W5, hW5⟩ : ∃ W5, W5 = wr := ⟨_, rfl⟩
                    subst hW5
                    go_upto_region 18 with fail
                    refine wp_region_lat W5 (Aft.refl _) (by kernel_rfl) (by kernel_rfl) ?_
                    repeat (go_big_quiet_step ((go_at_call 85; exact Calls.lat (far_to hfE _ z3 z4 z5 z6 z1 z2))))
                    refine wpQuiet_nil ?_
                    intro _ hw'; obtain ⟨z, rfl⟩ := hw'
                    have hwz := hwr.trans z.aft
                    clear hfE
                    cases su with
                    | none =>
                      have HB := hid (hst.out.trans (show better none (fn, fd) = some (fn, fd) from rfl))
                      simp only [encN0, encD0]
                      go_wp2
                      go_roundw
                      case rel => exact ⟨r + 1, by omega, by go_num, by rw [HB.out]; rfl, by rw [HB.out]; rfl, hwz⟩
                      case measure => simp only [intOf]; omega
                    | some x =>
                      obtain ⟨n0', d0⟩ := x
                      obtain ⟨b1, b2, b3, b4⟩ := hsu _ rfl
                      simp only at b1 b2 b3 b4
                      simp only [encN0, encD0]
                      have m1 := mul_frac (a := fn) (b := d0) ⟨a1, a2⟩ ⟨b3, b4⟩
                      have m2 := mul_frac (a := n0') (b := fd) ⟨b1, b2⟩ ⟨a3, a4⟩
                      have hd0 : ¬ (d0 = 0) := by omega
                      have hd1 : (d0 == 0) = false := by rw [beq_eq_false_iff_ne]; exact hd0
                      by_cases hltf : fn * d0 < n0' * fd
                      · have HB := hid (hst.out.trans (show better (some (n0', d0)) (fn, fd) = some (fn, fd) from if_pos hltf))
                        have hlt' : decide (fn * d0 < n0' * fd) = true := by simpa using hltf
                        go_wp2
                        go_roundw
                        case rel => exact ⟨r + 1, by omega, by go_num, by rw [HB.out]; rfl, by rw [HB.out]; rfl, hwz⟩
                        case measure => simp only [intOf]; omega
                      · have HB := hid (hst.out.trans (show better (some (n0', d0)) (fn, fd) = some (n0', d0) from if_neg hltf))
                        have hlt' : decide (fn * d0 < n0' * fd) = false := by simpa using hltf
                        go_wp2
                        go_roundw
                        case rel => exact ⟨r + 1, by omega, by go_num, by rw [HB.out]; rfl, by rw [HB.out]; rfl, hwz⟩
                        case measure => simp only [intOf]; omega
                  · obtain rfl : r = 4 := by omega
                    have HR2 := hid (show rowFar (sgZ la i) lb (q + 1) (allFar la lb m' i) = stepFar ((ax, ay), (bx, by_)) ((cx, cy), (dx, dy)) st 4 by rw [HR1.out, HS.out, HT.out])
                    go_wp2
                    go_roundw
                    case rel => exact ⟨q + 1, by omega, by go_num, by rw [HR2.out], by rw [HR2.out], HN, hwV2⟩
                    case measure => simp only [intOf]; omega
        · obtain rfl : q = m' := by omega
          have HN := hid (show ∀ u, u < i + 1 → ∀ j, j < q → meetZ (sgZ la u) (sgZ lb j) = false from fun u hu => by
            rcases Nat.lt_or_ge u i with h | h
            · exact hno2.out u h
            · obtain rfl : u = i := by omega
              exact hno3.out)
          go_wp2
          go_roundw
          case rel => exact ⟨i + 1, by omega, by go_num, rfl, rfl, HN, hwq⟩
          case measure => simp only [intOf]; omega
    · obtain rfl : i = m := by omega
      have HQ := hid (HJ.out hno2.out)
      have hFr := HFR.out i
      obtain ⟨st, hst⟩ : ∃ st, allFar la lb m' i = st := ⟨_, rfl⟩
      rw [hst] at hFr ⊢
      have HST := hid hst; clear hst
      have hend := hfin.trans hwi
      cases st with
      | none =>
        have HQ2 : Hid (nearZ ka la kb lb = (0, 1)) := hid (by rw [HQ.out, HST.out]; rfl)
        simp only [encN0, encD0]
        go_wp2
        go_ret2
        exact ⟨by rw [HQ2.out]; rfl, hend⟩
      | some x =>
        obtain ⟨n, d⟩ := x
        obtain ⟨b1, b2, b3, b4⟩ := hFr _ rfl
        simp only at b1 b2 b3 b4
        simp only [encN0, encD0]
        rcases Int.lt_or_le 0 n with hpos | hle
        · obtain ⟨n', rfl⟩ := Int.eq_ofNat_of_zero_le b1
          obtain ⟨d', rfl⟩ := Int.eq_ofNat_of_zero_le (show 0 ≤ d by omega)
          have HQ2 : Hid (nearZ ka la kb lb = ((n' : Int) / (Nat.gcd d' n' : Nat), (d' : Int) / (Nat.gcd d' n' : Nat))) := hid (by
            rw [HQ.out, HST.out]
            unfold fracZ
            simp only [Int.toNat_natCast]
            rw [if_neg (by omega)])
          have hg0 : 0 < Nat.gcd d' n' := Nat.gcd_pos_of_pos_right _ (by omega)
          obtain ⟨gg, hgg⟩ : ∃ gg, Nat.gcd d' n' = gg := ⟨_, rfl⟩
          have HG := hid hgg
          rw [hgg] at hg0
          clear hgg
          have hn0' : ¬ ((n' : Int) = 0) := by omega
          have hn1' : ((n' : Int) == 0) = false := by rw [beq_eq_false_iff_ne]; exact hn0'
          go_wp2_with fail
          refine (divisor_any n' d' _ (by omega) (by omega)).mono ?_
          rintro e W9 ⟨rfl, hw9⟩
          rw [HG.out]
          have hgi : ((gg : Int) = 0) = False := by simp; omega
          go_upto_region 25 with fail
          refine wp_region_lat W9 (Aft.refl _) (by kernel_rfl) (by kernel_rfl) ?_
          repeat (go_big_quiet_step (fail))
          refine wpQuiet_nil ?_
          intro _ hw'; obtain ⟨z, rfl⟩ := hw'
          go_wp2
          go_ret2
          refine ⟨?_, (hend.trans hw9).trans z.aft⟩
          rw [HQ2.out, HG.out]
          have y1 : wrap64 ((n' : Int) / gg) = (n' : Int) / gg := IntWalk.wrap64_in _ (by have := Int.ediv_nonneg (show (0 : Int) ≤ n' by omega) (show (0 : Int) ≤ gg by omega); have := Int.ediv_le_self (gg : Int) (show (0 : Int) ≤ n' by omega); omega)
          have y2 : wrap64 ((d' : Int) / gg) = (d' : Int) / gg := IntWalk.wrap64_in _ (by have := Int.ediv_nonneg (show (0 : Int) ≤ d' by omega) (show (0 : Int) ≤ gg by omega); have := Int.ediv_le_self (gg : Int) (show (0 : Int) ≤ d' by omega); omega)
          show Ending.returned (.tuple #[.int .i64 (wrap64 ((n' : Int) / gg)), .int .i64 (wrap64 ((d' : Int) / gg))]) = _
          rw [y1, y2]
        · obtain rfl : n = 0 := by omega
          have HQ2 : Hid (nearZ ka la kb lb = (0, 1)) := hid (by
            rw [HQ.out, HST.out]
            unfold fracZ
            simp only
            rw [if_pos (by omega)])
          go_wp2
          go_ret2
          exact ⟨by rw [HQ2.out]; rfl, hend⟩
end Go.Proofs.Ytokdclbfjlnnjaa
