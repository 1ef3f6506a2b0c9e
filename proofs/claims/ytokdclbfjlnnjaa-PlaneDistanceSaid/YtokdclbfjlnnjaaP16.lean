/- The reference's Inside. -/
import Derived.Test.YtokdclbfjlnnjaaP15
namespace Go.Proofs.Ytokdclbfjlnnjaa
open Go.RowKit Go.BigFrame

def rinsideZ (ka : Int) (la : List Pt) (kb : Int) (lb : List Pt) : Bool :=
  decide (kb = 2) && (!la.isEmpty && (!(la.any fun p => !strictlyZ p kb lb) && !((List.range (nSeg ka la)).any fun i => (List.range (nSeg kb lb)).any fun j => meetZ (sgZ la i) (sgZ lb j))))

theorem strictly_to {px py k : Int} {o : Bool} {vp : Value} {l : List Pt} (h : strictlyZ (px, py) k l = o) (w : World) (hl : Prs w vp l) (hsm : l.length ≤ 1000) (hsc : ScL l) (hpx : Sc px) (hpy : Sc py) :
    Calls Try.prog 90 #[.agg #[.int .i64 px, .int .i64 py], .agg #[.int .i64 k, vp]] w fun e w' => e = .returned (.bool o) ∧ Aft w w' := by rw [← h]; exact strictly_any px py k vp l w hl hsm hsc hpx hpy
theorem rmeet_to {ax ay bx by_ cx cy dx dy f t f' t' : Int} {o : Bool} (h : meetZ ((ax, ay), (bx, by_)) ((cx, cy), (dx, dy)) = o) (w : World) (h1 : Sc ax) (h2 : Sc ay) (h3 : Sc bx) (h4 : Sc by_) (h5 : Sc cx) (h6 : Sc cy) (h7 : Sc dx) (h8 : Sc dy) :
    Calls Try.prog 31 #[.agg #[.int .i64 ax, .int .i64 ay, .int .i64 bx, .int .i64 by_, .int .i64 f, .int .i64 t], .agg #[.int .i64 cx, .int .i64 cy, .int .i64 dx, .int .i64 dy, .int .i64 f', .int .i64 t']] w
      fun e w' => e = .returned (.bool o) ∧ Aft w w' := by rw [← h]; exact rmeet_any f t f' t' w h1 h2 h3 h4 h5 h6 h7 h8

set_option maxRecDepth 100000 in
set_option maxHeartbeats 8000000 in
theorem rinside_any (ka kb : Int) (va vb : Value) (la lb : List Pt) (w : World) (hla : Prs w va la) (hlb : Prs w vb lb) (hsa : la.length ≤ 1000) (hsb : lb.length ≤ 1000) (hsca : ScL la) (hscb : ScL lb) :
    Calls Try.prog 41 #[.agg #[.int .i64 ka, va], .agg #[.int .i64 kb, vb]] w fun e w' => e = .returned (.bool (rinsideZ ka la kb lb)) ∧ Aft w w' := by
  have hPa := hla
  have hPb := hlb
  obtain ⟨aa, ca, rfl, hla⟩ := hla
  obtain ⟨ab, cb, rfl, hlb⟩ := hlb
  obtain ⟨W0, eW0, hw0, hlt, hbox⟩ := two_boxes w #[.int .i64 ka, .slice aa la.length ca] #[.int .i64 kb, .slice ab lb.length cb] 51 51
  go_enter Try.func41, Try.ntmps41
  go_upto_region 1 with fail
  clear eW0
  have hF : Hid (∀ W, Aft W0 W → (W.cell? ⟨w.heap.size, 0, none⟩ = some (.int .i64 ka) ∧ W.cell? ⟨w.heap.size, 1, none⟩ = some (.slice aa la.length ca)) ∧ W.cell? ⟨w.heap.size + 1, 0, none⟩ = some (.int .i64 kb) ∧ W.cell? ⟨w.heap.size + 1, 1, none⟩ = some (.slice ab lb.length cb)) := hid fun W hW =>
    ⟨⟨(hbox.out W hW).1 0 _ rfl, (hbox.out W hW).1 1 _ rfl⟩, (hbox.out W hW).2 0 _ rfl, (hbox.out W hW).2 1 _ rfl⟩
  clear hbox
  obtain ⟨⟨p1, p2⟩, p3, p4⟩ := hF.out W0 (Aft.refl _)
  generalize hn0 : w.heap.size = n0 at *
  by_cases hk : kb = 2
  · subst hk
    by_cases hla0 : la = []
    · have HR := hid (show rinsideZ ka la 2 lb = false by unfold rinsideZ; simp [hla0])
      go_wp2
      go_ret
      exact ⟨by rw [HR.out]; rfl, hw0⟩
    · have hlb0 : ((la.length : Int) == 0) = false := by simp; exact hla0
      have HR := hid (show rinsideZ ka la 2 lb = (!(la.any fun p => !strictlyZ p 2 lb) && !((List.range (nSeg ka la)).any fun i => (List.range (nSeg 2 lb)).any fun j => meetZ (sgZ la i) (sgZ lb j))) by
        unfold rinsideZ
        cases la with
        | nil => exact absurd rfl hla0
        | cons p0 la' => simp)
      go_wp2
      clear p1 p2 p3 p4
      go_loopw [5] (fun i wr => ∃ r : Nat, r ≤ la.length ∧ i = .int .i64 r ∧ Hid (∀ j, j < r → ∀ p, la[j]? = some p → strictlyZ p 2 lb = true) ∧ Aft W0 wr) (fun i _ => la.length - (intOf i).toNat)
      case atStart => exact ⟨0, by omega, rfl, hid fun j hj => by omega, Aft.refl _⟩
      case round =>
        obtain ⟨r, hr, rfl, hno, hwr⟩ := hrel
        obtain ⟨⟨p1, p2⟩, p3, p4⟩ := hF.out wr hwr
        have hwr0 := hw0.trans hwr
        rcases Nat.lt_or_ge r la.length with hlt' | hge
        · have hri : (r : Int) < la.length := by omega
          have hlr := hla.aft hwr0
          obtain ⟨b, off, x, y, rfl, c1, c2, hb, hx, _⟩ := hlr.rd.pair hlr.ok hlt'
          obtain ⟨hpx, hpy⟩ := hsca _ (List.mem_of_getElem? hx.out)
          simp only at hpx hpy
          have hl1 := World.block_lt_of_cell? _ _ p1
          have hl3 := World.block_lt_of_cell? _ _ p3
          have hPbr := hPb.aft hwr0
          obtain ⟨o, ho⟩ : ∃ o, strictlyZ (x, y) 2 lb = o := ⟨_, rfl⟩
          have HO := hid ho
          obtain ⟨W2, hW2⟩ : ∃ W2, W2 = wr := ⟨_, rfl⟩
          subst hW2
          go_upto_region 6 with fail
          refine wp_region_lat W2 (Aft.refl _) (by kernel_rfl) (by kernel_rfl) ?_
          repeat (go_big_quiet_step ((go_at_call 90; exact Calls.lat (strictly_to ho _ (hPbr.aft (Lat.aft _)) hsb hscb hpx hpy))))
          refine wpQuiet_nil ?_
          intro _ hw'; obtain ⟨z, rfl⟩ := hw'
          cases o
          case false =>
            have HQ := hid (show rinsideZ ka la 2 lb = false by
              rw [HR.out, List.any_eq_true.2 ⟨(x, y), List.mem_of_getElem? hx.out, by rw [HO.out]; rfl⟩]; rfl)
            go_wp2
            go_ret
            exact ⟨by rw [HQ.out]; rfl, hwr0.trans z.aft⟩
          case true =>
            have HN := hid (show ∀ j, j < r + 1 → ∀ p, la[j]? = some p → strictlyZ p 2 lb = true from fun j hj p hp => by
              rcases Nat.lt_or_ge j r with h | h
              · exact hno.out j h p hp
              · obtain rfl : j = r := by omega
                rw [hx.out] at hp
                cases hp
                exact HO.out)
            go_wp2
            go_roundw
            case rel => exact ⟨r + 1, by omega, by go_num, HN, hwr.trans z.aft⟩
            case measure => simp only [intOf]; omega
        · obtain rfl : r = la.length := by omega
          have hany : (la.any fun p => !strictlyZ p 2 lb) = false := List.any_eq_false.2 (fun p hp => by
            obtain ⟨j, hj, hjp⟩ := List.mem_iff_getElem.1 hp
            rw [hno.out j hj p (by rw [List.getElem?_eq_getElem hj, hjp])]; simp)
          have HR2 := hid (show rinsideZ ka la 2 lb = !((List.range (nSeg ka la)).any fun i => (List.range (nSeg 2 lb)).any fun j => meetZ (sgZ la i) (sgZ lb j)) by rw [HR.out, hany]; rfl)
          clear hany
          go_wp2_with fail
          refine (segments_any ka _ la wr (hPa.aft hwr0) hsa).mono ?_
          rintro e W3 ⟨v3, rfl, hown3, hw3⟩
          clear p1 p2 p3 p4
          have hw03 := hwr.trans hw3
          obtain ⟨⟨p1, p2⟩, p3, p4⟩ := hF.out W3 hw03
          go_wp2_with fail
          refine (segments_any 2 _ lb W3 (hPb.aft (hw0.trans hw03)) hsb).mono ?_
          rintro e W4 ⟨v4, rfl, hown4, hw4⟩
          clear p1 p2 p3 p4
          have hown3' := ownsRow_aft hown3 hw4
          have hna := nSeg_le ka la
          have hnb := nSeg_le 2 lb
          obtain ⟨m, hm⟩ : ∃ m, nSeg ka la = m := ⟨_, rfl⟩
          obtain ⟨m', hm'⟩ : ∃ m, nSeg 2 lb = m := ⟨_, rfl⟩
          have HR3 := hid (show rinsideZ ka la 2 lb = !((List.range m).any fun i => (List.range m').any fun j => meetZ (sgZ la i) (sgZ lb j)) by rw [HR2.out, hm, hm'])
          rw [hm] at hown3 hown3' hna
          rw [hm'] at hown4 hnb
          clear hm hm' hown3
          have hfin := (hw0.trans hw03).trans hw4
          obtain ⟨a3, c3, rfl, _⟩ := ownsRow_at hown3'
          obtain ⟨a4, c4, rfl, _⟩ := ownsRow_at hown4
          go_wp2
          go_loopw [8] (fun i wr => ∃ r : Nat, r ≤ m ∧ i = .int .i64 r ∧ Hid (∀ i, i < r → ∀ j, j < m' → meetZ (sgZ la i) (sgZ lb j) = false) ∧ Aft W4 wr) (fun i _ => m - (intOf i).toNat)
          case atStart => exact ⟨0, by omega, rfl, hid fun j hj => by omega, Aft.refl _⟩
          case round =>
            obtain ⟨i, hi, rfl, hno2, hwi⟩ := hrel
            rcases Nat.lt_or_ge i m with hlti | hgei
            · have hii : (i : Int) < m := by omega
              go_wp2
              go_loopw [9] (fun j wr => ∃ q : Nat, q ≤ m' ∧ j = .int .i64 q ∧ Hid (∀ j, j < q → meetZ (sgZ la i) (sgZ lb j) = false) ∧ Aft W4 wr) (fun j _ => m' - (intOf j).toNat)
              case atStart => exact ⟨0, by omega, rfl, hid fun j hj => by omega, hwi⟩
              case round =>
                obtain ⟨q, hq, rfl, hno3, hwq⟩ := hrel
                rcases Nat.lt_or_ge q m' with hltq | hgeq
                · have hqi : (q : Int) < m' := by omega
                  have o3 := ownsRow_aft hown3' hwq
                  have o4 := ownsRow_aft hown4 hwq
                  obtain ⟨g, cap, he, q1, q2, q3, q4, q5, q6⟩ := ends_cells o3 hlti
                  simp only [Value.slice.injEq, true_and] at he
                  obtain ⟨rfl, rfl⟩ := he
                  obtain ⟨g', cap', he', t1, t2, t3, t4, t5, t6⟩ := ends_cells o4 hltq
                  simp only [Value.slice.injEq, true_and] at he'
                  obtain ⟨rfl, rfl⟩ := he'
                  have hsa4 := sgZ_sc hsca i
                  have hsb4 := sgZ_sc hscb q
                  obtain ⟨⟨⟨ax, ay⟩, bx, by_⟩, hs⟩ : ∃ s, sgZ la i = s := ⟨_, rfl⟩
                  obtain ⟨⟨⟨cx, cy⟩, dx, dy⟩, ht⟩ : ∃ s, sgZ lb q = s := ⟨_, rfl⟩
                  rw [hs] at q1 q2 q3 q4 hsa4
                  rw [ht] at t1 t2 t3 t4 hsb4
                  simp only at q1 q2 q3 q4 hsa4 t1 t2 t3 t4 hsb4
                  obtain ⟨s1, s2, s3, s4⟩ := hsa4
                  obtain ⟨s5, s6, s7, s8⟩ := hsb4
                  have HS := hid hs
                  have HT := hid ht
                  clear hs ht
                  have hg1 := World.block_lt_of_cell? _ _ q1
                  have hg2 := World.block_lt_of_cell? _ _ t1
                  obtain ⟨o, ho⟩ : ∃ o, meetZ ((ax, ay), (bx, by_)) ((cx, cy), (dx, dy)) = o := ⟨_, rfl⟩
                  have HO := hid ho
                  obtain ⟨W2, hW2⟩ : ∃ W2, W2 = wr := ⟨_, rfl⟩
                  subst hW2
                  go_upto_region 16 with fail
                  refine wp_region_lat W2 (Aft.refl _) (by kernel_rfl) (by kernel_rfl) ?_
                  repeat (go_big_quiet_step ((go_at_call 31; exact Calls.lat (rmeet_to ho _ s1 s2 s3 s4 s5 s6 s7 s8))))
                  refine wpQuiet_nil ?_
                  intro _ hw'; obtain ⟨z, rfl⟩ := hw'
                  cases o
                  case true =>
                    have HQ := hid (show rinsideZ ka la 2 lb = false by
                      rw [HR3.out, List.any_eq_true.2 ⟨i, List.mem_range.2 hlti, List.any_eq_true.2 ⟨q, List.mem_range.2 hltq, by rw [HS.out, HT.out]; exact HO.out⟩⟩]; rfl)
                    go_wp2
                    go_ret
                    exact ⟨by rw [HQ.out]; rfl, (hfin.trans hwq).trans z.aft⟩
                  case false =>
                    have HN := hid (show ∀ j, j < q + 1 → meetZ (sgZ la i) (sgZ lb j) = false from fun j hj => by
                      rcases Nat.lt_or_ge j q with h | h
                      · exact hno3.out j h
                      · obtain rfl : j = q := by omega
                        rw [HS.out, HT.out]; exact HO.out)
                    go_wp2
                    go_roundw
                    case rel => exact ⟨q + 1, by omega, by go_num, HN, hwq.trans z.aft⟩
                    case measure => simp only [intOf]; omega
                · obtain rfl : q = m' := by omega
                  have HN := hid (show ∀ u, u < i + 1 → ∀ j, j < q → meetZ (sgZ la u) (sgZ lb j) = false from fun u hu => by
                    rcases Nat.lt_or_ge u i with h | h
                    · exact hno2.out u h
                    · obtain rfl : u = i := by omega
                      exact hno3.out)
                  go_wp2
                  go_roundw
                  case rel => exact ⟨i + 1, by omega, by go_num, HN, hwq⟩
                  case measure => simp only [intOf]; omega
            · obtain rfl : i = m := by omega
              have HQ := hid (show rinsideZ ka la 2 lb = true by
                rw [HR3.out, List.any_eq_false.2 (fun u hu => by
                  rw [Bool.not_eq_true]
                  exact List.any_eq_false.2 (fun j hj => by rw [hno2.out u (List.mem_range.1 hu) j (List.mem_range.1 hj)]; simp))]; rfl)
              go_wp2
              go_ret
              exact ⟨by rw [HQ.out]; rfl, hfin.trans hwi⟩
  · have hbk : (kb != 2) = true := by simpa using hk
    have HR := hid (show rinsideZ ka la kb lb = false by unfold rinsideZ; simp [hk])
    clear hk
    go_wp2
    go_ret
    exact ⟨by rw [HR.out]; rfl, hw0⟩
end Go.Proofs.Ytokdclbfjlnnjaa
