/- The reference's Longer and Strictly. -/
import Derived.Test.YtokdclbfjlnnjaaP14
namespace Go.Proofs.Ytokdclbfjlnnjaa
open Go.RowKit Go.BigFrame

set_option maxRecDepth 100000 in
set_option maxHeartbeats 4000000 in
theorem rlonger_any (ka kb : Int) (va vb : Value) (la lb : List Pt) (w : World) (hla : Prs w va la) (hlb : Prs w vb lb) (hsa : la.length ≤ 1000) (hsb : lb.length ≤ 1000) (hsca : ScL la) (hscb : ScL lb) :
    Calls Try.prog 44 #[.agg #[.int .i64 ka, va], .agg #[.int .i64 kb, vb]] w fun e w' => e = .returned (.bool (longerZ ka la kb lb)) ∧ Aft w w' := by
  have hPa := hla
  have hPb := hlb
  obtain ⟨aa, ca, rfl, hla⟩ := hla
  obtain ⟨ab, cb, rfl, hlb⟩ := hlb
  obtain ⟨W0, eW0, hw0, hlt, hbox⟩ := two_boxes w #[.int .i64 ka, .slice aa la.length ca] #[.int .i64 kb, .slice ab lb.length cb] 51 51
  go_enter Try.func44, Try.ntmps44
  go_upto_region 1 with fail
  clear eW0
  have p1 := (hbox.out W0 (Aft.refl _)).1 0 (.int .i64 ka) rfl
  have p2 := (hbox.out W0 (Aft.refl _)).1 1 (.slice aa la.length ca) rfl
  have p3 := (hbox.out W0 (Aft.refl _)).2 0 (.int .i64 kb) rfl
  have p4 := (hbox.out W0 (Aft.refl _)).2 1 (.slice ab lb.length cb) rfl
  clear hbox
  have hlt0 : w.heap.size < W0.heap.size := by omega
  have hA := hPa.aft hw0
  have hB := hPb.aft hw0
  generalize hn0 : w.heap.size = n0 at *
  refine wp_region_lat W0 (Aft.refl _) (by kernel_rfl) (by kernel_rfl) ?_
  repeat (go_big_quiet_step ((go_at_call 38; exact Calls.lat (rlength_any _ _ _ _ (Prs.aft (w := W0) (by assumption) (Lat.aft _)) (by assumption) (by assumption)))))
  refine wpQuiet_nil ?_
  intro _ hw'; obtain ⟨z, rfl⟩ := hw'
  go_wp2
  go_ret
  exact ⟨rfl, hw0.trans z.aft⟩

/-- A crossing to the right. -/
def crossB (p : Pt) (s : Pt × Pt) : Bool := if s.2.2 < s.1.2 then decide (s.2.2 ≤ p.2 ∧ p.2 < s.1.2 ∧ 0 < crossZ s.2 s.1 p) else decide (s.1.2 ≤ p.2 ∧ p.2 < s.2.2 ∧ 0 < crossZ s.1 s.2 p)
def oddS (p : Pt) (l : List Pt) : Nat → Bool
  | 0 => false
  | r + 1 => Bool.xor (oddS p l r) (crossB p (sgZ l r))
def strictlyZ (p : Pt) (k : Int) (l : List Pt) : Bool := !((List.range (nSeg k l)).any fun i => onZ p (sgZ l i)) && oddS p l (nSeg k l)
theorem ron_to {px py ax ay bx by_ f t : Int} {o : Bool} (h : onZ (px, py) ((ax, ay), (bx, by_)) = o) (w : World) (h1 : Sc ax) (h2 : Sc ay) (h3 : Sc bx) (h4 : Sc by_) (h5 : Sc px) (h6 : Sc py) :
    Calls Try.prog 79 #[.agg #[.int .i64 px, .int .i64 py], .agg #[.int .i64 ax, .int .i64 ay, .int .i64 bx, .int .i64 by_, .int .i64 f, .int .i64 t]] w
      fun e w' => e = .returned (.bool o) ∧ Aft w w' := by rw [← h]; exact ron_any f t w h1 h2 h3 h4 h5 h6

set_option maxRecDepth 100000 in
set_option maxHeartbeats 8000000 in
theorem strictly_any (px py k : Int) (vp : Value) (l : List Pt) (w : World) (hl : Prs w vp l) (hsm : l.length ≤ 1000) (hsc : ScL l) (hpx : Sc px) (hpy : Sc py) :
    Calls Try.prog 90 #[.agg #[.int .i64 px, .int .i64 py], .agg #[.int .i64 k, vp]] w fun e w' => e = .returned (.bool (strictlyZ (px, py) k l)) ∧ Aft w w' := by
  have hP := hl
  obtain ⟨a, c, rfl, hl⟩ := hl
  obtain ⟨W0, eW0, hw0, hlt, hbox⟩ := two_boxes w #[.int .i64 px, .int .i64 py] #[.int .i64 k, .slice a l.length c] 57 51
  go_enter Try.func90, Try.ntmps90
  go_upto_region 1 with fail
  clear eW0
  have hF : Hid (∀ W, Aft W0 W → B2 W w.heap.size px py) := hid fun W hW => ⟨(hbox.out W hW).1 0 _ rfl, (hbox.out W hW).1 1 _ rfl⟩
  have p3 := (hbox.out W0 (Aft.refl _)).2 0 (.int .i64 k) rfl
  have p4 := (hbox.out W0 (Aft.refl _)).2 1 (.slice a l.length c) rfl
  clear hbox
  generalize hn0 : w.heap.size = n0 at *
  go_wp2_with fail
  refine (segments_any k _ l W0 (hP.aft hw0) hsm).mono ?_
  rintro e W1 ⟨v1, rfl, hown, hw1⟩
  obtain ⟨m, hm⟩ : ∃ m, nSeg k l = m := ⟨_, rfl⟩
  have hnle := nSeg_le k l
  rw [hm] at hown hnle
  have hZ : strictlyZ (px, py) k l = (!((List.range m).any fun i => onZ (px, py) (sgZ l i)) && oddS (px, py) l m) := by unfold strictlyZ; rw [hm]
  have HZ := hid hZ; clear hZ hm
  have hw01 := hw0.trans hw1
  obtain ⟨a1, c1, rfl, _⟩ := ownsRow_at hown
  clear p3 p4
  go_wp2
  go_loopw [6, 7] (fun s i wr => ∃ r : Nat, r ≤ m ∧ i = .int .i64 r ∧ s = .bool (oddS (px, py) l r) ∧ Hid (∀ j, j < r → onZ (px, py) (sgZ l j) = false) ∧ Aft W1 wr) (fun _ i _ => m - (intOf i).toNat)
  case atStart => exact ⟨0, by omega, rfl, rfl, hid fun j hj => by omega, Aft.refl _⟩
  case round =>
    obtain ⟨r, hr, rfl, rfl, hno, hwr⟩ := hrel
    rcases Nat.lt_or_ge r m with hlt' | hge
    · have hri : (r : Int) < m := by omega
      have hownr := ownsRow_aft hown hwr
      obtain ⟨g, cap, he, q1, q2, q3, q4, q5, q6⟩ := ends_cells hownr hlt'
      simp only [Value.slice.injEq, true_and] at he
      obtain ⟨rfl, rfl⟩ := he
      have hsc4 := sgZ_sc hsc r
      obtain ⟨od, hod⟩ : ∃ o, oddS (px, py) l r = o := ⟨_, rfl⟩
      have hodn : oddS (px, py) l (r + 1) = Bool.xor od (crossB (px, py) (sgZ l r)) := by show Bool.xor (oddS (px, py) l r) _ = _; rw [hod]
      rw [hod]
      obtain ⟨⟨⟨ax, ay⟩, bx, by_⟩, hs⟩ : ∃ s, sgZ l r = s := ⟨_, rfl⟩
      rw [hs] at q1 q2 q3 q4 hsc4 hodn
      simp only at q1 q2 q3 q4 hsc4
      obtain ⟨s1, s2, s3, s4⟩ := hsc4
      have HS := hid hs
      have HON := hid hodn
      clear hodn hod
      have hgl := World.block_lt_of_cell? _ _ q1
      obtain ⟨x1, x2⟩ := hF.out wr (hw1.trans hwr)
      have hnl := World.block_lt_of_cell? _ _ x1
      obtain ⟨o, ho⟩ : ∃ o, onZ (px, py) ((ax, ay), (bx, by_)) = o := ⟨_, rfl⟩
      have HO := hid ho
      obtain ⟨W2, hW2⟩ : ∃ W2, W2 = wr := ⟨_, rfl⟩
      subst hW2
      clear hs
      go_upto_region 6 with fail
      refine wp_region_lat W2 (Aft.refl _) (by kernel_rfl) (by kernel_rfl) ?_
      repeat (go_big_quiet_step ((go_at_call 79; exact Calls.lat (ron_to (by assumption) _ (by assumption) (by assumption) (by assumption) (by assumption) (by assumption) (by assumption)))))
      refine wpQuiet_nil ?_
      intro _ hw'; obtain ⟨z, rfl⟩ := hw'
      have hz := z.aft
      generalize z.W = W3 at *
      cases o
      case true =>
        have HR := hid (show strictlyZ (px, py) k l = false by rw [HZ.out, List.any_eq_true.2 ⟨r, List.mem_range.2 hlt', by rw [HS.out]; exact HO.out⟩]; rfl)
        go_wp2
        go_ret
        exact ⟨by rw [HR.out]; rfl, (hw01.trans hwr).trans hz⟩
      case false =>
        have tr : ∀ {b o : Nat} {v : Value}, W2.cell? ⟨b, o, none⟩ = some v → W3.cell? ⟨b, o, none⟩ = some v := fun h => (hz.cell (World.block_lt_of_cell? _ _ h)).trans h
        have r1 := tr q1
        have r2 := tr q2
        have r3 := tr q3
        have r4 := tr q4
        have r5 := tr q5
        have r6 := tr q6
        have hw3 := hwr.trans hz
        clear q1 q2 q3 q4 q5 q6 x1 x2 hownr tr
        obtain ⟨W4, eW4, hw4, hlt4, hbox4⟩ := two_boxes W3 #[.int .i64 ax, .int .i64 ay] #[.int .i64 bx, .int .i64 by_] 57 57
        have hf8 := fun o => ((Aft.refl (W3.alloc (.cells #[.int .i64 ax, .int .i64 ay] 57))).alloc (.cells #[.int .i64 bx, .int .i64 by_] 57)).frozen (b := W3.heap.size) (o := o) (by simp)
        have hf8' := fun o => frozen_new W3 #[.int .i64 ax, .int .i64 ay] 57 o
        have hf9 := fun o => frozen_new (W3.alloc (.cells #[.int .i64 ax, .int .i64 ay] 57)) #[.int .i64 bx, .int .i64 by_] 57 o
        simp only [World.size_alloc] at hf9
        rw [eW4] at hf8 hf9
        have z1 := (hf8 0).trans (hf8' 0)
        have z2 := (hf8 1).trans (hf8' 1)
        have z3 := hf9 0
        have z4 := hf9 1
        clear hf8 hf8' hf9
        have hg3 := World.block_lt_of_cell? _ _ r1
        have B8 : B2 W4 W3.heap.size ax ay := ⟨(hbox4.out W4 (Aft.refl _)).1 0 _ rfl, (hbox4.out W4 (Aft.refl _)).1 1 _ rfl⟩
        have B9 : B2 W4 (W3.heap.size + 1) bx by_ := ⟨(hbox4.out W4 (Aft.refl _)).2 0 _ rfl, (hbox4.out W4 (Aft.refl _)).2 1 _ rfl⟩
        obtain ⟨b1, b2⟩ := B8
        obtain ⟨b3, b4⟩ := B9
        go_upto_if 38 with fail
        clear eW4
        have tr : ∀ {b o : Nat} {v : Value}, W3.cell? ⟨b, o, none⟩ = some v → W4.cell? ⟨b, o, none⟩ = some v := fun h => (hw4.cell (World.block_lt_of_cell? _ _ h)).trans h
        have q1 := tr r1
        have q2 := tr r2
        have q3 := tr r3
        have q4 := tr r4
        have q5 := tr r5
        have q6 := tr r6
        clear r1 r2 r3 r4 r5 r6 tr hbox4
        have hwz3 := hw3.size
        have hw34 := hw3.trans hw4
        have B0 := hF.out W4 (hw1.trans hw34)
        have hz1s := hw1.size
        have hz0s := hw0.size
        generalize hn8 : W3.heap.size = n8 at *
        obtain ⟨b5, b6⟩ := B0
        go_cut [] (fun wx => ∃ a1 a2 a3 a4 : Int, B2 wx n8 a1 a2 ∧ B2 wx (n8 + 1) a3 a4 ∧ B2 wx n0 px py ∧ Aft W1 wx ∧ (Sc a1 ∧ Sc a2 ∧ Sc a3 ∧ Sc a4) ∧ Hid (crossB (px, py) ((ax, ay), (bx, by_)) = decide (a2 ≤ py ∧ py < a4 ∧ 0 < crossZ (a1, a2) (a3, a4) (px, py))))
        case first =>
          rcases Int.lt_or_le by_ ay with hsw | hsw
          · have P8 := put2 (W := W4) (b := n8) ⟨b1, b2⟩ bx by_
            have P9 := put2 (b := n8 + 1) (B2.kx ⟨b3, b4⟩ P8.2 (by omega)) ax ay
            have hk := (P8.2.sub (Y := fun j => j = n8 ∨ j = n8 + 1) fun j h => .inl h).trans (P9.2.sub fun j h => .inr h)
            have HE := hid (kx_aft hw34 (fun j hj => by rcases hj with rfl | rfl <;> omega) hk)
            have HA := hid (B2.kx P8.1 P9.2 (by omega))
            have HB := hid P9.1
            have HC := hid (B2.kx ⟨b5, b6⟩ hk (by omega))
            clear P8 P9 hk
            have HX := hid (show crossB (px, py) ((ax, ay), (bx, by_)) = decide (by_ ≤ py ∧ py < ay ∧ 0 < crossZ (bx, by_) (ax, ay) (px, py)) from if_pos hsw)
            go_wp2
            go_meet
            exact ⟨bx, by_, ax, ay, HA.out, HB.out, HC.out, HE.out, ⟨s3, s4, s1, s2⟩, HX⟩
          · have HX := hid (show crossB (px, py) ((ax, ay), (bx, by_)) = decide (ay ≤ py ∧ py < by_ ∧ 0 < crossZ (ax, ay) (bx, by_) (px, py)) from if_neg (by show ¬ (by_ < ay); omega))
            go_wp2
            go_meet
            exact ⟨ax, ay, bx, by_, ⟨b1, b2⟩, ⟨b3, b4⟩, ⟨b5, b6⟩, hw34, ⟨s1, s2, s3, s4⟩, HX⟩
        case rest =>
          obtain ⟨a1', a2', a3', a4', ⟨e1, e2⟩, ⟨e3, e4⟩, ⟨e5, e6⟩, hwx, ⟨t1, t2, t3, t4⟩, HX⟩ := hcut
          have HN := hid (show ∀ j, j < r + 1 → onZ (px, py) (sgZ l j) = false from fun j hj => by
            rcases Nat.lt_or_ge j r with h | h
            · exact hno.out j h
            · obtain rfl : j = r := by omega
              rw [HS.out]; exact HO.out)
          obtain ⟨d, hd⟩ : ∃ d, crossZ (a1', a2') (a3', a4') (px, py) = d := ⟨_, rfl⟩
          have HD := hid hd; clear hd
          rcases Int.lt_or_le py a2' with g1 | g1
          · have HQ := hid (show oddS (px, py) l (r + 1) = od by rw [HON.out, HX.out, decide_eq_false (p := (a2' ≤ py ∧ py < a4' ∧ 0 < crossZ (a1', a2') (a3', a4') (px, py))) (by omega)]; simp)
            go_wp2
            go_roundw
            case rel => exact ⟨r + 1, by omega, by go_num, by rw [HQ.out], HN, hwx⟩
            case measure => simp only [intOf]; omega
          · rcases Int.lt_or_le py a4' with g2 | g2
            · go_wp2_with fail
              refine (cross_any _ t1 t2 t3 t4 hpx hpy).mono ?_
              rintro e W5 ⟨rfl, hw5⟩
              rw [HD.out]
              rcases Int.lt_or_le 0 d with g3 | g3
              · have HQ := hid (show oddS (px, py) l (r + 1) = !od by rw [HON.out, HX.out, HD.out, decide_eq_true (p := (a2' ≤ py ∧ py < a4' ∧ 0 < d)) (by omega)]; simp)
                go_wp2
                go_roundw
                case rel => exact ⟨r + 1, by omega, by go_num, by rw [HQ.out], HN, hwx.trans hw5⟩
                case measure => simp only [intOf]; omega
              · have HQ := hid (show oddS (px, py) l (r + 1) = od by rw [HON.out, HX.out, HD.out, decide_eq_false (p := (a2' ≤ py ∧ py < a4' ∧ 0 < d)) (by omega)]; simp)
                go_wp2
                go_roundw
                case rel => exact ⟨r + 1, by omega, by go_num, by rw [HQ.out], HN, hwx.trans hw5⟩
                case measure => simp only [intOf]; omega
            · have HQ := hid (show oddS (px, py) l (r + 1) = od by rw [HON.out, HX.out, decide_eq_false (p := (a2' ≤ py ∧ py < a4' ∧ 0 < crossZ (a1', a2') (a3', a4') (px, py))) (by omega)]; simp)
              go_wp2
              go_roundw
              case rel => exact ⟨r + 1, by omega, by go_num, by rw [HQ.out], HN, hwx⟩
              case measure => simp only [intOf]; omega
    · obtain rfl : r = m := by omega
      have HR := hid (show strictlyZ (px, py) k l = oddS (px, py) l r by
        rw [HZ.out, List.any_eq_false.2 (fun j hj => by rw [hno.out j (List.mem_range.1 hj)]; simp)]; rfl)
      go_wp2
      go_ret
      exact ⟨by rw [HR.out]; rfl, hw01.trans hwr⟩
end Go.Proofs.Ytokdclbfjlnnjaa
