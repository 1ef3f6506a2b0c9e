/- The program's Left and Longer. -/
import Derived.Test.YtokdclbfjlnnjaaP12
namespace Go.Proofs.Ytokdclbfjlnnjaa
open Go.RowKit Go.BigFrame

def leftZ (la lb : List Pt) : Bool := decide (0 < la.length) && (decide (0 < lb.length) && decide ((boxZ la).2.1 < (boxZ lb).1.1))

set_option maxRecDepth 100000 in
set_option maxHeartbeats 4000000 in
theorem left_any (ka kb : Int) (va vb : Value) (la lb : List Pt) (w : World) (hla : Prs w va la) (hlb : Prs w vb lb) :
    Calls Try.prog 34 #[.agg #[.int .i64 ka, va], .agg #[.int .i64 kb, vb]] w fun e w' => e = .returned (.bool (leftZ la lb)) ∧ Aft w w' := by
  have hPa := hla
  have hPb := hlb
  obtain ⟨aa, ca, rfl, hla⟩ := hla
  obtain ⟨ab, cb, rfl, hlb⟩ := hlb
  obtain ⟨W0, eW0, hw0, hlt, hbox⟩ := two_boxes w #[.int .i64 ka, .slice aa la.length ca] #[.int .i64 kb, .slice ab lb.length cb] 51 51
  have hZ : leftZ la lb = (decide (0 < la.length) && (decide (0 < lb.length) && decide ((boxZ la).2.1 < (boxZ lb).1.1))) := rfl
  obtain ⟨⟨⟨alx, aly⟩, ahx, ahy⟩, hba⟩ : ∃ s, boxZ la = s := ⟨_, rfl⟩
  obtain ⟨⟨⟨blx, bly⟩, bhx, bhy⟩, hbb⟩ : ∃ s, boxZ lb = s := ⟨_, rfl⟩
  rw [hba, hbb] at hZ
  simp only at hZ
  have HZ := hid hZ; clear hZ
  have HBA := hid hba; clear hba
  have HBB := hid hbb; clear hbb
  go_enter Try.func34, Try.ntmps34
  go_upto_region 1 with fail
  clear eW0
  have hF : Hid (∀ W, Aft W0 W → (W.cell? ⟨w.heap.size, 0, none⟩ = some (.int .i64 ka) ∧ W.cell? ⟨w.heap.size, 1, none⟩ = some (.slice aa la.length ca)) ∧ W.cell? ⟨w.heap.size + 1, 0, none⟩ = some (.int .i64 kb) ∧ W.cell? ⟨w.heap.size + 1, 1, none⟩ = some (.slice ab lb.length cb)) := hid fun W hW =>
    ⟨⟨(hbox.out W hW).1 0 _ rfl, (hbox.out W hW).1 1 _ rfl⟩, (hbox.out W hW).2 0 _ rfl, (hbox.out W hW).2 1 _ rfl⟩
  clear hbox
  obtain ⟨⟨p1, p2⟩, p3, p4⟩ := hF.out W0 (Aft.refl _)
  generalize hn0 : w.heap.size = n0 at *
  go_wp2_with fail
  refine (box_any ka _ la W0 (hPa.aft hw0)).mono ?_
  rintro e W1 ⟨rfl, hw1⟩
  rw [HBA.out]
  unfold pr
  simp only
  clear p1 p2 p3 p4
  obtain ⟨W2, eW2, hw2, hlt2, hbox2⟩ := two_boxes W1 #[.int .i64 alx, .int .i64 aly] #[.int .i64 ahx, .int .i64 ahy] 57 57
  go_upto_region 2 with fail
  clear eW2
  have hG : Hid (∀ W, Aft W2 W → B2 W (W1.heap.size + 1) ahx ahy) := hid fun W hW => ⟨(hbox2.out W hW).2 0 _ rfl, (hbox2.out W hW).2 1 _ rfl⟩
  clear hbox2
  have hw02 := hw1.trans hw2
  obtain ⟨⟨p1, p2⟩, p3, p4⟩ := hF.out W2 hw02
  generalize hn5 : W1.heap.size = n5 at *
  go_wp2_with fail
  refine (box_any kb _ lb W2 ((hPb.aft hw0).aft hw02)).mono ?_
  rintro e W3 ⟨rfl, hw3⟩
  rw [HBB.out]
  unfold pr
  simp only
  clear p1 p2 p3 p4
  obtain ⟨W4, eW4, hw4, hlt4, hbox4⟩ := two_boxes W3 #[.int .i64 blx, .int .i64 bly] #[.int .i64 bhx, .int .i64 bhy] 57 57
  go_upto_region 3 with fail
  clear eW4
  have hw24 := hw3.trans hw4
  obtain ⟨x1, x2⟩ := hG.out W4 hw24
  have y1 := (hbox4.out W4 (Aft.refl _)).1 0 (.int .i64 blx) rfl
  have y2 := (hbox4.out W4 (Aft.refl _)).1 1 (.int .i64 bly) rfl
  clear hbox4
  obtain ⟨⟨p1, p2⟩, p3, p4⟩ := hF.out W4 (hw02.trans hw24)
  have hfin := hw0.trans (hw02.trans hw24)
  generalize hn7 : W3.heap.size = n7 at *
  by_cases g1 : 0 < la.length
  · by_cases g2 : 0 < lb.length
    · have g1' : decide ((0 : Int) < la.length) = true := by simp; omega
      have g2' : decide ((0 : Int) < lb.length) = true := by simp; omega
      have HQ := hid (show leftZ la lb = decide (ahx < blx) by rw [HZ.out]; simp [g1, g2])
      go_wp2
      go_ret
      exact ⟨by rw [HQ.out]; rfl, hfin⟩
    · have g2' : ¬ ((0 : Int) < lb.length) := by omega
      have HQ := hid (show leftZ la lb = false by rw [HZ.out]; simp only [g2]; simp)
      go_wp2
      go_ret
      exact ⟨by rw [HQ.out]; rfl, hfin⟩
  · have g1' : ¬ ((0 : Int) < la.length) := by omega
    have HQ := hid (show leftZ la lb = false by rw [HZ.out]; simp only [g1]; simp)
    go_wp2
    go_ret
    exact ⟨by rw [HQ.out]; rfl, hfin⟩

def longerZ (ka : Int) (la : List Pt) (kb : Int) (lb : List Pt) : Bool := decide (lengthZ kb lb < lengthZ ka la)
set_option maxRecDepth 100000 in
set_option maxHeartbeats 4000000 in
theorem longer_any (ka kb : Int) (va vb : Value) (la lb : List Pt) (w : World) (hla : Prs w va la) (hlb : Prs w vb lb) (hsa : la.length ≤ 1000) (hsb : lb.length ≤ 1000) (hsca : ScL la) (hscb : ScL lb) :
    Calls Try.prog 43 #[.agg #[.int .i64 ka, va], .agg #[.int .i64 kb, vb]] w fun e w' => e = .returned (.bool (longerZ ka la kb lb)) ∧ Aft w w' := by
  have hPa := hla
  have hPb := hlb
  obtain ⟨aa, ca, rfl, hla⟩ := hla
  obtain ⟨ab, cb, rfl, hlb⟩ := hlb
  obtain ⟨W0, eW0, hw0, hlt, hbox⟩ := two_boxes w #[.int .i64 ka, .slice aa la.length ca] #[.int .i64 kb, .slice ab lb.length cb] 51 51
  go_enter Try.func43, Try.ntmps43
  go_upto_region 1 with fail
  clear eW0
  have p1 := (hbox.out W0 (Aft.refl _)).1 0 (.int .i64 ka) rfl
  have p2 := (hbox.out W0 (Aft.refl _)).1 1 (.slice aa la.length ca) rfl
  have p3 := (hbox.out W0 (Aft.refl _)).2 0 (.int .i64 kb) rfl
  have p4 := (hbox.out W0 (Aft.refl _)).2 1 (.slice ab lb.length cb) rfl
  clear hbox
  have hlt0 : w.heap.size < W0.heap.size := by omega
  have hA := hPa.aft hw0
  have hB := hPb.aft hw0
  generalize hn0 : w.heap.size = n0 at *
  refine wp_region_lat W0 (Aft.refl _) (by kernel_rfl) (by kernel_rfl) ?_
  repeat (go_big_quiet_step ((go_at_call 37; exact Calls.lat (length_any _ _ _ _ (Prs.aft (w := W0) (by assumption) (Lat.aft _)) (by assumption) (by assumption)))))
  refine wpQuiet_nil ?_
  intro _ hw'; obtain ⟨z, rfl⟩ := hw'
  go_wp2
  go_ret
  exact ⟨rfl, hw0.trans z.aft⟩
end Go.Proofs.Ytokdclbfjlnnjaa
