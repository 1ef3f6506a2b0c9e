/- The reference's Holds. -/
import Derived.Test.YtokdclbfjlnnjaaR23
namespace Go.Proofs.Ytokdclbfjlnnjaa
open Go.RowKit Go.BigFrame

/-- The reference's words say the same. -/
theorem holds_ref {W H : Int} {L : List Sh} {kd a b : Int} (hsc : ShSc L) : holdsZ W H L kd a b = if validZ W H L ≠ 0 then (false, validZ W H L)
    else if ¬ (kd = 2 ∨ kd = 3 ∨ kd = 4) then (false, 1)
    else if a < 0 ∨ b < 0 ∨ (L.length : Int) ≤ a ∨ (L.length : Int) ≤ b then (false, 6)
    else (if kd = 2 then rinsideZ (shAt L a).1 (shAt L a).2 (shAt L b).1 (shAt L b).2 else if kd = 3 then rleftZ (shAt L a).2 (shAt L b).2 else longerZ (shAt L a).1 (shAt L a).2 (shAt L b).1 (shAt L b).2, 0) := by
  unfold holdsZ
  by_cases h1 : validZ W H L ≠ 0
  · rw [if_pos h1, if_pos h1]
  rw [if_neg h1, if_neg h1]
  by_cases h2 : ¬ (kd = 2 ∨ kd = 3 ∨ kd = 4)
  · rw [if_pos h2, if_pos h2]
  rw [if_neg h2, if_neg h2]
  by_cases h3 : a < 0 ∨ b < 0 ∨ (L.length : Int) ≤ a ∨ (L.length : Int) ≤ b
  · rw [if_pos h3, if_pos h3]
  rw [if_neg h3, if_neg h3]
  have hb : shAt L b ∈ L := by
    unfold shAt
    rw [List.getD_eq_getElem?_getD, List.getElem?_eq_getElem (show b.toNat < L.length by omega)]
    exact List.getElem_mem _
  rw [valid_inside (W := W) (H := H) (by omega) hsc hb, left_eq]

set_option maxRecDepth 100000 in
set_option maxHeartbeats 8000000 in
theorem rholds_any (W H kd bk a b : Int) (v : Value) (L : List Sh) (w : World) (hv : Shs w v L) (hg : GoodL 900 L) :
    Calls Try.prog 54 #[.agg #[.int .i64 W, .int .i64 H, v], .agg #[.int .i64 kd, .int .i64 bk, .int .i64 a, .int .i64 b]] w fun e w' => e = .returned (.tuple #[.bool (holdsZ W H L kd a b).1, .int .i64 (holdsZ W H L kd a b).2]) ∧ Aft w w' := by
  have hv0 := hid hv
  obtain ⟨av, cv, R, rfl, hv⟩ := hv
  have hle := hv.le
  clear hv
  go_enter Try.func54, Try.ntmps54
  go_upto_region 1 with fail
  obtain ⟨W0, eW0, hw0, hlt, hbox⟩ := two_boxes w #[.int .i64 W, .int .i64 H, .slice av L.length cv] #[.int .i64 kd, .int .i64 bk, .int .i64 a, .int .i64 b] 45 76
  rw [eW0]
  clear eW0
  have HB : Hid (∀ X, Aft W0 X → B3 X w.heap.size W H (.slice av L.length cv) ∧ X.cell? ⟨w.heap.size + 1, 0, none⟩ = some (.int .i64 kd) ∧ X.cell? ⟨w.heap.size + 1, 2, none⟩ = some (.int .i64 a) ∧ X.cell? ⟨w.heap.size + 1, 3, none⟩ = some (.int .i64 b)) :=
    hid fun X hX => ⟨⟨(hbox.out X hX).1 0 _ rfl, (hbox.out X hX).1 1 _ rfl, (hbox.out X hX).1 2 _ rfl⟩, (hbox.out X hX).2 0 _ rfl, (hbox.out X hX).2 2 _ rfl, (hbox.out X hX).2 3 _ rfl⟩
  clear hbox
  obtain ⟨n3, hn3⟩ : ∃ n, w.heap.size + 1 = n := ⟨_, rfl⟩
  rw [hn3] at HB ⊢
  obtain ⟨n2, hn2⟩ : ∃ n, w.heap.size = n := ⟨_, rfl⟩
  rw [hn2] at HB ⊢
  clear hn2 hn3 hlt
  have HV := hid (hv0.out.aft hw0)
  obtain ⟨⟨x0, x1, x2⟩, p0, p2, p3⟩ := HB.out W0 (Aft.refl _)
  go_wp2_with fail
  refine (rvalid_any W H _ L W0 HV.out (hg.sc (by omega))).mono ?_
  rintro e w1 ⟨rfl, hw1⟩
  clear x0 x1 x2 p0 p2 p3
  have HD := hid (holds_ref (W := W) (H := H) (kd := kd) (a := a) (b := b) (hg.sc (show 900 ≤ 1000 by omega)))
  obtain ⟨o, ho⟩ : ∃ o, validZ W H L = o := ⟨_, rfl⟩
  rw [ho] at HD ⊢
  clear ho
  by_cases ho : o = 0
  case neg =>
    have ho' : (o == 0) = false := by rw [beq_eq_false_iff_ne]; exact ho
    have HQ := hid (show holdsZ W H L kd a b = (false, o) by rw [HD.out, if_pos ho])
    go_wp2
    go_ret2
    exact ⟨by rw [HQ.out]; rfl, hw0.trans hw1⟩
  subst ho
  replace HD := hid (HD.out.trans (if_neg (by simp)))
  have hw01 := hw0.trans hw1
  obtain ⟨⟨x0, x1, x2⟩, p0, p2, p3⟩ := HB.out w1 hw1
  by_cases hk : kd = 2 ∨ kd = 3 ∨ kd = 4
  case neg =>
    have HQ := hid (show holdsZ W H L kd a b = (false, 1) by rw [HD.out, if_pos hk])
    have k2 : (kd != 2) = true := bne_iff_ne.2 (by omega)
    have k3 : (kd != 3) = true := bne_iff_ne.2 (by omega)
    have k4 : (kd != 4) = true := bne_iff_ne.2 (by omega)
    clear hk
    go_wp2
    go_ret2
    exact ⟨by rw [HQ.out]; rfl, hw01⟩
  replace HD := hid (HD.out.trans (if_neg (by omega)))
  have cs : ∀ {Q : Prop}, (a < 0 → True → True → True → Q) → (¬ a < 0 → b < 0 → True → True → Q) → (¬ a < 0 → ¬ b < 0 → (L.length : Int) ≤ a → True → Q) → (¬ a < 0 → ¬ b < 0 → ¬ (L.length : Int) ≤ a → (L.length : Int) ≤ b → Q) → (¬ a < 0 → ¬ b < 0 → ¬ (L.length : Int) ≤ a → ¬ (L.length : Int) ≤ b → Q) → Q := fun h1 h2 h3 h4 h5 => by
    by_cases a1 : a < 0
    · exact h1 a1 trivial trivial trivial
    by_cases a2 : b < 0
    · exact h2 a1 a2 trivial trivial
    by_cases a3 : (L.length : Int) ≤ a
    · exact h3 a1 a2 a3 trivial
    by_cases a4 : (L.length : Int) ≤ b
    · exact h4 a1 a2 a3 a4
    · exact h5 a1 a2 a3 a4
  rcases hk with rfl | rfl | rfl
  all_goals
    refine cs ?_ ?_ ?_ ?_ ?_
    iterate 4
      · intro a1 a2 a3 a4
        have HQ := hid (show holdsZ W H L _ a b = (false, 6) by rw [HD.out, if_pos (by omega)])
        clear cs
        go_wp2
        go_ret2
        exact ⟨by rw [HQ.out]; rfl, hw01⟩
    intro a1 a2 a3 a4
    clear cs
    obtain ⟨i, rfl⟩ : ∃ i : Nat, a = i := ⟨a.toNat, by omega⟩
    obtain ⟨j, rfl⟩ : ∃ j : Nat, b = j := ⟨b.toNat, by omega⟩
    replace HD := hid (HD.out.trans (if_neg (by omega)))
    have hiL : i < L.length := by omega
    have hjL : j < L.length := by omega
    have hiL' : (i : Int) < L.length := by omega
    have hjL' : (j : Int) < L.length := by omega
    obtain ⟨av', c1, R1, e1, hat⟩ := (HV.out.aft hw1)
    simp only [Value.slice.injEq, true_and] at e1
    obtain ⟨rfl, rfl⟩ := e1
    obtain ⟨bb, off, ka, pa, aa, ca, rfl, s0, s1, hbb, hxa, hpa⟩ := hat.get hiL
    obtain ⟨b2, off2, kb, pb, ab, cb, e2, t0, t1, -, hxb, hpb⟩ := hat.get hjL
    simp only [Option.some.injEq, Addr.mk.injEq, and_true] at e2
    obtain ⟨rfl, rfl⟩ := e2
    have HPa := hid hpa
    have HPb := hid hpb
    have ga := hid (hg _ (List.mem_of_getElem? hxa.out))
    have gb := hid (hg _ (List.mem_of_getElem? hxb.out))
    have la : pa.length ≤ 1000 := by have := ga.out.1; simp only at this; omega
    have lb : pb.length ≤ 1000 := by have := gb.out.1; simp only at this; omega
    rw [shAt_get hxa.out, shAt_get hxb.out] at HD
    have HX := hid hxa.out
    clear hat hpa hpb hle hv0 a1 a2 a3 a4
    go_upto_region 9 with fail
    obtain ⟨V1, eV1, hv1, -, hbx1⟩ := one_box w1 #[.int .i64 ka, .slice aa pa.length ca] 51
    rw [eV1]
    clear eV1 s0 s1 x0 x1 x2 p0 p2 p3
    obtain ⟨⟨x0, x1, x2⟩, p0, p2, p3⟩ := HB.out V1 (hw1.trans hv1)
    have t0V := (hv1.cell (World.block_lt_of_cell? _ _ t0)).trans t0
    have t1V := (hv1.cell (World.block_lt_of_cell? _ _ t1)).trans t1
    clear t0 t1
    have HS := hid (fun X hX => And.intro (hbx1.out X hX 0 _ rfl) (hbx1.out X hX 1 _ rfl) : ∀ X, Aft V1 X → X.cell? ⟨w1.heap.size, 0, none⟩ = some (.int .i64 ka) ∧ X.cell? ⟨w1.heap.size, 1, none⟩ = some (.slice aa pa.length ca))
    clear hbx1
    obtain ⟨n7, hn7⟩ : ∃ n, w1.heap.size = n := ⟨_, rfl⟩
    rw [hn7] at HS ⊢
    clear hn7
    go_upto_region 10 with fail
    obtain ⟨W2, eW2, hv2, -, hbox2⟩ := one_box V1 #[.int .i64 kb, .slice ab pb.length cb] 51
    rw [eW2]
    clear eW2 t0V t1V x0 x1 x2 p0 p2 p3
    have hw2 := hv1.trans hv2
    obtain ⟨⟨x0, x1, x2⟩, p0, p2, p3⟩ := HB.out W2 (hw1.trans hw2)
    obtain ⟨s0, s1⟩ := HS.out W2 hv2
    have t0 := hbox2.out W2 (Aft.refl _) 0 _ rfl
    have t1 := hbox2.out W2 (Aft.refl _) 1 _ rfl
    clear hbox2 HS
    have HA2 : Hid (Prs W2 (.slice aa pa.length ca) pa) := hid ⟨_, _, rfl, HPa.out.aft hw2⟩
    have HB2 : Hid (Prs W2 (.slice ab pb.length cb) pb) := hid ⟨_, _, rfl, HPb.out.aft hw2⟩
    have hw02 := hw01.trans hw2
    clear HPa HPb HX hxa hxb
    go_wp2_with fail
    first | refine (rinside_any ka kb _ _ pa pb W2 HA2.out HB2.out la lb ga.out.2.1 gb.out.2.1).mono ?_ | refine (rleft_any ka kb _ _ pa pb W2 HA2.out HB2.out).mono ?_ | refine (rlonger_any ka kb _ _ pa pb W2 HA2.out HB2.out la lb ga.out.2.1 gb.out.2.1).mono ?_
    rintro e w5 ⟨rfl, hw5⟩
    clear s0 s1 t0 t1 x0 x1 x2 p0 p2 p3
    go_wp2
    go_ret2
    exact ⟨by rw [HD.out]; rfl, hw02.trans hw5⟩
end Go.Proofs.Ytokdclbfjlnnjaa
