/- The walk of PlaneValid. -/
import Derived.Test.YtokdclbfjlnnjaaR20
import Derived.Test.YtokdclbfjlnnjaaR18
import Derived.Test.YtokdclbfjlnnjaaR15
import Derived.Test.YtokdclbfjlnnjaaLa
import Derived.Lib.MinMax
namespace Go.Proofs.Ytokdclbfjlnnjaa
open Go.RowKit Go.BigFrame

theorem genL_good {L : List Sh} (h : GenL L) : GoodL 6 L := fun s hs => by
  have hg := h s hs
  obtain ⟨_, _, h3⟩ := gen_pts hg
  refine ⟨h3, (gen_sc hg).2, ?_⟩
  unfold kOk
  rcases hg with ⟨e, _⟩ | ⟨e, _⟩ | ⟨e, _⟩ | ⟨e, _⟩ | ⟨e, _⟩ <;> omega
/-- A figure of few shapes with few small points. -/
def FigIn (X : World) (v : Value) (L : List Sh) : Prop := Shs X v L ∧ L.length ≤ 30 ∧ GoodL 30 L
theorem FigIn.aft {A B : World} {v : Value} {L : List Sh} (h : FigIn A v L) (hw : Aft A B) : FigIn B v L := ⟨h.1.aft hw, h.2⟩
/-- Five figures, each in three cells. -/
def FigsAt (X : World) (g : Nat) : Prop := ∀ i, i < 5 → ∃ W H a c L, X.cell? ⟨g, i * 3, none⟩ = some (.int .i64 W) ∧ X.cell? ⟨g, i * 3 + 1, none⟩ = some (.int .i64 H) ∧ X.cell? ⟨g, i * 3 + 2, none⟩ = some (.slice a (List.length L) c) ∧ FigIn X (.slice a L.length c) L
theorem FigsAt.aft {A B : World} {g : Nat} (h : FigsAt A g) (hw : Aft A B) : FigsAt B g := fun i hi => by
  obtain ⟨W, H, a, c, L, h0, h1, h2, h3⟩ := h i hi
  have tr : ∀ {b o : Nat} {v : Value}, A.cell? ⟨b, o, none⟩ = some v → B.cell? ⟨b, o, none⟩ = some v := fun h => (hw.cell (World.block_lt_of_cell? _ _ h)).trans h
  exact ⟨W, H, a, c, L, tr h0, tr h1, tr h2, h3.aft hw⟩
def fvFig : FV := ⟨fun v X => ∃ W H a c L, v = .agg #[.int .i64 W, .int .i64 H, .slice a (List.length L) c] ∧ FigIn X (.slice a L.length c) L, fun _ _ _ ⟨W, H, a, c, L, h1, h2⟩ hw => ⟨W, H, a, c, L, h1, h2.aft hw⟩⟩
def fvFive : FV := ⟨fun v X => ∃ g, v = .slice (some ⟨g, 0, none⟩) 5 5 ∧ FigsAt X g, fun _ _ _ ⟨g, h1, h2⟩ hw => ⟨g, h1, h2.aft hw⟩⟩
theorem five_new {X : World} {W0 H0 W1 H1 W2 H2 W3 H3 W4 H4 : Int} {a0 a1 a2 a3 a4 : Option Addr} {c0 c1 c2 c3 c4 : Nat} {L0 L1 L2 L3 L4 : List Sh}
    (h0 : FigIn X (.slice a0 L0.length c0) L0) (h1 : FigIn X (.slice a1 L1.length c1) L1) (h2 : FigIn X (.slice a2 L2.length c2) L2) (h3 : FigIn X (.slice a3 L3.length c3) L3) (h4 : FigIn X (.slice a4 L4.length c4) L4) :
    FigsAt (X.alloc (.cells #[.int .i64 W0, .int .i64 H0, .slice a0 L0.length c0, .int .i64 W1, .int .i64 H1, .slice a1 L1.length c1, .int .i64 W2, .int .i64 H2, .slice a2 L2.length c2, .int .i64 W3, .int .i64 H3, .slice a3 L3.length c3, .int .i64 W4, .int .i64 H4, .slice a4 L4.length c4] 45)) X.heap.size := fun i hi => by
  obtain rfl | rfl | rfl | rfl | rfl : i = 0 ∨ i = 1 ∨ i = 2 ∨ i = 3 ∨ i = 4 := by omega
  · exact ⟨_, _, _, _, _, cell_new X _ 45 0 _ rfl, cell_new X _ 45 1 _ rfl, cell_new X _ 45 2 _ rfl, h0.aft ((Aft.refl X).alloc _)⟩
  · exact ⟨_, _, _, _, _, cell_new X _ 45 3 _ rfl, cell_new X _ 45 4 _ rfl, cell_new X _ 45 5 _ rfl, h1.aft ((Aft.refl X).alloc _)⟩
  · exact ⟨_, _, _, _, _, cell_new X _ 45 6 _ rfl, cell_new X _ 45 7 _ rfl, cell_new X _ 45 8 _ rfl, h2.aft ((Aft.refl X).alloc _)⟩
  · exact ⟨_, _, _, _, _, cell_new X _ 45 9 _ rfl, cell_new X _ 45 10 _ rfl, cell_new X _ 45 11 _ rfl, h3.aft ((Aft.refl X).alloc _)⟩
  · exact ⟨_, _, _, _, _, cell_new X _ 45 12 _ rfl, cell_new X _ 45 13 _ rfl, cell_new X _ 45 14 _ rfl, h4.aft ((Aft.refl X).alloc _)⟩
theorem shs_nil (X : World) : Shs X (.slice none 0 0) [] := ⟨none, 0, [], rfl, (ShsB.nil 0 X).sh⟩

set_option maxRecDepth 100000 in
set_option maxHeartbeats 16000000 in
theorem pvalid_any (v1 : Value) (l1 : List Int) (at_ how by_ Wr Hr : Int) (vr : Value) (n : Nat) (w : World) (hl1 : Ints w v1 l1) (hat : kOk at_) (hhow : kOk how) (hby : kOk by_) (hraw : ShsRaw w vr n) :
    Calls Try.prog 11 #[v1, .int .i64 at_, .int .i64 how, .int .i64 by_, .agg #[.int .i64 Wr, .int .i64 Hr, vr]] w fun e w' => e = .returned (.bool true) ∧ Aft w w' := by
  have hI1 := hl1
  have HR := hid hraw
  obtain ⟨aa, ca0, rfl, hl1⟩ := hl1
  obtain ⟨ar, cr, rfl, hnr, -⟩ := hraw
  have Kat := hid hat
  have Khow := hid hhow
  have Kby := hid hby
  have Kq : Hid (kOk (how.tdiv 9)) := hid (tdiv_small hhow.1 hhow.2 9 (by omega))
  unfold kOk at hat hhow hby
  obtain ⟨ha1, ha2⟩ := hat
  obtain ⟨hh1, hh2⟩ := hhow
  obtain ⟨hb1, hb2⟩ := hby
  go_enter Try.func11, Try.ntmps11
  go_upto_region 1 with fail
  obtain ⟨W0, eW0, hw0, hlt0, hbox0⟩ := one_box w #[.int .i64 Wr, .int .i64 Hr, .slice ar n cr] 45
  rw [eW0]
  clear eW0
  have HB9 : Hid (∀ X, Aft W0 X → B3 X w.heap.size Wr Hr (.slice ar n cr)) := hid fun X hX => ⟨hbox0.out X hX 0 _ rfl, hbox0.out X hX 1 _ rfl, hbox0.out X hX 2 _ rfl⟩
  clear hbox0
  obtain ⟨n9, hn9⟩ : ∃ n, w.heap.size = n := ⟨_, rfl⟩
  rw [hn9] at HB9 ⊢
  go_wp2_with fail
  refine (figure_any _ l1 W0 (hI1.aft hw0)).mono ?_
  rintro e W1 ⟨a1, c1, R1, L1, rfl, hB1, hG1, hn1, hV1, hw1⟩
  have HV1 := hid hV1
  have HS1 := hid (ShsB.shs hB1)
  have HG1 := hid (genL_good hG1)
  clear hB1 hV1 hG1
  go_upto_region 2 with fail
  obtain ⟨X1, eX1, hx1, hltx1, hbx1⟩ := one_box W1 #[.int .i64 62, .int .i64 62, .slice a1 L1.length c1] 45
  rw [eX1]
  clear eX1
  have HB11 : Hid (∀ X, Aft X1 X → B3 X W1.heap.size 62 62 (.slice a1 L1.length c1)) := hid fun X hX => ⟨hbx1.out X hX 0 _ rfl, hbx1.out X hX 1 _ rfl, hbx1.out X hX 2 _ rfl⟩
  clear hbx1
  obtain ⟨n11, hn11⟩ : ∃ n, W1.heap.size = n := ⟨_, rfl⟩
  rw [hn11] at HB11 ⊢
  have HS11 := hid (HS1.out.aft hx1)
  obtain ⟨x0, x1, x2⟩ := HB11.out X1 (Aft.refl _)
  go_wp2_with fail
  refine (bent_any 62 62 at_ how by_ _ L1 6 X1 HS11.out (by omega) HG1.out (by omega) Kat.out Khow.out Kby.out).mono ?_
  rintro e X2 ⟨WA, HA, vA, LA, rfl, hsA, hnA, hgA, hx2⟩
  have HSA := hid hsA
  have HGA := hid hgA
  obtain ⟨aA, cA, RA, rfl, -⟩ := hsA
  clear hgA x0 x1 x2
  go_upto_region 3 with fail
  obtain ⟨X3, eX3, hx3, hltx3, hbx3⟩ := one_box X2 #[.int .i64 WA, .int .i64 HA, .slice aA LA.length cA] 45
  rw [eX3]
  clear eX3
  have HB12 : Hid (∀ X, Aft X3 X → B3 X X2.heap.size WA HA (.slice aA LA.length cA)) := hid fun X hX => ⟨hbx3.out X hX 0 _ rfl, hbx3.out X hX 1 _ rfl, hbx3.out X hX 2 _ rfl⟩
  clear hbx3
  obtain ⟨n12, hn12⟩ : ∃ n, X2.heap.size = n := ⟨_, rfl⟩
  rw [hn12] at HB12 ⊢
  have HSA3 := hid (HSA.out.aft hx3)
  have HS13 := hid (HS11.out.aft (hx2.trans hx3))
  have HR3 := hid (((((HR.out.aft hw0).aft hw1).aft hx1).aft hx2).aft hx3)
  have hw03 : Aft W0 X3 := ((hw1.trans hx1).trans hx2).trans hx3
  have hw13 : Aft X1 X3 := hx2.trans hx3
  clear HS1 HS11 HSA HR hw1 hx1 hx2 hx3 hI1 hl1
  clear hn9 hn11 hn12 hltx1 hltx3 hlt0
  refine wp_region_flow _ (Aft.refl _) [FV.is (.agg #[.int .i64 62, .int .i64 62, .slice a1 L1.length c1]), FV.is (.agg #[.int .i64 WA, .int .i64 HA, .slice aA LA.length cA]), FV.is (.agg #[.int .i64 WA, .int .i64 HA, .slice aA LA.length cA]), FV.is (.int .i64 by_), FV.is (.int .i64 how), FV.is (.int .i64 (how.tdiv 9)), FV.is (.int .i64 at_), fvFig, FV.is (.agg #[.int .i64 Wr, .int .i64 Hr, .slice ar n cr]), fvFig, FV.is (.agg #[.int .i64 0, .int .i64 0, .slice none 0 0]), fvFive]
    [(0, 26), (1, 27), (2, 28), (3, 29), (4, 30), (5, 31), (6, 32), (7, 33), (8, 34), (9, 35), (10, 36), (11, 37)]
    [[], [], [], [], [], [(4, 30)], [], [(2, 28), (3, 29), (5, 31), (6, 32)], [], [(8, 34)], [], [(0, 26), (1, 27), (7, 33), (9, 35), (10, 36)]] (by kernel_rfl) (by kernel_rfl) ?_ ?_
  · refine flowObs_cons (fun W hW => flowOb_nil ?_) ?_
    · obtain ⟨x0, x1, x2⟩ := HB11.out W (hw13.trans hW)
      go_wp2
      exact ⟨rfl, Aft.refl W⟩
    refine flowObs_cons (fun W hW => flowOb_nil ?_) ?_
    · obtain ⟨x0, x1, x2⟩ := HB12.out W hW
      go_wp2
      exact ⟨rfl, Aft.refl W⟩
    refine flowObs_cons (fun W hW => flowOb_nil ?_) ?_
    · obtain ⟨x0, x1, x2⟩ := HB12.out W hW
      go_wp2
      exact ⟨rfl, Aft.refl W⟩
    refine flowObs_cons (fun W hW => flowOb_nil ?_) ?_
    · go_wp2
      exact ⟨rfl, Aft.refl W⟩
    refine flowObs_cons (fun W hW => flowOb_nil ?_) ?_
    · go_wp2
      exact ⟨rfl, Aft.refl W⟩
    refine flowObs_cons (fun W hW => flowOb_cons fun v0 h0 => flowOb_nil ?_) ?_
    · obtain rfl := h0
      go_wp2
      exact ⟨rfl, Aft.refl W⟩
    refine flowObs_cons (fun W hW => flowOb_nil ?_) ?_
    · go_wp2
      exact ⟨rfl, Aft.refl W⟩
    refine flowObs_cons (fun W hW => flowOb_cons fun v0 h0 => flowOb_cons fun v1 h1 => flowOb_cons fun v2 h2 => flowOb_cons fun v3 h3 => flowOb_nil ?_) ?_
    · obtain rfl := h0
      obtain rfl := h1
      obtain rfl := h2
      obtain rfl := h3
      go_wp2_with fail
      refine (bent_any WA HA by_ (how.tdiv 9) at_ _ LA 18 W (HSA3.out.aft hW) (by omega) HGA.out (by omega) Kby.out Kq.out Kat.out).mono ?_
      rintro e W' ⟨W2, H2, v2, L2, rfl, hs2, hn2, hg2, hw2⟩
      have hs2k := hs2
      obtain ⟨a2, c2, R2, rfl, -⟩ := hs2
      go_wp2
      exact ⟨W2, H2, a2, c2, L2, rfl, hs2k, by omega, hg2⟩
    refine flowObs_cons (fun W hW => flowOb_nil ?_) ?_
    · obtain ⟨x0, x1, x2⟩ := HB9.out W (hw03.trans hW)
      go_wp2
      exact ⟨rfl, Aft.refl W⟩
    refine flowObs_cons (fun W hW => flowOb_cons fun v0 h0 => flowOb_nil ?_) ?_
    · obtain rfl := h0
      go_wp2_with fail
      refine (few_any Wr Hr _ n W (HR3.out.aft hW)).mono ?_
      rintro e W' ⟨v2, L2, rfl, hs2, hn2, hg2, hw2⟩
      have hs2k := hs2
      obtain ⟨a2, c2, R2, rfl, -⟩ := hs2
      go_wp2
      exact ⟨_, _, a2, c2, L2, rfl, hs2k, by omega, hg2.mono (by omega)⟩
    refine flowObs_cons (fun W hW => flowOb_nil ?_) ?_
    · go_wp2
      exact ⟨rfl, Aft.refl W⟩
    refine flowObs_cons (fun W hW => flowOb_cons fun v0 h0 => flowOb_cons fun v1 h1 => flowOb_cons fun v2 h2 => flowOb_cons fun v3 h3 => flowOb_cons fun v4 h4 => flowOb_nil ?_) flowObs_nil
    · obtain rfl := h0
      obtain rfl := h1
      obtain rfl := h4
      obtain ⟨W2, H2, a2, c2, L2, rfl, hf2⟩ := h2
      obtain ⟨W3, H3, a3, c3, L3, rfl, hf3⟩ := h3
      go_wp2
      exact ⟨⟨_, rfl, five_new (L0 := L1) (L1 := LA) (L4 := []) ⟨HS13.out.aft hW, by omega, HG1.out.mono (by omega)⟩ ⟨HSA3.out.aft hW, by omega, HGA.out.mono (by omega)⟩ hf2 hf3 ⟨shs_nil W, by simp, fun s h => by cases h⟩⟩, (Aft.refl W).alloc _⟩
  intro Y hY
  iterate 11 refine flowEnd_cons fun _ _ => ?_
  refine flowEnd_cons fun v5 h5 => flowEnd_nil ?_
  obtain ⟨g, rfl, hfigs⟩ := h5
  have HF := hid hfigs
  have hwY : Aft w Y := (hw0.trans hw03).trans hY
  have HB11Y := hid (fun X hX => HB11.out X (hw13.trans (hY.trans hX)) : ∀ X, Aft Y X → B3 X n11 62 62 (.slice a1 L1.length c1))
  have HS1Y := hid (HS13.out.aft hY)
  clear hfigs HB9 HB11 HB12 HSA3 HS13 HR3 hw03 hw13 HGA hw0
  go_wp2
  go_loopw [14] (fun i wr => ∃ r : Nat, r ≤ 5 ∧ i = .int .i64 r ∧ Aft Y wr) (fun i _ => 5 - (intOf i).toNat)
  case atStart => exact ⟨0, by omega, rfl, Aft.refl _⟩
  case round =>
    obtain ⟨r, hr, rfl, hwr⟩ := hrel
    rcases Nat.lt_or_ge r 5 with hltr | hger
    · have hri : (r : Int) < 5 := by omega
      obtain ⟨wo, hwo⟩ : ∃ x, x = wr := ⟨wr, rfl⟩
      subst hwo
      obtain ⟨Wf, Hf, af, cf, L, f0, f1, f2, hfig⟩ := (HF.out.aft hwr) r hltr
      have HSf := hid hfig.1
      have HGf := hid hfig.2.2
      have hLn := hfig.2.1
      clear hfig
      go_upto_region 7 with fail
      refine wp_region_flow _ (Aft.refl _) [FV.is (.slice (some ⟨g, 0, none⟩) 5 5), FV.is (.int .i64 r), FV.is (.pointer (some ⟨g, r * 3, none⟩)), FV.is (.agg #[.int .i64 Wf, .int .i64 Hf, .slice af L.length cf]), FV.is (.int .i64 (validZ Wf Hf L)), FV.is (.slice (some ⟨g, 0, none⟩) 5 5), FV.is (.int .i64 r), FV.is (.pointer (some ⟨g, r * 3, none⟩)), FV.is (.agg #[.int .i64 Wf, .int .i64 Hf, .slice af L.length cf]), FV.is (.int .i64 (validZ Wf Hf L)), FV.is (.bool false)]
        [(0, 44), (1, 45), (2, 46), (3, 47), (4, 48), (5, 49), (6, 50), (7, 51), (8, 52), (9, 53), (10, 54)]
        [[], [], [(0, 44), (1, 45)], [(2, 46)], [(3, 47)], [], [], [(5, 49), (6, 50)], [(7, 51)], [(8, 52)], [(4, 48), (9, 53)]] (by kernel_rfl) (by kernel_rfl) ?_ ?_
      · refine flowObs_cons (fun W hW => flowOb_nil ?_) ?_
        · go_wp2
          exact ⟨rfl, Aft.refl W⟩
        refine flowObs_cons (fun W hW => flowOb_nil ?_) ?_
        · go_wp2
          exact ⟨rfl, Aft.refl W⟩
        refine flowObs_cons (fun W hW => flowOb_cons fun v0 h0 => flowOb_cons fun v1 h1 => flowOb_nil ?_) ?_
        · obtain rfl := h0
          obtain rfl := h1
          go_wp2
          exact ⟨rfl, Aft.refl W⟩
        refine flowObs_cons (fun W hW => flowOb_cons fun v0 h0 => flowOb_nil ?_) ?_
        · obtain rfl := h0
          have f0W := (hW.cell (World.block_lt_of_cell? _ _ f0)).trans f0
          have f1W := (hW.cell (World.block_lt_of_cell? _ _ f1)).trans f1
          have f2W := (hW.cell (World.block_lt_of_cell? _ _ f2)).trans f2
          go_wp2
          exact ⟨rfl, Aft.refl W⟩
        refine flowObs_cons (fun W hW => flowOb_cons fun v0 h0 => flowOb_nil ?_) ?_
        · obtain rfl := h0
          go_wp2_with fail
          refine (valid_any Wf Hf _ L W (HSf.out.aft hW) (HGf.out.sc (by omega)) (fun s hs => (HGf.out s hs).2.2)).mono ?_
          rintro e W' ⟨rfl, hw'⟩
          go_wp2
          exact rfl
        refine flowObs_cons (fun W hW => flowOb_nil ?_) ?_
        · go_wp2
          exact ⟨rfl, Aft.refl W⟩
        refine flowObs_cons (fun W hW => flowOb_nil ?_) ?_
        · go_wp2
          exact ⟨rfl, Aft.refl W⟩
        refine flowObs_cons (fun W hW => flowOb_cons fun v0 h0 => flowOb_cons fun v1 h1 => flowOb_nil ?_) ?_
        · obtain rfl := h0
          obtain rfl := h1
          go_wp2
          exact ⟨rfl, Aft.refl W⟩
        refine flowObs_cons (fun W hW => flowOb_cons fun v0 h0 => flowOb_nil ?_) ?_
        · obtain rfl := h0
          have f0W := (hW.cell (World.block_lt_of_cell? _ _ f0)).trans f0
          have f1W := (hW.cell (World.block_lt_of_cell? _ _ f1)).trans f1
          have f2W := (hW.cell (World.block_lt_of_cell? _ _ f2)).trans f2
          go_wp2
          exact ⟨rfl, Aft.refl W⟩
        refine flowObs_cons (fun W hW => flowOb_cons fun v0 h0 => flowOb_nil ?_) ?_
        · obtain rfl := h0
          go_wp2_with fail
          refine (rvalid_any Wf Hf _ L W (HSf.out.aft hW) (HGf.out.sc (by omega))).mono ?_
          rintro e W' ⟨rfl, hw'⟩
          go_wp2
          exact rfl
        refine flowObs_cons (fun W hW => flowOb_cons fun v0 h0 => flowOb_cons fun v1 h1 => flowOb_nil ?_) flowObs_nil
        · obtain rfl := h0
          obtain rfl := h1
          go_wp2
          exact ⟨rfl, Aft.refl W⟩
      intro Z hZ
      iterate 10 refine flowEnd_cons fun _ _ => ?_
      refine flowEnd_cons fun v1 h1 => flowEnd_nil ?_
      obtain rfl := h1
      have hwZ := hwr.trans hZ
      have HSZ := hid (HSf.out.aft hZ)
      have f0Z := (hZ.cell (World.block_lt_of_cell? _ _ f0)).trans f0
      have f1Z := (hZ.cell (World.block_lt_of_cell? _ _ f1)).trans f1
      have f2Z := (hZ.cell (World.block_lt_of_cell? _ _ f2)).trans f2
      clear f0 f1 f2
      have F2Z := hid f2Z
      clear f0Z f1Z f2Z
      go_wp2
      go_loopw [15] (fun i wx => ∃ q : Nat, q ≤ L.length ∧ i = .int .i64 q ∧ Aft Z wx) (fun i _ => L.length - (intOf i).toNat)
      case atStart => exact ⟨0, by omega, rfl, Aft.refl _⟩
      case round =>
        obtain ⟨wx, hwxe⟩ : ∃ x, x = wr := ⟨wr, rfl⟩
        subst hwxe
        obtain ⟨q, hq, rfl, hwx⟩ := hrel
        have f2 := (hwx.cell (World.block_lt_of_cell? _ _ F2Z.out)).trans F2Z.out
        have hwYx := hwZ.trans hwx
        have hgo : ∀ {Q : Prop}, (q < L.length → (q : Int) < L.length → (r : Int) < 3 → Q) → (¬ (q : Int) < L.length → True → Q) → ((q : Int) < L.length → ¬ (r : Int) < 3 → Q) → Q := fun h1 h2 h3 => by
          by_cases h : (q : Int) < L.length
          · by_cases h' : (r : Int) < 3
            · exact h1 (by omega) h h'
            · exact h3 h h'
          · exact h2 h trivial
        refine hgo ?_ ?_ ?_
        · intro o0 o1 o2
          clear hgo
          obtain ⟨az, cs, Rs, es, hat⟩ := HSZ.out.aft hwx
          simp only [Value.slice.injEq, true_and] at es
          obtain ⟨rfl, rfl⟩ := es
          obtain ⟨b, off, kd, ps, ap, cp, rfl, s0, s1, hb, hx, hps⟩ := hat.get o0
          have hgood := HGf.out _ (List.mem_of_getElem? hx.out)
          obtain ⟨g1, g2, g3⟩ := hgood
          simp only at g1 g2 g3
          have HP := hid hps
          have HSC := hid g2
          clear hat hps g2 g3
          go_upto_region 13 with fail
          obtain ⟨V1, eV1, hv1, -, hbv1⟩ := one_box wx #[.int .i64 kd, .slice ap ps.length cp] 51
          rw [eV1]
          clear eV1 s0 s1 f2
          have HB16 : Hid (∀ X, Aft V1 X → X.cell? ⟨wx.heap.size, 0, none⟩ = some (.int .i64 kd) ∧ X.cell? ⟨wx.heap.size, 1, none⟩ = some (.slice ap ps.length cp)) := hid fun X hX => ⟨hbv1.out X hX 0 _ rfl, hbv1.out X hX 1 _ rfl⟩
          clear hbv1
          obtain ⟨n16, hn16⟩ : ∃ n, wx.heap.size = n := ⟨_, rfl⟩
          rw [hn16] at HB16 ⊢
          obtain ⟨t0, t1⟩ := HB16.out V1 (Aft.refl _)
          go_wp2_with fail
          refine (rbox_any kd _ ps V1 ⟨_, _, rfl, HP.out.aft hv1⟩).mono ?_
          rintro e V2 ⟨rfl, hv2⟩
          clear t0 t1
          obtain ⟨⟨⟨lx, ly⟩, ⟨hx', hy'⟩⟩, hbz⟩ : ∃ p, boxZ ps = p := ⟨_, rfl⟩
          rw [hbz]
          clear hbz
          simp only [pr]
          go_upto_region 14 with fail
          obtain ⟨V3, eV3, hv3, -, hbv3⟩ := two_boxes V2 #[.int .i64 lx, .int .i64 ly] #[.int .i64 hx', .int .i64 hy'] 57 57
          rw [eV3]
          clear eV3
          have lo0 := (hbv3.out V3 (Aft.refl _)).1 0 _ rfl
          have lo1 := (hbv3.out V3 (Aft.refl _)).1 1 _ rfl
          have hi0 := (hbv3.out V3 (Aft.refl _)).2 0 _ rfl
          have hi1 := (hbv3.out V3 (Aft.refl _)).2 1 _ rfl
          clear hbv3
          obtain ⟨t0, t1⟩ := HB16.out V3 (hv2.trans hv3)
          have hxv : Aft wx V3 := (hv1.trans hv2).trans hv3
          have hZv := hwx.trans hxv
          obtain ⟨bx, by'', hs1, hs2⟩ : ∃ a b, min lx ly = a ∧ max hx' hy' = b := ⟨_, _, rfl, rfl⟩
          by_cases b1 : bx < 0
          · go_wp2
            go_roundw
            case rel => exact ⟨q + 1, by omega, by go_num, hZv⟩
            case measure => simp only [intOf]; omega
          by_cases b2 : 1000 < by''
          · go_wp2
            go_roundw
            case rel => exact ⟨q + 1, by omega, by go_num, hZv⟩
            case measure => simp only [intOf]; omega
          by_cases b3 : (12 : Int) < ps.length
          · go_wp2
            go_roundw
            case rel => exact ⟨q + 1, by omega, by go_num, hZv⟩
            case measure => simp only [intOf]; omega
          by_cases b4 : kd < 0
          · go_wp2
            go_roundw
            case rel => exact ⟨q + 1, by omega, by go_num, hZv⟩
            case measure => simp only [intOf]; omega
          by_cases b5 : 2 < kd
          · go_wp2
            go_roundw
            case rel => exact ⟨q + 1, by omega, by go_num, hZv⟩
            case measure => simp only [intOf]; omega
          go_upto_region 15 with fail
          refine wp_region_flow _ (Aft.refl _) [FV.is (.agg #[.int .i64 kd, .slice ap ps.length cp]), FV.is (.bool (simpleZ kd ps)), FV.is (.agg #[.int .i64 kd, .slice ap ps.length cp]), FV.is (.bool (simpleZ kd ps)), FV.is (.bool false)]
            [(0, 112), (1, 113), (2, 114), (3, 115), (4, 116)]
            [[], [(0, 112)], [], [(2, 114)], [(1, 113), (3, 115)]] (by kernel_rfl) (by kernel_rfl) ?_ ?_
          · refine flowObs_cons (fun W hW => flowOb_nil ?_) ?_
            · have t0W := (hW.cell (World.block_lt_of_cell? _ _ t0)).trans t0
              have t1W := (hW.cell (World.block_lt_of_cell? _ _ t1)).trans t1
              go_wp2
              exact ⟨rfl, Aft.refl W⟩
            refine flowObs_cons (fun W hW => flowOb_cons fun v0 h0 => flowOb_nil ?_) ?_
            · obtain rfl := h0
              go_wp2_with fail
              refine (simple_any kd _ ps W ⟨_, _, rfl, HP.out.aft (hxv.trans hW)⟩ (by omega) HSC.out).mono ?_
              rintro e W' ⟨rfl, hw'⟩
              go_wp2
              exact rfl
            refine flowObs_cons (fun W hW => flowOb_nil ?_) ?_
            · have t0W := (hW.cell (World.block_lt_of_cell? _ _ t0)).trans t0
              have t1W := (hW.cell (World.block_lt_of_cell? _ _ t1)).trans t1
              go_wp2
              exact ⟨rfl, Aft.refl W⟩
            refine flowObs_cons (fun W hW => flowOb_cons fun v0 h0 => flowOb_nil ?_) ?_
            · obtain rfl := h0
              go_wp2_with fail
              refine (rsimple_any kd _ ps W ⟨_, _, rfl, HP.out.aft (hxv.trans hW)⟩ (by omega) HSC.out).mono ?_
              rintro e W' ⟨rfl, hw'⟩
              go_wp2
              exact rfl
            refine flowObs_cons (fun W hW => flowOb_cons fun v0 h0 => flowOb_cons fun v1 h1 => flowOb_nil ?_) flowObs_nil
            · obtain rfl := h0
              obtain rfl := h1
              go_wp2
              exact ⟨rfl, Aft.refl W⟩
          intro V hV
          iterate 4 refine flowEnd_cons fun _ _ => ?_
          refine flowEnd_cons fun v2 h2 => flowEnd_nil ?_
          obtain rfl := h2
          have hZf := hZv.trans hV
          clear lo0 lo1 hi0 hi1 t0 t1
          go_wp2
          go_roundw
          case rel => exact ⟨q + 1, by omega, by go_num, hZf⟩
          case measure => simp only [intOf]; omega
        all_goals
          intro o1 o2
          clear hgo
          go_wp2
          go_roundw
          case rel => exact ⟨r + 1, by omega, by go_num, hwYx⟩
          case measure => simp only [intOf]; omega
    · obtain rfl : r = 5 := by omega
      obtain ⟨x0, x1, x2⟩ := HB11Y.out _ hwr
      have HQ := HV1
      go_wp2_with fail
      refine (valid_any 62 62 _ L1 _ (HS1Y.out.aft hwr) (HG1.out.sc (by omega)) (fun s hs => (HG1.out s hs).2.2)).mono ?_
      rintro e w5 ⟨rfl, hw5⟩
      rw [HV1.out]
      go_wp2_with fail
      refine (lives18 w5).mono ?_
      rintro e w6 ⟨rfl, hw6⟩
      go_wp2
      go_ret
      exact ⟨rfl, ((hwY.trans hwr).trans hw5).trans hw6⟩
end Go.Proofs.Ytokdclbfjlnnjaa
