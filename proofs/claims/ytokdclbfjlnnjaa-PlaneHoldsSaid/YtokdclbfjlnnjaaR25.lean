/- The walk of PlaneHolds. -/
import Derived.Test.YtokdclbfjlnnjaaR20
import Derived.Test.YtokdclbfjlnnjaaR24
namespace Go.Proofs.Ytokdclbfjlnnjaa
open Go.RowKit Go.BigFrame

theorem gen_good {L : List Sh} (h : GenL L) : GoodL 6 L := fun s hs => by
  have hg := h s hs
  obtain ⟨_, _, h3⟩ := gen_pts hg
  refine ⟨h3, (gen_sc hg).2, ?_⟩
  unfold kOk
  rcases hg with ⟨e, _⟩ | ⟨e, _⟩ | ⟨e, _⟩ | ⟨e, _⟩ | ⟨e, _⟩ <;> omega
/-- A figure of few shapes with few small points, in a world. -/
def FigOk (X : World) (v : Value) (L : List Sh) : Prop := Shs X v L ∧ L.length ≤ 30 ∧ GoodL 30 L
theorem FigOk.aft {A B : World} {v : Value} {L : List Sh} (h : FigOk A v L) (hw : Aft A B) : FigOk B v L := ⟨h.1.aft hw, h.2⟩
/-- Two figures, each in three cells. -/
def FigsTwo (X : World) (g : Nat) : Prop := ∀ i, i < 2 → ∃ W H a c L, X.cell? ⟨g, i * 3, none⟩ = some (.int .i64 W) ∧ X.cell? ⟨g, i * 3 + 1, none⟩ = some (.int .i64 H) ∧ X.cell? ⟨g, i * 3 + 2, none⟩ = some (.slice a (List.length L) c) ∧ FigOk X (.slice a L.length c) L
theorem FigsTwo.aft {A B : World} {g : Nat} (h : FigsTwo A g) (hw : Aft A B) : FigsTwo B g := fun i hi => by
  obtain ⟨W, H, a, c, L, h0, h1, h2, h3⟩ := h i hi
  have tr : ∀ {b o : Nat} {v : Value}, A.cell? ⟨b, o, none⟩ = some v → B.cell? ⟨b, o, none⟩ = some v := fun h => (hw.cell (World.block_lt_of_cell? _ _ h)).trans h
  exact ⟨W, H, a, c, L, tr h0, tr h1, tr h2, h3.aft hw⟩
/-- Four facts, each in four cells. -/
def FactsAt (X : World) (g : Nat) : Prop := ∀ i, i < 4 → ∃ k t a b : Int, X.cell? ⟨g, i * 4, none⟩ = some (.int .i64 k) ∧ X.cell? ⟨g, i * 4 + 1, none⟩ = some (.int .i64 t) ∧ X.cell? ⟨g, i * 4 + 2, none⟩ = some (.int .i64 a) ∧ X.cell? ⟨g, i * 4 + 3, none⟩ = some (.int .i64 b) ∧ kOk k
theorem FactsAt.aft {A B : World} {g : Nat} (h : FactsAt A g) (hw : Aft A B) : FactsAt B g := fun i hi => by
  obtain ⟨k, t, a, b, h0, h1, h2, h3, h4⟩ := h i hi
  have tr : ∀ {b o : Nat} {v : Value}, A.cell? ⟨b, o, none⟩ = some v → B.cell? ⟨b, o, none⟩ = some v := fun h => (hw.cell (World.block_lt_of_cell? _ _ h)).trans h
  exact ⟨k, t, a, b, tr h0, tr h1, tr h2, tr h3, h4⟩
def fvFigOk : FV := ⟨fun v X => ∃ W H a c L, v = .agg #[.int .i64 W, .int .i64 H, .slice a (List.length L) c] ∧ FigOk X (.slice a L.length c) L, fun _ _ _ ⟨W, H, a, c, L, h1, h2⟩ hw => ⟨W, H, a, c, L, h1, h2.aft hw⟩⟩
def fvTwo : FV := ⟨fun v X => ∃ g, v = .slice (some ⟨g, 0, none⟩) 2 2 ∧ FigsTwo X g, fun _ _ _ ⟨g, h1, h2⟩ hw => ⟨g, h1, h2.aft hw⟩⟩
def fvFacts : FV := ⟨fun v X => ∃ g, v = .slice (some ⟨g, 0, none⟩) 4 4 ∧ FactsAt X g, fun _ _ _ ⟨g, h1, h2⟩ hw => ⟨g, h1, h2.aft hw⟩⟩
theorem two_new {X : World} {W0 H0 W1 H1 : Int} {a0 a1 : Option Addr} {c0 c1 : Nat} {L0 L1 : List Sh} (h0 : FigOk X (.slice a0 L0.length c0) L0) (h1 : FigOk X (.slice a1 L1.length c1) L1) :
    FigsTwo (X.alloc (.cells #[.int .i64 W0, .int .i64 H0, .slice a0 L0.length c0, .int .i64 W1, .int .i64 H1, .slice a1 L1.length c1] 45)) X.heap.size := fun i hi => by
  obtain rfl | rfl : i = 0 ∨ i = 1 := by omega
  · exact ⟨_, _, _, _, _, cell_new X _ 45 0 _ rfl, cell_new X _ 45 1 _ rfl, cell_new X _ 45 2 _ rfl, h0.aft ((Aft.refl X).alloc _)⟩
  · exact ⟨_, _, _, _, _, cell_new X _ 45 3 _ rfl, cell_new X _ 45 4 _ rfl, cell_new X _ 45 5 _ rfl, h1.aft ((Aft.refl X).alloc _)⟩
theorem facts_new {X : World} {k0 t0 a0 b0 k1 t1 a1 b1 k2 t2 a2 b2 k3 t3 a3 b3 : Int} (h0 : kOk k0) (h1 : kOk k1) (h2 : kOk k2) (h3 : kOk k3) :
    FactsAt (X.alloc (.cells #[.int .i64 k0, .int .i64 t0, .int .i64 a0, .int .i64 b0, .int .i64 k1, .int .i64 t1, .int .i64 a1, .int .i64 b1, .int .i64 k2, .int .i64 t2, .int .i64 a2, .int .i64 b2, .int .i64 k3, .int .i64 t3, .int .i64 a3, .int .i64 b3] 76)) X.heap.size := fun i hi => by
  obtain rfl | rfl | rfl | rfl : i = 0 ∨ i = 1 ∨ i = 2 ∨ i = 3 := by omega
  · exact ⟨_, _, _, _, cell_new X _ 76 0 _ rfl, cell_new X _ 76 1 _ rfl, cell_new X _ 76 2 _ rfl, cell_new X _ 76 3 _ rfl, h0⟩
  · exact ⟨_, _, _, _, cell_new X _ 76 4 _ rfl, cell_new X _ 76 5 _ rfl, cell_new X _ 76 6 _ rfl, cell_new X _ 76 7 _ rfl, h1⟩
  · exact ⟨_, _, _, _, cell_new X _ 76 8 _ rfl, cell_new X _ 76 9 _ rfl, cell_new X _ 76 10 _ rfl, cell_new X _ 76 11 _ rfl, h2⟩
  · exact ⟨_, _, _, _, cell_new X _ 76 12 _ rfl, cell_new X _ 76 13 _ rfl, cell_new X _ 76 14 _ rfl, cell_new X _ 76 15 _ rfl, h3⟩

set_option maxRecDepth 100000 in
set_option maxHeartbeats 16000000 in
theorem pholds_any (v1 : Value) (l1 : List Int) (at_ how by_ xk xt xa xb : Int) (w : World) (hl1 : Ints w v1 l1) (hat : kOk at_) (hhow : kOk how) (hby : kOk by_) (hxk : kOk xk) :
    Calls Try.prog 12 #[v1, .int .i64 at_, .int .i64 how, .int .i64 by_, .agg #[.int .i64 xk, .int .i64 xt, .int .i64 xa, .int .i64 xb]] w fun e w' => e = .returned (.bool true) ∧ Aft w w' := by
  have hI1 := hl1
  obtain ⟨aa, ca0, rfl, hl1⟩ := hl1
  have Kat := hid hat
  have Khow := hid hhow
  have Kby := hid hby
  have Kx' := hid hxk
  unfold kOk at hat hhow hby
  obtain ⟨ha1, ha2⟩ := hat
  obtain ⟨hh1, hh2⟩ := hhow
  obtain ⟨hb1, hb2⟩ := hby
  clear hxk
  go_enter Try.func12, Try.ntmps12
  go_upto_region 1 with fail
  obtain ⟨W0, eW0, hw0, hlt0, hbox0⟩ := one_box w #[.int .i64 xk, .int .i64 xt, .int .i64 xa, .int .i64 xb] 76
  rw [eW0]
  clear eW0
  have HB9 : Hid (∀ X, Aft W0 X → X.cell? ⟨w.heap.size, 0, none⟩ = some (.int .i64 xk) ∧ X.cell? ⟨w.heap.size, 1, none⟩ = some (.int .i64 xt) ∧ X.cell? ⟨w.heap.size, 2, none⟩ = some (.int .i64 xa) ∧ X.cell? ⟨w.heap.size, 3, none⟩ = some (.int .i64 xb)) :=
    hid fun X hX => ⟨hbox0.out X hX 0 _ rfl, hbox0.out X hX 1 _ rfl, hbox0.out X hX 2 _ rfl, hbox0.out X hX 3 _ rfl⟩
  clear hbox0
  obtain ⟨n9, hn9⟩ : ∃ n, w.heap.size = n := ⟨_, rfl⟩
  rw [hn9] at HB9 ⊢
  go_wp2_with fail
  refine (figure_any _ l1 W0 (hI1.aft hw0)).mono ?_
  rintro e W1 ⟨a1, c1, R1, L1, rfl, hB1, hG1, hn1, -, hw1⟩
  have HS1 := hid (ShsB.shs hB1)
  have HG1 := hid (gen_good hG1)
  clear hB1 hG1
  go_upto_region 2 with fail
  obtain ⟨X1, eX1, hx1, hltx1, hbx1⟩ := one_box W1 #[.int .i64 62, .int .i64 62, .slice a1 L1.length c1] 45
  rw [eX1]
  clear eX1
  have HB11 : Hid (∀ X, Aft X1 X → B3 X W1.heap.size 62 62 (.slice a1 L1.length c1)) := hid fun X hX => ⟨hbx1.out X hX 0 _ rfl, hbx1.out X hX 1 _ rfl, hbx1.out X hX 2 _ rfl⟩
  clear hbx1
  obtain ⟨n11, hn11⟩ : ∃ n, W1.heap.size = n := ⟨_, rfl⟩
  rw [hn11] at HB11 ⊢
  have HS11 := hid (HS1.out.aft hx1)
  have hw01 := hw1.trans hx1
  clear HS1 hw1 hx1 hI1 hl1 hn9 hn11 hltx1 hlt0
  refine wp_region_flow _ (Aft.refl _) [FV.is (.agg #[.int .i64 62, .int .i64 62, .slice a1 L1.length c1]), FV.is (.agg #[.int .i64 62, .int .i64 62, .slice a1 L1.length c1]), FV.is (.int .i64 at_), FV.is (.int .i64 how), FV.is (.int .i64 by_), fvFigOk, fvTwo]
    [(0, 23), (1, 24), (2, 25), (3, 26), (4, 27), (5, 28), (6, 29)]
    [[], [], [], [], [], [(1, 24), (2, 25), (3, 26), (4, 27)], [(0, 23), (5, 28)]] (by kernel_rfl) (by kernel_rfl) ?_ ?_
  · refine flowObs_cons (fun W hW => flowOb_nil ?_) ?_
    · obtain ⟨x0, x1, x2⟩ := HB11.out W hW
      go_wp2
      exact ⟨rfl, Aft.refl W⟩
    refine flowObs_cons (fun W hW => flowOb_nil ?_) ?_
    · obtain ⟨x0, x1, x2⟩ := HB11.out W hW
      go_wp2
      exact ⟨rfl, Aft.refl W⟩
    refine flowObs_cons (fun W hW => flowOb_nil ?_) ?_
    · go_wp2
      exact ⟨rfl, Aft.refl W⟩
    refine flowObs_cons (fun W hW => flowOb_nil ?_) ?_
    · go_wp2
      exact ⟨rfl, Aft.refl W⟩
    refine flowObs_cons (fun W hW => flowOb_nil ?_) ?_
    · go_wp2
      exact ⟨rfl, Aft.refl W⟩
    refine flowObs_cons (fun W hW => flowOb_cons fun v0 h0 => flowOb_cons fun v1 h1 => flowOb_cons fun v2 h2 => flowOb_cons fun v3 h3 => flowOb_nil ?_) ?_
    · obtain rfl := h0
      obtain rfl := h1
      obtain rfl := h2
      obtain rfl := h3
      go_wp2_with fail
      refine (bent_any 62 62 at_ how by_ _ L1 6 W (HS11.out.aft hW) (by omega) HG1.out (by omega) Kat.out Khow.out Kby.out).mono ?_
      rintro e W' ⟨W2, H2, v2, L2, rfl, hs2, hn2, hg2, hw2⟩
      have hs2k := hs2
      obtain ⟨a2, c2, R2, rfl, -⟩ := hs2
      go_wp2
      exact ⟨W2, H2, a2, c2, L2, rfl, hs2k, by omega, hg2.mono (by omega)⟩
    refine flowObs_cons (fun W hW => flowOb_cons fun v0 h0 => flowOb_cons fun v1 h1 => flowOb_nil ?_) flowObs_nil
    · obtain rfl := h0
      obtain ⟨W2, H2, a2, c2, L2, rfl, hf2⟩ := h1
      go_wp2
      exact ⟨⟨_, rfl, two_new (L0 := L1) ⟨HS11.out.aft hW, by omega, HG1.out.mono (by omega)⟩ hf2⟩, (Aft.refl W).alloc _⟩
  intro Y hY
  iterate 6 refine flowEnd_cons fun _ _ => ?_
  refine flowEnd_cons fun v5 h5 => flowEnd_nil ?_
  obtain ⟨g, rfl, hfigs⟩ := h5
  have HF := hid hfigs
  have hwY : Aft w Y := (hw0.trans hw01).trans hY
  have HB9Y := hid (fun X hX => HB9.out X ((hw01.trans hY).trans hX) : ∀ X, Aft Y X → X.cell? ⟨n9, 0, none⟩ = some (.int .i64 xk) ∧ X.cell? ⟨n9, 1, none⟩ = some (.int .i64 xt) ∧ X.cell? ⟨n9, 2, none⟩ = some (.int .i64 xa) ∧ X.cell? ⟨n9, 3, none⟩ = some (.int .i64 xb))
  clear hfigs HB9 HB11 HS11 hw01 hw0
  go_wp2
  go_loopw [13] (fun i wr => ∃ r : Nat, r ≤ 2 ∧ i = .int .i64 r ∧ Aft Y wr) (fun i _ => 2 - (intOf i).toNat)
  case atStart => exact ⟨0, by omega, rfl, Aft.refl _⟩
  case round =>
    obtain ⟨r, hr, rfl, hwr⟩ := hrel
    rcases Nat.lt_or_ge r 2 with hltr | hger
    · have hri : (r : Int) < 2 := by omega
      obtain ⟨wo, hwo⟩ : ∃ x, x = wr := ⟨wr, rfl⟩
      subst hwo
      obtain ⟨Wf, Hf, af, cf, L, f0, f1, f2, hfig⟩ := (HF.out.aft hwr) r hltr
      have HSf := hid hfig.1
      have HGf := hid (hfig.2.2.mono (show 30 ≤ 900 by omega))
      have hLn := hfig.2.1
      clear hfig
      have F0 := hid f0
      have F1 := hid f1
      have F2 := hid f2
      clear f0 f1
      obtain ⟨q3, hq3, bq3⟩ : ∃ k : Nat, aroundI by_ 3 = (k : Int) ∧ k < 3 := around_n by_ 3 (by omega)
      obtain ⟨q9, hq9, bq9⟩ : ∃ k : Nat, aroundI by_ 9 = (k : Int) ∧ k < 9 := around_n by_ 9 (by omega)
      obtain ⟨qa, hqa, bqa⟩ : ∃ k : Nat, aroundI at_ ((L.length : Int) + 1) = (k : Int) ∧ k < L.length + 1 := around_n at_ (L.length + 1) (by omega)
      obtain ⟨qb, hqb, bqb⟩ : ∃ k : Nat, aroundI (by_.tdiv 3) ((L.length : Int) + 1) = (k : Int) ∧ k < L.length + 1 := around_n (by_.tdiv 3) (L.length + 1) (by omega)
      obtain ⟨qc, hqc, bqc⟩ : ∃ k : Nat, aroundI by_ ((L.length : Int) + 1 + 1) = (k : Int) ∧ k < L.length + 1 + 1 := around_n by_ (L.length + 1 + 1) (by omega)
      obtain ⟨qd, hqd, bqd⟩ : ∃ k : Nat, aroundI at_ ((L.length : Int) + 1 + 1) = (k : Int) ∧ k < L.length + 1 + 1 := around_n at_ (L.length + 1 + 1) (by omega)
      have hd3 := tdiv_small hb1 hb2 3 (by omega)
      go_upto_region 7 with fail
      clear f2
      refine wp_region_flow _ (Aft.refl _) [FV.is (.agg #[.int .i64 xk, .int .i64 xt, .int .i64 xa, .int .i64 xb]), FV.is (.int .i64 by_), FV.is (.int .i64 q3), FV.is (.int .i64 (2 + (q3 : Int))), FV.is (.int .i64 at_), FV.is (.int .i64 ((L.length : Int) + 1)), FV.is (.int .i64 qa), FV.is (.int .i64 by_), FV.is (.int .i64 (by_.tdiv 3)), FV.is (.int .i64 ((L.length : Int) + 1)), FV.is (.int .i64 qb), FV.is (.int .i64 how), FV.is (.agg #[.int .i64 (2 + (q3 : Int)), .int .i64 how, .int .i64 qa, .int .i64 qb]), FV.is (.int .i64 by_), FV.is (.int .i64 q9), FV.is (.int .i64 ((q9 : Int) - 1)), FV.is (.agg #[.int .i64 ((q9 : Int) - 1), .int .i64 0, .int .i64 0, .int .i64 0]), FV.is (.int .i64 by_), FV.is (.int .i64 ((L.length : Int) + 1)), FV.is (.int .i64 ((L.length : Int) + 1 + 1)), FV.is (.int .i64 qc), FV.is (.int .i64 ((qc : Int) - 1)), FV.is (.int .i64 at_), FV.is (.int .i64 ((L.length : Int) + 1)), FV.is (.int .i64 ((L.length : Int) + 1 + 1)), FV.is (.int .i64 qd), FV.is (.int .i64 ((qd : Int) - 1)), FV.is (.agg #[.int .i64 3, .int .i64 0, .int .i64 ((qc : Int) - 1), .int .i64 ((qd : Int) - 1)]), fvFacts]
        [(0, 41), (1, 42), (2, 43), (3, 44), (4, 45), (5, 46), (6, 47), (7, 48), (8, 49), (9, 50), (10, 51), (11, 52), (12, 53), (13, 54), (14, 55), (15, 56), (16, 57), (17, 58), (18, 59), (19, 60), (20, 61), (21, 62), (22, 63), (23, 64), (24, 65), (25, 66), (26, 67), (27, 68), (28, 69)]
        [[], [], [(1, 42)], [(2, 43)], [], [], [(4, 45), (5, 46)], [], [(7, 48)], [], [(8, 49), (9, 50)], [], [(3, 44), (6, 47), (10, 51), (11, 52)], [], [(13, 54)], [(14, 55)], [(15, 56)], [], [], [(18, 59)], [(17, 58), (19, 60)], [(20, 61)], [], [], [(23, 64)], [(22, 63), (24, 65)], [(25, 66)], [(21, 62), (26, 67)], [(0, 41), (12, 53), (16, 57), (27, 68)]] (by kernel_rfl) (by kernel_rfl) ?_ ?_
      · refine flowObs_cons (fun W hW => flowOb_nil ?_) ?_
        · obtain ⟨x0, x1, x2, x3⟩ := HB9Y.out W (hwr.trans hW)
          go_wp2
          exact ⟨rfl, Aft.refl W⟩
        refine flowObs_cons (fun W hW => flowOb_nil ?_) ?_
        · go_wp2
          exact ⟨rfl, Aft.refl W⟩
        refine flowObs_cons (fun W hW => flowOb_cons fun v0 h0 => flowOb_nil ?_) ?_
        · obtain rfl := h0
          go_wp2_with fail
          refine (around_any by_ 3 W (show -9223372036854775808 ≤ by_ ∧ by_ ≤ 9223372036854775807 from ⟨hb1, hb2⟩).1 (show -9223372036854775808 ≤ by_ ∧ by_ ≤ 9223372036854775807 from ⟨hb1, hb2⟩).2).mono ?_
          rintro e W' ⟨rfl, rfl⟩
          rw [hq3]
          go_wp2
          first | exact ⟨rfl, Aft.refl W⟩ | exact rfl
        refine flowObs_cons (fun W hW => flowOb_cons fun v0 h0 => flowOb_nil ?_) ?_
        · obtain rfl := h0
          go_wp2
          exact ⟨rfl, Aft.refl W⟩
        refine flowObs_cons (fun W hW => flowOb_nil ?_) ?_
        · go_wp2
          exact ⟨rfl, Aft.refl W⟩
        refine flowObs_cons (fun W hW => flowOb_nil ?_) ?_
        · go_wp2
          exact ⟨rfl, Aft.refl W⟩
        refine flowObs_cons (fun W hW => flowOb_cons fun v0 h0 => flowOb_cons fun v1 h1 => flowOb_nil ?_) ?_
        · obtain rfl := h0
          obtain rfl := h1
          go_wp2_with fail
          refine (around_any at_ ((L.length : Int) + 1) W (show -9223372036854775808 ≤ at_ ∧ at_ ≤ 9223372036854775807 from ⟨ha1, ha2⟩).1 (show -9223372036854775808 ≤ at_ ∧ at_ ≤ 9223372036854775807 from ⟨ha1, ha2⟩).2).mono ?_
          rintro e W' ⟨rfl, rfl⟩
          rw [hqa]
          go_wp2
          first | exact ⟨rfl, Aft.refl W⟩ | exact rfl
        refine flowObs_cons (fun W hW => flowOb_nil ?_) ?_
        · go_wp2
          exact ⟨rfl, Aft.refl W⟩
        refine flowObs_cons (fun W hW => flowOb_cons fun v0 h0 => flowOb_nil ?_) ?_
        · obtain rfl := h0
          go_wp2
          exact ⟨rfl, Aft.refl W⟩
        refine flowObs_cons (fun W hW => flowOb_nil ?_) ?_
        · go_wp2
          exact ⟨rfl, Aft.refl W⟩
        refine flowObs_cons (fun W hW => flowOb_cons fun v0 h0 => flowOb_cons fun v1 h1 => flowOb_nil ?_) ?_
        · obtain rfl := h0
          obtain rfl := h1
          go_wp2_with fail
          refine (around_any (by_.tdiv 3) ((L.length : Int) + 1) W hd3.1 hd3.2).mono ?_
          rintro e W' ⟨rfl, rfl⟩
          rw [hqb]
          go_wp2
          first | exact ⟨rfl, Aft.refl W⟩ | exact rfl
        refine flowObs_cons (fun W hW => flowOb_nil ?_) ?_
        · go_wp2
          exact ⟨rfl, Aft.refl W⟩
        refine flowObs_cons (fun W hW => flowOb_cons fun v0 h0 => flowOb_cons fun v1 h1 => flowOb_cons fun v2 h2 => flowOb_cons fun v3 h3 => flowOb_nil ?_) ?_
        · obtain rfl := h0
          obtain rfl := h1
          obtain rfl := h2
          obtain rfl := h3
          go_wp2
          exact ⟨rfl, Aft.refl W⟩
        refine flowObs_cons (fun W hW => flowOb_nil ?_) ?_
        · go_wp2
          exact ⟨rfl, Aft.refl W⟩
        refine flowObs_cons (fun W hW => flowOb_cons fun v0 h0 => flowOb_nil ?_) ?_
        · obtain rfl := h0
          go_wp2_with fail
          refine (around_any by_ 9 W (show -9223372036854775808 ≤ by_ ∧ by_ ≤ 9223372036854775807 from ⟨hb1, hb2⟩).1 (show -9223372036854775808 ≤ by_ ∧ by_ ≤ 9223372036854775807 from ⟨hb1, hb2⟩).2).mono ?_
          rintro e W' ⟨rfl, rfl⟩
          rw [hq9]
          go_wp2
          first | exact ⟨rfl, Aft.refl W⟩ | exact rfl
        refine flowObs_cons (fun W hW => flowOb_cons fun v0 h0 => flowOb_nil ?_) ?_
        · obtain rfl := h0
          go_wp2
          exact ⟨rfl, Aft.refl W⟩
        refine flowObs_cons (fun W hW => flowOb_cons fun v0 h0 => flowOb_nil ?_) ?_
        · obtain rfl := h0
          go_wp2
          exact ⟨rfl, Aft.refl W⟩
        refine flowObs_cons (fun W hW => flowOb_nil ?_) ?_
        · go_wp2
          exact ⟨rfl, Aft.refl W⟩
        refine flowObs_cons (fun W hW => flowOb_nil ?_) ?_
        · go_wp2
          exact ⟨rfl, Aft.refl W⟩
        refine flowObs_cons (fun W hW => flowOb_cons fun v0 h0 => flowOb_nil ?_) ?_
        · obtain rfl := h0
          go_wp2
          exact ⟨rfl, Aft.refl W⟩
        refine flowObs_cons (fun W hW => flowOb_cons fun v0 h0 => flowOb_cons fun v1 h1 => flowOb_nil ?_) ?_
        · obtain rfl := h0
          obtain rfl := h1
          go_wp2_with fail
          refine (around_any by_ ((L.length : Int) + 1 + 1) W (show -9223372036854775808 ≤ by_ ∧ by_ ≤ 9223372036854775807 from ⟨hb1, hb2⟩).1 (show -9223372036854775808 ≤ by_ ∧ by_ ≤ 9223372036854775807 from ⟨hb1, hb2⟩).2).mono ?_
          rintro e W' ⟨rfl, rfl⟩
          rw [hqc]
          go_wp2
          first | exact ⟨rfl, Aft.refl W⟩ | exact rfl
        refine flowObs_cons (fun W hW => flowOb_cons fun v0 h0 => flowOb_nil ?_) ?_
        · obtain rfl := h0
          go_wp2
          exact ⟨rfl, Aft.refl W⟩
        refine flowObs_cons (fun W hW => flowOb_nil ?_) ?_
        · go_wp2
          exact ⟨rfl, Aft.refl W⟩
        refine flowObs_cons (fun W hW => flowOb_nil ?_) ?_
        · go_wp2
          exact ⟨rfl, Aft.refl W⟩
        refine flowObs_cons (fun W hW => flowOb_cons fun v0 h0 => flowOb_nil ?_) ?_
        · obtain rfl := h0
          go_wp2
          exact ⟨rfl, Aft.refl W⟩
        refine flowObs_cons (fun W hW => flowOb_cons fun v0 h0 => flowOb_cons fun v1 h1 => flowOb_nil ?_) ?_
        · obtain rfl := h0
          obtain rfl := h1
          go_wp2_with fail
          refine (around_any at_ ((L.length : Int) + 1 + 1) W (show -9223372036854775808 ≤ at_ ∧ at_ ≤ 9223372036854775807 from ⟨ha1, ha2⟩).1 (show -9223372036854775808 ≤ at_ ∧ at_ ≤ 9223372036854775807 from ⟨ha1, ha2⟩).2).mono ?_
          rintro e W' ⟨rfl, rfl⟩
          rw [hqd]
          go_wp2
          first | exact ⟨rfl, Aft.refl W⟩ | exact rfl
        refine flowObs_cons (fun W hW => flowOb_cons fun v0 h0 => flowOb_nil ?_) ?_
        · obtain rfl := h0
          go_wp2
          exact ⟨rfl, Aft.refl W⟩
        refine flowObs_cons (fun W hW => flowOb_cons fun v0 h0 => flowOb_cons fun v1 h1 => flowOb_nil ?_) ?_
        · obtain rfl := h0
          obtain rfl := h1
          go_wp2
          exact ⟨rfl, Aft.refl W⟩
        refine flowObs_cons (fun W hW => flowOb_cons fun v0 h0 => flowOb_cons fun v1 h1 => flowOb_cons fun v2 h2 => flowOb_cons fun v3 h3 => flowOb_nil ?_) flowObs_nil
        · obtain rfl := h0
          obtain rfl := h1
          obtain rfl := h2
          obtain rfl := h3
          go_wp2
          exact ⟨⟨_, rfl, facts_new Kx'.out (by unfold kOk; omega) (by unfold kOk; omega) (by unfold kOk; omega)⟩, (Aft.refl W).alloc _⟩
      intro Z hZ
      iterate 28 refine flowEnd_cons fun _ _ => ?_
      refine flowEnd_cons fun v6 h6 => flowEnd_nil ?_
      obtain ⟨gf, rfl, hfacts⟩ := h6
      have HFa := hid hfacts
      have hwZ := hwr.trans hZ
      have tr : ∀ {b o : Nat} {v : Value}, wo.cell? ⟨b, o, none⟩ = some v → Z.cell? ⟨b, o, none⟩ = some v := fun h => (hZ.cell (World.block_lt_of_cell? _ _ h)).trans h
      have F0Z := hid (tr F0.out)
      have F1Z := hid (tr F1.out)
      have F2Z := hid (tr F2.out)
      have HSZ := hid (HSf.out.aft hZ)
      clear tr F0 F1 F2 HSf hfacts hq3 hq9 hqa hqb hqc hqd hd3
      go_wp2
      go_loopw [16] (fun i wx => ∃ q : Nat, q ≤ 4 ∧ i = .int .i64 q ∧ Aft Z wx) (fun i _ => 4 - (intOf i).toNat)
      case atStart => exact ⟨0, by omega, rfl, Aft.refl _⟩
      case round =>
        obtain ⟨wx, hwxe⟩ : ∃ x, x = wr := ⟨wr, rfl⟩
        subst hwxe
        obtain ⟨q, hq, rfl, hwx⟩ := hrel
        have hwYx := hwZ.trans hwx
        rcases Nat.lt_or_ge q 4 with hltq | hgeq
        · have hqi : (q : Int) < 4 := by omega
          obtain ⟨kk, kt, ka, kb, p0, p1, p2, p3, hkk⟩ := (HFa.out.aft hwx) q hltq
          have HKK := hid hkk
          clear hkk
          have f0 := (hwx.cell (World.block_lt_of_cell? _ _ F0Z.out)).trans F0Z.out
          have f1 := (hwx.cell (World.block_lt_of_cell? _ _ F1Z.out)).trans F1Z.out
          have f2 := (hwx.cell (World.block_lt_of_cell? _ _ F2Z.out)).trans F2Z.out
          have HSx := hid (HSZ.out.aft hwx)
          obtain ⟨⟨ob, oe⟩, hoo⟩ : ∃ o, holdsZ Wf Hf L kk ka kb = o := ⟨_, rfl⟩
          have HOO := hid hoo
          clear hoo
          go_upto_region 11 with fail
          refine wp_region_flow _ (Aft.refl _) [FV.is (.slice (some ⟨g, 0, none⟩) 2 2), FV.is (.int .i64 r), FV.is (.pointer (some ⟨g, r * 3, none⟩)), FV.is (.agg #[.int .i64 Wf, .int .i64 Hf, .slice af L.length cf]), FV.is (.slice (some ⟨gf, 0, none⟩) 4 4), FV.is (.int .i64 q), FV.is (.pointer (some ⟨gf, q * 4, none⟩)), FV.is (.agg #[.int .i64 kk, .int .i64 kt, .int .i64 ka, .int .i64 kb]), FV.is (.tuple #[.bool ob, .int .i64 oe]), FV.is (.tuple #[.bool ob, .int .i64 oe]), FV.is (.bool ob), FV.is (.int .i64 oe), FV.is (.bool ob), FV.is (.int .i64 oe)]
            [(0, 77), (1, 78), (2, 79), (3, 80), (4, 81), (5, 82), (6, 83), (7, 84), (8, 85), (9, 76), (10, 86), (11, 87), (12, 17), (13, 18)]
            [[], [], [(0, 77), (1, 78)], [(2, 79)], [], [], [(4, 81), (5, 82)], [(6, 83)], [(3, 80), (7, 84)], [(8, 85)], [(9, 76)], [(9, 76)], [(10, 86)], [(11, 87)]] (by kernel_rfl) (by kernel_rfl) ?_ ?_
          · refine flowObs_cons (fun W hW => flowOb_nil ?_) ?_
            · go_wp2
              exact ⟨rfl, Aft.refl W⟩
            refine flowObs_cons (fun W hW => flowOb_nil ?_) ?_
            · go_wp2
              exact ⟨rfl, Aft.refl W⟩
            refine flowObs_cons (fun W hW => flowOb_cons fun v0 h0 => flowOb_cons fun v1 h1 => flowOb_nil ?_) ?_
            · obtain rfl := h0
              obtain rfl := h1
              go_wp2
              exact ⟨rfl, Aft.refl W⟩
            refine flowObs_cons (fun W hW => flowOb_cons fun v0 h0 => flowOb_nil ?_) ?_
            · obtain rfl := h0
              have f0W := (hW.cell (World.block_lt_of_cell? _ _ f0)).trans f0
              have f1W := (hW.cell (World.block_lt_of_cell? _ _ f1)).trans f1
              have f2W := (hW.cell (World.block_lt_of_cell? _ _ f2)).trans f2
              have p0W := (hW.cell (World.block_lt_of_cell? _ _ p0)).trans p0
              have p1W := (hW.cell (World.block_lt_of_cell? _ _ p1)).trans p1
              have p2W := (hW.cell (World.block_lt_of_cell? _ _ p2)).trans p2
              have p3W := (hW.cell (World.block_lt_of_cell? _ _ p3)).trans p3
              go_wp2
              exact ⟨rfl, Aft.refl W⟩
            refine flowObs_cons (fun W hW => flowOb_nil ?_) ?_
            · go_wp2
              exact ⟨rfl, Aft.refl W⟩
            refine flowObs_cons (fun W hW => flowOb_nil ?_) ?_
            · go_wp2
              exact ⟨rfl, Aft.refl W⟩
            refine flowObs_cons (fun W hW => flowOb_cons fun v0 h0 => flowOb_cons fun v1 h1 => flowOb_nil ?_) ?_
            · obtain rfl := h0
              obtain rfl := h1
              go_wp2
              exact ⟨rfl, Aft.refl W⟩
            refine flowObs_cons (fun W hW => flowOb_cons fun v0 h0 => flowOb_nil ?_) ?_
            · obtain rfl := h0
              have f0W := (hW.cell (World.block_lt_of_cell? _ _ f0)).trans f0
              have f1W := (hW.cell (World.block_lt_of_cell? _ _ f1)).trans f1
              have f2W := (hW.cell (World.block_lt_of_cell? _ _ f2)).trans f2
              have p0W := (hW.cell (World.block_lt_of_cell? _ _ p0)).trans p0
              have p1W := (hW.cell (World.block_lt_of_cell? _ _ p1)).trans p1
              have p2W := (hW.cell (World.block_lt_of_cell? _ _ p2)).trans p2
              have p3W := (hW.cell (World.block_lt_of_cell? _ _ p3)).trans p3
              go_wp2
              exact ⟨rfl, Aft.refl W⟩
            refine flowObs_cons (fun W hW => flowOb_cons fun v0 h0 => flowOb_cons fun v1 h1 => flowOb_nil ?_) ?_
            · obtain rfl := h0
              obtain rfl := h1
              go_wp2_with fail
              refine (holds_any Wf Hf kk kt ka kb _ L W (HSx.out.aft hW) HGf.out HKK.out).mono ?_
              rintro e W' ⟨rfl, hw'⟩
              rw [HOO.out]
              go_wp2
              exact rfl
            refine flowObs_cons (fun W hW => flowOb_cons fun v0 h0 => flowOb_nil ?_) ?_
            · obtain rfl := h0
              go_wp2
              exact ⟨rfl, Aft.refl W⟩
            refine flowObs_cons (fun W hW => flowOb_cons fun v0 h0 => flowOb_nil ?_) ?_
            · obtain rfl := h0
              go_wp2
              exact ⟨rfl, Aft.refl W⟩
            refine flowObs_cons (fun W hW => flowOb_cons fun v0 h0 => flowOb_nil ?_) ?_
            · obtain rfl := h0
              go_wp2
              exact ⟨rfl, Aft.refl W⟩
            refine flowObs_cons (fun W hW => flowOb_cons fun v0 h0 => flowOb_nil ?_) ?_
            · obtain rfl := h0
              go_wp2
              exact ⟨rfl, Aft.refl W⟩
            refine flowObs_cons (fun W hW => flowOb_cons fun v0 h0 => flowOb_nil ?_) flowObs_nil
            · obtain rfl := h0
              go_wp2
              exact ⟨rfl, Aft.refl W⟩
          intro U hU
          iterate 14 refine flowEnd_cons fun _ h => ?_; obtain rfl := h
          refine flowEnd_nil ?_
          have tr : ∀ {b o : Nat} {v : Value}, wx.cell? ⟨b, o, none⟩ = some v → U.cell? ⟨b, o, none⟩ = some v := fun h => (hU.cell (World.block_lt_of_cell? _ _ h)).trans h
          replace f0 := tr f0
          replace f1 := tr f1
          replace f2 := tr f2
          replace p0 := tr p0
          replace p1 := tr p1
          replace p2 := tr p2
          replace p3 := tr p3
          clear tr
          have HSU := hid (HSx.out.aft hU)
          go_upto_region 12 with fail
          refine wp_region_flow _ (Aft.refl _) [FV.is (.slice (some ⟨g, 0, none⟩) 2 2), FV.is (.int .i64 r), FV.is (.pointer (some ⟨g, r * 3, none⟩)), FV.is (.agg #[.int .i64 Wf, .int .i64 Hf, .slice af L.length cf]), FV.is (.slice (some ⟨gf, 0, none⟩) 4 4), FV.is (.int .i64 q), FV.is (.pointer (some ⟨gf, q * 4, none⟩)), FV.is (.agg #[.int .i64 kk, .int .i64 kt, .int .i64 ka, .int .i64 kb]), FV.is (.tuple #[.bool ob, .int .i64 oe]), FV.is (.tuple #[.bool ob, .int .i64 oe]), FV.is (.bool ob), FV.is (.int .i64 oe), FV.is (.bool ob), FV.is (.int .i64 oe)]
            [(0, 89), (1, 90), (2, 91), (3, 92), (4, 93), (5, 94), (6, 95), (7, 96), (8, 97), (9, 88), (10, 98), (11, 99), (12, 19), (13, 20)]
            [[], [], [(0, 89), (1, 90)], [(2, 91)], [], [], [(4, 93), (5, 94)], [(6, 95)], [(3, 92), (7, 96)], [(8, 97)], [(9, 88)], [(9, 88)], [(10, 98)], [(11, 99)]] (by kernel_rfl) (by kernel_rfl) ?_ ?_
          · refine flowObs_cons (fun W hW => flowOb_nil ?_) ?_
            · go_wp2
              exact ⟨rfl, Aft.refl W⟩
            refine flowObs_cons (fun W hW => flowOb_nil ?_) ?_
            · go_wp2
              exact ⟨rfl, Aft.refl W⟩
            refine flowObs_cons (fun W hW => flowOb_cons fun v0 h0 => flowOb_cons fun v1 h1 => flowOb_nil ?_) ?_
            · obtain rfl := h0
              obtain rfl := h1
              go_wp2
              exact ⟨rfl, Aft.refl W⟩
            refine flowObs_cons (fun W hW => flowOb_cons fun v0 h0 => flowOb_nil ?_) ?_
            · obtain rfl := h0
              have f0W := (hW.cell (World.block_lt_of_cell? _ _ f0)).trans f0
              have f1W := (hW.cell (World.block_lt_of_cell? _ _ f1)).trans f1
              have f2W := (hW.cell (World.block_lt_of_cell? _ _ f2)).trans f2
              have p0W := (hW.cell (World.block_lt_of_cell? _ _ p0)).trans p0
              have p1W := (hW.cell (World.block_lt_of_cell? _ _ p1)).trans p1
              have p2W := (hW.cell (World.block_lt_of_cell? _ _ p2)).trans p2
              have p3W := (hW.cell (World.block_lt_of_cell? _ _ p3)).trans p3
              go_wp2
              exact ⟨rfl, Aft.refl W⟩
            refine flowObs_cons (fun W hW => flowOb_nil ?_) ?_
            · go_wp2
              exact ⟨rfl, Aft.refl W⟩
            refine flowObs_cons (fun W hW => flowOb_nil ?_) ?_
            · go_wp2
              exact ⟨rfl, Aft.refl W⟩
            refine flowObs_cons (fun W hW => flowOb_cons fun v0 h0 => flowOb_cons fun v1 h1 => flowOb_nil ?_) ?_
            · obtain rfl := h0
              obtain rfl := h1
              go_wp2
              exact ⟨rfl, Aft.refl W⟩
            refine flowObs_cons (fun W hW => flowOb_cons fun v0 h0 => flowOb_nil ?_) ?_
            · obtain rfl := h0
              have f0W := (hW.cell (World.block_lt_of_cell? _ _ f0)).trans f0
              have f1W := (hW.cell (World.block_lt_of_cell? _ _ f1)).trans f1
              have f2W := (hW.cell (World.block_lt_of_cell? _ _ f2)).trans f2
              have p0W := (hW.cell (World.block_lt_of_cell? _ _ p0)).trans p0
              have p1W := (hW.cell (World.block_lt_of_cell? _ _ p1)).trans p1
              have p2W := (hW.cell (World.block_lt_of_cell? _ _ p2)).trans p2
              have p3W := (hW.cell (World.block_lt_of_cell? _ _ p3)).trans p3
              go_wp2
              exact ⟨rfl, Aft.refl W⟩
            refine flowObs_cons (fun W hW => flowOb_cons fun v0 h0 => flowOb_cons fun v1 h1 => flowOb_nil ?_) ?_
            · obtain rfl := h0
              obtain rfl := h1
              go_wp2_with fail
              refine (rholds_any Wf Hf kk kt ka kb _ L W (HSU.out.aft hW) HGf.out).mono ?_
              rintro e W' ⟨rfl, hw'⟩
              rw [HOO.out]
              go_wp2
              exact rfl
            refine flowObs_cons (fun W hW => flowOb_cons fun v0 h0 => flowOb_nil ?_) ?_
            · obtain rfl := h0
              go_wp2
              exact ⟨rfl, Aft.refl W⟩
            refine flowObs_cons (fun W hW => flowOb_cons fun v0 h0 => flowOb_nil ?_) ?_
            · obtain rfl := h0
              go_wp2
              exact ⟨rfl, Aft.refl W⟩
            refine flowObs_cons (fun W hW => flowOb_cons fun v0 h0 => flowOb_nil ?_) ?_
            · obtain rfl := h0
              go_wp2
              exact ⟨rfl, Aft.refl W⟩
            refine flowObs_cons (fun W hW => flowOb_cons fun v0 h0 => flowOb_nil ?_) ?_
            · obtain rfl := h0
              go_wp2
              exact ⟨rfl, Aft.refl W⟩
            refine flowObs_cons (fun W hW => flowOb_cons fun v0 h0 => flowOb_nil ?_) flowObs_nil
            · obtain rfl := h0
              go_wp2
              exact ⟨rfl, Aft.refl W⟩
          intro V hV
          iterate 14 refine flowEnd_cons fun _ h => ?_; obtain rfl := h
          refine flowEnd_nil ?_
          have hfin := (hwx.trans hU).trans hV
          clear f0 f1 f2 p0 p1 p2 p3
          go_wp2
          go_roundw
          case rel => exact ⟨q + 1, by omega, by go_num, hfin⟩
          case measure => simp only [intOf]; omega
        · obtain rfl : q = 4 := by omega
          go_wp2
          go_roundw
          case rel => exact ⟨r + 1, by omega, by go_num, hwYx⟩
          case measure => simp only [intOf]; omega
    · obtain rfl : r = 2 := by omega
      go_wp2_with fail
      refine (lives18 _).mono ?_
      rintro e w6 ⟨rfl, hw6⟩
      go_wp2
      go_ret
      exact ⟨rfl, (hwY.trans hwr).trans hw6⟩
end Go.Proofs.Ytokdclbfjlnnjaa
