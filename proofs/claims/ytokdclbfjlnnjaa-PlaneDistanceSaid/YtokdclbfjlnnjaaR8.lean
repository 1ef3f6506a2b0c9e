/- Contracts at shapes with small coordinates; the examples of the section (lives). -/
import Derived.Test.YtokdclbfjlnnjaaR2
import Derived.Test.YtokdclbfjlnnjaaR6
import Derived.Test.YtokdclbfjlnnjaaR7
namespace Go.Proofs.Ytokdclbfjlnnjaa
open Go.RowKit Go.BigFrame

/-- A shape of one to twelve points in one square. -/
structure Sm (ox oy : Int) (k : Int) (l : List Pt) : Prop where
  ne : l ≠ []
  len : l.length ≤ 12
  dot : k = 0 → l.length = 1
  o : (-1000 ≤ ox ∧ ox ≤ 1000) ∧ (-1000 ≤ oy ∧ oy ≤ 1000)
  box : ∀ p ∈ l, (ox ≤ p.1 ∧ p.1 ≤ ox + 60) ∧ (oy ≤ p.2 ∧ p.2 ≤ oy + 60)
theorem Sm.sc {ox oy k : Int} {l : List Pt} (h : Sm ox oy k l) : ScL l := fun p hp => by have := h.box p hp; have := h.o; unfold Sc; omega
theorem Sm.near {ox oy k : Int} {l : List Pt} (h : Sm ox oy k l) (j : Nat) : Near1 ox oy (ptZ l j) := by have := h.box _ (ptZ_mem h.ne j); unfold Near1; omega
theorem Sm.le {ox oy k : Int} {l : List Pt} (h : Sm ox oy k l) : l.length ≤ 1000 := by have := h.len; omega
theorem sm_dot (x y : Int) (hx : 0 ≤ x ∧ x ≤ 60 := by omega) (hy : 0 ≤ y ∧ y ≤ 60 := by omega) : Sm 0 0 0 [(x, y)] :=
  ⟨by simp, by simp, by simp, by omega, by intro p hp; simp at hp; subst hp; simp only; omega⟩
theorem gen_sm {k : Int} {l : List Pt} (h : Gen k l) : Sm 0 0 k l := by
  obtain ⟨h1, h2, h3⟩ := gen_pts h
  refine ⟨fun e => by subst e; simp at h2, by omega, fun hk => ?_, by omega, fun p hp => by have := h1 p hp; omega⟩
  rcases h with ⟨_, x, y, rfl, _⟩ | ⟨rfl, _⟩ | ⟨rfl, _⟩ | ⟨rfl, _⟩ | ⟨rfl, _⟩
  · rfl
  all_goals exact absurd hk (by decide)

section
variable {ka kb ox oy ox' oy' : Int} {va vb : Value} {la lb : List Pt}
theorem inside_sm {o : Bool} (h : insideZ ka la kb lb = o) (w : World) (hla : Prs w va la) (hlb : Prs w vb lb) (ha : Sm ox oy ka la) (hb : Sm ox' oy' kb lb) :
    Calls Try.prog 40 #[.agg #[.int .i64 ka, va], .agg #[.int .i64 kb, vb]] w fun e w' => e = .returned (.bool o) ∧ Aft w w' := by rw [← h]; exact inside_any ka kb va vb la lb w hla hlb ha.le hb.le ha.sc hb.sc
theorem left_sm {o : Bool} (h : leftZ la lb = o) (w : World) (hla : Prs w va la) (hlb : Prs w vb lb) :
    Calls Try.prog 34 #[.agg #[.int .i64 ka, va], .agg #[.int .i64 kb, vb]] w fun e w' => e = .returned (.bool o) ∧ Aft w w' := by rw [← h]; exact left_any ka kb va vb la lb w hla hlb
theorem longer_sm {o : Bool} (h : longerZ ka la kb lb = o) (w : World) (hla : Prs w va la) (hlb : Prs w vb lb) (ha : Sm ox oy ka la) (hb : Sm ox' oy' kb lb) :
    Calls Try.prog 43 #[.agg #[.int .i64 ka, va], .agg #[.int .i64 kb, vb]] w fun e w' => e = .returned (.bool o) ∧ Aft w w' := by rw [← h]; exact longer_any ka kb va vb la lb w hla hlb ha.le hb.le ha.sc hb.sc
theorem near_sm {n d : Int} (h : nearZ ka la kb lb = (n, d)) (w : World) (hla : Prs w va la) (hlb : Prs w vb lb) (ha : Sm ox oy ka la) (hb : Sm ox oy kb lb) :
    Calls Try.prog 28 #[.agg #[.int .i64 ka, va], .agg #[.int .i64 kb, vb]] w fun e w' => e = .returned (.tuple #[.int .i64 n, .int .i64 d]) ∧ Aft w w' := by
  have := near_any ka kb va vb la lb ox oy w hla hlb ha.le hb.le ha.sc hb.sc ha.dot hb.dot ha.near hb.near
  rw [h] at this; exact this
theorem nearIs_sm {n d : Int} {o : Bool} (h : (decide ((nearZ ka la kb lb).1 = n) && decide ((nearZ ka la kb lb).2 = d)) = o) (w : World) (hla : Prs w va la) (hlb : Prs w vb lb) (ha : Sm ox oy ka la) (hb : Sm ox oy kb lb) :
    Calls Try.prog 29 #[.agg #[.int .i64 ka, va], .agg #[.int .i64 kb, vb], .int .i64 n, .int .i64 d] w fun e w' => e = .returned (.bool o) ∧ Aft w w' := by
  rw [← h]; exact nearIs_any ka kb n d va vb la lb ox oy w hla hlb ha.le hb.le ha.sc hb.sc ha.dot hb.dot ha.near hb.near
theorem length_sm {n : Int} (h : lengthZ ka la = n) (w : World) (hla : Prs w va la) (ha : Sm ox oy ka la) :
    Calls Try.prog 37 #[.agg #[.int .i64 ka, va]] w fun e w' => e = .returned (.int .i64 n) ∧ Aft w w' := by rw [← h]; exact length_any ka va la w hla ha.le ha.sc
theorem simple_sm {o : Bool} (h : simpleZ ka la = o) (w : World) (hla : Prs w va la) (ha : Sm ox oy ka la) :
    Calls Try.prog 51 #[.agg #[.int .i64 ka, va]] w fun e w' => e = .returned (.bool o) ∧ Aft w w' := by rw [← h]; exact simple_any ka va la w hla ha.le ha.sc
theorem box_sm {x y z u : Int} (h : boxZ la = ((x, y), (z, u))) (w : World) (hla : Prs w va la) :
    Calls Try.prog 33 #[.agg #[.int .i64 ka, va]] w fun e w' => e = .returned (.tuple #[.agg #[.int .i64 x, .int .i64 y], .agg #[.int .i64 z, .int .i64 u]]) ∧ Aft w w' := by
  have := box_any ka va la w hla
  rw [h] at this; exact this
theorem rinside_sm {o : Bool} (h : rinsideZ ka la kb lb = o) (w : World) (hla : Prs w va la) (hlb : Prs w vb lb) (ha : Sm ox oy ka la) (hb : Sm ox' oy' kb lb) :
    Calls Try.prog 41 #[.agg #[.int .i64 ka, va], .agg #[.int .i64 kb, vb]] w fun e w' => e = .returned (.bool o) ∧ Aft w w' := by rw [← h]; exact rinside_any ka kb va vb la lb w hla hlb ha.le hb.le ha.sc hb.sc
theorem rleft_sm {o : Bool} (h : rleftZ la lb = o) (w : World) (hla : Prs w va la) (hlb : Prs w vb lb) :
    Calls Try.prog 42 #[.agg #[.int .i64 ka, va], .agg #[.int .i64 kb, vb]] w fun e w' => e = .returned (.bool o) ∧ Aft w w' := by rw [← h]; exact rleft_any ka kb va vb la lb w hla hlb
theorem rlonger_sm {o : Bool} (h : longerZ ka la kb lb = o) (w : World) (hla : Prs w va la) (hlb : Prs w vb lb) (ha : Sm ox oy ka la) (hb : Sm ox' oy' kb lb) :
    Calls Try.prog 44 #[.agg #[.int .i64 ka, va], .agg #[.int .i64 kb, vb]] w fun e w' => e = .returned (.bool o) ∧ Aft w w' := by rw [← h]; exact rlonger_any ka kb va vb la lb w hla hlb ha.le hb.le ha.sc hb.sc
theorem rnear_sm {n d : Int} (h : nearZ ka la kb lb = (n, d)) (w : World) (hla : Prs w va la) (hlb : Prs w vb lb) (ha : Sm ox oy ka la) (hb : Sm ox oy kb lb) :
    Calls Try.prog 39 #[.agg #[.int .i64 ka, va], .agg #[.int .i64 kb, vb]] w fun e w' => e = .returned (.tuple #[.int .i64 n, .int .i64 d]) ∧ Aft w w' := by
  have := rnear_any ka kb va vb la lb ox oy w hla hlb ha.le hb.le ha.sc hb.sc ha.dot hb.dot ha.near hb.near
  rw [h] at this; exact this
theorem rlength_sm {n : Int} (h : lengthZ ka la = n) (w : World) (hla : Prs w va la) (ha : Sm ox oy ka la) :
    Calls Try.prog 38 #[.agg #[.int .i64 ka, va]] w fun e w' => e = .returned (.int .i64 n) ∧ Aft w w' := by rw [← h]; exact rlength_any ka va la w hla ha.le ha.sc
theorem rbox_sm {x y z u : Int} (h : boxZ la = ((x, y), (z, u))) (w : World) (hla : Prs w va la) :
    Calls Try.prog 36 #[.agg #[.int .i64 ka, va]] w fun e w' => e = .returned (.tuple #[.agg #[.int .i64 x, .int .i64 y], .agg #[.int .i64 z, .int .i64 u]]) ∧ Aft w w' := by
  have := rbox_any ka va la w hla
  rw [h] at this; exact this
end

/-- A shape that is written out, in a box. -/
theorem shape_box (W : World) (cs : Array Value) (k : Int) (l : List Pt) (m : Nat) (hcs : cs.toList = prs l) (hln : m = l.length) (ok : okP l) (hs : l.length ≤ 1000) :
    ∃ W', (W.alloc (.cells cs 57)).alloc (.cells #[.int .i64 k, .slice (some ⟨W.heap.size, 0, none⟩) m m] 51) = W' ∧ Aft W W' ∧ W'.heap.size = W.heap.size + 2 ∧ ShBox W' (W.heap.size + 1) k (.slice (some ⟨W.heap.size, 0, none⟩) m m) l := by
  have h := box_cells W cs #[.int .i64 k, .slice (some ⟨W.heap.size, 0, none⟩) m m] 57 51 _ (Aft.refl _)
  have hr := Rd.new (w := W) (cs := cs) (e := 57)
  rw [hcs] at hr
  subst hln
  exact ⟨_, rfl, ((Aft.refl W).alloc _).alloc _, by simp, h.2 0 _ rfl, h.2 1 _ rfl, ⟨_, _, rfl, rfl, hr.aft ((Aft.refl _).alloc _), ok, Nat.le_refl _, (fun h => by cases h), by omega⟩⟩
def fvDot (x y : Int) : FV := ⟨fun v W => ∃ vp, v = .agg #[.int .i64 0, vp] ∧ Prs W vp [(x, y)], fun _ _ _ ⟨vp, h1, h2⟩ hw => ⟨vp, h1, h2.aft hw⟩⟩

set_option maxRecDepth 100000 in
set_option maxHeartbeats 16000000 in
theorem lives18 (w : World) : Calls Try.prog 35 #[] w fun e w' => e = .returned (.bool true) ∧ Aft w w' := by
  have sm1 : Sm 0 0 2 [(0, 0), (10, 0), (10, 10), (0, 10)] := ⟨by simp, by simp, by simp, by omega, by intro p hp; simp at hp; rcases hp with rfl | rfl | rfl | rfl <;> simp⟩
  have sm2 : Sm 0 0 2 [(2, 2), (6, 2), (2, 6)] := ⟨by simp, by simp, by simp, by omega, by intro p hp; simp at hp; rcases hp with rfl | rfl | rfl <;> simp⟩
  have sm3 : Sm 0 0 1 [(12, 0), (15, 4)] := ⟨by simp, by simp, by simp, by omega, by intro p hp; simp at hp; rcases hp with rfl | rfl <;> simp⟩
  have sm4 : Sm 0 0 0 [(4, 4)] := sm_dot 4 4
  have ok : ∀ {k : Int} {l : List Pt}, Sm 0 0 k l → okP l := fun h => okP_small fun p hp => by have := h.box p hp; omega
  go_enter Try.func35, Try.ntmps35
  go_upto_region 2 with fail
  obtain ⟨W1, e1, hw1, hz1, g1⟩ := shape_box w #[.int .i64 0, .int .i64 0, .int .i64 10, .int .i64 0, .int .i64 10, .int .i64 10, .int .i64 0, .int .i64 10] 2 _ 4 rfl rfl (ok sm1) (by simp)
  rw [e1]
  clear e1
  obtain ⟨n0, hn0⟩ : ∃ n, w.heap.size = n := ⟨_, rfl⟩
  rw [hn0] at hz1 g1 ⊢
  go_upto_region 3 with fail
  obtain ⟨W2, e2, hw2, hz2, g2⟩ := shape_box W1 #[.int .i64 2, .int .i64 2, .int .i64 6, .int .i64 2, .int .i64 2, .int .i64 6] 2 _ 3 rfl rfl (ok sm2) (by simp)
  rw [hz1] at e2 g2 hz2
  rw [e2]
  clear e2
  obtain ⟨b2, hb2⟩ : ∃ b, n0 + 2 + 1 = b := ⟨_, rfl⟩
  rw [hb2] at g2 ⊢
  replace hz2 : W2.heap.size = n0 + 4 := hz2
  go_upto_region 4 with fail
  obtain ⟨W3, e3, hw3, hz3, g3⟩ := shape_box W2 #[.int .i64 12, .int .i64 0, .int .i64 15, .int .i64 4] 1 _ 2 rfl rfl (ok sm3) (by simp)
  rw [hz2] at e3 g3 hz3
  rw [e3]
  clear e3
  obtain ⟨b3, hb3⟩ : ∃ b, n0 + 4 + 1 = b := ⟨_, rfl⟩
  rw [hb3] at g3 ⊢
  obtain ⟨b1, hb1⟩ : ∃ b, n0 + 1 = b := ⟨_, rfl⟩
  rw [hb1] at g1 ⊢
  clear hb1 hb2 hb3 hz1 hz2 hz3 hn0
  go_wp2_with fail
  refine (dot_any 4 4 W3 (by unfold Sc; omega) (by unfold Sc; omega)).mono ?_
  rintro e Wd ⟨vp, rfl, hpd, hwd⟩
  have hpd' := hpd
  obtain ⟨a4, c4, rfl, -⟩ := hpd'
  rw [show ([((4 : Int), (4 : Int))] : List Pt).length = 1 from rfl] at hpd ⊢
  go_upto_region 5 with fail
  obtain ⟨W4, e4, hw4, hlt4, hbox4⟩ := one_box Wd #[.int .i64 0, .slice a4 1 c4] 51
  rw [e4]
  clear e4
  have g4 : ShBox W4 Wd.heap.size 0 (.slice a4 1 c4) [(4, 4)] := ⟨hbox4.out W4 (Aft.refl _) 0 _ rfl, hbox4.out W4 (Aft.refl _) 1 _ rfl, hpd.aft hw4⟩
  obtain ⟨b4, hb4⟩ : ∃ b, Wd.heap.size = b := ⟨_, rfl⟩
  rw [hb4] at g4 ⊢
  clear hb4 hlt4 hbox4
  have hw34 := hwd.trans hw4
  have HF : Hid (∀ W, Aft W4 W → ShBox W b1 2 (.slice (some ⟨n0, 0, none⟩) 4 4) [(0, 0), (10, 0), (10, 10), (0, 10)] ∧ ShBox W b2 2 (.slice (some ⟨n0 + 2, 0, none⟩) 3 3) [(2, 2), (6, 2), (2, 6)] ∧ ShBox W b3 1 (.slice (some ⟨n0 + 4, 0, none⟩) 2 2) [(12, 0), (15, 4)] ∧ ShBox W b4 0 (.slice a4 1 c4) [(4, 4)]) :=
    hid fun W hW => ⟨g1.aft (((hw2.trans hw3).trans hw34).trans hW), g2.aft ((hw3.trans hw34).trans hW), g3.aft (hw34.trans hW), g4.aft hW⟩
  have hw04 := ((hw1.trans hw2).trans hw3).trans hw34
  clear g1 g2 g3 g4
  have hA := Aft.refl W4
  obtain ⟨⟨i1, i2, i3⟩, ⟨j1, j2, j3⟩, ⟨k1, k2, k3⟩, ⟨l1, l2, l3⟩⟩ := HF.out W4 hA
  have X1 : insideZ 2 [(2, 2), (6, 2), (2, 6)] 2 [(0, 0), (10, 0), (10, 10), (0, 10)] = true := by kernel_rfl
  have X2 : insideZ 1 [(12, 0), (15, 4)] 2 [(0, 0), (10, 0), (10, 10), (0, 10)] = false := by kernel_rfl
  have X3 : insideZ 0 [(4, 4)] 2 [(2, 2), (6, 2), (2, 6)] = false := by kernel_rfl
  have X4 : insideZ 0 [(4, 4)] 2 [(0, 0), (10, 0), (10, 10), (0, 10)] = true := by kernel_rfl
  have Y1 : leftZ [(0, 0), (10, 0), (10, 10), (0, 10)] [(12, 0), (15, 4)] = true := by kernel_rfl
  have Y2 : leftZ [(2, 2), (6, 2), (2, 6)] [(12, 0), (15, 4)] = true := by kernel_rfl
  have L1 : lengthZ 2 [(0, 0), (10, 0), (10, 10), (0, 10)] = 40 := by kernel_rfl
  have L2 : lengthZ 2 [(2, 2), (6, 2), (2, 6)] = 12 := by kernel_rfl
  have L3 : lengthZ 1 [(12, 0), (15, 4)] = 4 := by kernel_rfl
  have HX := hid (And.intro X1 (And.intro X2 (And.intro X3 (And.intro X4 (And.intro Y1 (And.intro Y2 (And.intro L1 (And.intro L2 L3))))))))
  clear X1 X2 X3 X4 Y1 Y2 L1 L2 L3
  go_wp2_with fail
  refine (inside_sm HX.out.1 _ j3 i3 sm2 sm1).mono ?_
  rintro e W5 ⟨rfl, hw5⟩
  replace hA := hA.trans hw5
  clear i1 i2 i3 j1 j2 j3 k1 k2 k3 l1 l2 l3 hw5
  obtain ⟨⟨i1, i2, i3⟩, ⟨j1, j2, j3⟩, ⟨k1, k2, k3⟩, ⟨l1, l2, l3⟩⟩ := HF.out W5 hA
  go_wp2_with fail
  refine (inside_sm HX.out.2.1 _ k3 i3 sm3 sm1).mono ?_
  rintro e W5 ⟨rfl, hw5⟩
  replace hA := hA.trans hw5
  clear i1 i2 i3 j1 j2 j3 k1 k2 k3 l1 l2 l3 hw5
  obtain ⟨⟨i1, i2, i3⟩, ⟨j1, j2, j3⟩, ⟨k1, k2, k3⟩, ⟨l1, l2, l3⟩⟩ := HF.out W5 hA
  go_wp2_with fail
  refine (inside_sm HX.out.2.2.1 _ l3 j3 sm4 sm2).mono ?_
  rintro e W5 ⟨rfl, hw5⟩
  replace hA := hA.trans hw5
  clear i1 i2 i3 j1 j2 j3 k1 k2 k3 l1 l2 l3 hw5
  obtain ⟨⟨i1, i2, i3⟩, ⟨j1, j2, j3⟩, ⟨k1, k2, k3⟩, ⟨l1, l2, l3⟩⟩ := HF.out W5 hA
  go_wp2_with fail
  refine (inside_sm HX.out.2.2.2.1 _ l3 i3 sm4 sm1).mono ?_
  rintro e W5 ⟨rfl, hw5⟩
  replace hA := hA.trans hw5
  clear i1 i2 i3 j1 j2 j3 k1 k2 k3 l1 l2 l3 hw5
  obtain ⟨⟨i1, i2, i3⟩, ⟨j1, j2, j3⟩, ⟨k1, k2, k3⟩, ⟨l1, l2, l3⟩⟩ := HF.out W5 hA
  go_wp2_with fail
  refine (left_sm HX.out.2.2.2.2.1 _ i3 k3).mono ?_
  rintro e W5 ⟨rfl, hw5⟩
  replace hA := hA.trans hw5
  clear i1 i2 i3 j1 j2 j3 k1 k2 k3 l1 l2 l3 hw5
  obtain ⟨⟨i1, i2, i3⟩, ⟨j1, j2, j3⟩, ⟨k1, k2, k3⟩, ⟨l1, l2, l3⟩⟩ := HF.out W5 hA
  go_wp2_with fail
  refine (left_sm HX.out.2.2.2.2.2.1 _ j3 k3).mono ?_
  rintro e W5 ⟨rfl, hw5⟩
  replace hA := hA.trans hw5
  clear i1 i2 i3 j1 j2 j3 k1 k2 k3 l1 l2 l3 hw5
  obtain ⟨⟨i1, i2, i3⟩, ⟨j1, j2, j3⟩, ⟨k1, k2, k3⟩, ⟨l1, l2, l3⟩⟩ := HF.out W5 hA
  go_wp2_with fail
  refine (length_sm HX.out.2.2.2.2.2.2.1 _ i3 sm1).mono ?_
  rintro e W5 ⟨rfl, hw5⟩
  replace hA := hA.trans hw5
  clear i1 i2 i3 j1 j2 j3 k1 k2 k3 l1 l2 l3 hw5
  obtain ⟨⟨i1, i2, i3⟩, ⟨j1, j2, j3⟩, ⟨k1, k2, k3⟩, ⟨l1, l2, l3⟩⟩ := HF.out W5 hA
  go_wp2_with fail
  refine (length_sm HX.out.2.2.2.2.2.2.2.1 _ j3 sm2).mono ?_
  rintro e W5 ⟨rfl, hw5⟩
  replace hA := hA.trans hw5
  clear i1 i2 i3 j1 j2 j3 k1 k2 k3 l1 l2 l3 hw5
  obtain ⟨⟨i1, i2, i3⟩, ⟨j1, j2, j3⟩, ⟨k1, k2, k3⟩, ⟨l1, l2, l3⟩⟩ := HF.out W5 hA
  go_wp2_with fail
  refine (length_sm HX.out.2.2.2.2.2.2.2.2 _ k3 sm3).mono ?_
  rintro e W5 ⟨rfl, hw5⟩
  replace hA := hA.trans hw5
  clear i1 i2 i3 j1 j2 j3 k1 k2 k3 l1 l2 l3 hw5
  obtain ⟨⟨i1, i2, i3⟩, ⟨j1, j2, j3⟩, ⟨k1, k2, k3⟩, ⟨l1, l2, l3⟩⟩ := HF.out W5 hA
  go_wp2_with fail
  refine (nearIs_sm (show _ = true by kernel_rfl) _ i3 k3 sm1 sm3).mono ?_
  rintro e W5 ⟨rfl, hw5⟩
  replace hA := hA.trans hw5
  clear i1 i2 i3 j1 j2 j3 k1 k2 k3 l1 l2 l3 hw5
  obtain ⟨⟨i1, i2, i3⟩, ⟨j1, j2, j3⟩, ⟨k1, k2, k3⟩, ⟨l1, l2, l3⟩⟩ := HF.out W5 hA
  go_wp2_with fail
  refine (nearIs_sm (show _ = true by kernel_rfl) _ j3 l3 sm2 sm4).mono ?_
  rintro e W5 ⟨rfl, hw5⟩
  replace hA := hA.trans hw5
  clear i1 i2 i3 j1 j2 j3 k1 k2 k3 l1 l2 l3 hw5
  obtain ⟨⟨i1, i2, i3⟩, ⟨j1, j2, j3⟩, ⟨k1, k2, k3⟩, ⟨l1, l2, l3⟩⟩ := HF.out W5 hA
  go_wp2_with fail
  refine (nearIs_sm (show _ = true by kernel_rfl) _ i3 j3 sm1 sm2).mono ?_
  rintro e W5 ⟨rfl, hw5⟩
  replace hA := hA.trans hw5
  clear i1 i2 i3 j1 j2 j3 k1 k2 k3 l1 l2 l3 hw5
  obtain ⟨⟨i1, i2, i3⟩, ⟨j1, j2, j3⟩, ⟨k1, k2, k3⟩, ⟨l1, l2, l3⟩⟩ := HF.out W5 hA
  go_upto_region 7 with fail
  refine wp_region_flow _ (Aft.refl _) [FV.is (.bool true), FV.is (.bool true), FV.is (.bool true), FV.is (.bool true), FV.is (.bool true), FV.is (.agg #[.int .i64 1, .slice (some ⟨n0 + 4, 0, none⟩) 2 2]), fvDot 12 5, FV.is (.bool true), FV.is (.bool true), FV.is (.bool true), FV.is (.agg #[.int .i64 1, .slice (some ⟨n0 + 4, 0, none⟩) 2 2]), fvDot 14 2, FV.is (.bool true), FV.is (.bool true), FV.is (.bool true), FV.is (.agg #[.int .i64 2, .slice (some ⟨n0 + 2, 0, none⟩) 3 3]), FV.is (.bool true), FV.is (.bool true)]
    [(0, 81), (1, 82), (2, 83), (3, 84), (4, 85), (5, 86), (6, 87), (7, 88), (8, 89), (9, 90), (10, 91), (11, 92), (12, 93), (13, 94), (14, 95), (15, 96), (16, 97), (17, 98)]
    [[], [(0, 81)], [(1, 82)], [(1, 82), (2, 83)], [(3, 84)], [(4, 85)], [(4, 85)], [(5, 86), (6, 87), (4, 85)], [(4, 85), (7, 88)], [(8, 89)], [(9, 90)], [(9, 90)], [(10, 91), (11, 92), (9, 90)], [(9, 90), (12, 93)], [(13, 94)], [(14, 95)], [(15, 96), (14, 95)], [(14, 95), (16, 97)]] (by kernel_rfl) (by kernel_rfl) ?_ ?_
  · refine flowObs_cons (fun W hW => flowOb_nil ?_) ?_
    · go_wp2
      exact ⟨rfl, Aft.refl W⟩
    refine flowObs_cons (fun W hW => flowOb_cons fun v0 h0 => flowOb_nil ?_) ?_
    · obtain rfl := h0
      go_wp2
      exact ⟨rfl, Aft.refl W⟩
    refine flowObs_cons (fun W hW => flowOb_cons fun v0 h0 => flowOb_nil ?_) ?_
    · obtain rfl := h0
      go_wp2
      exact ⟨rfl, Aft.refl W⟩
    refine flowObs_cons (fun W hW => flowOb_cons fun v0 h0 => flowOb_cons fun v1 h1 => flowOb_nil ?_) ?_
    · obtain rfl := h0
      obtain rfl := h1
      go_wp2
      exact ⟨rfl, Aft.refl W⟩
    refine flowObs_cons (fun W hW => flowOb_cons fun v0 h0 => flowOb_nil ?_) ?_
    · obtain rfl := h0
      go_wp2
      exact ⟨rfl, Aft.refl W⟩
    refine flowObs_cons (fun W hW => flowOb_cons fun v0 h0 => flowOb_nil ?_) ?_
    · obtain rfl := h0
      obtain ⟨-, ⟨y0, y1, -⟩, ⟨z0, z1, -⟩, -⟩ := HF.out W (hA.trans hW)
      go_wp2
      exact ⟨rfl, Aft.refl W⟩
    refine flowObs_cons (fun W hW => flowOb_cons fun v0 h0 => flowOb_nil ?_) ?_
    · obtain rfl := h0
      go_wp2_with fail
      refine (dot_any 12 5 W (by unfold Sc; omega) (by unfold Sc; omega)).mono ?_
      rintro e w1 ⟨vp, rfl, hp, hw1⟩
      go_wp2
      first | exact ⟨⟨vp, rfl, hp⟩, hw1⟩ | exact ⟨vp, rfl, hp⟩ | exact hp
    refine flowObs_cons (fun W hW => flowOb_cons fun v0 h0 => flowOb_cons fun v1 h1 => flowOb_cons fun v2 h2 => flowOb_nil ?_) ?_
    · obtain rfl := h0
      obtain rfl := h2
      obtain ⟨vp, rfl, hp⟩ := h1
      obtain ⟨-, -, g3, -⟩ := HF.out W (hA.trans hW)
      go_wp2_with fail
      refine (nearIs_sm (show _ = true by kernel_rfl) W g3.prs hp sm3 (sm_dot 12 5)).mono ?_
      rintro e w1 ⟨rfl, hw1⟩
      go_wp2
      first | exact ⟨rfl, hw1⟩ | exact rfl
    refine flowObs_cons (fun W hW => flowOb_cons fun v0 h0 => flowOb_cons fun v1 h1 => flowOb_nil ?_) ?_
    · obtain rfl := h0
      obtain rfl := h1
      go_wp2
      exact ⟨rfl, Aft.refl W⟩
    refine flowObs_cons (fun W hW => flowOb_cons fun v0 h0 => flowOb_nil ?_) ?_
    · obtain rfl := h0
      go_wp2
      exact ⟨rfl, Aft.refl W⟩
    refine flowObs_cons (fun W hW => flowOb_cons fun v0 h0 => flowOb_nil ?_) ?_
    · obtain rfl := h0
      obtain ⟨-, ⟨y0, y1, -⟩, ⟨z0, z1, -⟩, -⟩ := HF.out W (hA.trans hW)
      go_wp2
      exact ⟨rfl, Aft.refl W⟩
    refine flowObs_cons (fun W hW => flowOb_cons fun v0 h0 => flowOb_nil ?_) ?_
    · obtain rfl := h0
      go_wp2_with fail
      refine (dot_any 14 2 W (by unfold Sc; omega) (by unfold Sc; omega)).mono ?_
      rintro e w1 ⟨vp, rfl, hp, hw1⟩
      go_wp2
      first | exact ⟨⟨vp, rfl, hp⟩, hw1⟩ | exact ⟨vp, rfl, hp⟩ | exact hp
    refine flowObs_cons (fun W hW => flowOb_cons fun v0 h0 => flowOb_cons fun v1 h1 => flowOb_cons fun v2 h2 => flowOb_nil ?_) ?_
    · obtain rfl := h0
      obtain rfl := h2
      obtain ⟨vp, rfl, hp⟩ := h1
      obtain ⟨-, -, g3, -⟩ := HF.out W (hA.trans hW)
      go_wp2_with fail
      refine (nearIs_sm (show _ = true by kernel_rfl) W g3.prs hp sm3 (sm_dot 14 2)).mono ?_
      rintro e w1 ⟨rfl, hw1⟩
      go_wp2
      first | exact ⟨rfl, hw1⟩ | exact rfl
    refine flowObs_cons (fun W hW => flowOb_cons fun v0 h0 => flowOb_cons fun v1 h1 => flowOb_nil ?_) ?_
    · obtain rfl := h0
      obtain rfl := h1
      go_wp2
      exact ⟨rfl, Aft.refl W⟩
    refine flowObs_cons (fun W hW => flowOb_cons fun v0 h0 => flowOb_nil ?_) ?_
    · obtain rfl := h0
      go_wp2
      exact ⟨rfl, Aft.refl W⟩
    refine flowObs_cons (fun W hW => flowOb_cons fun v0 h0 => flowOb_nil ?_) ?_
    · obtain rfl := h0
      obtain ⟨-, ⟨y0, y1, -⟩, ⟨z0, z1, -⟩, -⟩ := HF.out W (hA.trans hW)
      go_wp2
      exact ⟨rfl, Aft.refl W⟩
    refine flowObs_cons (fun W hW => flowOb_cons fun v0 h0 => flowOb_cons fun v1 h1 => flowOb_nil ?_) ?_
    · obtain rfl := h0
      obtain rfl := h1
      obtain ⟨-, g2, -, -⟩ := HF.out W (hA.trans hW)
      go_wp2_with fail
      refine (simple_sm (show _ = true by kernel_rfl) W g2.prs sm2).mono ?_
      rintro e w1 ⟨rfl, hw1⟩
      go_wp2
      first | exact ⟨rfl, hw1⟩ | exact rfl
    refine flowObs_cons (fun W hW => flowOb_cons fun v0 h0 => flowOb_cons fun v1 h1 => flowOb_nil ?_) flowObs_nil
    · obtain rfl := h0
      obtain rfl := h1
      go_wp2
      exact ⟨rfl, Aft.refl W⟩
  · intro W hW
    iterate 17 refine flowEnd_cons fun _ _ => ?_
    refine flowEnd_cons fun v h => flowEnd_nil ?_
    obtain rfl := h
    have HE := hid (hw04.trans (hA.trans hW))
    go_wp2
    go_ret
    exact ⟨rfl, HE.out⟩
end Go.Proofs.Ytokdclbfjlnnjaa
