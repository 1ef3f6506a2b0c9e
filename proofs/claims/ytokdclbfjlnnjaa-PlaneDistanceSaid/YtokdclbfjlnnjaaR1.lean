/- The reference's Simple. -/
import Derived.Test.YtokdclbfjlnnjaaP19
namespace Go.Proofs.Ytokdclbfjlnnjaa
open Go.RowKit Go.BigFrame

/-- Segments j and i (j before i) touch where they may not. -/
def touchZ (l : List Pt) (j i : Nat) : Bool :=
  if (j + 1) % l.length = i then (if (i + 1) % l.length = j then true else onZ (sgZ l i).2 (sgZ l j) || onZ (sgZ l j).1 (sgZ l i))
  else if (i + 1) % l.length = j then onZ (sgZ l j).2 (sgZ l i) || onZ (sgZ l i).1 (sgZ l j)
  else meetZ (sgZ l j) (sgZ l i)
def simpleZ (k : Int) (l : List Pt) : Bool := !((List.range (nSeg k l)).any fun i => (List.range i).any fun j => touchZ l j i)
theorem simpleZ_false {k : Int} {l : List Pt} {i j : Nat} (hi : i < nSeg k l) (hj : j < i) (h : touchZ l j i = true) : simpleZ k l = false := by
  unfold simpleZ
  rw [List.any_eq_true.2 ⟨i, List.mem_range.2 hi, List.any_eq_true.2 ⟨j, List.mem_range.2 hj, h⟩⟩]; rfl
theorem simpleZ_true {k : Int} {l : List Pt} (h : ∀ i, i < nSeg k l → ∀ j, j < i → touchZ l j i = false) : simpleZ k l = true := by
  unfold simpleZ
  rw [List.any_eq_false.2 (fun i hi => by
    rw [Bool.not_eq_true]
    exact List.any_eq_false.2 (fun j hj => by rw [h i (List.mem_range.1 hi) j (List.mem_range.1 hj)]; simp))]; rfl

theorem B6.kx {X : Nat → Prop} {A B : World} {b : Nat} {x y z u f t : Int} (h : B6 A b x y z u f t) (hk : Kx X A B) (hb : ¬ X b) : B6 B b x y z u f t := by
  have tr : ∀ {o : Nat} {v : Value}, A.cell? ⟨b, o, none⟩ = some v → B.cell? ⟨b, o, none⟩ = some v := fun h => (hk.cell (World.block_lt_of_cell? _ _ h) hb).trans h
  exact ⟨⟨⟨tr h.1.1.1, tr h.1.1.2⟩, tr h.1.2.1, tr h.1.2.2⟩, tr h.2.1, tr h.2.2⟩
theorem put6 {W : World} {b : Nat} {x0 y0 z0 u0 f0 t0 : Int} (h : B6 W b x0 y0 z0 u0 f0 t0) (x y z u f t : Int) :
    B6 ((((((W.setCell ⟨b, 0, none⟩ (.int .i64 x)).setCell ⟨b, 1, none⟩ (.int .i64 y)).setCell ⟨b, 2, none⟩ (.int .i64 z)).setCell ⟨b, 3, none⟩ (.int .i64 u)).setCell ⟨b, 4, none⟩ (.int .i64 f)).setCell ⟨b, 5, none⟩ (.int .i64 t)) b x y z u f t ∧
    Kx (fun j => j = b) W ((((((W.setCell ⟨b, 0, none⟩ (.int .i64 x)).setCell ⟨b, 1, none⟩ (.int .i64 y)).setCell ⟨b, 2, none⟩ (.int .i64 z)).setCell ⟨b, 3, none⟩ (.int .i64 u)).setCell ⟨b, 4, none⟩ (.int .i64 f)).setCell ⟨b, 5, none⟩ (.int .i64 t)) := by
  obtain ⟨⟨⟨h0, h1⟩, h2, h3⟩, h4, h5⟩ := h
  have S : ∀ (A : World) (o : Nat) (v v' : Value), A.cell? ⟨b, o, none⟩ = some v → (A.setCell ⟨b, o, none⟩ v').cell? ⟨b, o, none⟩ = some v' := fun A o v v' h => World.cell?_setCell_same' _ _ _ (by rw [h]; rfl)
  have O : ∀ (A : World) (o o' : Nat) (v v' : Value), o ≠ o' → A.cell? ⟨b, o, none⟩ = some v → (A.setCell ⟨b, o', none⟩ v').cell? ⟨b, o, none⟩ = some v := fun A o o' v v' hne h => (World.cell?_setCell_other _ _ _ _ (by simp [hne])).trans h
  refine ⟨⟨⟨⟨?_, ?_⟩, ?_, ?_⟩, ?_, ?_⟩, ?_⟩
  · exact O _ _ _ _ _ (by decide) (O _ _ _ _ _ (by decide) (O _ _ _ _ _ (by decide) (O _ _ _ _ _ (by decide) (O _ _ _ _ _ (by decide) (S _ _ _ _ h0)))))
  · exact O _ _ _ _ _ (by decide) (O _ _ _ _ _ (by decide) (O _ _ _ _ _ (by decide) (O _ _ _ _ _ (by decide) (S _ _ _ _ (O _ _ _ _ _ (by decide) h1)))))
  · exact O _ _ _ _ _ (by decide) (O _ _ _ _ _ (by decide) (O _ _ _ _ _ (by decide) (S _ _ _ _ (O _ _ _ _ _ (by decide) (O _ _ _ _ _ (by decide) h2)))))
  · exact O _ _ _ _ _ (by decide) (O _ _ _ _ _ (by decide) (S _ _ _ _ (O _ _ _ _ _ (by decide) (O _ _ _ _ _ (by decide) (O _ _ _ _ _ (by decide) h3)))))
  · exact O _ _ _ _ _ (by decide) (S _ _ _ _ (O _ _ _ _ _ (by decide) (O _ _ _ _ _ (by decide) (O _ _ _ _ _ (by decide) (O _ _ _ _ _ (by decide) h4)))))
  · exact S _ _ _ _ (O _ _ _ _ _ (by decide) (O _ _ _ _ _ (by decide) (O _ _ _ _ _ (by decide) (O _ _ _ _ _ (by decide) (O _ _ _ _ _ (by decide) h5)))))
  · have K : ∀ (A : World) (o : Nat) (v : Value), Kx (fun j => j = b) A (A.setCell ⟨b, o, none⟩ v) := fun A o v => Kx.setCell (p := ⟨b, o, none⟩) _ rfl
    exact (((((K _ _ _).trans (K _ _ _)).trans (K _ _ _)).trans (K _ _ _)).trans (K _ _ _)).trans (K _ _ _)
theorem frozen_kx {X : Nat → Prop} {A B : World} (hk : Kx X A B) {b o : Nat} (hb : b < A.heap.size) (hx : ¬ X b) : B.frozen? ⟨b, o, none⟩ = A.frozen? ⟨b, o, none⟩ := World.frozen?_of_block (a := ⟨_, _, none⟩) (hk.block _ hb hx)

theorem swap6 {W : World} {b : Nat} {x0 y0 z0 u0 f0 t0 x1 y1 z1 u1 f1 t1 : Int} (h : B6 W b x0 y0 z0 u0 f0 t0) (h' : B6 W (b + 1) x1 y1 z1 u1 f1 t1) (x y z u f t x' y' z' u' f' t' : Int) :
    ∃ W3, ((((((((((((W.setCell ⟨b, 0, none⟩ (.int .i64 x)).setCell ⟨b, 1, none⟩ (.int .i64 y)).setCell ⟨b, 2, none⟩ (.int .i64 z)).setCell ⟨b, 3, none⟩ (.int .i64 u)).setCell ⟨b, 4, none⟩ (.int .i64 f)).setCell ⟨b, 5, none⟩ (.int .i64 t)).setCell ⟨b + 1, 0, none⟩ (.int .i64 x')).setCell ⟨b + 1, 1, none⟩ (.int .i64 y')).setCell ⟨b + 1, 2, none⟩ (.int .i64 z')).setCell ⟨b + 1, 3, none⟩ (.int .i64 u')).setCell ⟨b + 1, 4, none⟩ (.int .i64 f')).setCell ⟨b + 1, 5, none⟩ (.int .i64 t')) = W3 ∧
      B6 W3 b x y z u f t ∧ B6 W3 (b + 1) x' y' z' u' f' t' ∧ Kx (fun j => j = b ∨ j = b + 1) W W3 := by
  have p1 := put6 h x y z u f t
  have p2 := put6 (B6.kx h' p1.2 (by omega)) x' y' z' u' f' t'
  exact ⟨_, rfl, B6.kx p1.1 p2.2 (by omega), p2.1, (p1.2.sub fun j h => .inl h).trans (p2.2.sub fun j h => .inr h)⟩

set_option maxRecDepth 100000 in
set_option maxHeartbeats 8000000 in
theorem rsimple_any (k : Int) (vp : Value) (l : List Pt) (w : World) (hl : Prs w vp l) (hsm : l.length ≤ 1000) (hsc : ScL l) :
    Calls Try.prog 52 #[.agg #[.int .i64 k, vp]] w fun e w' => e = .returned (.bool (simpleZ k l)) ∧ Aft w w' := by
  have hP := hl
  obtain ⟨a, c, rfl, hl⟩ := hl
  obtain ⟨W0, eW0, hw0, hlt, hbox⟩ := one_box w #[.int .i64 k, .slice a l.length c] 51
  go_enter Try.func52, Try.ntmps52
  go_upto_region 1 with fail
  clear eW0
  have p1 := hbox.out W0 (Aft.refl _) 0 (.int .i64 k) rfl
  have p2 := hbox.out W0 (Aft.refl _) 1 (.slice a l.length c) rfl
  clear hbox
  generalize hn0 : w.heap.size = n0 at *
  go_wp2_with fail
  refine (segments_any k _ l W0 (hP.aft hw0) hsm).mono ?_
  rintro e W1 ⟨v1, rfl, hown, hw1⟩
  have hnle := nSeg_le k l
  have HT := hid (@simpleZ_true k l)
  have HF : Hid (∀ i j, i < nSeg k l → j < i → touchZ l j i = true → simpleZ k l = false) := hid (fun i j => simpleZ_false)
  obtain ⟨m, hm⟩ : ∃ m, nSeg k l = m := ⟨_, rfl⟩
  rw [hm] at hown hnle HT HF
  clear hm
  have hw01 := hw0.trans hw1
  obtain ⟨a1, c1, rfl, _⟩ := ownsRow_at hown
  clear p1 p2
  go_wp2
  go_loopw [4] (fun i wr => ∃ r : Nat, r ≤ m ∧ i = .int .i64 r ∧ Hid (∀ i, i < r → ∀ j, j < i → touchZ l j i = false) ∧ Aft W1 wr) (fun i _ => m - (intOf i).toNat)
  case atStart => exact ⟨0, by omega, rfl, hid fun j hj => by omega, Aft.refl _⟩
  case round =>
    obtain ⟨i, hi, rfl, hno, hwi⟩ := hrel
    rcases Nat.lt_or_ge i m with hlti | hgei
    · have hii : (i : Int) < m := by omega
      go_wp2
      go_loopw [5] (fun j wr => ∃ q : Nat, q ≤ i ∧ j = .int .i64 q ∧ Hid (∀ j, j < q → touchZ l j i = false) ∧ Aft W1 wr) (fun j _ => i - (intOf j).toNat)
      case atStart => exact ⟨0, by omega, rfl, hid fun j hj => by omega, hwi⟩
      case round =>
        obtain ⟨q, hq, rfl, hno2, hwq⟩ := hrel
        rcases Nat.lt_or_ge q i with hltq | hgeq
        · have hqi : (q : Int) < i := by omega
          have o3 := ownsRow_aft hown hwq
          obtain ⟨g, cap, he, q1, q2, q3, q4, q5, q6⟩ := ends_cells o3 (show q < m by omega)
          simp only [Value.slice.injEq, true_and] at he
          obtain ⟨rfl, rfl⟩ := he
          obtain ⟨g', cap', he', t1, t2, t3, t4, t5, t6⟩ := ends_cells o3 hlti
          simp only [Value.slice.injEq, Option.some.injEq, Addr.mk.injEq, true_and, and_true] at he'
          obtain ⟨rfl, rfl⟩ := he'
          have hsa4 := sgZ_sc hsc q
          have hsb4 := sgZ_sc hsc i
          have HN : Hid (touchZ l q i = touchZ l q i) := hid rfl
          have HN2 : Hid (touchZ l q i = false → ∀ j, j < q + 1 → touchZ l j i = false) := hid (fun h j hj => by
            rcases Nat.lt_or_ge j q with h' | h'
            · exact hno2.out j h'
            · obtain rfl : j = q := by omega
              exact h)
          have HF2 := hid (HF.out i q hlti hltq)
          have HD : Hid (touchZ l q i = if (q + 1) % l.length = i then (if (i + 1) % l.length = q then true else onZ (sgZ l i).2 (sgZ l q) || onZ (sgZ l q).1 (sgZ l i))
            else if (i + 1) % l.length = q then onZ (sgZ l q).2 (sgZ l i) || onZ (sgZ l i).1 (sgZ l q) else meetZ (sgZ l q) (sgZ l i)) := hid rfl
          obtain ⟨⟨⟨ax, ay⟩, bx, by_⟩, hs⟩ : ∃ s, sgZ l q = s := ⟨_, rfl⟩
          obtain ⟨⟨⟨cx, cy⟩, dx, dy⟩, ht⟩ : ∃ s, sgZ l i = s := ⟨_, rfl⟩
          obtain ⟨tq, htq⟩ : ∃ t, (q + 1) % l.length = t := ⟨_, rfl⟩
          obtain ⟨ti, hti⟩ : ∃ t, (i + 1) % l.length = t := ⟨_, rfl⟩
          rw [hs] at q1 q2 q3 q4 hsa4 HD
          rw [ht] at t1 t2 t3 t4 hsb4 HD
          rw [htq] at q6 HD
          rw [hti] at t6 HD
          simp only at q1 q2 q3 q4 hsa4 t1 t2 t3 t4 hsb4
          obtain ⟨s1, s2, s3, s4⟩ := hsa4
          obtain ⟨s5, s6, s7, s8⟩ := hsb4
          clear hs ht htq hti
          have hg1 := World.block_lt_of_cell? _ _ q1
          obtain ⟨W2, eW2, hw2, hlt2, hbox2⟩ := two_boxes wr #[.int .i64 ax, .int .i64 ay, .int .i64 bx, .int .i64 by_, .int .i64 q, .int .i64 tq] #[.int .i64 cx, .int .i64 cy, .int .i64 dx, .int .i64 dy, .int .i64 i, .int .i64 ti] 59 59
          have hfz : (∀ o, W2.frozen? ⟨wr.heap.size, o, none⟩ = false) ∧ (∀ o, W2.frozen? ⟨wr.heap.size + 1, o, none⟩ = false) := by
            rw [← eW2]
            refine ⟨fun o => ?_, fun o => ?_⟩
            · rw [((Aft.refl _).alloc _).frozen (by simp)]
              exact frozen_new _ _ _ _
            · simp
          go_upto_region 10 with fail
          clear eW2
          have b6 : B6 W2 wr.heap.size ax ay bx by_ q tq := ⟨⟨⟨(hbox2.out W2 (Aft.refl _)).1 0 _ rfl, (hbox2.out W2 (Aft.refl _)).1 1 _ rfl⟩, (hbox2.out W2 (Aft.refl _)).1 2 _ rfl, (hbox2.out W2 (Aft.refl _)).1 3 _ rfl⟩, (hbox2.out W2 (Aft.refl _)).1 4 _ rfl, (hbox2.out W2 (Aft.refl _)).1 5 _ rfl⟩
          have b7 : B6 W2 (wr.heap.size + 1) cx cy dx dy i ti := ⟨⟨⟨(hbox2.out W2 (Aft.refl _)).2 0 _ rfl, (hbox2.out W2 (Aft.refl _)).2 1 _ rfl⟩, (hbox2.out W2 (Aft.refl _)).2 2 _ rfl, (hbox2.out W2 (Aft.refl _)).2 3 _ rfl⟩, (hbox2.out W2 (Aft.refl _)).2 4 _ rfl, (hbox2.out W2 (Aft.refl _)).2 5 _ rfl⟩
          clear hbox2
          have tr : ∀ {b o : Nat} {v : Value}, wr.cell? ⟨b, o, none⟩ = some v → W2.cell? ⟨b, o, none⟩ = some v := fun h => (hw2.cell (World.block_lt_of_cell? _ _ h)).trans h
          replace q1 := tr q1
          replace q2 := tr q2
          replace q3 := tr q3
          replace q4 := tr q4
          replace q5 := tr q5
          replace q6 := tr q6
          replace t1 := tr t1
          replace t2 := tr t2
          replace t3 := tr t3
          replace t4 := tr t4
          replace t5 := tr t5
          replace t6 := tr t6
          clear tr
          have hwq2 := hwq.trans hw2
          have hz1 := hwq.size
          replace hg1 : g < wr.heap.size := hg1
          generalize hn6 : wr.heap.size = n6 at *
          have fin : ∀ {W3 : World}, Aft W2 W3 → Aft w W3 := fun h => (hw01.trans hwq2).trans h
          obtain ⟨f6, f7⟩ := hfz
          by_cases hf : tq = i
          · subst hf
            by_cases hc : ti = q
            · subst hc
              have HQ := hid (HF2.out (by rw [HD.out, if_pos rfl, if_pos rfl]))
              have FI := hid (fin (Aft.refl W2))
              obtain ⟨⟨⟨x1, x2⟩, x3, x4⟩, x5, x6⟩ := b6
              obtain ⟨⟨⟨y1, y2⟩, y3, y4⟩, y5, y6⟩ := b7
              go_wp2
              go_ret
              exact ⟨by rw [HQ.out]; rfl, FI.out⟩
            · have hcz : ((ti : Int) == (q : Int)) = false := by rw [beq_eq_false_iff_ne]; omega
              have hcn : ((ti : Int) != (q : Int)) = true := by rw [bne_iff_ne]; omega
              have hce : ¬ ((ti : Int) = (q : Int)) := by omega
              have HD2 := hid (show touchZ l q tq = (onZ (dx, dy) ((ax, ay), (bx, by_)) || onZ (ax, ay) ((cx, cy), (dx, dy))) by rw [HD.out, if_pos rfl, if_neg hc])
              clear hc
              obtain ⟨⟨⟨x1, x2⟩, x3, x4⟩, x5, x6⟩ := b6
              obtain ⟨⟨⟨y1, y2⟩, y3, y4⟩, y5, y6⟩ := b7
              obtain ⟨o, ho⟩ : ∃ o, onZ (dx, dy) ((ax, ay), (bx, by_)) = o := ⟨_, rfl⟩
              obtain ⟨o2, ho2⟩ : ∃ o, onZ (ax, ay) ((cx, cy), (dx, dy)) = o := ⟨_, rfl⟩
              have HO := hid ho
              have HO2 := hid ho2
              go_wp2_with fail
              refine (ron_any _ _ _ s1 s2 s3 s4 s7 s8).mono ?_
              rintro e w1 ⟨rfl, hw3⟩
              rw [ho]
              clear ho
              have FI := hid (fin hw3)
              cases o
              case true =>
                have HQ := hid (HF2.out (by rw [HD2.out, HO.out]; rfl))
                go_wp2
                go_ret
                exact ⟨by rw [HQ.out]; rfl, FI.out⟩
              case false =>
                have tr : ∀ {b o : Nat} {v : Value}, W2.cell? ⟨b, o, none⟩ = some v → w1.cell? ⟨b, o, none⟩ = some v := fun h => (hw3.cell (World.block_lt_of_cell? _ _ h)).trans h
                replace x1 := tr x1
                replace x2 := tr x2
                replace x3 := tr x3
                replace x4 := tr x4
                replace x5 := tr x5
                replace x6 := tr x6
                replace y1 := tr y1
                replace y2 := tr y2
                replace y3 := tr y3
                replace y4 := tr y4
                replace y5 := tr y5
                replace y6 := tr y6
                clear tr
                go_wp2_with fail
                refine (ron_any _ _ _ s5 s6 s7 s8 s1 s2).mono ?_
                rintro e w2 ⟨rfl, hw4⟩
                rw [ho2]
                clear ho2
                have FI2 := hid (fin (hw3.trans hw4))
                have HW := (hwq2.trans hw3).trans hw4
                cases o2
                case true =>
                  have HQ := hid (HF2.out (by rw [HD2.out, HO.out, HO2.out]; rfl))
                  go_wp2
                  go_ret
                  exact ⟨by rw [HQ.out]; rfl, FI2.out⟩
                case false =>
                  have HQ := hid (HN2.out (by rw [HD2.out, HO.out, HO2.out]; rfl))
                  go_wp2
                  go_roundw
                  case rel => exact ⟨q + 1, by omega, by go_num, HQ, HW⟩
                  case measure => simp only [intOf]; omega
          · have hfz : ((tq : Int) == (i : Int)) = false := by rw [beq_eq_false_iff_ne]; omega
            have hfn : ((tq : Int) != (i : Int)) = true := by rw [bne_iff_ne]; omega
            have hfe : ¬ ((tq : Int) = (i : Int)) := by omega
            by_cases hc : ti = q
            · subst hc
              have HD2 := hid (show touchZ l ti i = (onZ (bx, by_) ((cx, cy), (dx, dy)) || onZ (cx, cy) ((ax, ay), (bx, by_))) by rw [HD.out, if_neg hf, if_pos rfl])
              clear hf
              have hsw := swap6 b6 b7 cx cy dx dy i ti ax ay bx by_ ti tq
              obtain ⟨⟨⟨x1, x2⟩, x3, x4⟩, x5, x6⟩ := b6
              obtain ⟨⟨⟨y1, y2⟩, y3, y4⟩, y5, y6⟩ := b7
              obtain ⟨W3, eW3, ⟨⟨⟨x1', x2'⟩, x3', x4'⟩, x5', x6'⟩, ⟨⟨⟨y1', y2'⟩, y3', y4'⟩, y5', y6'⟩, hk3⟩ := hsw
              go_upto_region 18 with fail
              clear eW3 x1 x2 x3 x4 x5 x6 y1 y2 y3 y4 y5 y6
              have hsz : W1.heap.size ≤ n6 := hz1
              have fin : ∀ {W : World}, Aft W3 W → Aft w W := fun h => hw01.trans ((kx_aft hwq2 (fun j hj => by rcases hj with rfl | rfl <;> omega) hk3).trans h)
              have hwq3 := kx_aft hwq2 (fun j hj => by rcases hj with rfl | rfl <;> omega) hk3
              obtain ⟨o, ho⟩ : ∃ o, onZ (bx, by_) ((cx, cy), (dx, dy)) = o := ⟨_, rfl⟩
              obtain ⟨o2, ho2⟩ : ∃ o, onZ (cx, cy) ((ax, ay), (bx, by_)) = o := ⟨_, rfl⟩
              have HO := hid ho
              have HO2 := hid ho2
              go_wp2_with fail
              refine (ron_any _ _ _ s5 s6 s7 s8 s3 s4).mono ?_
              rintro e w1 ⟨rfl, hw3⟩
              rw [ho]
              clear ho
              have FI := hid (fin hw3)
              cases o
              case true =>
                have HQ := hid (HF2.out (by rw [HD2.out, HO.out]; rfl))
                go_wp2
                go_ret
                exact ⟨by rw [HQ.out]; rfl, FI.out⟩
              case false =>
                have tr : ∀ {b o : Nat} {v : Value}, W3.cell? ⟨b, o, none⟩ = some v → w1.cell? ⟨b, o, none⟩ = some v := fun h => (hw3.cell (World.block_lt_of_cell? _ _ h)).trans h
                replace x1' := tr x1'
                replace x2' := tr x2'
                replace x3' := tr x3'
                replace x4' := tr x4'
                replace x5' := tr x5'
                replace x6' := tr x6'
                replace y1' := tr y1'
                replace y2' := tr y2'
                replace y3' := tr y3'
                replace y4' := tr y4'
                replace y5' := tr y5'
                replace y6' := tr y6'
                clear tr
                go_wp2_with fail
                refine (ron_any _ _ _ s1 s2 s3 s4 s5 s6).mono ?_
                rintro e w2 ⟨rfl, hw4⟩
                rw [ho2]
                clear ho2
                have FI2 := hid (fin (hw3.trans hw4))
                have HW := (hwq3.trans hw3).trans hw4
                cases o2
                case true =>
                  have HQ := hid (HF2.out (by rw [HD2.out, HO.out, HO2.out]; rfl))
                  go_wp2
                  go_ret
                  exact ⟨by rw [HQ.out]; rfl, FI2.out⟩
                case false =>
                  have HQ := hid (HN2.out (by rw [HD2.out, HO.out, HO2.out]; rfl))
                  go_wp2
                  go_roundw
                  case rel => exact ⟨ti + 1, by omega, by go_num, HQ, HW⟩
                  case measure => simp only [intOf]; omega
            · have hcz : ((ti : Int) == (q : Int)) = false := by rw [beq_eq_false_iff_ne]; omega
              have hcn : ((ti : Int) != (q : Int)) = true := by rw [bne_iff_ne]; omega
              have hce : ¬ ((ti : Int) = (q : Int)) := by omega
              have HD2 := hid (show touchZ l q i = meetZ ((ax, ay), (bx, by_)) ((cx, cy), (dx, dy)) by rw [HD.out, if_neg hf, if_neg hc])
              clear hf hc
              obtain ⟨⟨⟨x1, x2⟩, x3, x4⟩, x5, x6⟩ := b6
              obtain ⟨⟨⟨y1, y2⟩, y3, y4⟩, y5, y6⟩ := b7
              obtain ⟨o, ho⟩ : ∃ o, meetZ ((ax, ay), (bx, by_)) ((cx, cy), (dx, dy)) = o := ⟨_, rfl⟩
              have HO := hid ho
              go_wp2_with fail
              refine (rmeet_any _ _ _ _ _ s1 s2 s3 s4 s5 s6 s7 s8).mono ?_
              rintro e w1 ⟨rfl, hw3⟩
              rw [ho]
              clear ho
              have FI := hid (fin hw3)
              have HW := hwq2.trans hw3
              cases o
              case true =>
                have HQ := hid (HF2.out (by rw [HD2.out, HO.out]))
                go_wp2
                go_ret
                exact ⟨by rw [HQ.out]; rfl, FI.out⟩
              case false =>
                have HQ := hid (HN2.out (by rw [HD2.out, HO.out]))
                go_wp2
                go_roundw
                case rel => exact ⟨q + 1, by omega, by go_num, HQ, HW⟩
                case measure => simp only [intOf]; omega
        · obtain rfl : q = i := by omega
          have HN := hid (show ∀ u, u < q + 1 → ∀ j, j < u → touchZ l j u = false from fun u hu => by
            rcases Nat.lt_or_ge u q with h | h
            · exact hno.out u h
            · obtain rfl : u = q := by omega
              exact hno2.out)
          go_wp2
          go_roundw
          case rel => exact ⟨q + 1, by omega, by go_num, HN, hwq⟩
          case measure => simp only [intOf]; omega
    · obtain rfl : i = m := by omega
      have HQ := hid (HT.out hno.out)
      go_wp2
      go_ret
      exact ⟨by rw [HQ.out]; rfl, hw01.trans hwi⟩
end Go.Proofs.Ytokdclbfjlnnjaa
