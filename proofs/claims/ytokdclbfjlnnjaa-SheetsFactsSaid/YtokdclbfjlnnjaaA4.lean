/- The plane: the reference on validity and distance. Conditions are in the theorems. -/
import Derived.Test.YtokdclbfjlnnjaaA3
import Derived.Laws.StructEq
/- The reference's Simple. -/
namespace Go.Proofs.Ytokdclbfjlnnjaa
open Go.RowKit Go.BigFrame

/-- Segments j and i (j before i) touch where they may not. -/
def touchZ (l : List Pt) (j i : Nat) : Bool :=
  if (j + 1) % l.length = i then (if (i + 1) % l.length = j then true else onZ (sgZ l i).2 (sgZ l j) || onZ (sgZ l j).1 (sgZ l i))
  else if (i + 1) % l.length = j then onZ (sgZ l j).2 (sgZ l i) || onZ (sgZ l i).1 (sgZ l j)
  else meetZ (sgZ l j) (sgZ l i)
def simpleZ (k : Int) (l : List Pt) : Bool := !((List.range (nSeg k l)).any fun i => (List.range i).any fun j => touchZ l j i)
theorem simpleZ_false {k : Int} {l : List Pt} {i j : Nat} (hi : i < nSeg k l) (hj : j < i) (h : touchZ l j i = true) : simpleZ k l = false := by
  unfold simpleZ
  rw [List.any_eq_true.2 ⟨i, List.mem_range.2 hi, List.any_eq_true.2 ⟨j, List.mem_range.2 hj, h⟩⟩]; rfl
theorem simpleZ_true {k : Int} {l : List Pt} (h : ∀ i, i < nSeg k l → ∀ j, j < i → touchZ l j i = false) : simpleZ k l = true := by
  unfold simpleZ
  rw [List.any_eq_false.2 (fun i hi => by
    rw [Bool.not_eq_true]
    exact List.any_eq_false.2 (fun j hj => by rw [h i (List.mem_range.1 hi) j (List.mem_range.1 hj)]; simp))]; rfl

theorem B6.kx {X : Nat → Prop} {A B : World} {b : Nat} {x y z u f t : Int} (h : B6 A b x y z u f t) (hk : Kx X A B) (hb : ¬ X b) : B6 B b x y z u f t := by
  have tr : ∀ {o : Nat} {v : Value}, A.cell? ⟨b, o, none⟩ = some v → B.cell? ⟨b, o, none⟩ = some v := fun h => (hk.cell (World.block_lt_of_cell? _ _ h) hb).trans h
  exact ⟨⟨⟨tr h.1.1.1, tr h.1.1.2⟩, tr h.1.2.1, tr h.1.2.2⟩, tr h.2.1, tr h.2.2⟩
theorem put6 {W : World} {b : Nat} {x0 y0 z0 u0 f0 t0 : Int} (h : B6 W b x0 y0 z0 u0 f0 t0) (x y z u f t : Int) :
    B6 ((((((W.setCell ⟨b, 0, none⟩ (.int .i64 x)).setCell ⟨b, 1, none⟩ (.int .i64 y)).setCell ⟨b, 2, none⟩ (.int .i64 z)).setCell ⟨b, 3, none⟩ (.int .i64 u)).setCell ⟨b, 4, none⟩ (.int .i64 f)).setCell ⟨b, 5, none⟩ (.int .i64 t)) b x y z u f t ∧
    Kx (fun j => j = b) W ((((((W.setCell ⟨b, 0, none⟩ (.int .i64 x)).setCell ⟨b, 1, none⟩ (.int .i64 y)).setCell ⟨b, 2, none⟩ (.int .i64 z)).setCell ⟨b, 3, none⟩ (.int .i64 u)).setCell ⟨b, 4, none⟩ (.int .i64 f)).setCell ⟨b, 5, none⟩ (.int .i64 t)) := by
  obtain ⟨⟨⟨h0, h1⟩, h2, h3⟩, h4, h5⟩ := h
  have S : ∀ (A : World) (o : Nat) (v v' : Value), A.cell? ⟨b, o, none⟩ = some v → (A.setCell ⟨b, o, none⟩ v').cell? ⟨b, o, none⟩ = some v' := fun A o v v' h => World.cell?_setCell_same' _ _ _ (by rw [h]; rfl)
  have O : ∀ (A : World) (o o' : Nat) (v v' : Value), o ≠ o' → A.cell? ⟨b, o, none⟩ = some v → (A.setCell ⟨b, o', none⟩ v').cell? ⟨b, o, none⟩ = some v := fun A o o' v v' hne h => (World.cell?_setCell_other _ _ _ _ (fun e => hne (by cases e; rfl))).trans h
  refine ⟨⟨⟨⟨?_, ?_⟩, ?_, ?_⟩, ?_, ?_⟩, ?_⟩
  · exact O _ _ _ _ _ (by decide) (O _ _ _ _ _ (by decide) (O _ _ _ _ _ (by decide) (O _ _ _ _ _ (by decide) (O _ _ _ _ _ (by decide) (S _ _ _ _ h0)))))
  · exact O _ _ _ _ _ (by decide) (O _ _ _ _ _ (by decide) (O _ _ _ _ _ (by decide) (O _ _ _ _ _ (by decide) (S _ _ _ _ (O _ _ _ _ _ (by decide) h1)))))
  · exact O _ _ _ _ _ (by decide) (O _ _ _ _ _ (by decide) (O _ _ _ _ _ (by decide) (S _ _ _ _ (O _ _ _ _ _ (by decide) (O _ _ _ _ _ (by decide) h2)))))
  · exact O _ _ _ _ _ (by decide) (O _ _ _ _ _ (by decide) (S _ _ _ _ (O _ _ _ _ _ (by decide) (O _ _ _ _ _ (by decide) (O _ _ _ _ _ (by decide) h3)))))
  · exact O _ _ _ _ _ (by decide) (S _ _ _ _ (O _ _ _ _ _ (by decide) (O _ _ _ _ _ (by decide) (O _ _ _ _ _ (by decide) (O _ _ _ _ _ (by decide) h4)))))
  · exact S _ _ _ _ (O _ _ _ _ _ (by decide) (O _ _ _ _ _ (by decide) (O _ _ _ _ _ (by decide) (O _ _ _ _ _ (by decide) (O _ _ _ _ _ (by decide) h5)))))
  · have K : ∀ (A : World) (o : Nat) (v : Value), Kx (fun j => j = b) A (A.setCell ⟨b, o, none⟩ v) := fun A o v => Kx.setCell (p := ⟨b, o, none⟩) _ rfl
    exact (((((K _ _ _).trans (K _ _ _)).trans (K _ _ _)).trans (K _ _ _)).trans (K _ _ _)).trans (K _ _ _)
theorem frozen_kx {X : Nat → Prop} {A B : World} (hk : Kx X A B) {b o : Nat} (hb : b < A.heap.size) (hx : ¬ X b) : B.frozen? ⟨b, o, none⟩ = A.frozen? ⟨b, o, none⟩ := World.frozen?_of_block (a := ⟨_, _, none⟩) (hk.block _ hb hx)

theorem swap6 {W : World} {b : Nat} {x0 y0 z0 u0 f0 t0 x1 y1 z1 u1 f1 t1 : Int} (h : B6 W b x0 y0 z0 u0 f0 t0) (h' : B6 W (b + 1) x1 y1 z1 u1 f1 t1) (x y z u f t x' y' z' u' f' t' : Int) :
    ∃ W3, ((((((((((((W.setCell ⟨b, 0, none⟩ (.int .i64 x)).setCell ⟨b, 1, none⟩ (.int .i64 y)).setCell ⟨b, 2, none⟩ (.int .i64 z)).setCell ⟨b, 3, none⟩ (.int .i64 u)).setCell ⟨b, 4, none⟩ (.int .i64 f)).setCell ⟨b, 5, none⟩ (.int .i64 t)).setCell ⟨b + 1, 0, none⟩ (.int .i64 x')).setCell ⟨b + 1, 1, none⟩ (.int .i64 y')).setCell ⟨b + 1, 2, none⟩ (.int .i64 z')).setCell ⟨b + 1, 3, none⟩ (.int .i64 u')).setCell ⟨b + 1, 4, none⟩ (.int .i64 f')).setCell ⟨b + 1, 5, none⟩ (.int .i64 t')) = W3 ∧
      B6 W3 b x y z u f t ∧ B6 W3 (b + 1) x' y' z' u' f' t' ∧ Kx (fun j => j = b ∨ j = b + 1) W W3 := by
  have p1 := put6 h x y z u f t
  have p2 := put6 (B6.kx h' p1.2 (by omega)) x' y' z' u' f' t'
  exact ⟨_, rfl, B6.kx p1.1 p2.2 (by omega), p2.1, (p1.2.sub fun j h => .inl h).trans (p2.2.sub fun j h => .inr h)⟩

set_option maxRecDepth 100000 in
set_option maxHeartbeats 8000000 in
theorem rsimple_any (k : Int) (vp : Value) (l : List Pt) (w : World) (hl : Prs w vp l) (hsm : l.length ≤ 1000) (hsc : ScL l) :
    Calls Try.prog 52 #[.agg #[.int .i64 k, vp]] w fun e w' => e = .returned (.bool (simpleZ k l)) ∧ Aft w w' := by
  have hP := hl
  obtain ⟨a, c, rfl, hl⟩ := hl
  obtain ⟨W0, eW0, hw0, hlt, hbox⟩ := one_box w #[.int .i64 k, .slice a l.length c] 51
  go_enter Try.func52, Try.ntmps52
  go_upto_region 1 with fail
  clear eW0
  have p1 := hbox.out W0 (Aft.refl _) 0 (.int .i64 k) rfl
  have p2 := hbox.out W0 (Aft.refl _) 1 (.slice a l.length c) rfl
  clear hbox
  generalize hn0 : w.heap.size = n0 at *
  go_wp2_with fail
  refine (segments_any k _ l W0 (hP.aft hw0) hsm).mono ?_
  rintro e W1 ⟨v1, rfl, hown, hw1⟩
  have hnle := nSeg_le k l
  have HT := hid (@simpleZ_true k l)
  have HF : Hid (∀ i j, i < nSeg k l → j < i → touchZ l j i = true → simpleZ k l = false) := hid (fun i j => simpleZ_false)
  obtain ⟨m, hm⟩ : ∃ m, nSeg k l = m := ⟨_, rfl⟩
  rw [hm] at hown hnle HT HF
  clear hm
  have hw01 := hw0.trans hw1
  obtain ⟨a1, c1, rfl, _⟩ := ownsRow_at hown
  clear p1 p2
  go_wp2
  go_loopw [4] (fun i wr => ∃ r : Nat, r ≤ m ∧ i = .int .i64 r ∧ Hid (∀ i, i < r → ∀ j, j < i → touchZ l j i = false) ∧ Aft W1 wr) (fun i _ => m - (intOf i).toNat)
  case atStart => exact ⟨0, by omega, rfl, hid fun j hj => by omega, Aft.refl _⟩
  case round =>
    obtain ⟨i, hi, rfl, hno, hwi⟩ := hrel
    rcases Nat.lt_or_ge i m with hlti | hgei
    · have hii : (i : Int) < m := by omega
      go_wp2
      go_loopw [5] (fun j wr => ∃ q : Nat, q ≤ i ∧ j = .int .i64 q ∧ Hid (∀ j, j < q → touchZ l j i = false) ∧ Aft W1 wr) (fun j _ => i - (intOf j).toNat)
      case atStart => exact ⟨0, by omega, rfl, hid fun j hj => by omega, hwi⟩
      case round =>
        obtain ⟨q, hq, rfl, hno2, hwq⟩ := hrel
        rcases Nat.lt_or_ge q i with hltq | hgeq
        · have hqi : (q : Int) < i := by omega
          have o3 := ownsRow_aft hown hwq
          obtain ⟨g, cap, he, q1, q2, q3, q4, q5, q6⟩ := ends_cells o3 (show q < m by omega)
          simp only [Value.slice.injEq, true_and] at he
          obtain ⟨rfl, rfl⟩ := he
          obtain ⟨g', cap', he', t1, t2, t3, t4, t5, t6⟩ := ends_cells o3 hlti
          simp only [Value.slice.injEq, Option.some.injEq, Addr.mk.injEq, true_and, and_true] at he'
          obtain ⟨rfl, rfl⟩ := he'
          have hsa4 := sgZ_sc hsc q
          have hsb4 := sgZ_sc hsc i
          have HN : Hid (touchZ l q i = touchZ l q i) := hid rfl
          have HN2 : Hid (touchZ l q i = false → ∀ j, j < q + 1 → touchZ l j i = false) := hid (fun h j hj => by
            rcases Nat.lt_or_ge j q with h' | h'
            · exact hno2.out j h'
            · obtain rfl : j = q := by omega
              exact h)
          have HF2 := hid (HF.out i q hlti hltq)
          have HD : Hid (touchZ l q i = if (q + 1) % l.length = i then (if (i + 1) % l.length = q then true else onZ (sgZ l i).2 (sgZ l q) || onZ (sgZ l q).1 (sgZ l i))
            else if (i + 1) % l.length = q then onZ (sgZ l q).2 (sgZ l i) || onZ (sgZ l i).1 (sgZ l q) else meetZ (sgZ l q) (sgZ l i)) := hid rfl
          obtain ⟨⟨⟨ax, ay⟩, bx, by_⟩, hs⟩ : ∃ s, sgZ l q = s := ⟨_, rfl⟩
          obtain ⟨⟨⟨cx, cy⟩, dx, dy⟩, ht⟩ : ∃ s, sgZ l i = s := ⟨_, rfl⟩
          obtain ⟨tq, htq⟩ : ∃ t, (q + 1) % l.length = t := ⟨_, rfl⟩
          obtain ⟨ti, hti⟩ : ∃ t, (i + 1) % l.length = t := ⟨_, rfl⟩
          rw [hs] at q1 q2 q3 q4 hsa4 HD
          rw [ht] at t1 t2 t3 t4 hsb4 HD
          rw [htq] at q6 HD
          rw [hti] at t6 HD
          simp only at q1 q2 q3 q4 hsa4 t1 t2 t3 t4 hsb4
          obtain ⟨s1, s2, s3, s4⟩ := hsa4
          obtain ⟨s5, s6, s7, s8⟩ := hsb4
          clear hs ht htq hti
          have hg1 := World.block_lt_of_cell? _ _ q1
          obtain ⟨W2, eW2, hw2, hlt2, hbox2⟩ := two_boxes wr #[.int .i64 ax, .int .i64 ay, .int .i64 bx, .int .i64 by_, .int .i64 q, .int .i64 tq] #[.int .i64 cx, .int .i64 cy, .int .i64 dx, .int .i64 dy, .int .i64 i, .int .i64 ti] 59 59
          have hfz : (∀ o, W2.frozen? ⟨wr.heap.size, o, none⟩ = false) ∧ (∀ o, W2.frozen? ⟨wr.heap.size + 1, o, none⟩ = false) := by
            rw [← eW2]
            refine ⟨fun o => ?_, fun o => ?_⟩
            · rw [((Aft.refl _).alloc _).frozen (by simp)]
              exact frozen_new _ _ _ _
            · simp
          go_upto_region 10 with fail
          clear eW2
          have b6 : B6 W2 wr.heap.size ax ay bx by_ q tq := ⟨⟨⟨(hbox2.out W2 (Aft.refl _)).1 0 _ rfl, (hbox2.out W2 (Aft.refl _)).1 1 _ rfl⟩, (hbox2.out W2 (Aft.refl _)).1 2 _ rfl, (hbox2.out W2 (Aft.refl _)).1 3 _ rfl⟩, (hbox2.out W2 (Aft.refl _)).1 4 _ rfl, (hbox2.out W2 (Aft.refl _)).1 5 _ rfl⟩
          have b7 : B6 W2 (wr.heap.size + 1) cx cy dx dy i ti := ⟨⟨⟨(hbox2.out W2 (Aft.refl _)).2 0 _ rfl, (hbox2.out W2 (Aft.refl _)).2 1 _ rfl⟩, (hbox2.out W2 (Aft.refl _)).2 2 _ rfl, (hbox2.out W2 (Aft.refl _)).2 3 _ rfl⟩, (hbox2.out W2 (Aft.refl _)).2 4 _ rfl, (hbox2.out W2 (Aft.refl _)).2 5 _ rfl⟩
          clear hbox2
          have tr : ∀ {b o : Nat} {v : Value}, wr.cell? ⟨b, o, none⟩ = some v → W2.cell? ⟨b, o, none⟩ = some v := fun h => (hw2.cell (World.block_lt_of_cell? _ _ h)).trans h
          replace q1 := tr q1
          replace q2 := tr q2
          replace q3 := tr q3
          replace q4 := tr q4
          replace q5 := tr q5
          replace q6 := tr q6
          replace t1 := tr t1
          replace t2 := tr t2
          replace t3 := tr t3
          replace t4 := tr t4
          replace t5 := tr t5
          replace t6 := tr t6
          clear tr
          have hwq2 := hwq.trans hw2
          have hz1 := hwq.size
          replace hg1 : g < wr.heap.size := hg1
          generalize hn6 : wr.heap.size = n6 at *
          have fin : ∀ {W3 : World}, Aft W2 W3 → Aft w W3 := fun h => (hw01.trans hwq2).trans h
          obtain ⟨f6, f7⟩ := hfz
          by_cases hf : tq = i
          · subst hf
            by_cases hc : ti = q
            · subst hc
              have HQ := hid (HF2.out (by rw [HD.out, if_pos rfl, if_pos rfl]))
              have FI := hid (fin (Aft.refl W2))
              obtain ⟨⟨⟨x1, x2⟩, x3, x4⟩, x5, x6⟩ := b6
              obtain ⟨⟨⟨y1, y2⟩, y3, y4⟩, y5, y6⟩ := b7
              go_wp2
              go_ret
              exact ⟨by rw [HQ.out]; rfl, FI.out⟩
            · have hcz : ((ti : Int) == (q : Int)) = false := by rw [beq_eq_false_iff_ne]; omega
              have hcn : ((ti : Int) != (q : Int)) = true := by rw [bne_iff_ne]; omega
              have hce : ¬ ((ti : Int) = (q : Int)) := by omega
              have HD2 := hid (show touchZ l q tq = (onZ (dx, dy) ((ax, ay), (bx, by_)) || onZ (ax, ay) ((cx, cy), (dx, dy))) by rw [HD.out, if_pos rfl, if_neg hc])
              clear hc
              obtain ⟨⟨⟨x1, x2⟩, x3, x4⟩, x5, x6⟩ := b6
              obtain ⟨⟨⟨y1, y2⟩, y3, y4⟩, y5, y6⟩ := b7
              obtain ⟨o, ho⟩ : ∃ o, onZ (dx, dy) ((ax, ay), (bx, by_)) = o := ⟨_, rfl⟩
              obtain ⟨o2, ho2⟩ : ∃ o, onZ (ax, ay) ((cx, cy), (dx, dy)) = o := ⟨_, rfl⟩
              have HO := hid ho
              have HO2 := hid ho2
              go_wp2_with fail
              refine (ron_any _ _ _ s1 s2 s3 s4 s7 s8).mono ?_
              rintro e w1 ⟨rfl, hw3⟩
              rw [ho]
              clear ho
              have FI := hid (fin hw3)
              cases o
              case true =>
                have HQ := hid (HF2.out (by rw [HD2.out, HO.out]; rfl))
                go_wp2
                go_ret
                exact ⟨by rw [HQ.out]; rfl, FI.out⟩
              case false =>
                have tr : ∀ {b o : Nat} {v : Value}, W2.cell? ⟨b, o, none⟩ = some v → w1.cell? ⟨b, o, none⟩ = some v := fun h => (hw3.cell (World.block_lt_of_cell? _ _ h)).trans h
                replace x1 := tr x1
                replace x2 := tr x2
                replace x3 := tr x3
                replace x4 := tr x4
                replace x5 := tr x5
                replace x6 := tr x6
                replace y1 := tr y1
                replace y2 := tr y2
                replace y3 := tr y3
                replace y4 := tr y4
                replace y5 := tr y5
                replace y6 := tr y6
                clear tr
                go_wp2_with fail
                refine (ron_any _ _ _ s5 s6 s7 s8 s1 s2).mono ?_
                rintro e w2 ⟨rfl, hw4⟩
                rw [ho2]
                clear ho2
                have FI2 := hid (fin (hw3.trans hw4))
                have HW := (hwq2.trans hw3).trans hw4
                cases o2
                case true =>
                  have HQ := hid (HF2.out (by rw [HD2.out, HO.out, HO2.out]; rfl))
                  go_wp2
                  go_ret
                  exact ⟨by rw [HQ.out]; rfl, FI2.out⟩
                case false =>
                  have HQ := hid (HN2.out (by rw [HD2.out, HO.out, HO2.out]; rfl))
                  go_wp2
                  go_roundw
                  case rel => exact ⟨q + 1, by omega, by go_num, HQ, HW⟩
                  case measure => simp only [intOf]; omega
          · have hfz : ((tq : Int) == (i : Int)) = false := by rw [beq_eq_false_iff_ne]; omega
            have hfn : ((tq : Int) != (i : Int)) = true := by rw [bne_iff_ne]; omega
            have hfe : ¬ ((tq : Int) = (i : Int)) := by omega
            by_cases hc : ti = q
            · subst hc
              have HD2 := hid (show touchZ l ti i = (onZ (bx, by_) ((cx, cy), (dx, dy)) || onZ (cx, cy) ((ax, ay), (bx, by_))) by rw [HD.out, if_neg hf, if_pos rfl])
              clear hf
              have hsw := swap6 b6 b7 cx cy dx dy i ti ax ay bx by_ ti tq
              obtain ⟨⟨⟨x1, x2⟩, x3, x4⟩, x5, x6⟩ := b6
              obtain ⟨⟨⟨y1, y2⟩, y3, y4⟩, y5, y6⟩ := b7
              obtain ⟨W3, eW3, ⟨⟨⟨x1', x2'⟩, x3', x4'⟩, x5', x6'⟩, ⟨⟨⟨y1', y2'⟩, y3', y4'⟩, y5', y6'⟩, hk3⟩ := hsw
              go_upto_region 18 with fail
              clear eW3 x1 x2 x3 x4 x5 x6 y1 y2 y3 y4 y5 y6
              have hsz : W1.heap.size ≤ n6 := hz1
              have fin : ∀ {W : World}, Aft W3 W → Aft w W := fun h => hw01.trans ((kx_aft hwq2 (fun j hj => by rcases hj with rfl | rfl <;> omega) hk3).trans h)
              have hwq3 := kx_aft hwq2 (fun j hj => by rcases hj with rfl | rfl <;> omega) hk3
              obtain ⟨o, ho⟩ : ∃ o, onZ (bx, by_) ((cx, cy), (dx, dy)) = o := ⟨_, rfl⟩
              obtain ⟨o2, ho2⟩ : ∃ o, onZ (cx, cy) ((ax, ay), (bx, by_)) = o := ⟨_, rfl⟩
              have HO := hid ho
              have HO2 := hid ho2
              go_wp2_with fail
              refine (ron_any _ _ _ s5 s6 s7 s8 s3 s4).mono ?_
              rintro e w1 ⟨rfl, hw3⟩
              rw [ho]
              clear ho
              have FI := hid (fin hw3)
              cases o
              case true =>
                have HQ := hid (HF2.out (by rw [HD2.out, HO.out]; rfl))
                go_wp2
                go_ret
                exact ⟨by rw [HQ.out]; rfl, FI.out⟩
              case false =>
                have tr : ∀ {b o : Nat} {v : Value}, W3.cell? ⟨b, o, none⟩ = some v → w1.cell? ⟨b, o, none⟩ = some v := fun h => (hw3.cell (World.block_lt_of_cell? _ _ h)).trans h
                replace x1' := tr x1'
                replace x2' := tr x2'
                replace x3' := tr x3'
                replace x4' := tr x4'
                replace x5' := tr x5'
                replace x6' := tr x6'
                replace y1' := tr y1'
                replace y2' := tr y2'
                replace y3' := tr y3'
                replace y4' := tr y4'
                replace y5' := tr y5'
                replace y6' := tr y6'
                clear tr
                go_wp2_with fail
                refine (ron_any _ _ _ s1 s2 s3 s4 s5 s6).mono ?_
                rintro e w2 ⟨rfl, hw4⟩
                rw [ho2]
                clear ho2
                have FI2 := hid (fin (hw3.trans hw4))
                have HW := (hwq3.trans hw3).trans hw4
                cases o2
                case true =>
                  have HQ := hid (HF2.out (by rw [HD2.out, HO.out, HO2.out]; rfl))
                  go_wp2
                  go_ret
                  exact ⟨by rw [HQ.out]; rfl, FI2.out⟩
                case false =>
                  have HQ := hid (HN2.out (by rw [HD2.out, HO.out, HO2.out]; rfl))
                  go_wp2
                  go_roundw
                  case rel => exact ⟨ti + 1, by omega, by go_num, HQ, HW⟩
                  case measure => simp only [intOf]; omega
            · have hcz : ((ti : Int) == (q : Int)) = false := by rw [beq_eq_false_iff_ne]; omega
              have hcn : ((ti : Int) != (q : Int)) = true := by rw [bne_iff_ne]; omega
              have hce : ¬ ((ti : Int) = (q : Int)) := by omega
              have HD2 := hid (show touchZ l q i = meetZ ((ax, ay), (bx, by_)) ((cx, cy), (dx, dy)) by rw [HD.out, if_neg hf, if_neg hc])
              clear hf hc
              obtain ⟨⟨⟨x1, x2⟩, x3, x4⟩, x5, x6⟩ := b6
              obtain ⟨⟨⟨y1, y2⟩, y3, y4⟩, y5, y6⟩ := b7
              obtain ⟨o, ho⟩ : ∃ o, meetZ ((ax, ay), (bx, by_)) ((cx, cy), (dx, dy)) = o := ⟨_, rfl⟩
              have HO := hid ho
              go_wp2_with fail
              refine (rmeet_any _ _ _ _ _ s1 s2 s3 s4 s5 s6 s7 s8).mono ?_
              rintro e w1 ⟨rfl, hw3⟩
              rw [ho]
              clear ho
              have FI := hid (fin hw3)
              have HW := hwq2.trans hw3
              cases o
              case true =>
                have HQ := hid (HF2.out (by rw [HD2.out, HO.out]))
                go_wp2
                go_ret
                exact ⟨by rw [HQ.out]; rfl, FI.out⟩
              case false =>
                have HQ := hid (HN2.out (by rw [HD2.out, HO.out]))
                go_wp2
                go_roundw
                case rel => exact ⟨q + 1, by omega, by go_num, HQ, HW⟩
                case measure => simp only [intOf]; omega
        · obtain rfl : q = i := by omega
          have HN := hid (show ∀ u, u < q + 1 → ∀ j, j < u → touchZ l j u = false from fun u hu => by
            rcases Nat.lt_or_ge u q with h | h
            · exact hno.out u h
            · obtain rfl : u = q := by omega
              exact hno2.out)
          go_wp2
          go_roundw
          case rel => exact ⟨q + 1, by omega, by go_num, HN, hwq⟩
          case measure => simp only [intOf]; omega
    · obtain rfl : i = m := by omega
      have HQ := hid (HT.out hno.out)
      go_wp2
      go_ret
      exact ⟨by rw [HQ.out]; rfl, hw01.trans hwi⟩
end Go.Proofs.Ytokdclbfjlnnjaa
/- The reference's Near. -/
namespace Go.Proofs.Ytokdclbfjlnnjaa
open Go.RowKit Go.BigFrame

/-- A row of Ends, written out. -/
def endsR (L : List ((Pt × Pt) × Int × Int)) : List Value := L.flatMap fun e => ecells e.1 e.2.1 e.2.2
def fvNew4 (cs : List Value) : FV := ⟨fun v W => ∃ g, v = .slice (some ⟨g, 0, none⟩) 4 4 ∧ Rd W (some ⟨g, 0, none⟩) cs, fun _ _ _ ⟨g, h1, h2⟩ hw => ⟨g, h1, h2.aft hw⟩⟩
def ptsL (s t : Pt × Pt) : List Pt := [s.1, s.2, t.1, t.2]
def othL (s t : Pt × Pt) : List (Pt × Pt) := [t, t, s, s]
def stepFar (s t : Pt × Pt) (st : Option (Int × Int)) : Nat → Option (Int × Int)
  | 0 => st
  | j + 1 => better (stepFar s t st j) (farZ ((ptsL s t).getD j (0, 0)) ((othL s t).getD j ((0, 0), (0, 0))))
def encN0 : Option (Int × Int) → Int
  | none => 0
  | some f => f.1
def encD0 : Option (Int × Int) → Int
  | none => 0
  | some f => f.2

end Go.Proofs.Ytokdclbfjlnnjaa
/- The reference's Shaped and Valid; rows of shapes. -/
namespace Go.Proofs.Ytokdclbfjlnnjaa
open Go.RowKit Go.BigFrame

/-- A row of shapes: a kind and a slice of points each. -/
def shCells (R : List (Int × Value)) : List Value := R.flatMap fun r => [.int .i64 r.1, r.2]
theorem shCells_length (R : List (Int × Value)) : (shCells R).length = R.length * 2 := by
  induction R with
  | nil => rfl
  | cons a l ih => simp only [shCells, List.flatMap_cons, List.length_append, List.length_cons] at *; simp at *; omega
theorem shCells_append (R S : List (Int × Value)) : shCells (R ++ S) = shCells R ++ shCells S := by simp [shCells]
theorem shCells_get {R : List (Int × Value)} : ∀ {k : Nat} {r : Int × Value}, R[k]? = some r → (shCells R)[k * 2]? = some (.int .i64 r.1) ∧ (shCells R)[k * 2 + 1]? = some r.2 := by
  induction R with
  | nil => intro k p h; simp at h
  | cons a l ih =>
    intro k p h
    cases k with
    | zero => simp at h; subst h; simp [shCells]
    | succ k =>
      have := ih (k := k) (r := p) (by simpa using h)
      have e : (k + 1) * 2 = k * 2 + 2 := by omega
      rw [e]
      simp only [shCells, List.flatMap_cons, List.cons_append, List.nil_append] at *
      exact this
abbrev Sh := Int × List Pt
structure ShsAt (w : World) (a : Option Addr) (n c : Nat) (R : List (Int × Value)) (L : List Sh) : Prop where
  len : n = L.length
  lenR : R.length = L.length
  rd : Rd w a (shCells R)
  el : ∀ (i : Nat) (r : Int × Value) (s : Sh), R[i]? = some r → L[i]? = some s → r.1 = s.1 ∧ Prs w r.2 s.2
  cap : n ≤ c
  nil : a = none → c = 0
  size : n * 32 ≤ 140737488351232
def Shs (w : World) (v : Value) (L : List Sh) : Prop := ∃ a c R, v = .slice a L.length c ∧ ShsAt w a L.length c R L
theorem ShsAt.aft {w w' : World} {a : Option Addr} {n c : Nat} {R : List (Int × Value)} {L : List Sh} (h : ShsAt w a n c R L) (hw : Aft w w') : ShsAt w' a n c R L :=
  { h with rd := h.rd.aft hw, el := fun i r s h1 h2 => ⟨(h.el i r s h1 h2).1, (h.el i r s h1 h2).2.aft hw⟩ }
theorem Shs.aft {w w' : World} {v : Value} {L : List Sh} (h : Shs w v L) (hw : Aft w w') : Shs w' v L := let ⟨a, c, R, e, h⟩ := h; ⟨a, c, R, e, h.aft hw⟩
theorem ShsAt.le {w : World} {a : Option Addr} {n c : Nat} {R : List (Int × Value)} {L : List Sh} (h : ShsAt w a n c R L) : n ≤ 4398046510976 := by have := h.size; omega
theorem ShsAt.get {w : World} {a : Option Addr} {n c : Nat} {R : List (Int × Value)} {L : List Sh} (h : ShsAt w a n c R L) {i : Nat} (hi : i < L.length) :
    ∃ b off k ps ap cp, a = some ⟨b, off, none⟩ ∧ w.cell? ⟨b, off + i * 2, none⟩ = some (.int .i64 k) ∧ w.cell? ⟨b, off + i * 2 + 1, none⟩ = some (.slice ap (List.length ps) cp) ∧ b < w.heap.size ∧ Hid (L[i]? = some (k, ps)) ∧ PrsAt w ap ps.length cp ps := by
  have hr : R[i]? = some (R[i]'(by rw [h.lenR]; exact hi)) := List.getElem?_eq_getElem (by rw [h.lenR]; exact hi)
  have hs : L[i]? = some L[i] := List.getElem?_eq_getElem hi
  obtain ⟨e1, ap, cp, e2, hp⟩ := h.el i _ _ hr hs
  obtain ⟨h1, h2⟩ := shCells_get hr
  obtain ⟨b, off, e, hc, hb⟩ := h.rd.get h1
  obtain ⟨b', off', e', hc', hb'⟩ := h.rd.get h2
  rw [e] at e'
  simp only [Option.some.injEq, Addr.mk.injEq, and_true] at e'
  obtain ⟨rfl, rfl⟩ := e'
  refine ⟨b, off, L[i].1, L[i].2, ap, cp, e, by rw [hc, e1], by rw [Nat.add_assoc, hc', e2], hb, hid hs, hp⟩
theorem Rd.at0 {w : World} {g off : Nat} {cs : List Value} (h : Rd w (some ⟨g, off, none⟩) cs) {j : Nat} {v : Value} (hj : cs[j]? = some v) : w.cell? ⟨g, off + j, none⟩ = some v := by
  obtain ⟨ad, e, hc⟩ := h j v hj
  cases e
  by_cases h0 : j = 0
  · subst h0; simpa [Addr.add] using hc
  · simpa [Addr.add, h0] using hc

def shapedZ (k : Int) (l : List Pt) : Bool :=
  if k = 0 then decide (l.length = 1)
  else if (k = 1 ∧ l.length < 2) ∨ (k = 2 ∧ l.length < 3) ∨ (k ≠ 1 ∧ k ≠ 2) then false
  else !((List.range (nSeg k l)).any fun i => decide ((sgZ l i).1 = (sgZ l i).2))

set_option maxRecDepth 100000 in
set_option maxHeartbeats 8000000 in
theorem rshaped_any (k : Int) (vp : Value) (l : List Pt) (w : World) (hl : Prs w vp l) (hsm : l.length ≤ 1000) (_ : ScL l) :
    Calls Try.prog 99 #[.agg #[.int .i64 k, vp]] w fun e w' => e = .returned (.bool (shapedZ k l)) ∧ Aft w w' := by
  have hP := hl
  obtain ⟨a, c, rfl, hl⟩ := hl
  obtain ⟨W0, eW0, hw0, hlt, hbox⟩ := one_box w #[.int .i64 k, .slice a l.length c] 51
  go_enter Try.func99, Try.ntmps99
  go_upto_region 1 with fail
  clear eW0
  have p1 := hbox.out W0 (Aft.refl _) 0 (.int .i64 k) rfl
  have p2 := hbox.out W0 (Aft.refl _) 1 (.slice a l.length c) rfl
  clear hbox
  generalize hn0 : w.heap.size = n0 at *
  have HD := hid (show shapedZ k l = if k = 0 then decide (l.length = 1)
    else if (k = 1 ∧ l.length < 2) ∨ (k = 2 ∧ l.length < 3) ∨ (k ≠ 1 ∧ k ≠ 2) then false
    else !((List.range (nSeg k l)).any fun i => decide ((sgZ l i).1 = (sgZ l i).2)) from rfl)
  by_cases hk0 : k = 0
  · subst hk0
    by_cases h1 : l.length = 1
    · have h1' : ((l.length : Int) == 1) = true := by simp; omega
      have HQ := hid (show shapedZ 0 l = true by rw [HD.out, if_pos rfl]; simpa using h1)
      go_wp2
      go_ret
      exact ⟨by rw [HQ.out]; rfl, hw0⟩
    · have h1' : ((l.length : Int) == 1) = false := by rw [beq_eq_false_iff_ne]; omega
      have HQ := hid (show shapedZ 0 l = false by rw [HD.out, if_pos rfl]; simpa using h1)
      go_wp2
      go_ret
      exact ⟨by rw [HQ.out]; rfl, hw0⟩
  have hk0' : (k == 0) = false := by rw [beq_eq_false_iff_ne]; exact hk0
  by_cases hbad : (k = 1 ∧ l.length < 2) ∨ (k = 2 ∧ l.length < 3) ∨ (k ≠ 1 ∧ k ≠ 2)
  · have HQ := hid (show shapedZ k l = false by rw [HD.out, if_neg hk0, if_pos hbad])
    rcases hbad with ⟨rfl, h⟩ | ⟨rfl, h⟩ | ⟨h1, h2⟩
    · have hi : (l.length : Int) < 2 := by omega
      go_wp2
      go_ret
      exact ⟨by rw [HQ.out]; rfl, hw0⟩
    · have hi : (l.length : Int) < 3 := by omega
      go_wp2
      go_ret
      exact ⟨by rw [HQ.out]; rfl, hw0⟩
    · have e1 : (k == 1) = false := by rw [beq_eq_false_iff_ne]; exact h1
      have e2 : (k == 2) = false := by rw [beq_eq_false_iff_ne]; exact h2
      have e3 : (k != 1) = true := by rw [bne_iff_ne]; exact h1
      have e4 : (k != 2) = true := by rw [bne_iff_ne]; exact h2
      go_wp2
      go_ret
      exact ⟨by rw [HQ.out]; rfl, hw0⟩
  · have HD2 := hid (show shapedZ k l = !((List.range (nSeg k l)).any fun i => decide ((sgZ l i).1 = (sgZ l i).2)) by rw [HD.out, if_neg hk0, if_neg hbad])
    have hnle := nSeg_le k l
    have KEY : Calls Try.prog 78 #[.agg #[.int .i64 k, .slice a l.length c]] W0 fun e w' => ∃ v, e = .returned v ∧ w'.ownsRow W0.heap.size 59 6 v (nSeg k l) (endsC l (nSeg k l)) ∧ Aft W0 w' := segments_any k _ l W0 (hP.aft hw0) hsm
    have hkk : k = 1 ∨ k = 2 := by omega
    have hi2 : ¬ ((l.length : Int) < 2) := by omega
    have fwd : ∀ {Q : Prop}, (k = 1 → True → Q) → (k = 2 → ¬ ((l.length : Int) < 3) → Q) → Q := fun h1 h2 => by
      rcases hkk with h | h
      · exact h1 h trivial
      · exact h2 h (by omega)
    obtain ⟨m, hm⟩ : ∃ m, nSeg k l = m := ⟨_, rfl⟩
    rw [hm] at HD2 KEY hnle
    clear hm hbad
    refine fwd ?_ ?_
    all_goals
      intro hkk'
      intro hl3
      subst hkk'
      go_wp2_with fail
      refine KEY.mono ?_
      rintro e W1 ⟨v1, rfl, hown, hw1⟩
      have hw01 := hw0.trans hw1
      obtain ⟨a1, c1, rfl, _⟩ := ownsRow_at hown
      clear p1 p2 KEY
      go_wp2
      go_loopw [5] (fun i wr => ∃ r : Nat, r ≤ m ∧ i = .int .i64 r ∧ Hid (∀ i, i < r → decide ((sgZ l i).1 = (sgZ l i).2) = false) ∧ Aft W1 wr) (fun i _ => m - (intOf i).toNat)
      case atStart => exact ⟨0, by omega, rfl, hid fun j hj => by omega, Aft.refl _⟩
      case round =>
        obtain ⟨r, hr, rfl, hno, hwr⟩ := hrel
        rcases Nat.lt_or_ge r m with hlt' | hge
        · have hri : (r : Int) < m := by omega
          have hownr := ownsRow_aft hown hwr
          obtain ⟨g, cap, he, q1, q2, q3, q4, q5, q6⟩ := ends_cells hownr hlt'
          simp only [Value.slice.injEq, true_and] at he
          obtain ⟨rfl, rfl⟩ := he
          obtain ⟨⟨⟨ax, ay⟩, bx, by_⟩, hs⟩ : ∃ s, sgZ l r = s := ⟨_, rfl⟩
          rw [hs] at q1 q2 q3 q4
          simp only at q1 q2 q3 q4
          have HS := hid hs
          clear hs
          have hgl := World.block_lt_of_cell? _ _ q1
          obtain ⟨W2, hW2⟩ : ∃ W2, W2 = wr := ⟨_, rfl⟩
          subst hW2
          rcases Classical.em (ax = bx ∧ ay = by_) with ⟨he1, he2⟩ | hne
          · have HQ := hid (show shapedZ _ l = false by
              rw [HD2.out, List.any_eq_true.2 ⟨r, List.mem_range.2 hlt', by rw [HS.out]; simp [he1, he2]⟩]; rfl)
            have h1 : (ax == bx) = true := by simpa using he1
            have h2 : (ay == by_) = true := by simpa using he2
            clear he1 he2
            go_upto_region 10 with fail
            refine wp_region_lat W2 (Aft.refl _) (by kernel_rfl) (by kernel_rfl) ?_
            repeat (go_big_quiet_step (fail))
            refine wpQuiet_nil ?_
            intro _ hw'; obtain ⟨z, rfl⟩ := hw'
            have hwz := hwr.trans z.aft
            go_wp2
            go_ret
            exact ⟨by rw [HQ.out]; rfl, hw01.trans hwz⟩
          by_cases he1 : ax = bx
          · have h1 : (ax == bx) = true := by simpa using he1
            have h2 : (ay == by_) = false := by rw [beq_eq_false_iff_ne]; exact fun h => hne ⟨he1, h⟩
            go_upto_region 10 with fail
            refine wp_region_lat W2 (Aft.refl _) (by kernel_rfl) (by kernel_rfl) ?_
            repeat (go_big_quiet_step (fail))
            refine wpQuiet_nil ?_
            intro _ hw'; obtain ⟨z, rfl⟩ := hw'
            have hwz := hwr.trans z.aft
            have HN := hid (show ∀ j, j < r + 1 → decide ((sgZ l j).1 = (sgZ l j).2) = false from fun j hj => by
              rcases Nat.lt_or_ge j r with h | h
              · exact hno.out j h
              · obtain rfl : j = r := by omega
                rw [HS.out]; simp; omega)
            go_wp2
            go_roundw
            case rel => exact ⟨r + 1, by omega, by go_num, HN, hwz⟩
            case measure => simp only [intOf]; omega
          · have h1 : (ax == bx) = false := by rw [beq_eq_false_iff_ne]; exact he1
            go_upto_region 10 with fail
            refine wp_region_lat W2 (Aft.refl _) (by kernel_rfl) (by kernel_rfl) ?_
            repeat (go_big_quiet_step (fail))
            refine wpQuiet_nil ?_
            intro _ hw'; obtain ⟨z, rfl⟩ := hw'
            have hwz := hwr.trans z.aft
            have HN := hid (show ∀ j, j < r + 1 → decide ((sgZ l j).1 = (sgZ l j).2) = false from fun j hj => by
              rcases Nat.lt_or_ge j r with h | h
              · exact hno.out j h
              · obtain rfl : j = r := by omega
                rw [HS.out]; simp; omega)
            go_wp2
            go_roundw
            case rel => exact ⟨r + 1, by omega, by go_num, HN, hwz⟩
            case measure => simp only [intOf]; omega
        · obtain rfl : r = m := by omega
          have HQ := hid (show shapedZ _ l = true by
            rw [HD2.out, List.any_eq_false.2 (fun i hi => by rw [hno.out i (List.mem_range.1 hi)]; simp)]; rfl)
          go_wp2
          go_ret
          exact ⟨by rw [HQ.out]; rfl, hw01.trans hwr⟩
end Go.Proofs.Ytokdclbfjlnnjaa
/- The reference's Valid. -/
namespace Go.Proofs.Ytokdclbfjlnnjaa
open Go.RowKit Go.BigFrame

def outZ (W H : Int) (p : Pt) : Bool := decide (p.1 < 0 ∨ W < p.1 ∨ p.2 < 0 ∨ H < p.2)
def limitZ (W H : Int) (L : List Sh) : Bool := decide (W < 0 ∨ 1000 < W ∨ H < 0 ∨ 1000 < H ∨ 8 < L.length)
def validZ (W H : Int) (L : List Sh) : Int :=
  if limitZ W H L = true then 4
  else if (L.any fun s => decide (12 < s.2.length)) = true then 4
  else if (L.any fun s => !shapedZ s.1 s.2) = true then 1
  else if (L.any fun s => s.2.any (outZ W H)) = true then 5
  else if (L.any fun s => !simpleZ s.1 s.2) = true then 2
  else 0
def ShSc (L : List Sh) : Prop := ∀ s ∈ L, s.2.length ≤ 1000 ∧ ScL s.2
theorem any_of {α : Type} {L : List α} {f : α → Bool} {i : Nat} {s : α} (h : L[i]? = some s) (hf : f s = true) : L.any f = true := List.any_eq_true.2 ⟨s, List.mem_of_getElem? h, hf⟩
theorem any_not {α : Type} {L : List α} {f : α → Bool} (h : ∀ i, i < L.length → ∀ s, L[i]? = some s → f s = false) : L.any f = false := List.any_eq_false.2 (fun p hp => by
  obtain ⟨j, hj, hjp⟩ := List.mem_iff_getElem.1 hp
  rw [h j hj p (by rw [List.getElem?_eq_getElem hj, hjp])]; simp)
theorem shaped_to {k : Int} {o : Bool} {l : List Pt} (h : shapedZ k l = o) {vp : Value} (w : World) (hl : Prs w vp l) (hsm : l.length ≤ 1000) (hsc : ScL l) :
    Calls Try.prog 99 #[.agg #[.int .i64 k, vp]] w fun e w' => e = .returned (.bool o) ∧ Aft w w' := by rw [← h]; exact rshaped_any k vp l w hl hsm hsc
theorem simple_to {k : Int} {o : Bool} {l : List Pt} (h : simpleZ k l = o) {vp : Value} (w : World) (hl : Prs w vp l) (hsm : l.length ≤ 1000) (hsc : ScL l) :
    Calls Try.prog 52 #[.agg #[.int .i64 k, vp]] w fun e w' => e = .returned (.bool o) ∧ Aft w w' := by rw [← h]; exact rsimple_any k vp l w hl hsm hsc
theorem upto_succ {α : Type} {L : List α} {f : α → Bool} {r : Nat} {s : α} (h : ∀ i, i < r → ∀ s, L[i]? = some s → f s = false) (hs : L[r]? = some s) (hf : f s = false) : ∀ i, i < r + 1 → ∀ s, L[i]? = some s → f s = false := fun i hi t ht => by
  rcases Nat.lt_or_ge i r with h' | h'
  · exact h i h' t ht
  · obtain rfl : i = r := by omega
    rw [hs] at ht; cases ht; exact hf

set_option maxRecDepth 100000 in
set_option maxHeartbeats 16000000 in
theorem rvalid_any (W H : Int) (v : Value) (L : List Sh) (w : World) (hv : Shs w v L) (hsc : ShSc L) :
    Calls Try.prog 50 #[.agg #[.int .i64 W, .int .i64 H, v]] w fun e w' => e = .returned (.int .i64 (validZ W H L)) ∧ Aft w w' := by
  obtain ⟨a, c, R, rfl, hv⟩ := hv
  have hle := hv.le
  obtain ⟨W0, eW0, hw0, hlt, hbox⟩ := one_box w #[.int .i64 W, .int .i64 H, .slice a L.length c] 45
  go_enter Try.func50, Try.ntmps50
  go_upto_region 1 with fail
  clear eW0
  have hF : Hid (∀ V, Aft W0 V → V.cell? ⟨w.heap.size, 0, none⟩ = some (.int .i64 W) ∧ V.cell? ⟨w.heap.size, 1, none⟩ = some (.int .i64 H) ∧ V.cell? ⟨w.heap.size, 2, none⟩ = some (.slice a L.length c)) := hid fun V hV => ⟨hbox.out V hV 0 _ rfl, hbox.out V hV 1 _ rfl, hbox.out V hV 2 _ rfl⟩
  clear hbox
  obtain ⟨p1, p2, p3⟩ := hF.out W0 (Aft.refl _)
  have hn0' : w.heap.size < W0.heap.size := hlt
  generalize hn0 : w.heap.size = n0 at *
  have hv0 := hv.aft hw0
  have HD := hid (show validZ W H L = if limitZ W H L = true then 4
    else if (L.any fun s => decide (12 < s.2.length)) = true then 4
    else if (L.any fun s => !shapedZ s.1 s.2) = true then 1
    else if (L.any fun s => s.2.any (outZ W H)) = true then 5
    else if (L.any fun s => !simpleZ s.1 s.2) = true then 2
    else 0 from rfl)
  by_cases hlim : W < 0 ∨ 1000 < W ∨ H < 0 ∨ 1000 < H ∨ 8 < L.length
  · have HQ := hid (show validZ W H L = 4 by rw [HD.out, if_pos (by unfold limitZ; simpa using hlim)])
    by_cases h1 : W < 0
    · go_wp2
      go_ret
      exact ⟨by rw [HQ.out]; rfl, hw0⟩
    by_cases h2 : 1000 < W
    · go_wp2
      go_ret
      exact ⟨by rw [HQ.out]; rfl, hw0⟩
    by_cases h3 : H < 0
    · go_wp2
      go_ret
      exact ⟨by rw [HQ.out]; rfl, hw0⟩
    by_cases h4 : 1000 < H
    · go_wp2
      go_ret
      exact ⟨by rw [HQ.out]; rfl, hw0⟩
    · have h5 : (8 : Int) < L.length := by omega
      go_wp2
      go_ret
      exact ⟨by rw [HQ.out]; rfl, hw0⟩
  have HD1 := hid (show validZ W H L = if (L.any fun s => decide (12 < s.2.length)) = true then 4
    else if (L.any fun s => !shapedZ s.1 s.2) = true then 1
    else if (L.any fun s => s.2.any (outZ W H)) = true then 5
    else if (L.any fun s => !simpleZ s.1 s.2) = true then 2
    else 0 by rw [HD.out, if_neg (by unfold limitZ; simpa using hlim)])
  have hL8 : L.length ≤ 8 := by omega
  have h1 : ¬ W < 0 := by omega
  have h2 : ¬ 1000 < W := by omega
  have h3 : ¬ H < 0 := by omega
  have h4 : ¬ 1000 < H := by omega
  have h5 : ¬ (8 : Int) < L.length := by omega
  clear hlim
  go_wp2
  clear p1 p2 p3
  go_loopw [3] (fun i wr => ∃ r : Nat, r ≤ L.length ∧ i = .int .i64 r ∧ Hid (∀ i, i < r → ∀ s, L[i]? = some s → decide (12 < s.2.length) = false) ∧ Aft W0 wr) (fun i _ => L.length - (intOf i).toNat)
  case atStart => exact ⟨0, by omega, rfl, hid fun j hj => by omega, Aft.refl _⟩
  case round =>
    obtain ⟨r, hr, rfl, hno, hwr⟩ := hrel
    obtain ⟨p1, p2, p3⟩ := hF.out wr hwr
    rcases Nat.lt_or_ge r L.length with hlt' | hge
    · have hri : (r : Int) < L.length := by omega
      have hvr := hv0.aft hwr
      obtain ⟨b, off, k, ps, ap, cp, rfl, c1, c2, hb, hg, hp⟩ := hvr.get hlt'
      by_cases h12 : 12 < ps.length
      · have h12' : (12 : Int) < ps.length := by omega
        have HQ := hid (show validZ W H L = 4 by rw [HD1.out, if_pos (any_of hg.out (by simpa using h12))])
        clear h12
        go_wp2
        go_ret
        exact ⟨by rw [HQ.out]; rfl, hw0.trans hwr⟩
      · have h12' : ¬ (12 : Int) < ps.length := by omega
        have HN := hid (upto_succ hno.out hg.out (by simpa using h12))
        clear h12
        go_wp2
        go_roundw
        case rel => exact ⟨r + 1, by omega, by go_num, HN, hwr⟩
        case measure => simp only [intOf]; omega
    · obtain rfl : r = L.length := by omega
      have HD2 := hid (show validZ W H L = if (L.any fun s => !shapedZ s.1 s.2) = true then 1
        else if (L.any fun s => s.2.any (outZ W H)) = true then 5
        else if (L.any fun s => !simpleZ s.1 s.2) = true then 2
        else 0 by rw [HD1.out, any_not hno.out]; rfl)
      clear HD1 HD hno
      go_wp2
      clear p1 p2 p3
      go_loopw [4] (fun i wr => ∃ r : Nat, r ≤ L.length ∧ i = .int .i64 r ∧ Hid (∀ i, i < r → ∀ s, L[i]? = some s → (!shapedZ s.1 s.2) = false) ∧ Aft W0 wr) (fun i _ => L.length - (intOf i).toNat)
      case atStart => exact ⟨0, by omega, rfl, hid fun j hj => by omega, hwr⟩
      case round =>
        obtain ⟨r, hr, rfl, hno, hwr⟩ := hrel
        obtain ⟨p1, p2, p3⟩ := hF.out wr hwr
        rcases Nat.lt_or_ge r L.length with hlt' | hge
        · have hri : (r : Int) < L.length := by omega
          have hvr := hv0.aft hwr
          obtain ⟨b, off, k, ps, ap, cp, rfl, c1, c2, hb, hg, hp⟩ := hvr.get hlt'
          obtain ⟨hs1, hs2⟩ := hsc _ (List.mem_of_getElem? hg.out)
          obtain ⟨o, ho⟩ : ∃ o, shapedZ k ps = o := ⟨_, rfl⟩
          have HO := hid ho
          go_wp2_with fail
          refine (shaped_to ho wr ⟨_, _, rfl, hp⟩ hs1 hs2).mono ?_
          rintro e w1 ⟨rfl, hw1⟩
          have hwr1 := hwr.trans hw1
          clear ho
          cases o with
          | false =>
            have HQ := hid (show validZ W H L = 1 by rw [HD2.out, if_pos (any_of hg.out (by rw [HO.out]; rfl))])
            go_wp2
            go_ret
            exact ⟨by rw [HQ.out]; rfl, hw0.trans hwr1⟩
          | true =>
            have HN := hid (upto_succ hno.out hg.out (by rw [HO.out]; rfl))
            go_wp2
            go_roundw
            case rel => exact ⟨r + 1, by omega, by go_num, HN, hwr1⟩
            case measure => simp only [intOf]; omega
        · obtain rfl : r = L.length := by omega
          have HD3 := hid (show validZ W H L = if (L.any fun s => s.2.any (outZ W H)) = true then 5
            else if (L.any fun s => !simpleZ s.1 s.2) = true then 2
            else 0 by rw [HD2.out, any_not hno.out]; rfl)
          clear HD2 hno
          go_wp2
          clear p1 p2 p3
          go_loopw [5] (fun i wr => ∃ r : Nat, r ≤ L.length ∧ i = .int .i64 r ∧ Hid (∀ i, i < r → ∀ s, L[i]? = some s → (s.2.any (outZ W H)) = false) ∧ Aft W0 wr) (fun i _ => L.length - (intOf i).toNat)
          case atStart => exact ⟨0, by omega, rfl, hid fun j hj => by omega, hwr⟩
          case round =>
            obtain ⟨r, hr, rfl, hno, hwr⟩ := hrel
            obtain ⟨p1, p2, p3⟩ := hF.out wr hwr
            rcases Nat.lt_or_ge r L.length with hlt' | hge
            · have hri : (r : Int) < L.length := by omega
              have hvr := hv0.aft hwr
              obtain ⟨b, off, k, ps, ap, cp, rfl, c1, c2, hb, hg, hp⟩ := hvr.get hlt'
              obtain ⟨hs1, hs2⟩ := hsc _ (List.mem_of_getElem? hg.out)
              go_wp2
              clear p1 p2 p3 c1 c2
              go_loopw [7] (fun i wq => ∃ q : Nat, q ≤ ps.length ∧ i = .int .i64 q ∧ Hid (∀ i, i < q → ∀ s, ps[i]? = some s → outZ W H s = false) ∧ Aft wr wq) (fun i _ => ps.length - (intOf i).toNat)
              case atStart => exact ⟨0, by omega, rfl, hid fun j hj => by omega, Aft.refl _⟩
              case round =>
                obtain ⟨q, hq, rfl, hnq, hwq⟩ := hrel
                have hwrq := hwr.trans hwq
                obtain ⟨p1, p2, p3⟩ := hF.out wr hwrq
                rcases Nat.lt_or_ge q ps.length with hltq | hgeq
                · have hqi : (q : Int) < ps.length := by omega
                  have hpq := hp.aft hwq
                  obtain ⟨b', off', x, y, rfl, c1, c2, hb', hx, _⟩ := hpq.rd.pair hpq.ok hltq
                  have hl1 := World.block_lt_of_cell? _ _ p1
                  obtain ⟨W2, hW2⟩ : ∃ W2, W2 = wr := ⟨_, rfl⟩
                  subst hW2
                  by_cases hout : x < 0 ∨ W < x ∨ y < 0 ∨ H < y
                  · have HQ := hid (show validZ W H L = 5 by rw [HD3.out, if_pos (any_of hg.out (any_of hx.out (by unfold outZ; simpa using hout)))])
                    have HE := hid (fun (V : World) (h : Aft W2 V) => hw0.trans (hwrq.trans h))
                    by_cases e1 : x < 0
                    · go_upto_region 20 with fail
                      refine wp_region_lat W2 (Aft.refl _) (by kernel_rfl) (by kernel_rfl) ?_
                      repeat (go_big_quiet_step (fail))
                      refine wpQuiet_nil ?_
                      intro _ hw'; obtain ⟨z, rfl⟩ := hw'
                      go_wp2
                      go_ret
                      exact ⟨by rw [HQ.out]; rfl, HE.out _ z.aft⟩
                    by_cases e2 : W < x
                    · go_upto_region 20 with fail
                      refine wp_region_lat W2 (Aft.refl _) (by kernel_rfl) (by kernel_rfl) ?_
                      repeat (go_big_quiet_step (fail))
                      refine wpQuiet_nil ?_
                      intro _ hw'; obtain ⟨z, rfl⟩ := hw'
                      go_wp2
                      go_ret
                      exact ⟨by rw [HQ.out]; rfl, HE.out _ z.aft⟩
                    by_cases e3 : y < 0
                    · go_upto_region 20 with fail
                      refine wp_region_lat W2 (Aft.refl _) (by kernel_rfl) (by kernel_rfl) ?_
                      repeat (go_big_quiet_step (fail))
                      refine wpQuiet_nil ?_
                      intro _ hw'; obtain ⟨z, rfl⟩ := hw'
                      go_wp2
                      go_ret
                      exact ⟨by rw [HQ.out]; rfl, HE.out _ z.aft⟩
                    · have e4 : H < y := by omega
                      go_upto_region 20 with fail
                      refine wp_region_lat W2 (Aft.refl _) (by kernel_rfl) (by kernel_rfl) ?_
                      repeat (go_big_quiet_step (fail))
                      refine wpQuiet_nil ?_
                      intro _ hw'; obtain ⟨z, rfl⟩ := hw'
                      go_wp2
                      go_ret
                      exact ⟨by rw [HQ.out]; rfl, HE.out _ z.aft⟩
                  · have HN := hid (upto_succ hnq.out hx.out (by unfold outZ; simpa using hout))
                    have e1 : ¬ x < 0 := by omega
                    have e2 : ¬ W < x := by omega
                    have e3 : ¬ y < 0 := by omega
                    have e4 : ¬ H < y := by omega
                    clear hout
                    go_upto_region 20 with fail
                    refine wp_region_lat W2 (Aft.refl _) (by kernel_rfl) (by kernel_rfl) ?_
                    repeat (go_big_quiet_step (fail))
                    refine wpQuiet_nil ?_
                    intro _ hw'; obtain ⟨z, rfl⟩ := hw'
                    go_wp2
                    go_roundw
                    case rel => exact ⟨q + 1, by omega, by go_num, HN, hwq.trans z.aft⟩
                    case measure => simp only [intOf]; omega
                · obtain rfl : q = ps.length := by omega
                  have HN := hid (upto_succ hno.out hg.out (any_not hnq.out))
                  go_wp2
                  go_roundw
                  case rel => exact ⟨r + 1, by omega, by go_num, HN, hwrq⟩
                  case measure => simp only [intOf]; omega
            · obtain rfl : r = L.length := by omega
              have HD4 := hid (show validZ W H L = if (L.any fun s => !simpleZ s.1 s.2) = true then 2 else 0 by rw [HD3.out, any_not hno.out]; rfl)
              clear HD3 hno
              go_wp2
              clear p1 p2 p3
              go_loopw [8] (fun i wr => ∃ r : Nat, r ≤ L.length ∧ i = .int .i64 r ∧ Hid (∀ i, i < r → ∀ s, L[i]? = some s → (!simpleZ s.1 s.2) = false) ∧ Aft W0 wr) (fun i _ => L.length - (intOf i).toNat)
              case atStart => exact ⟨0, by omega, rfl, hid fun j hj => by omega, hwr⟩
              case round =>
                obtain ⟨r, hr, rfl, hno, hwr⟩ := hrel
                obtain ⟨p1, p2, p3⟩ := hF.out wr hwr
                rcases Nat.lt_or_ge r L.length with hlt' | hge
                · have hri : (r : Int) < L.length := by omega
                  have hvr := hv0.aft hwr
                  obtain ⟨b, off, k, ps, ap, cp, rfl, c1, c2, hb, hg, hp⟩ := hvr.get hlt'
                  obtain ⟨hs1, hs2⟩ := hsc _ (List.mem_of_getElem? hg.out)
                  obtain ⟨o, ho⟩ : ∃ o, simpleZ k ps = o := ⟨_, rfl⟩
                  have HO := hid ho
                  go_wp2_with fail
                  refine (simple_to ho wr ⟨_, _, rfl, hp⟩ hs1 hs2).mono ?_
                  rintro e w1 ⟨rfl, hw1⟩
                  have hwr1 := hwr.trans hw1
                  clear ho
                  cases o with
                  | false =>
                    have HQ := hid (show validZ W H L = 2 by rw [HD4.out, if_pos (any_of hg.out (by rw [HO.out]; rfl))])
                    go_wp2
                    go_ret
                    exact ⟨by rw [HQ.out]; rfl, hw0.trans hwr1⟩
                  | true =>
                    have HN := hid (upto_succ hno.out hg.out (by rw [HO.out]; rfl))
                    go_wp2
                    go_roundw
                    case rel => exact ⟨r + 1, by omega, by go_num, HN, hwr1⟩
                    case measure => simp only [intOf]; omega
                · obtain rfl : r = L.length := by omega
                  have HQ := hid (show validZ W H L = 0 by rw [HD4.out, any_not hno.out]; rfl)
                  go_wp2
                  go_ret
                  exact ⟨by rw [HQ.out]; rfl, hw0.trans hwr⟩
end Go.Proofs.Ytokdclbfjlnnjaa
