/- The program's Near: the walk. -/
import Derived.Test.YtokdclbfjlnnjaaP10
namespace Go.Proofs.Ytokdclbfjlnnjaa
open Go.RowKit Go.BigFrame

theorem ptZ_mem {l : List Pt} (h : l ≠ []) (i : Nat) : ptZ l i ∈ l := by
  have hl : 0 < l.length := List.length_pos_iff.2 h
  have hh := Nat.mod_lt i hl
  unfold ptZ
  rw [List.getD_eq_getElem?_getD, List.getElem?_eq_getElem hh]
  exact List.getElem_mem hh
theorem nPart_ne {k : Int} {l : List Pt} (hd : k = 0 → l.length = 1) {i : Nat} (h : i < nPart k l) : l ≠ [] := by
  rintro rfl
  unfold nPart nSeg at h
  split at h
  · rename_i hk; have := hd hk; simp at this
  · simp at h
theorem nPart_le {k : Int} {l : List Pt} (hd : k = 0 → l.length = 1) : nPart k l ≤ l.length := by
  unfold nPart
  split
  · rename_i hk; have := hd hk; omega
  · exact nSeg_le k l
theorem pairFar_frac {ox oy : Int} {s t : Pt × Pt} {st : Option (Int × Int)} (h1 : Near1 ox oy s.1) (h2 : Near1 ox oy s.2) (h3 : Near1 ox oy t.1) (h4 : Near1 ox oy t.2) (hs : FracO st) : FracO (pairFar s t st) :=
  better_frac (better_frac (better_frac (better_frac hs (far_frac h1 h3 h4)) (far_frac h2 h3 h4)) (far_frac h3 h1 h2)) (far_frac h4 h1 h2)
theorem rowFar_frac {ox oy : Int} {s : Pt × Pt} {lb : List Pt} (h1 : Near1 ox oy s.1) (h2 : Near1 ox oy s.2) (hl : ∀ j, Near1 ox oy (ptZ lb j)) {st : Option (Int × Int)} (hs : FracO st) : ∀ j, FracO (rowFar s lb j st)
  | 0 => hs
  | j + 1 => pairFar_frac h1 h2 (hl j) (hl (j + 1)) (rowFar_frac h1 h2 hl hs j)
theorem allFar_frac {ox oy : Int} {la lb : List Pt} (ha : ∀ j, Near1 ox oy (ptZ la j)) (hb : ∀ j, Near1 ox oy (ptZ lb j)) (m' : Nat) : ∀ i, FracO (allFar la lb m' i)
  | 0 => fun f h => by cases h
  | i + 1 => rowFar_frac (ha i) (ha (i + 1)) hb (allFar_frac ha hb m' i) m'
theorem ownsRow_kx {X : Nat → Prop} {A B : World} {base : Nat} {e : TypeId} {size n : Nat} {v : Value} {xs : List Value} (h : A.ownsRow base e size v n xs) (hk : Kx X A B) (hX : ∀ j, X j → j < base) : B.ownsRow base e size v n xs := by
  refine ⟨h.1, h.2.imp id ?_⟩
  rintro ⟨g, cap, cur, h1, h2, h3, h4⟩
  exact ⟨g, cap, cur, h1, h2, (hk.block g (Array.getElem?_eq_some_iff.1 h3).1 (fun hx => by have := hX g hx; omega)).trans h3, h4⟩
theorem kx_aft {X : Nat → Prop} {w A B : World} (h : Aft w A) (hX : ∀ j, X j → w.heap.size ≤ j) (hk : Kx X A B) : Aft w B :=
  ⟨hk.os.trans h.os, hk.tape.trans h.tape, hk.output.trans h.output, Nat.le_trans h.size hk.size, fun j hj => (hk.block j (by have := h.size; omega) (fun hx => by have := hX j hx; omega)).trans (h.block j hj)⟩
theorem seg_cells {W : World} {base : Nat} {v : Value} {l : List Pt} {m : Nat} (h : W.ownsRow base 112 4 v m (segC l m)) {i : Nat} (hi : i < m) :
    ∃ g cap, v = .slice (some ⟨g, 0, none⟩) m cap ∧ W.cell? ⟨g, i * 4, none⟩ = some (.int .i64 (sgZ l i).1.1) ∧ W.cell? ⟨g, i * 4 + 1, none⟩ = some (.int .i64 (sgZ l i).1.2) ∧ W.cell? ⟨g, i * 4 + 2, none⟩ = some (.int .i64 (sgZ l i).2.1) ∧ W.cell? ⟨g, i * 4 + 3, none⟩ = some (.int .i64 (sgZ l i).2.2) := by
  obtain ⟨g, cap, rfl⟩ := ownsRow_some' h (by omega)
  refine ⟨g, cap, rfl, ?_, ?_, ?_, ?_⟩
  all_goals refine (fun j u hj => by
    have := h.cells rfl j u hj
    by_cases h0 : j = 0
    · subst h0; simpa [Addr.add] using this
    · simpa [Addr.add, h0] using this : ∀ j u, (segC l m)[j]? = some u → W.cell? ⟨g, j, none⟩ = some u) _ _ ?_
  · have := segC_get l m i hi 0 (by omega); rw [Nat.add_zero] at this; exact this
  · exact segC_get l m i hi 1 (by omega)
  · exact segC_get l m i hi 2 (by omega)
  · exact segC_get l m i hi 3 (by omega)

set_option maxRecDepth 100000 in
set_option maxHeartbeats 8000000 in
theorem near_any (ka kb : Int) (va vb : Value) (la lb : List Pt) (ox oy : Int) (w : World) (hla : Prs w va la) (hlb : Prs w vb lb) (hsa : la.length ≤ 1000) (hsb : lb.length ≤ 1000) (hsca : ScL la) (hscb : ScL lb)
    (hda : ka = 0 → la.length = 1) (hdb : kb = 0 → lb.length = 1) (hna : ∀ j, Near1 ox oy (ptZ la j)) (hnb : ∀ j, Near1 ox oy (ptZ lb j)) :
    Calls Try.prog 28 #[.agg #[.int .i64 ka, va], .agg #[.int .i64 kb, vb]] w fun e w' => e = .returned (.tuple #[.int .i64 (nearZ ka la kb lb).1, .int .i64 (nearZ ka la kb lb).2]) ∧ Aft w w' := by
  have hPa := hla
  have hPb := hlb
  obtain ⟨aa, ca, rfl, hla⟩ := hla
  obtain ⟨ab, cb, rfl, hlb⟩ := hlb
  have hma := nPart_le hda
  have hmb := nPart_le hdb
  have HFR := hid (allFar_frac hna hnb (nPart kb lb))
  obtain ⟨m, hm⟩ : ∃ m, nPart ka la = m := ⟨_, rfl⟩
  obtain ⟨m', hm'⟩ : ∃ m, nPart kb lb = m := ⟨_, rfl⟩
  have hZ : nearZ ka la kb lb = if meets la lb m m' then (0, 1) else fracZ (allFar la lb m' m) := by unfold nearZ; rw [hm, hm']
  have HZ := hid hZ; clear hZ
  rw [hm'] at HFR
  obtain ⟨W0, eW0, hw0, hlt, hbox⟩ := two_boxes w #[.int .i64 ka, .slice aa la.length ca] #[.int .i64 kb, .slice ab lb.length cb] 51 51
  go_enter Try.func28, Try.ntmps28
  go_upto_region 1 with fail
  clear eW0
  have hF : Hid (∀ W, Aft W0 W → (W.cell? ⟨w.heap.size, 0, none⟩ = some (.int .i64 ka) ∧ W.cell? ⟨w.heap.size, 1, none⟩ = some (.slice aa la.length ca)) ∧ W.cell? ⟨w.heap.size + 1, 0, none⟩ = some (.int .i64 kb) ∧ W.cell? ⟨w.heap.size + 1, 1, none⟩ = some (.slice ab lb.length cb)) := hid fun W hW =>
    ⟨⟨(hbox.out W hW).1 0 _ rfl, (hbox.out W hW).1 1 _ rfl⟩, (hbox.out W hW).2 0 _ rfl, (hbox.out W hW).2 1 _ rfl⟩
  clear hbox
  obtain ⟨W2, eW2, hw2, hlt2, hbox2⟩ := two_boxes W0 #[.int .i64 (-1)] #[.int .i64 1] 3 3
  have hfz : W2.frozen? ⟨W0.heap.size, 0, none⟩ = false ∧ W2.frozen? ⟨W0.heap.size + 1, 0, none⟩ = false := by
    rw [← eW2]
    refine ⟨?_, ?_⟩
    · rw [((Aft.refl _).alloc _).frozen (by simp)]
      exact frozen_new _ _ _ _
    · simp
  go_upto_region 3 with fail
  clear eW2
  have hpair : Pair W2 W0.heap.size (W0.heap.size + 1) none := ⟨(hbox2.out W2 (Aft.refl _)).1 0 _ rfl, (hbox2.out W2 (Aft.refl _)).2 0 _ rfl, hfz.1, hfz.2⟩
  clear hbox2 hfz
  have hw02 := hw0.trans hw2
  have hz0 := hw0.size
  obtain ⟨⟨p1, p2⟩, p3, p4⟩ := hF.out W2 hw2
  generalize hn0 : w.heap.size = n0 at *
  generalize hn6 : W0.heap.size = n6 at *
  go_wp2_with fail
  refine (elements_any ka _ la W2 (hPa.aft hw02) hsa hda).mono ?_
  rintro e W3 ⟨v3, rfl, hown, hw3⟩
  rw [hm] at hown
  have hw03 := hw02.trans hw3
  have hz3 := hw3.size
  have hpair3 : Pair W3 n6 (n6 + 1) none := ⟨(hw3.cell (by omega)).trans hpair.1, (hw3.cell (by omega)).trans hpair.2.1, (hw3.frozen (by omega)).trans hpair.2.2.1, (hw3.frozen (by omega)).trans hpair.2.2.2⟩
  clear hpair p1 p2 p3 p4
  obtain ⟨a3, c3, rfl, _⟩ := ownsRow_at hown
  go_wp2
  go_loopw [18] (fun i wr => ∃ r : Nat, r ≤ m ∧ i = .int .i64 r ∧ Kx (fun j => j = n6 ∨ j = n6 + 1) W3 wr ∧ Pair wr n6 (n6 + 1) (allFar la lb m' r) ∧ Hid (∀ i, i < r → ∀ j, j < m' → meetZ (sgZ la i) (sgZ lb j) = false)) (fun i _ => m - (intOf i).toNat)
  case atStart => exact ⟨0, by omega, rfl, Kx.refl _ _, hpair3, hid fun i hi => by omega⟩
  case round =>
    obtain ⟨r, hr, rfl, hkx, hpr, hno⟩ := hrel
    have hzr := hkx.size
    have hmi : (0 : Int) ≤ m := by omega
    rcases Nat.lt_or_ge r m with hlt' | hge
    · have hne := nPart_ne hda (i := r) (by omega)
      have hri : (r : Int) < m := by omega
      have hownr := ownsRow_kx hown hkx (fun j hj => by rcases hj with rfl | rfl <;> omega)
      obtain ⟨g, cap, he, q1, q2, q3, q4⟩ := seg_cells hownr hlt'
      simp only [Value.slice.injEq, true_and] at he
      obtain ⟨rfl, rfl⟩ := he
      have hsc := sgZ_sc hsca r
      obtain ⟨⟨⟨ax, ay⟩, bx, by_⟩, hs⟩ : ∃ s, sgZ la r = s := ⟨_, rfl⟩
      rw [hs] at q1 q2 q3 q4 hsc
      simp only at q1 q2 q3 q4 hsc
      obtain ⟨s1, s2, s3, s4⟩ := hsc
      have HS := hid hs; clear hs
      obtain ⟨W4, eW4, hw4, hlt4, hbox4⟩ := one_box wr #[.int .i64 ax, .int .i64 ay, .int .i64 bx, .int .i64 by_] 112
      go_upto_region 6 with fail
      clear eW4
      have hk4 : Kx (fun j => j = n6 ∨ j = n6 + 1) W3 W4 := hkx.trans (aft_kx hw4)
      have hp4 : Pair W4 n6 (n6 + 1) (allFar la lb m' r) := ⟨(hw4.cell (by omega)).trans hpr.1, (hw4.cell (by omega)).trans hpr.2.1, (hw4.frozen (by omega)).trans hpr.2.2.1, (hw4.frozen (by omega)).trans hpr.2.2.2⟩
      have b10 : B4 W4 wr.heap.size ax ay bx by_ := ⟨⟨hbox4.out W4 (Aft.refl _) 0 _ rfl, hbox4.out W4 (Aft.refl _) 1 _ rfl⟩, hbox4.out W4 (Aft.refl _) 2 _ rfl, hbox4.out W4 (Aft.refl _) 3 _ rfl⟩
      have hz4 := hw4.size
      clear hbox4 q1 q2 q3 q4 hpr
      obtain ⟨-, p3, p4⟩ := hF.out W3 (hw2.trans hw3)
      replace p3 : W4.cell? ⟨n0 + 1, 0, none⟩ = some (.int .i64 kb) := (hk4.cell (by omega) (by omega)).trans p3
      replace p4 : W4.cell? ⟨n0 + 1, 1, none⟩ = some (.slice ab lb.length cb) := (hk4.cell (by omega) (by omega)).trans p4
      have hPb4 : Prs W4 (.slice ab lb.length cb) lb := Prs.same hPb (hPb.aft hw03) (fun j hj => hk4.block j (by have := hw03.size; omega) (by omega))
      generalize hn10 : wr.heap.size = n10 at *
      go_wp2_with fail
      refine (elements_any kb _ lb W4 hPb4 hsb hdb).mono ?_
      rintro e W5 ⟨v5, rfl, hown5, hw5⟩
      rw [hm'] at hown5
      clear p3 p4
      have hz5 := hw5.size
      have hk5 : Kx (fun j => j = n6 ∨ j = n6 + 1) W3 W5 := hk4.trans (aft_kx hw5)
      have hp5 : Pair W5 n6 (n6 + 1) (allFar la lb m' r) := ⟨(hw5.cell (by omega)).trans hp4.1, (hw5.cell (by omega)).trans hp4.2.1, (hw5.frozen (by omega)).trans hp4.2.2.1, (hw5.frozen (by omega)).trans hp4.2.2.2⟩
      have b10' : B4 W5 n10 ax ay bx by_ := by
        have tr : ∀ {o : Nat} {v : Value}, W4.cell? ⟨n10, o, none⟩ = some v → W5.cell? ⟨n10, o, none⟩ = some v := fun h => (hw5.cell (World.block_lt_of_cell? _ _ h)).trans h
        exact ⟨⟨tr b10.1.1, tr b10.1.2⟩, tr b10.2.1, tr b10.2.2⟩
      clear hp4
      obtain ⟨a5, c5, rfl, _⟩ := ownsRow_at hown5
      go_wp2
      go_loopw [25] (fun i wq => ∃ q : Nat, q ≤ m' ∧ i = .int .i64 q ∧ Kx (fun j => j = n6 ∨ j = n6 + 1) W5 wq ∧ Pair wq n6 (n6 + 1) (rowFar (sgZ la r) lb q (allFar la lb m' r)) ∧ Hid (∀ j, j < q → meetZ (sgZ la r) (sgZ lb j) = false)) (fun i _ => m' - (intOf i).toNat)
      case atStart => exact ⟨0, by omega, rfl, Kx.refl _ _, hp5, hid fun i hi => by omega⟩
      case round =>
        obtain ⟨q, hq, rfl, hkq, hpq, hnq⟩ := hrel
        have hzq := hkq.size
        have hmi' : (0 : Int) ≤ m' := by omega
        rcases Nat.lt_or_ge q m' with hltq | hgeq
        · have hneb := nPart_ne hdb (i := q) (by omega)
          have hqi : (q : Int) < m' := by omega
          have hownq := ownsRow_kx hown5 hkq (fun j hj => by rcases hj with rfl | rfl <;> omega)
          obtain ⟨g', cap', he', q1, q2, q3, q4⟩ := seg_cells hownq hltq
          simp only [Value.slice.injEq, true_and] at he'
          obtain ⟨rfl, rfl⟩ := he'
          have hscq := sgZ_sc hscb q
          obtain ⟨⟨⟨cx, cy⟩, dx, dy⟩, hsq⟩ : ∃ s, sgZ lb q = s := ⟨_, rfl⟩
          rw [hsq] at q1 q2 q3 q4 hscq
          simp only at q1 q2 q3 q4 hscq
          obtain ⟨t1, t2, t3, t4⟩ := hscq
          have HSQ := hid hsq; clear hsq
          obtain ⟨W6, eW6, hw6, hlt6, hbox6⟩ := one_box wr #[.int .i64 cx, .int .i64 cy, .int .i64 dx, .int .i64 dy] 112
          go_upto_region 9 with fail
          clear eW6
          have hst := HFR.out r
          have hn1 := hna r
          have hn2 := hna (r + 1)
          have hn3 := hnb q
          have hn4 := hnb (q + 1)
          have hs12 := HS.out
          have hs34 := HSQ.out
          unfold sgZ at hs12 hs34
          simp only [Prod.mk.injEq] at hs12 hs34
          obtain ⟨e1, e2⟩ := hs12
          obtain ⟨e3, e4⟩ := hs34
          have hstq := rowFar_frac (s := sgZ la r) (lb := lb) hn1 hn2 hnb hst q
          rw [e1] at hn1
          rw [e2] at hn2
          rw [e3] at hn3
          rw [e4] at hn4
          clear e1 e2 e3 e4 hst
          generalize hstE : rowFar (sgZ la r) lb q (allFar la lb m' r) = st at *
          have hk6 : Kx (fun j => j = n6 ∨ j = n6 + 1) W5 W6 := hkq.trans (aft_kx hw6)
          have hp6 : Pair W6 n6 (n6 + 1) st := ⟨(hw6.cell (by omega)).trans hpq.1, (hw6.cell (by omega)).trans hpq.2.1, (hw6.frozen (by omega)).trans hpq.2.2.1, (hw6.frozen (by omega)).trans hpq.2.2.2⟩
          have b12 : B4 W6 wr.heap.size cx cy dx dy := ⟨⟨hbox6.out W6 (Aft.refl _) 0 _ rfl, hbox6.out W6 (Aft.refl _) 1 _ rfl⟩, hbox6.out W6 (Aft.refl _) 2 _ rfl, hbox6.out W6 (Aft.refl _) 3 _ rfl⟩
          have b10q : B4 W6 n10 ax ay bx by_ := by
            have tr : ∀ {o : Nat} {v : Value}, W5.cell? ⟨n10, o, none⟩ = some v → W6.cell? ⟨n10, o, none⟩ = some v := fun h => (hk6.cell (World.block_lt_of_cell? _ _ h) (show ¬ (n10 = n6 ∨ n10 = n6 + 1) by omega)).trans h
            exact ⟨⟨tr b10'.1.1, tr b10'.1.2⟩, tr b10'.2.1, tr b10'.2.2⟩
          have hz6 := hw6.size
          clear hbox6 q1 q2 q3 q4 hpq
          generalize hn12 : wr.heap.size = n12 at *
          have hQ : Hid (∀ W', Kx (fun j => j = n6 ∨ j = n6 + 1) W6 W' → B4 W' n10 ax ay bx by_ ∧ B4 W' n12 cx cy dx dy) := hid fun W' hW' => by
            have tr : ∀ (b o : Nat) (v : Value), W6.cell? ⟨b, o, none⟩ = some v → n6 + 1 < b → W'.cell? ⟨b, o, none⟩ = some v := fun b o v h hb => (hW'.cell (World.block_lt_of_cell? _ _ h) (show ¬ (b = n6 ∨ b = n6 + 1) by omega)).trans h
            exact ⟨⟨⟨tr _ _ _ b10q.1.1 (by omega), tr _ _ _ b10q.1.2 (by omega)⟩, tr _ _ _ b10q.2.1 (by omega), tr _ _ _ b10q.2.2 (by omega)⟩, ⟨tr _ _ _ b12.1.1 (by omega), tr _ _ _ b12.1.2 (by omega)⟩, tr _ _ _ b12.2.1 (by omega), tr _ _ _ b12.2.2 (by omega)⟩
          clear b10q b12
          obtain ⟨⟨⟨x1, x2⟩, x3, x4⟩, ⟨y1, y2⟩, y3, y4⟩ := hQ.out W6 (Kx.refl _ _)
          go_wp2_with fail
          refine (meet_any _ s1 s2 s3 s4 t1 t2 t3 t4).mono ?_
          rintro e W7 ⟨rfl, hw7⟩
          clear x1 x2 x3 x4 y1 y2 y3 y4
          obtain ⟨o, ho⟩ : ∃ o, meetZ ((ax, ay), (bx, by_)) ((cx, cy), (dx, dy)) = o := ⟨_, rfl⟩
          rw [ho]
          have HM := hid ho; clear ho
          cases o
          case true =>
            have hres : nearZ ka la kb lb = (0, 1) := by
              rw [HZ.out, if_pos]
              exact List.any_eq_true.2 ⟨r, List.mem_range.2 hlt', List.any_eq_true.2 ⟨q, List.mem_range.2 hltq, by rw [HS.out, HSQ.out]; exact HM.out⟩⟩
            have HR := hid hres; clear hres
            have HE := hid (kx_aft hw03 (fun j hj => by rcases hj with rfl | rfl <;> omega) ((hk5.trans hk6).trans (aft_kx hw7)))
            go_wp2
            go_ret2
            exact ⟨by rw [HR.out]; rfl, HE.out⟩
          case false =>
            have hk7 : Kx (fun j => j = n6 ∨ j = n6 + 1) W6 W7 := aft_kx hw7
            have hp7 : Pair W7 n6 (n6 + 1) st := ⟨(hw7.cell (by omega)).trans hp6.1, (hw7.cell (by omega)).trans hp6.2.1, (hw7.frozen (by omega)).trans hp6.2.2.1, (hw7.frozen (by omega)).trans hp6.2.2.2⟩
            have HN := hid hp7
            have hz7 := hw7.size
            clear hp6 hp7
            obtain ⟨⟨⟨x1, x2⟩, x3, x4⟩, ⟨y1, y2⟩, y3, y4⟩ := hQ.out W7 hk7
            have Fa := far_frac (p := (ax, ay)) (s := ((cx, cy), (dx, dy))) hn1 hn3 hn4
            have Fb := far_frac (p := (bx, by_)) (s := ((cx, cy), (dx, dy))) hn2 hn3 hn4
            have Fc := far_frac (p := (cx, cy)) (s := ((ax, ay), (bx, by_))) hn3 hn1 hn2
            have Fd := far_frac (p := (dx, dy)) (s := ((ax, ay), (bx, by_))) hn4 hn1 hn2
            obtain ⟨fa, ha⟩ : ∃ f, farZ (ax, ay) ((cx, cy), (dx, dy)) = f := ⟨_, rfl⟩
            obtain ⟨fb, hb⟩ : ∃ f, farZ (bx, by_) ((cx, cy), (dx, dy)) = f := ⟨_, rfl⟩
            obtain ⟨fc, hc⟩ : ∃ f, farZ (cx, cy) ((ax, ay), (bx, by_)) = f := ⟨_, rfl⟩
            obtain ⟨fd, hd⟩ : ∃ f, farZ (dx, dy) ((ax, ay), (bx, by_)) = f := ⟨_, rfl⟩
            rw [ha] at Fa
            rw [hb] at Fb
            rw [hc] at Fc
            rw [hd] at Fd
            have HFA := hid ha; clear ha
            have HFB := hid hb; clear hb
            have HFC := hid hc; clear hc
            have HFD := hid hd; clear hd
            have HPF : Hid (pairFar ((ax, ay), (bx, by_)) ((cx, cy), (dx, dy)) st = better (better (better (better st fa) fb) fc) fd) := hid (by unfold pairFar; rw [HFA.out, HFB.out, HFC.out, HFD.out])
            have S1 := better_frac hstq Fa
            have S2 := better_frac S1 Fb
            have S3 := better_frac S2 Fc
            go_wp2_with fail
            refine (apart_any' _ t1 t2 t3 t4 s1 s2).mono ?_
            rintro e V0 ⟨rfl, hv0⟩
            rw [HFA.out]
            have hq0 : Hid (Pair V0 n6 (n6 + 1) st) := hid (by
              have hp := HN.out
              have := World.block_lt_of_cell? _ _ hp.1
              have := World.block_lt_of_cell? _ _ hp.2.1
              exact ⟨(hv0.cell (by assumption)).trans hp.1, (hv0.cell (by assumption)).trans hp.2.1, (hv0.frozen (by assumption)).trans hp.2.2.1, (hv0.frozen (by assumption)).trans hp.2.2.2⟩)
            have hj0 : Kx (fun j => j = n6 ∨ j = n6 + 1) W6 V0 := hk7.trans (aft_kx hv0)
            go_wp2_with fail
            refine (take_frac n6 (n6 + 1) (by omega) st fa V0 hq0.out hstq Fa).mono ?_
            rintro e U0 ⟨⟨u0, rfl⟩, hl0, hm0⟩
            have hi0 := hj0.trans hl0
            have hr0 := hid hm0
            clear hm0 hv0 hq0 x1 x2 x3 x4 y1 y2 y3 y4
            obtain ⟨⟨⟨x1, x2⟩, x3, x4⟩, ⟨y1, y2⟩, y3, y4⟩ := hQ.out U0 hi0
            go_wp2_with fail
            refine (apart_any' _ t1 t2 t3 t4 s3 s4).mono ?_
            rintro e V1 ⟨rfl, hv1⟩
            rw [HFB.out]
            have hq1 : Hid (Pair V1 n6 (n6 + 1) (better st fa)) := hid (by
              have hp := hr0.out
              have := World.block_lt_of_cell? _ _ hp.1
              have := World.block_lt_of_cell? _ _ hp.2.1
              exact ⟨(hv1.cell (by assumption)).trans hp.1, (hv1.cell (by assumption)).trans hp.2.1, (hv1.frozen (by assumption)).trans hp.2.2.1, (hv1.frozen (by assumption)).trans hp.2.2.2⟩)
            have hj1 : Kx (fun j => j = n6 ∨ j = n6 + 1) W6 V1 := hi0.trans (aft_kx hv1)
            go_wp2_with fail
            refine (take_frac n6 (n6 + 1) (by omega) (better st fa) fb V1 hq1.out S1 Fb).mono ?_
            rintro e U1 ⟨⟨u1, rfl⟩, hl1, hm1⟩
            have hi1 := hj1.trans hl1
            have hr1 := hid hm1
            clear hm1 hv1 hq1 x1 x2 x3 x4 y1 y2 y3 y4
            obtain ⟨⟨⟨x1, x2⟩, x3, x4⟩, ⟨y1, y2⟩, y3, y4⟩ := hQ.out U1 hi1
            go_wp2_with fail
            refine (apart_any' _ s1 s2 s3 s4 t1 t2).mono ?_
            rintro e V2 ⟨rfl, hv2⟩
            rw [HFC.out]
            have hq2 : Hid (Pair V2 n6 (n6 + 1) (better (better st fa) fb)) := hid (by
              have hp := hr1.out
              have := World.block_lt_of_cell? _ _ hp.1
              have := World.block_lt_of_cell? _ _ hp.2.1
              exact ⟨(hv2.cell (by assumption)).trans hp.1, (hv2.cell (by assumption)).trans hp.2.1, (hv2.frozen (by assumption)).trans hp.2.2.1, (hv2.frozen (by assumption)).trans hp.2.2.2⟩)
            have hj2 : Kx (fun j => j = n6 ∨ j = n6 + 1) W6 V2 := hi1.trans (aft_kx hv2)
            go_wp2_with fail
            refine (take_frac n6 (n6 + 1) (by omega) (better (better st fa) fb) fc V2 hq2.out S2 Fc).mono ?_
            rintro e U2 ⟨⟨u2, rfl⟩, hl2, hm2⟩
            have hi2 := hj2.trans hl2
            have hr2 := hid hm2
            clear hm2 hv2 hq2 x1 x2 x3 x4 y1 y2 y3 y4
            obtain ⟨⟨⟨x1, x2⟩, x3, x4⟩, ⟨y1, y2⟩, y3, y4⟩ := hQ.out U2 hi2
            go_wp2_with fail
            refine (apart_any' _ s1 s2 s3 s4 t3 t4).mono ?_
            rintro e V3 ⟨rfl, hv3⟩
            rw [HFD.out]
            have hq3 : Hid (Pair V3 n6 (n6 + 1) (better (better (better st fa) fb) fc)) := hid (by
              have hp := hr2.out
              have := World.block_lt_of_cell? _ _ hp.1
              have := World.block_lt_of_cell? _ _ hp.2.1
              exact ⟨(hv3.cell (by assumption)).trans hp.1, (hv3.cell (by assumption)).trans hp.2.1, (hv3.frozen (by assumption)).trans hp.2.2.1, (hv3.frozen (by assumption)).trans hp.2.2.2⟩)
            have hj3 : Kx (fun j => j = n6 ∨ j = n6 + 1) W6 V3 := hi2.trans (aft_kx hv3)
            go_wp2_with fail
            refine (take_frac n6 (n6 + 1) (by omega) (better (better (better st fa) fb) fc) fd V3 hq3.out S3 Fd).mono ?_
            rintro e U3 ⟨⟨u3, rfl⟩, hl3, hm3⟩
            have hi3 := hj3.trans hl3
            have hr3 := hid hm3
            clear hm3 hv3 hq3 x1 x2 x3 x4 y1 y2 y3 y4
            obtain ⟨⟨⟨x1, x2⟩, x3, x4⟩, ⟨y1, y2⟩, y3, y4⟩ := hQ.out U3 hi3
            go_wp2
            go_roundw
            case rel =>
              refine ⟨q + 1, by omega, by go_num, hk6.trans hi3, ?_, hid fun j hj => ?_⟩
              · show Pair U3 n6 (n6 + 1) (pairFar (sgZ la r) (sgZ lb q) (rowFar (sgZ la r) lb q (allFar la lb m' r)))
                rw [HS.out] at hstE ⊢
                rw [HSQ.out, hstE, HPF.out]
                exact hr3.out
              · rcases Nat.lt_or_ge j q with h | h
                · exact hnq.out j h
                · obtain rfl : j = q := by omega
                  rw [HS.out, HSQ.out]; exact HM.out
            case measure => simp only [intOf]; omega
        · obtain rfl : q = m' := by omega
          go_wp2
          go_roundw
          case rel =>
            refine ⟨r + 1, by omega, by go_num, hk5.trans hkq, hpq, hid fun i hi => ?_⟩
            rcases Nat.lt_or_ge i r with h | h
            · exact hno.out i h
            · obtain rfl : i = r := by omega
              exact hnq.out
          case measure => simp only [intOf]; omega
    · obtain rfl : r = m := by omega
      have hmt : meets la lb r m' = false := by
        unfold meets
        exact List.any_eq_false.2 (fun i hi => by rw [Bool.not_eq_true]; exact List.any_eq_false.2 (fun j hj => by rw [hno.out i (List.mem_range.1 hi) j (List.mem_range.1 hj)]; simp))
      have hres : nearZ ka la kb lb = fracZ (allFar la lb m' r) := by rw [HZ.out, if_neg (by rw [hmt]; simp)]
      have HR := hid hres; clear hres hmt
      have HE := hid (kx_aft hw03 (fun j hj => by rcases hj with rfl | rfl <;> omega) hkx)
      have hFr := HFR.out r
      obtain ⟨st, hst⟩ : ∃ st, allFar la lb m' r = st := ⟨_, rfl⟩
      rw [hst] at hpr hFr
      have HST := hid hst; clear hst
      obtain ⟨c6, c7, -, -⟩ := hpr
      cases st with
      | none =>
        have HQ : Hid (nearZ ka la kb lb = (0, 1)) := hid (by rw [HR.out, HST.out]; rfl)
        simp only [encN, encD] at c6 c7
        go_wp2
        go_ret2
        exact ⟨by rw [HQ.out]; rfl, HE.out⟩
      | some x =>
        obtain ⟨n, d⟩ := x
        obtain ⟨b1, b2, b3, b4⟩ := hFr _ rfl
        simp only at b1 b2 b3 b4
        simp only [encN, encD] at c6 c7
        rcases Int.lt_or_le 0 n with hpos | hle
        · obtain ⟨n', rfl⟩ := Int.eq_ofNat_of_zero_le b1
          obtain ⟨d', rfl⟩ := Int.eq_ofNat_of_zero_le (show 0 ≤ d by omega)
          have HQ : Hid (nearZ ka la kb lb = ((n' : Int) / (Nat.gcd d' n' : Nat), (d' : Int) / (Nat.gcd d' n' : Nat))) := hid (by
            rw [HR.out, HST.out]
            unfold fracZ
            simp only [Int.toNat_natCast]
            rw [if_neg (by omega)])
          have hg0 : 0 < Nat.gcd d' n' := Nat.gcd_pos_of_pos_right _ (by omega)
          obtain ⟨gg, hgg⟩ : ∃ gg, Nat.gcd d' n' = gg := ⟨_, rfl⟩
          have HG := hid hgg
          rw [hgg] at hg0
          clear hgg
          go_wp2_with fail
          refine (gcd_any n' d' _ (by omega) (by omega)).mono ?_
          rintro e W9 ⟨rfl, hw9⟩
          rw [HG.out]
          have c6' := (hw9.cell (World.block_lt_of_cell? _ _ c6)).trans c6
          have c7' := (hw9.cell (World.block_lt_of_cell? _ _ c7)).trans c7
          have hb6 : n6 < W9.heap.size := World.block_lt_of_cell? _ _ c6'
          have hb7 : n6 + 1 < W9.heap.size := World.block_lt_of_cell? _ _ c7'
          have hgi : ((gg : Int) = 0) = False := by simp; omega
          go_upto_region 20 with fail
          refine wp_region_lat W9 (Aft.refl _) (by kernel_rfl) (by kernel_rfl) ?_
          repeat (go_big_quiet_step (fail))
          refine wpQuiet_nil ?_
          intro _ hw'; obtain ⟨z, rfl⟩ := hw'
          go_wp2
          go_ret2
          refine ⟨?_, (HE.out.trans hw9).trans z.aft⟩
          rw [HQ.out, HG.out]
          have y1 : wrap64 ((n' : Int) / gg) = (n' : Int) / gg := IntWalk.wrap64_in _ (by have := Int.ediv_nonneg (show (0 : Int) ≤ n' by omega) (show (0 : Int) ≤ gg by omega); have := Int.ediv_le_self (gg : Int) (show (0 : Int) ≤ n' by omega); omega)
          have y2 : wrap64 ((d' : Int) / gg) = (d' : Int) / gg := IntWalk.wrap64_in _ (by have := Int.ediv_nonneg (show (0 : Int) ≤ d' by omega) (show (0 : Int) ≤ gg by omega); have := Int.ediv_le_self (gg : Int) (show (0 : Int) ≤ d' by omega); omega)
          show Ending.returned (.tuple #[.int .i64 (wrap64 ((n' : Int) / gg)), .int .i64 (wrap64 ((d' : Int) / gg))]) = _
          rw [y1, y2]
        · have HQ : Hid (nearZ ka la kb lb = (0, 1)) := hid (by
            rw [HR.out, HST.out]
            unfold fracZ
            simp only
            rw [if_pos (by omega)])
          go_wp2
          go_ret2
          exact ⟨by rw [HQ.out]; rfl, HE.out⟩
end Go.Proofs.Ytokdclbfjlnnjaa
