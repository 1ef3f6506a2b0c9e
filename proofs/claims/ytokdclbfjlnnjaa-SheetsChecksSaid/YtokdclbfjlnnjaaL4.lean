/- The walk of SheetsChecks. -/
import Derived.Test.YtokdclbfjlnnjaaA1
import Derived.Test.YtokdclbfjlnnjaaL6
namespace Go.Proofs.Ytokdclbfjlnnjaa
open Go.RowKit Go.BigFrame

theorem rStep_lens (l : List (Int × Int)) (wd : Int) (s : List Int × List Int) (h : s.1.length = s.2.length) : (rStep l wd s).1.length = (rStep l wd s).2.length ∧ (rStep l wd s).1.length ≤ s.1.length + 1 := by
  unfold rStep
  split <;> simp [h]
theorem rRounds_lens (l : List (Int × Int)) (wd : Int) : ∀ (k : Nat) (s : List Int × List Int), s.1.length = s.2.length → (rRounds l wd k s).1.length = (rRounds l wd k s).2.length ∧ (rRounds l wd k s).1.length ≤ s.1.length + k
  | 0, s, h => ⟨h, Nat.le_refl _⟩
  | k + 1, s, h => by
    obtain ⟨h1, h2⟩ := rStep_lens l wd s h
    obtain ⟨h3, h4⟩ := rRounds_lens l wd k _ h1
    exact ⟨h3, by unfold rRounds; omega⟩
theorem rSplit_lens (l : List (Int × Int)) (wd : Int) : (rSplit l wd).1.length = (rSplit l wd).2.1.length ∧ (rSplit l wd).1.length ≤ l.length := by
  unfold rSplit
  split
  · obtain ⟨h1, h2⟩ := rRounds_lens l wd l.length ([], []) rfl
    exact ⟨h1, by simpa using h2⟩
  · exact ⟨rfl, by simp⟩

theorem ints_pre {w : World} {g c k : Nat} {l : List Int} (h : Ints w (.slice (some ⟨g, 0, none⟩) l.length c) l) (hk : k ≤ l.length) : Ints w (.slice (some ⟨g, 0, none⟩) k c) (l.take k) := by
  obtain ⟨a, c', e, h⟩ := h
  simp only [Value.slice.injEq, true_and] at e
  obtain ⟨rfl, rfl⟩ := e
  have h1 := h.size
  have h2 := h.cap
  have hl : (l.take k).length = k := by rw [List.length_take, Nat.min_eq_left hk]
  exact ⟨some ⟨g, 0, none⟩, c, by rw [hl], rfl, by rw [← i64s_take]; exact h.rd.front k, (fun x hx => h.ok x (List.mem_of_mem_take hx)), by omega, (fun h => by cases h), by omega⟩
theorem sep_ne {g g' n c n' c' : Nat} (h : g ≠ g') : Sep (.slice (some ⟨g, 0, none⟩) n c) (.slice (some ⟨g', 0, none⟩) n' c') := fun k a b => h (by
  simp only [Value.ownBlock, Option.some.injEq] at a b
  omega)
theorem i64s_set (l : List Int) (k : Nat) (x : Int) : (i64s l).set k (.int .i64 x) = i64s (l.set k x) := by simp [i64s]
theorem okI_set {l : List Int} (h : okI l) {k : Nat} {x : Int} (hx : -9223372036854775808 ≤ x ∧ x ≤ 9223372036854775807) : okI (l.set k x) := fun p hp => by
  rcases List.mem_or_eq_of_mem_set hp with h' | rfl
  · exact h p h'
  · exact hx
theorem okI_snoc {l : List Int} (h : okI l) {x : Int} (hx : -9223372036854775808 ≤ x ∧ x ≤ 9223372036854775807) : okI (l ++ [x]) := fun p hp => by
  rcases List.mem_append.1 hp with h' | h'
  · exact h p h'
  · obtain rfl : p = x := by simpa using h'
    exact hx
theorem wrap_bd (x : Int) : -9223372036854775808 ≤ wrap64 x ∧ wrap64 x ≤ 9223372036854775807 := i64_bd (wrap64_wf x)

set_option maxRecDepth 100000 in
set_option maxHeartbeats 4000000 in
theorem schecks_any (v v5 : Value) (l l5 : List Int) (a1 a2 a3 a4 : Int) (w : World) (hl : Ints w v l) (hl5 : Ints w v5 l5) (b1 : -9223372036854775808 ≤ a1 ∧ a1 ≤ 9223372036854775807)
    (b2 : -9223372036854775808 ≤ a2 ∧ a2 ≤ 9223372036854775807) (b3 : -9223372036854775808 ≤ a3 ∧ a3 ≤ 9223372036854775807) (b4 : -9223372036854775808 ≤ a4 ∧ a4 ≤ 9223372036854775807) :
    Calls Try.prog 4 #[v, .int .i64 a1, .int .i64 a2, .int .i64 a3, .int .i64 a4, v5] w fun e w' => e = .returned (.bool true) ∧ Aft w w' := by
  go_enter Try.func4, Try.ntmps4
  go_wp2_with fail
  refine (spans_any v l w hl).mono ?_
  rintro e w1 ⟨vx, rfl, hx, hw1⟩
  have hX := spans_prs hx
  have hlen : (spansI l).length ≤ 10 := by rw [spansI_length]; omega
  generalize spansI l = X at *
  clear hx
  go_wp2_with fail
  refine (around_any a1 60 w1 b1.1 b1.2).mono ?_
  rintro e w' ⟨rfl, rfl⟩
  generalize aroundI a1 60 = wd0 at *
  go_wp2_with fail
  refine (rsplit_any vx X (wrap64 (20 + wd0)) _ hX).mono ?_
  rintro e w2 ⟨va, vp, rfl, ha, hp, hw2⟩
  obtain ⟨hle, hle'⟩ := rSplit_lens X (wrap64 (20 + wd0))
  generalize rSplit X (wrap64 (20 + wd0)) = r at *
  obtain ⟨A, P, E⟩ := r
  simp only [] at ha hp hle hle'
  replace hX := hX.aft hw2
  have ha0 := ha
  have hp0 := hp
  obtain ⟨aa, ca, rfl, ha⟩ := ha
  obtain ⟨ap, cp, rfl, hp⟩ := hp
  have HLE := hid hle
  have hle2 : P.length ≤ 10 := by omega
  have hle3 : A.length ≤ 10 := by omega
  clear hle
  go_wp2_with fail
  refine (take_any _ A A.length w2 ha0 (Nat.le_refl _)).mono ?_
  rintro e w3 ⟨vb, rfl, hb, hw3⟩
  rw [List.take_length] at hb
  go_wp2_with fail
  refine (take_any _ P P.length w3 (hp0.aft hw3) (Nat.le_refl _)).mono ?_
  rintro e w4 ⟨vq, rfl, hq, hw4⟩
  rw [List.take_length] at hq
  have hb3 := hb
  replace hb := ownsRow_aft hb hw4
  have hw24 := hw3.trans hw4
  have hbs := ownsRow_ints hb ha.ok (by omega)
  have hqs := ownsRow_ints hq hp.ok (by omega)
  have hpl : A.length = P.length := HLE.out
  obtain ⟨ab, cb, rfl, hrb, hcb, hnb⟩ := ownsRow_at hb
  obtain ⟨aq, cq, rfl, hrq, hcq, hnq⟩ := ownsRow_at hq
  clear hpl
  obtain ⟨ax, cx, rfl, hX'⟩ := hX
  go_upto_if 47 with fail
  go_cut [18, 19, 20] (fun s18 s19 s20 wx => ∃ B Q, Ints wx s18 B ∧ Ints wx s19 Q ∧ Aft w2 wx)
  case first =>
    rcases Nat.eq_zero_or_pos A.length with h0 | h0
    · have e0 : ¬ 0 < A.length := by omega
      have H0 := hid h0; clear h0
      go_wp2
      go_meet
      exact ⟨A, P, hbs, hqs, hw24⟩
    · obtain ⟨gb, cb', hbe⟩ := ownsRow_some' hb h0
      simp only [Value.slice.injEq, true_and] at hbe
      obtain ⟨rfl, rfl⟩ := hbe
      obtain ⟨gq, cq', hqe⟩ := ownsRow_some' hq (by have := HLE.out; omega)
      simp only [Value.slice.injEq, true_and] at hqe
      obtain ⟨rfl, rfl⟩ := hqe
      have hbl := hb.lt gb rfl
      have hql := hq.lt gq rfl
      obtain ⟨k, hk, hk'⟩ : ∃ k : Nat, aroundI a2 A.length = (k : Int) ∧ k < A.length := by
        have := aroundI_lt a2 A.length (by omega)
        exact ⟨(aroundI a2 A.length).toNat, by omega, by omega⟩
      have hkq : k < P.length := by rw [← HLE.out]; exact hk'
      obtain ⟨j, hj, hj'⟩ : ∃ j : Nat, aroundI a3 4 = (j : Int) ∧ j < 4 := by
        have := aroundI_lt a3 4 (by omega)
        exact ⟨(aroundI a3 4).toNat, by omega, by omega⟩
      have HK := hid hk; clear hk
      go_wp2_with fail
      refine (around_any a2 A.length w4 b2.1 b2.2).mono ?_
      rintro e w' ⟨rfl, rfl⟩
      rw [HK.out]
      go_wp2_with fail
      refine (around_any a3 4 w4 b3.1 b3.2).mono ?_
      rintro e w' ⟨rfl, rfl⟩
      rw [hj]
      have HJ := hid hj; clear hj
      have hgb := (hb3.lt gb rfl).2
      have hne : gb ≠ gq := by omega
      have hN := hid hne; clear hne
      obtain ⟨x0, q0, hx0, q1, q2⟩ := Rd.int_at hrb ha.ok hk'
      obtain ⟨x1, r0, hx1, r1, r2⟩ := Rd.int_at hrq hp.ok hkq
      rw [Nat.zero_add] at q0 r0
      have hki : (k : Int) < A.length := by omega
      have hkqi : (k : Int) < P.length := by omega
      have hjc : j = 0 ∨ j = 1 ∨ j = 2 ∨ j = 3 := by omega
      rcases hjc with rfl | rfl | rfl | rfl
      · go_upto_region 12 with fail
        refine wp_region_flow _ (Aft.refl _) [FV.is (.slice (some ⟨gb, 0, none⟩) A.length cb), FV.is (.int .i64 k), FV.is (.slice (some ⟨gb, 0, none⟩) A.length cb), FV.is (.int .i64 k), FV.is (.pointer (some ⟨gb, k, none⟩)), FV.is (.int .i64 x0), FV.is (.int .i64 a4), fvNum 0 8, fvNum (-9223372036854775808) 9223372036854775807, fvNum (-9223372036854775808) 9223372036854775807, FV.is (.pointer (some ⟨gb, k, none⟩))]
          [(0, 62), (1, 63), (2, 64), (3, 65), (4, 66), (5, 67), (6, 68), (7, 69), (8, 70), (9, 71), (10, 72)]
          [[], [], [], [], [(2, 64), (3, 65)], [(4, 66)], [], [(6, 68)], [(5, 67), (7, 69)], [(8, 70)], [(0, 62), (1, 63)]] (by kernel_rfl) (by kernel_rfl) ?_ ?_
        · iterate 4
            refine flowObs_cons (fun W hW => flowOb_nil ?_) ?_
            · go_wp2
              exact ⟨rfl, Aft.refl W⟩
          refine flowObs_cons (fun W hW => flowOb_cons fun v h => flowOb_cons fun v' h' => flowOb_nil ?_) ?_
          · obtain rfl := h
            obtain rfl := h'
            go_wp2
            exact ⟨rfl, Aft.refl W⟩
          refine flowObs_cons (fun W hW => flowOb_cons fun v h => flowOb_nil ?_) ?_
          · obtain rfl := h
            have e0 := (hW.cell (World.block_lt_of_cell? _ _ q0)).trans q0
            go_wp2
            exact ⟨rfl, Aft.refl W⟩
          refine flowObs_cons (fun W hW => flowOb_nil ?_) ?_
          · go_wp2
            exact ⟨rfl, Aft.refl W⟩
          refine flowObs_cons (fun W hW => flowOb_cons fun v h => flowOb_nil ?_) ?_
          · obtain rfl := h
            have := aroundI_lt a4 9 (by omega)
            go_wp2_with (go_at_call 18; refine (around_any _ _ _ b4.1 b4.2).mono ?_; rintro e w' ⟨rfl, rfl⟩)
            exact ⟨⟨_, rfl, by omega, by omega⟩, Aft.refl W⟩
          refine flowObs_cons (fun W hW => flowOb_cons fun v h => flowOb_cons fun v' h' => flowOb_nil ?_) ?_
          · obtain rfl := h
            obtain ⟨y, rfl, h1, h2⟩ := h'
            go_wp2
            exact ⟨⟨_, rfl, wrap_bd _⟩, Aft.refl W⟩
          refine flowObs_cons (fun W hW => flowOb_cons fun v h => flowOb_nil ?_) ?_
          · obtain ⟨y, rfl, h1, h2⟩ := h
            go_wp2
            exact ⟨⟨_, rfl, wrap_bd _⟩, Aft.refl W⟩
          refine flowObs_cons (fun W hW => flowOb_cons fun v h => flowOb_cons fun v' h' => flowOb_nil ?_) flowObs_nil
          · obtain rfl := h
            obtain rfl := h'
            go_wp2
            exact ⟨rfl, Aft.refl W⟩
        · intro W hW
          iterate 9 refine flowEnd_cons fun _ _ => ?_
          refine flowEnd_cons fun v h => flowEnd_cons fun v' h' => flowEnd_nil ?_
          obtain ⟨y, rfl, h1, h2⟩ := h
          obtain rfl := h'
          have hb' := ownsRow_aft hb hW
          have hq' := ownsRow_aft hq hW
          have hf := hb'.frozenAt k
          have e0 := (hW.cell (World.block_lt_of_cell? _ _ q0)).trans q0
          obtain ⟨s1, gr1⟩ := hb'.stored k (.int .i64 y)
          rw [i64s_set] at s1
          have s2 := (sep_ne hN.out.symm (n := P.length) (c := cq) (n' := A.length) (c' := cb)).kept hq' gr1
          have hfin := (hw24.trans hW).grown gr1 (fun j hj => by cases hj; exact hbl.1)
          go_wp2
          go_meet
          exact ⟨A.set k y, P, ownsRow_ints (by simpa using s1) (okI_set ha.ok ⟨h1, h2⟩) (by simp; omega), ownsRow_ints s2 hp.ok (by omega), hfin⟩
      · go_wp2_with fail
        refine (around_any a4 _ w4 b4.1 b4.2).mono ?_
        rintro e w' ⟨rfl, rfl⟩
        have hf := hq.frozenAt k
        obtain ⟨s1, gr1⟩ := hq.stored k (.int .i64 (wrap64 (aroundI a4 (X.length + 2) - 1)))
        rw [i64s_set] at s1
        have s2 := (sep_ne hN.out (n := A.length) (c := cb) (n' := P.length) (c' := cq)).kept hb gr1
        have hfin := hw24.grown gr1 (fun j hj => by cases hj; omega)
        go_wp2
        go_meet
        exact ⟨A, P.set k _, ownsRow_ints s2 ha.ok (by omega), ownsRow_ints (by simpa using s1) (okI_set hp.ok (wrap_bd _)) (by simp; omega), hfin⟩
      · have hsep : Sep (.slice (some ⟨gb, 0, none⟩) A.length cb) (.slice (some ⟨gq, 0, none⟩) P.length cq) := sep_ne hN.out
        have hz4 := hw24.size
        have hz3 := hw3.size
        go_wp2_with (at_builtin; refine wpList_app _ rfl (.tmp 86) (.tmp 87) 22 rfl w2.heap.size 3 (.int .i64 0) 1 8 Try.underlying22 Try.info3 rfl (by decide) _ _ _ rfl (hb.alloc _) (some ⟨w4.heap.size, 0, none⟩) 1 1 (i64s [100]) rfl (fun h => by cases h) rfl Rd.new (i64s_one _) (by unfold maxLen; omega) (by omega) (by simp; omega) ?_; intro v1 wa howna hga hloc; have hownb := hsep.symm.kept (hq.alloc _) hga; have hsa := hga.size; simp at hsa; have hsp1 := hsep.moved (hq.alloc _) hloc; have hwa := (hw24.alloc _).grown hga (fun j hj => (hb.lt j hj).1))
        refine (around_any a4 _ wa b4.1 b4.2).mono ?_
        rintro e w' ⟨rfl, rfl⟩
        have hbd : -9223372036854775808 ≤ aroundI a4 X.length ∧ aroundI a4 X.length ≤ 9223372036854775807 := by
          have := aroundI_lt a4 X.length (by omega)
          omega
        generalize aroundI a4 X.length = y at *
        go_wp2_with (at_builtin; refine wpList_app _ rfl (.tmp 89) (.tmp 94) 22 rfl w3.heap.size 3 (.int .i64 0) 1 8 Try.underlying22 Try.info3 rfl (by decide) _ _ _ rfl (hownb.alloc _) (some ⟨wa.heap.size, 0, none⟩) 1 1 (i64s [y]) rfl (fun h => by cases h) rfl Rd.new (i64s_one _) (by unfold maxLen; omega) (by omega) (by simp; omega) ?_; intro v2 wb hownc hgb hlocb; have hownd := hsp1.kept (howna.alloc _) hgb; have hwf := (hwa.alloc _).grown hgb (fun j hj => by have := (hownb.lt j hj).1; omega))
        go_meet
        rw [← i64s_append] at hownd hownc
        exact ⟨A ++ [100], P ++ [y], ownsRow_ints (by rw [List.length_append]; exact hownd) (okI_snoc ha.ok (by omega)) (by simp; omega), ownsRow_ints (by rw [List.length_append]; exact hownc) (okI_snoc hp.ok hbd) (by simp; omega), hwf⟩
      · go_wp2
        go_meet
        exact ⟨A.take k, P.take k, ints_pre hbs (by omega), ints_pre hqs (by omega), hw24⟩
  case rest =>
    obtain ⟨B, Q, hB, hQ, hwx⟩ := hcut
    have hA0 := ha0.aft hwx
    have hP0 := hp0.aft hwx
    have hX0 : Prs wc (.slice ax X.length cx) X := ⟨ax, cx, rfl, hX'.aft hwx⟩
    have hR0 := ((hl5.aft hw1).aft hw2).aft hwx
    have hw0c := (hw1.trans hw2).trans hwx
    have hB0 := hB
    have hQ0 := hQ
    obtain ⟨aB, cB, rfl, _⟩ := hB0
    obtain ⟨aQ, cQ, rfl, _⟩ := hQ0
    clear hX' hbs hqs hb hb3 hq ha0 hp0 ha hp hrb hcb hnb hrq hcq hnq hw24 hw3 hw4 hl5 hl
    go_wp2_with fail
    refine (take_some v5 l5 4 wc hR0).mono ?_
    rintro e w5 ⟨vr, R, rfl, hR, hRo, hRl, _, hw5⟩
    have hRI := ownsRow_ints hR hRo (by omega)
    clear hR
    obtain ⟨aR, cR, rfl, _⟩ := id hRI
    go_wp2_with fail
    refine (take_some v5 l5 4 w5 (hR0.aft hw5)).mono ?_
    rintro e w6 ⟨vs, S, rfl, hS, hSo, hSl, _, hw6⟩
    have hSI := ownsRow_ints hS hSo (by omega)
    clear hS
    obtain ⟨aS, cS, rfl, _⟩ := id hSI
    have hc6 := hw5.trans hw6
    have hA6 := hA0.aft hc6
    have hP6 := hP0.aft hc6
    have hB6 := hB.aft hc6
    have hQ6 := hQ.aft hc6
    have hR6 := hRI.aft hw6
    have hL6 : Hid (∀ i : Nat, i < 6 → ∃ a n c L a' n' c' L', (w6.alloc (.cells #[.slice aa A.length ca, .slice ap P.length cp, .slice aB B.length cB, .slice aQ Q.length cQ, .slice aa A.length ca, .slice aQ Q.length cQ, .slice aB B.length cB, .slice ap P.length cp, .slice aR R.length cR, .slice aS S.length cS, .slice none 0 0, .slice none 0 0] 35)).cell? ⟨w6.heap.size, i * 2, none⟩ = some (.slice a n c) ∧ (w6.alloc (.cells #[.slice aa A.length ca, .slice ap P.length cp, .slice aB B.length cB, .slice aQ Q.length cQ, .slice aa A.length ca, .slice aQ Q.length cQ, .slice aB B.length cB, .slice ap P.length cp, .slice aR R.length cR, .slice aS S.length cS, .slice none 0 0, .slice none 0 0] 35)).cell? ⟨w6.heap.size, i * 2 + 1, none⟩ = some (.slice a' n' c') ∧ Ints w6 (.slice a n c) L ∧ Ints w6 (.slice a' n' c') L') := hid (by
      intro i hi
      have : i = 0 ∨ i = 1 ∨ i = 2 ∨ i = 3 ∨ i = 4 ∨ i = 5 := by omega
      rcases this with rfl | rfl | rfl | rfl | rfl | rfl
      · exact ⟨_, _, _, _, _, _, _, _, cell_new _ _ _ _ _ rfl, cell_new _ _ _ _ _ rfl, hA6, hP6⟩
      · exact ⟨_, _, _, _, _, _, _, _, cell_new _ _ _ _ _ rfl, cell_new _ _ _ _ _ rfl, hB6, hQ6⟩
      · exact ⟨_, _, _, _, _, _, _, _, cell_new _ _ _ _ _ rfl, cell_new _ _ _ _ _ rfl, hA6, hQ6⟩
      · exact ⟨_, _, _, _, _, _, _, _, cell_new _ _ _ _ _ rfl, cell_new _ _ _ _ _ rfl, hB6, hP6⟩
      · exact ⟨_, _, _, _, _, _, _, _, cell_new _ _ _ _ _ rfl, cell_new _ _ _ _ _ rfl, hR6, hSI⟩
      · exact ⟨_, _, _, _, _, _, _, _, cell_new _ _ _ _ _ rfl, cell_new _ _ _ _ _ rfl, Ints.nil_in _, Ints.nil_in _⟩)
    have hw67 := (Aft.refl w6).alloc (.cells #[.slice aa A.length ca, .slice ap P.length cp, .slice aB B.length cB, .slice aQ Q.length cQ, .slice aa A.length ca, .slice aQ Q.length cQ, .slice aB B.length cB, .slice ap P.length cp, .slice aR R.length cR, .slice aS S.length cS, .slice none 0 0, .slice none 0 0] 35)
    clear hA6 hP6 hB6 hQ6 hR6 hSI hRI hA0 hP0 hB hQ hR0
    go_wp2_with fail
    generalize hw7e : w6.alloc (.cells #[.slice aa A.length ca, .slice ap P.length cp, .slice aB B.length cB, .slice aQ Q.length cQ, .slice aa A.length ca, .slice aQ Q.length cQ, .slice aB B.length cB, .slice ap P.length cp, .slice aR R.length cR, .slice aS S.length cS, .slice none 0 0, .slice none 0 0] 35) = w7 at *
    have hg67 : w6.heap.size < w7.heap.size := hw7e ▸ size_new _ _
    have hL7 : Hid (∀ i : Nat, i < 6 → ∃ a n c L a' n' c' L', w7.cell? ⟨w6.heap.size, i * 2, none⟩ = some (.slice a n c) ∧ w7.cell? ⟨w6.heap.size, i * 2 + 1, none⟩ = some (.slice a' n' c') ∧ Ints w7 (.slice a n c) L ∧ Ints w7 (.slice a' n' c') L') := hid (fun i hi => by
      obtain ⟨a, n, c, L, a', n', c', L', h1, h2, h3, h4⟩ := hL6.out i hi
      exact ⟨a, n, c, L, a', n', c', L', h1, h2, h3.aft hw67, h4.aft hw67⟩)
    have hX7 := hX0.aft (hc6.trans hw67)
    have hw07 := (hw0c.trans hc6).trans hw67
    clear hw7e hL6 hw67 hX0 hc6
    generalize w6.heap.size = g1 at *
    generalize wrap64 (20 + wd0) = wd at *
    go_loopw [22] (fun i wr => ∃ k : Nat, k ≤ 6 ∧ i = .int .i64 k ∧ Aft w7 wr) (fun i _ => 6 - (intOf i).toNat)
    case atStart => exact ⟨0, by omega, rfl, Aft.refl w7⟩
    case round =>
      obtain ⟨i, hi6, rfl, hwr⟩ := hrel
      by_cases hi : i < 6
      · have hii : (i : Int) < 6 := by omega
        obtain ⟨a5, n5, c5, L1, a6, n6, c6, L2, hc10, hc20, hi10, hi20⟩ := hL7.out i hi
        go_wp2
        go_loopw [23] (fun k wr' => ∃ k' : Nat, k' ≤ 2 ∧ k = .int .i64 k' ∧ Aft w7 wr') (fun k _ => 2 - (intOf k).toNat)
        case atStart => exact ⟨0, by omega, rfl, hwr⟩
        case round =>
          obtain ⟨k, hk2, rfl, hwx'⟩ := hrel
          by_cases hk : k < 2
          · have hkk : (k : Int) < 2 := by omega
            go_upto_if 127 with fail
            go_cut [24] (fun s24 wy => ∃ Y, Prs wy s24 Y ∧ Aft w7 wy)
            case first =>
              have hk01 : k = 0 ∨ k = 1 := by omega
              rcases hk01 with rfl | rfl
              · go_wp2
                go_meet
                exact ⟨X, hX7.aft hwx', hwx'⟩
              · go_wp2_with fail
                refine (odd_any _ X a2 a3 a4 _ (hX7.aft hwx') hlen b2 b3 b4).mono ?_
                rintro e w8 ⟨vo, O, rfl, hO, hOl, hw8⟩
                go_wp2
                go_meet
                exact ⟨O, hO, hwx'.trans hw8⟩
            case rest =>
              obtain ⟨Y, hY, hwy⟩ := hcut
              have hc1 : wc.cell? ⟨g1, i * 2, none⟩ = some (.slice a5 n5 c5) := (hwy.cell (World.block_lt_of_cell? _ _ hc10)).trans hc10
              have hc2 : wc.cell? ⟨g1, i * 2 + 1, none⟩ = some (.slice a6 n6 c6) := (hwy.cell (World.block_lt_of_cell? _ _ hc20)).trans hc20
              have hi1 := hi10.aft hwy
              have hi2 := hi20.aft hwy
              have hlt : g1 < wc.heap.size := World.block_lt_of_cell? _ _ hc1
              have hY0 := hY
              obtain ⟨aY, cY, rfl, _⟩ := hY0
              obtain ⟨W0, hW0⟩ : ∃ W0, W0 = wc := ⟨_, rfl⟩
              subst hW0
              go_upto_region 28 with fail
              refine wp_region_lat W0 (Aft.refl _) (by kernel_rfl) (by kernel_rfl) ?_
              repeat (go_big_quiet_step (first | (go_at_call 24; exact Calls.lat (check_any _ _ _ Y _ L1 L2 _ (hY.aft (Lat.aft _)) (hi1.aft (Lat.aft _)) (hi2.aft (Lat.aft _)))) | (go_at_call 25; exact Calls.lat (rcheck_any _ _ _ Y _ L1 L2 _ (hY.aft (Lat.aft _)) (hi1.aft (Lat.aft _)) (hi2.aft (Lat.aft _))))))
              refine wpQuiet_nil ?_
              intro _ hw'; obtain ⟨z, rfl⟩ := hw'
              go_wp2
              go_roundw
              case rel => exact ⟨k + 1, by omega, by go_num, hwy.trans z.aft⟩
              case measure => simp [intOf] <;> omega
          · obtain rfl : k = 2 := by omega
            go_wp2
            go_roundw
            case rel => exact ⟨i + 1, by omega, by go_num, hwx'⟩
            case measure => simp [intOf] <;> omega
      · obtain rfl : i = 6 := by omega
        go_wp2_with fail
        refine (lives_any _).mono ?_
        rintro e w9 ⟨rfl, hw9⟩
        go_wp2
        go_ret
        exact ⟨rfl, (hw07.trans hwr).trans hw9⟩

theorem schecks_at (v : Value) (l : List Int) (a1 a2 a3 a4 : Int) (v5 : Value) (l5 : List Int) (w : World) (hl : Ints w v l) (b1 : -9223372036854775808 ≤ a1 ∧ a1 ≤ 9223372036854775807)
    (b2 : -9223372036854775808 ≤ a2 ∧ a2 ≤ 9223372036854775807) (b3 : -9223372036854775808 ≤ a3 ∧ a3 ≤ 9223372036854775807) (b4 : -9223372036854775808 ≤ a4 ∧ a4 ≤ 9223372036854775807) (hl5 : Ints w v5 l5) :
    Calls Try.prog 4 #[v, .int .i64 a1, .int .i64 a2, .int .i64 a3, .int .i64 a4, v5] w fun e w' => e = .returned (.bool true) ∧ Aft w w' :=
  schecks_any v v5 l l5 a1 a2 a3 a4 w hl hl5 b1 b2 b3 b4
end Go.Proofs.Ytokdclbfjlnnjaa
