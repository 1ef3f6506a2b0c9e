/- The program's within: whether a point is strictly inside of an Area. -/
import Derived.Test.YtokdclbfjlnnjaaP6
namespace Go.Proofs.Ytokdclbfjlnnjaa
open Go.RowKit Go.BigFrame
attribute [local go_sem] Oper.semAt_some

theorem results_cell1 {fn : Func} {p : Tmp} (h : fn.results = #[.cell p 4]) (tmps : Array Value) (w : World) (b : Nat) (v : Bool) (hp : tmps.getD p undef = .pointer (some ⟨b, 0, none⟩)) (hc : w.cell? ⟨b, 0, none⟩ = some (.bool v)) :
    (results fn tmps).run Try.prog w = .ok (.bool v) w := by
  have hp' : tmps[p]?.getD undef = .pointer (some ⟨b, 0, none⟩) := by simpa using hp
  simp only [Go.results, h]
  simp [hp', asAddr, go_sem, hc]
theorem end_cell {W : World} {D b : Nat} {v : Value} (hc : W.cell? ⟨b, 0, none⟩ = some v) (hd : W.heap[D]? = some (.deferred (some []))) : (W.putObj D (.deferred none)).cell? ⟨b, 0, none⟩ = some v :=
  cell_kept hc (grownBy_putObj' _ D _) (fun r e => by cases e; exact ⟨_, hd, rfl⟩)
def wind1 (p : Pt) (s : Pt × Pt) : Int := if s.1.2 ≤ p.2 ∧ p.2 < s.2.2 ∧ 0 < crossZ s.1 s.2 p then 1 else if p.2 < s.1.2 ∧ s.2.2 ≤ p.2 ∧ crossZ s.1 s.2 p < 0 then -1 else 0
def windS (p : Pt) (l : List Pt) : List Nat → Int
  | [] => 0
  | i :: pre => wind1 p (sgZ l i) + windS p l pre
theorem windS_snoc (p : Pt) (l : List Pt) : ∀ (pre : List Nat) (i : Nat), windS p l (pre ++ [i]) = windS p l pre + wind1 p (sgZ l i)
  | [], i => by simp [windS]
  | j :: pre, i => by simp only [List.cons_append, windS, windS_snoc p l pre i]; omega
theorem wind1_bd (p : Pt) (s : Pt × Pt) : -1 ≤ wind1 p s ∧ wind1 p s ≤ 1 := by unfold wind1; split <;> (try split) <;> omega
theorem windS_bd (p : Pt) (l : List Pt) : ∀ pre : List Nat, -(pre.length : Int) ≤ windS p l pre ∧ windS p l pre ≤ pre.length
  | [] => by simp [windS]
  | i :: pre => by
    have h1 := wind1_bd p (sgZ l i)
    have h2 := windS_bd p l pre
    simp only [windS, List.length_cons]
    omega
def withinZ (p : Pt) (k : Int) (l : List Pt) : Bool := !((List.range (nSeg k l)).any fun i => onZ p (sgZ l i)) && (windS p l (List.range (nSeg k l)) != 0)

theorem Kn.cell {n : Nat} {X : Nat → Prop} {A B : World} (h : Kn n X A B) {b o : Nat} (hb : b < n) (hx : ¬ X b) : B.cell? ⟨b, o, none⟩ = A.cell? ⟨b, o, none⟩ := World.cell?_of_block (a := ⟨b, o, none⟩) (h.block b hb hx)

set_option maxRecDepth 100000 in
set_option maxHeartbeats 4000000 in
theorem within_any (px py k : Int) (vp : Value) (l : List Pt) (w : World) (hl : Prs w vp l) (hsm : l.length ≤ 1000) (hsc : ScL l) (hpx : Sc px) (hpy : Sc py) :
    Calls Try.prog 89 #[.agg #[.int .i64 px, .int .i64 py], .agg #[.int .i64 k, vp]] w fun e w' => e = .returned (.bool (withinZ (px, py) k l)) ∧ Aft w w' := by
  have hP := hl
  obtain ⟨a, c, rfl, hl⟩ := hl
  obtain ⟨W0, eW0, hw0, hlt, hbox⟩ := two_boxes w #[.int .i64 px, .int .i64 py] #[.int .i64 k, .slice a l.length c] 57 51
  refine calls_of_wp_segs Try.func89 rfl ?_
  simp only [Try.ntmps89, List.size_toArray, List.length_cons, List.length_nil, Nat.reduceAdd, Nat.reduceSub, Array.replicate_succ, Array.replicate_zero, List.push_toArray, List.append_toArray, List.nil_append, List.cons_append]
  go_upto_region 1 with fail
  clear eW0
  have hF : Hid (∀ W, Aft W0 W → B2 W w.heap.size px py ∧ W.cell? ⟨w.heap.size + 1, 0, none⟩ = some (.int .i64 k) ∧ W.cell? ⟨w.heap.size + 1, 1, none⟩ = some (.slice a l.length c)) := hid fun W hW =>
    ⟨⟨(hbox.out W hW).1 0 _ rfl, (hbox.out W hW).1 1 _ rfl⟩, (hbox.out W hW).2 0 _ rfl, (hbox.out W hW).2 1 _ rfl⟩
  clear hbox
  have hc0 : (W0.alloc (.cells #[.bool false] 4)).cell? ⟨W0.heap.size, 0, none⟩ = some (.bool false) := cell_new W0 #[.bool false] 4 0 _ rfl
  have hf0 := frozen_new W0 #[.bool false] 4 0
  have hs1 := size_new W0 (.cells #[.bool false] 4)
  have hw1 := (Aft.refl W0).alloc (.cells #[.bool false] 4)
  generalize hW1 : W0.alloc (.cells #[.bool false] 4) = W1 at *
  go_upto_region 2 with fail
  have hc1 : (W1.alloc (.cells #[.int .i64 0] 3)).cell? ⟨W1.heap.size, 0, none⟩ = some (.int .i64 0) := cell_new W1 #[.int .i64 0] 3 0 _ rfl
  have hf1 := frozen_new W1 #[.int .i64 0] 3 0
  have hs2 := size_new W1 (.cells #[.int .i64 0] 3)
  have hw2 := (Aft.refl W1).alloc (.cells #[.int .i64 0] 3)
  generalize hW3 : W1.alloc (.cells #[.int .i64 0] 3) = W3 at *
  clear hW1 hW3
  replace hc0 : W3.cell? ⟨W0.heap.size, 0, none⟩ = some (.bool false) := (hw2.cell hs1).trans hc0
  replace hf0 : W3.frozen? ⟨W0.heap.size, 0, none⟩ = false := (hw2.frozen hs1).trans hf0
  have hz0 := hw0.size
  have hz1 := hw1.size
  have hz2 := hw2.size
  have hw03 := hw0.trans (hw1.trans hw2)
  obtain ⟨⟨p1, p2⟩, p3, p4⟩ := hF.out W3 (hw1.trans hw2)
  generalize hn2 : w.heap.size = n2 at *
  generalize hn4 : W0.heap.size = n4 at *
  generalize hn5 : W1.heap.size = n5 at *
  go_wp2_with fail
  refine (segments_fn k _ W3).mono ?_
  rintro e W4 ⟨rfl, hW4⟩
  have hB : ShBox W4 W3.heap.size k (.slice a l.length c) l := by
    rw [← hW4]
    exact ⟨cell_new _ _ _ _ _ rfl, cell_new _ _ _ _ _ rfl, (hP.aft hw03).aft ((Aft.refl _).alloc _)⟩
  have hw34 : Aft W3 W4 := hW4 ▸ (Aft.refl W3).alloc _
  have hs4 : W3.heap.size < W4.heap.size := hW4 ▸ size_new _ _
  clear hW4
  replace hc0 : W4.cell? ⟨n4, 0, none⟩ = some (.bool false) := (hw34.cell (by omega)).trans hc0
  replace hf0 : W4.frozen? ⟨n4, 0, none⟩ = false := (hw34.frozen (by omega)).trans hf0
  replace hc1 : W4.cell? ⟨n5, 0, none⟩ = some (.int .i64 0) := (hw34.cell (by omega)).trans hc1
  replace hf1 : W4.frozen? ⟨n5, 0, none⟩ = false := (hw34.frozen (by omega)).trans hf1
  replace p1 : W4.cell? ⟨n2, 0, none⟩ = some (.int .i64 px) := (hw34.cell (by omega)).trans p1
  replace p2 : W4.cell? ⟨n2, 1, none⟩ = some (.int .i64 py) := (hw34.cell (by omega)).trans p2
  go_wp2
  refine wp_segs (w₀ := w) (X := fun j => j = n4 ∨ j = n5) hP (by omega) hsm hB (fun j hj => by rcases hj with rfl | rfl <;> omega) rfl
    (fun pre W => (W.cell? ⟨n4, 0, none⟩ = some (.bool false) ∧ W.frozen? ⟨n4, 0, none⟩ = false) ∧ (W.cell? ⟨n5, 0, none⟩ = some (.int .i64 (windS (px, py) l pre)) ∧ W.frozen? ⟨n5, 0, none⟩ = false) ∧ ∀ i ∈ pre, onZ (px, py) (sgZ l i) = false)
    (fun cd pre W => cd = .ret ∧ W.cell? ⟨n4, 0, none⟩ = some (.bool false) ∧ ∃ i ∈ pre, onZ (px, py) (sgZ l i) = true)
    (fun s A B h hx => ⟨⟨(World.cell?_of_block (a := ⟨n4, 0, none⟩) (hx n4 (.inl rfl))).trans h.1.1, (World.frozen?_of_block (a := ⟨n4, 0, none⟩) (hx n4 (.inl rfl))).trans h.1.2⟩, ⟨(World.cell?_of_block (a := ⟨n5, 0, none⟩) (hx n5 (.inr rfl))).trans h.2.1.1, (World.frozen?_of_block (a := ⟨n5, 0, none⟩) (hx n5 (.inr rfl))).trans h.2.1.2⟩, h.2.2⟩)
    (fun cd s A B h hx => ⟨h.1, (World.cell?_of_block (a := ⟨n4, 0, none⟩) (hx n4 (.inl rfl))).trans h.2.1, h.2.2⟩)
    ⟨⟨hc0, hf0⟩, ⟨hc1, hf1⟩, by simp⟩ (fun Bx ax ay bx by_ => { tmps := #[.agg #[.int .i64 px, .int .i64 py], .agg #[.int .i64 k, .slice a l.length c], .pointer (some ⟨n2, 0, none⟩), .pointer (some ⟨n2 + 1, 0, none⟩), .pointer (some ⟨n4, 0, none⟩), .pointer (some ⟨n5, 0, none⟩), .pointer (some ⟨Bx, 0, none⟩), .agg #[.int .i64 k, .slice a l.length c], .func (.func 116) #[] #[.pointer (some ⟨W3.heap.size, 0, none⟩)], .agg #[.int .i64 ax, .int .i64 ay, .int .i64 bx, .int .i64 by_], undef, undef, undef, undef, undef, undef, undef, undef, undef, undef, undef, undef, undef, undef, undef, undef, undef, undef, undef, undef, undef, undef, undef, undef, undef, undef, undef, undef, undef, undef, undef, undef, undef, undef, undef, undef, undef, undef, undef, undef, undef, undef, undef, undef, undef, undef, undef, undef, undef, undef, undef, undef, undef, undef, undef, undef, undef, undef], defers := [] }) ?assign ?body ?done ?stop
  case assign =>
    intro y ax ay bx by_ W K hK
    gi_wp2
    exact hK _ _ ((Aft.refl W).alloc _) (Nat.le_refl _) ⟨⟨cell_new _ _ _ _ _ rfl, cell_new _ _ _ _ _ rfl⟩, cell_new _ _ _ _ _ rfl, cell_new _ _ _ _ _ rfl⟩
  case body =>
    rintro y pre i Bx ax ay bx by_ W hs hy hr hKn ⟨⟨hcr, hfr⟩, ⟨hcc, hff⟩, hon⟩ hBx h4 hlen
    have hsc4 := sgZ_sc hsc i
    have hlb := windS_bd (px, py) l pre
    have hns := nSeg_le k l
    have hsn := windS_snoc (px, py) l pre i
    rw [hs.out] at hsc4 hsn
    obtain ⟨s1, s2, s3, s4⟩ := hsc4
    have hQ : Hid (∀ W', Aft W W' → B2 W' n2 px py ∧ B4 W' Bx ax ay bx by_ ∧ W'.cell? ⟨n4, 0, none⟩ = some (.bool false) ∧ W'.frozen? ⟨n4, 0, none⟩ = false ∧ W'.cell? ⟨n5, 0, none⟩ = some (.int .i64 (windS (px, py) l pre)) ∧ W'.frozen? ⟨n5, 0, none⟩ = false) := hid fun W' hW' => by
      have x1 := (hKn.cell (b := n2) (o := 0) (by omega) (by omega)).trans p1
      have x2 := (hKn.cell (b := n2) (o := 1) (by omega) (by omega)).trans p2
      obtain ⟨⟨y1, y2⟩, y3, y4⟩ := h4
      have tr : ∀ {b o : Nat} {v : Value}, W.cell? ⟨b, o, none⟩ = some v → W'.cell? ⟨b, o, none⟩ = some v := fun h => (hW'.cell (World.block_lt_of_cell? _ _ h)).trans h
      exact ⟨⟨tr x1, tr x2⟩, ⟨⟨tr y1, tr y2⟩, tr y3, tr y4⟩, tr hcr, (hW'.frozen (World.block_lt_of_cell? _ _ hcr)).trans hfr, tr hcc, (hW'.frozen (World.block_lt_of_cell? _ _ hcc)).trans hff⟩
    clear h4 hcr hfr hcc hff p1 p2 p3 p4
    obtain ⟨⟨x1, x2⟩, ⟨⟨q1, q2⟩, q3, q4⟩, hcr, hfr, hcc, hff⟩ := hQ.out W (Aft.refl W)
    gi_wp2_with fail
    refine ⟨trivial, CallsIn.mono (CallsIn.inRound y (callsIn_wide.2 (on_any _ s1 s2 s3 s4 hpx hpy))) ?_⟩
    rintro e w1 ⟨rfl, hw1⟩
    clear x1 x2 q1 q2 q3 q4 hcr hfr hcc hff
    obtain ⟨⟨x1, x2⟩, ⟨⟨q1, q2⟩, q3, q4⟩, hcr, hfr, hcc, hff⟩ := hQ.out w1 hw1
    have hk1 : Kx (fun j => j = n4 ∨ j = n5) W w1 := aft_kx hw1
    obtain ⟨o, ho⟩ : ∃ o, onZ (px, py) ((ax, ay), (bx, by_)) = o := ⟨_, rfl⟩
    rw [ho]
    have HO := hid ho
    clear ho
    cases o
    case true =>
      gi_wp2
      exact ⟨hk1.trans (Kx.setCell _ (.inl rfl)), rfl, World.cell?_setCell_same' _ _ _ (by rw [hcr]; rfl), i, by simp, by rw [hs.out]; exact HO.out⟩
    case false =>
      have hon' : Hid (∀ j ∈ pre ++ [i], onZ (px, py) (sgZ l j) = false) := hid fun j hj => by
        rcases List.mem_append.1 hj with h | h
        · exact hon j h
        · obtain rfl : j = i := by simpa using h
          rw [hs.out]; exact HO.out
      clear hon
      obtain ⟨d, hd⟩ : ∃ d, crossZ (ax, ay) (bx, by_) (px, py) = d := ⟨_, rfl⟩
      have hw1d : wind1 (px, py) ((ax, ay), (bx, by_)) = if ay ≤ py ∧ py < by_ ∧ 0 < d then 1 else if py < ay ∧ by_ ≤ py ∧ d < 0 then -1 else 0 := by unfold wind1; simp only [hd]
      rw [hw1d] at hsn
      have HD := hid hd
      clear hd hw1d
      rcases Int.lt_or_le py ay with g1 | g1
      · rcases Int.lt_or_le py by_ with g2 | g2
        · have hv : windS (px, py) l (pre ++ [i]) = windS (px, py) l pre := by rw [hsn, if_neg (by omega), if_neg (by omega)]; omega
          have HV := hid hv
          clear hv hsn
          gi_wp2
          refine ⟨trivial, ?_⟩
          gi_wp2
          refine ⟨trivial, ?_⟩
          gi_wp2
          exact ⟨hk1, ⟨hcr, hfr⟩, ⟨by rw [HV.out]; exact hcc, hff⟩, hon'.out⟩
        · gi_wp2
          refine ⟨trivial, ?_⟩
          gi_wp2_with fail
          refine ⟨trivial, CallsIn.mono (CallsIn.inRound y (callsIn_wide.2 (turn_any _ s1 s2 s3 s4 hpx hpy))) ?_⟩
          rintro e w2 ⟨rfl, hw2⟩
          rw [HD.out]
          clear x1 x2 q1 q2 q3 q4 hcr hfr hcc hff
          replace hw2 := hw1.trans hw2
          obtain ⟨⟨x1, x2⟩, ⟨⟨q1, q2⟩, q3, q4⟩, hcr, hfr, hcc, hff⟩ := hQ.out w2 hw2
          have hk2 : Kx (fun j => j = n4 ∨ j = n5) W w2 := aft_kx hw2
          rcases Int.lt_or_le d 0 with g3 | g3
          · have hv : windS (px, py) l (pre ++ [i]) = windS (px, py) l pre - 1 := by rw [hsn, if_neg (by omega), if_pos (by omega)]; rfl
            have HV := hid hv
            clear hv hsn
            gi_wp2
            exact ⟨hk2.trans (Kx.setCell _ (.inr rfl)), ⟨by rw [World.cell?_setCell_other _ _ _ _ (by simp <;> omega)]; exact hcr, by rw [World.frozen?_setCell]; exact hfr⟩, ⟨by rw [HV.out]; exact World.cell?_setCell_same' _ _ _ (by rw [hcc]; rfl), by rw [World.frozen?_setCell]; exact hff⟩, hon'.out⟩
          · have hv : windS (px, py) l (pre ++ [i]) = windS (px, py) l pre := by rw [hsn, if_neg (by omega), if_neg (by omega)]; omega
            have HV := hid hv
            clear hv hsn
            gi_wp2
            exact ⟨hk2, ⟨hcr, hfr⟩, ⟨by rw [HV.out]; exact hcc, hff⟩, hon'.out⟩
      · rcases Int.lt_or_le py by_ with g2 | g2
        · gi_wp2_with fail
          refine ⟨trivial, CallsIn.mono (CallsIn.inRound y (callsIn_wide.2 (turn_any _ s1 s2 s3 s4 hpx hpy))) ?_⟩
          rintro e w2 ⟨rfl, hw2⟩
          rw [HD.out]
          clear x1 x2 q1 q2 q3 q4 hcr hfr hcc hff
          replace hw2 := hw1.trans hw2
          obtain ⟨⟨x1, x2⟩, ⟨⟨q1, q2⟩, q3, q4⟩, hcr, hfr, hcc, hff⟩ := hQ.out w2 hw2
          have hk2 : Kx (fun j => j = n4 ∨ j = n5) W w2 := aft_kx hw2
          rcases Int.lt_or_le 0 d with g3 | g3
          · have hv : windS (px, py) l (pre ++ [i]) = windS (px, py) l pre + 1 := by rw [hsn, if_pos (by omega)]
            have HV := hid hv
            clear hv hsn
            gi_wp2
            exact ⟨hk2.trans (Kx.setCell _ (.inr rfl)), ⟨by rw [World.cell?_setCell_other _ _ _ _ (by simp <;> omega)]; exact hcr, by rw [World.frozen?_setCell]; exact hfr⟩, ⟨by rw [HV.out]; exact World.cell?_setCell_same' _ _ _ (by rw [hcc]; rfl), by rw [World.frozen?_setCell]; exact hff⟩, hon'.out⟩
          · have hv : windS (px, py) l (pre ++ [i]) = windS (px, py) l pre := by rw [hsn, if_neg (by omega), if_neg (by omega)]; omega
            have HV := hid hv
            clear hv hsn
            gi_wp2
            refine ⟨trivial, ?_⟩
            gi_wp2
            exact ⟨hk2, ⟨hcr, hfr⟩, ⟨by rw [HV.out]; exact hcc, hff⟩, hon'.out⟩
        · have hv : windS (px, py) l (pre ++ [i]) = windS (px, py) l pre := by rw [hsn, if_neg (by omega), if_neg (by omega)]; omega
          have HV := hid hv
          clear hv hsn
          gi_wp2
          refine ⟨trivial, ?_⟩
          gi_wp2
          refine ⟨trivial, ?_⟩
          gi_wp2
          exact ⟨hk1, ⟨hcr, hfr⟩, ⟨by rw [HV.out]; exact hcc, hff⟩, hon'.out⟩
  case done =>
    rintro D W hD hKn ⟨⟨hcr, hfr⟩, ⟨hcc, hff⟩, hon⟩ hd
    have hres : withinZ (px, py) k l = (windS (px, py) l (List.range (nSeg k l)) != 0) := by
      unfold withinZ
      rw [List.any_eq_false.2 (fun x hx => by rw [hon x hx]; simp)]
      rfl
    have HR := hid hres
    clear hres hon
    obtain ⟨u, hu⟩ : ∃ u, windS (px, py) l (List.range (nSeg k l)) = u := ⟨_, rfl⟩
    rw [hu] at hcc
    have hkf := hKn.trans ((Kx.setCell (A := W) (p := ⟨n4, 0, none⟩) (X := fun j => j = n4 ∨ j = n5) (.bool (u != 0)) (.inl rfl)).kn hKn.size)
    have hfin := kn_end (o := .deferred none) (hw03.trans hw34) (fun j hj => by rcases hj with rfl | rfl <;> omega) hkf hD
    have HF := hid hfin
    clear hfin
    go_wp2
    have hd' : (W.setCell ⟨n4, 0, none⟩ (.bool (u != 0))).heap[D]? = some (.deferred (some [])) := (Below.heap_setCell W ⟨n4, 0, none⟩ _ D (by simp; omega)).trans hd
    refine ⟨by simp, .inl ⟨_, _, rfl, run_takeDeferred hd', ?_⟩⟩
    exact ⟨.bool (u != 0), results_cell1 rfl _ _ n4 _ rfl (end_cell (World.cell?_setCell_same' _ _ _ (by rw [hcr]; rfl)) hd'), by rw [HR.out, hu], HF.out⟩
  case stop =>
    rintro D cd m W hD hm hKn ⟨rfl, hcr, hon⟩ hd
    have hres : withinZ (px, py) k l = false := by
      obtain ⟨j, hj, hj'⟩ := hon
      unfold withinZ
      rw [List.any_eq_true.2 ⟨j, List.mem_range.2 (by have := List.mem_range.1 hj; omega), hj'⟩]
      rfl
    have hfin := kn_end (o := .deferred none) (hw03.trans hw34) (fun j hj => by rcases hj with rfl | rfl <;> omega) hKn hD
    have HF := hid hfin
    have HR := hid hres
    clear hfin hres
    go_wp2
    refine ⟨by simp, .inl ⟨_, _, rfl, run_takeDeferred hd, ?_⟩⟩
    exact ⟨.bool false, results_cell1 rfl _ _ n4 _ rfl (end_cell hcr hd), by rw [HR.out], HF.out⟩
end Go.Proofs.Ytokdclbfjlnnjaa
