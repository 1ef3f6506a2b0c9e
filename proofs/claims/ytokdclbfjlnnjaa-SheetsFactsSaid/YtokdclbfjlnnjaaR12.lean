/- The program's shaped; maps from int to int that a call makes. -/
import Derived.Test.YtokdclbfjlnnjaaR11
import Derived.Test.YtokdclbfjlnnjaaA2
namespace Go
open Go.RowKit Go.Maps
section
variable {P : Program} {K : Nat} (hK : P.underlying K = some (.int .i64))
/-- Block b is a map of at most n entries that holds just what f says. -/
def IN (P : Program) (K : Nat) (w : World) (b n : Nat) (f : Int → Option Int) : Prop :=
  ∃ D : DataW Unit, w.ownsMap P K (plainElem P K) b n D ∧ ∀ i z, D.atKey (.int .i64 i) (.lit (.int .i64 z)) = .lit (.int .i64 ((f i).getD z))
theorem IN.made (w : World) : IN P K (w.alloc (.map #[] 0)) w.heap.size 0 (fun _ => none) :=
  ⟨.map [], World.ownsMap_made _ _ _ _, fun _ _ => rfl⟩
theorem IN.kept {w w' : World} {b n : Nat} {f : Int → Option Int} {row : Option Nat} (h : IN P K w b n f) (hg : w.grownBy w' row) (hne : some b ≠ row) : IN P K w' b n f :=
  let ⟨D, h1, h2⟩ := h; ⟨D, h1.kept hg hne, h2⟩
theorem IN.aft {w w' : World} {b n : Nat} {f : Int → Option Int} (h : IN P K w b n f) (hw : Aft w w') : IN P K w' b n f := h.kept (hw.grows none) (by simp)
include hK in
theorem IN.put {w : World} {b n : Nat} {f : Int → Option Int} {t : TypeId} (h : IN P K w b n f) (ht : P.underlying t = some (.map K K)) (hn : n < maxLen) (i p : Int)
    (hi : -9223372036854775808 ≤ i ∧ i ≤ 9223372036854775807) (hp : -9223372036854775808 ≤ p ∧ p ≤ 9223372036854775807) :
    ∃ w', (Instr.mapUpdate t (.map (some b)) (.int .i64 i) (.int .i64 p)).run P w = .ok () w' ∧ IN P K w' b (n + 1) (fun j => if j = i then some p else f j) ∧ w.grownBy w' (some b) := by
  obtain ⟨D, h1, h2⟩ := h
  obtain ⟨w', r1, r2, r3⟩ := h1.update (int_keyed hK) ht hn (keyOf_int_mk hK (okKey hi)) (plainElem_int hK (okKey hp))
  refine ⟨w', r1, ⟨_, r2, fun j z => ?_⟩, r3⟩
  by_cases hj : j = i
  · subst hj
    rw [atKey_put_same h1.isMap (by simp [WideAt.IsKeyLit])]; simp
  · rw [atKey_put_other (by simp [hj]), h2]; simp [hj]
include hK in
theorem IN.look {w : World} {b n : Nat} {f : Int → Option Int} {t : TypeId} (h : IN P K w b n f) (ht : P.underlying t = some (.map K K)) (hz : (zeroValue K).run P w = .ok (.int .i64 0) w) (i : Int)
    (hi : -9223372036854775808 ≤ i ∧ i ≤ 9223372036854775807) : (Instr.lookup t (.map (some b)) (.int .i64 i) false).run P w = .ok (.int .i64 ((f i).getD 0)) w := by
  obtain ⟨D, h1, h2⟩ := h
  obtain ⟨c, hrun, hat, _⟩ := h1.lookup_int (int_keyed hK) ht hK hz (keyOf_int_mk hK (okKey hi))
  rw [h2] at hat
  injection hat with hat
  injection hat with _ hat
  rw [hrun, ← hat]
end
end Go
namespace Go.Proofs.Ytokdclbfjlnnjaa
open Go.RowKit Go.BigFrame
attribute [local go_sem] Oper.semAt_some

theorem shaped_case (k : Int) (l : List Pt) : shapedZ k l = if ¬ (0 ≤ k ∧ k ≤ 2) ∨ (l.length : Int) < k + 1 ∨ (k = 0 ∧ 1 < l.length) then false
    else !((List.range (nSeg k l)).any fun i => decide ((sgZ l i).1 = (sgZ l i).2)) := by
  unfold shapedZ
  by_cases h0 : k = 0
  · subst h0
    simp only [nSeg]
    by_cases h1 : l.length = 1
    · simp [h1]
    · by_cases h2 : l.length = 0
      · simp [h2]
      · have h3 : 1 < l.length := by omega
        simp [h1, h3]
  · rw [if_neg h0]
    by_cases h1 : (k = 1 ∧ l.length < 2) ∨ (k = 2 ∧ l.length < 3) ∨ (k ≠ 1 ∧ k ≠ 2)
    · rw [if_pos h1, if_pos (by omega)]
    · rw [if_neg h1, if_neg (by omega)]

set_option maxRecDepth 100000 in
set_option maxHeartbeats 4000000 in
theorem shaped_any (k : Int) (vp : Value) (l : List Pt) (w : World) (hl : Prs w vp l) (hsm : l.length ≤ 1000) (hkb : -9223372036854775808 ≤ k ∧ k ≤ 9223372036854775807) :
    Calls Try.prog 96 #[.agg #[.int .i64 k, vp]] w fun e w' => e = .returned (.bool (shapedZ k l)) ∧ Aft w w' := by
  have hP := hl
  obtain ⟨a, c, rfl, hl⟩ := hl
  have hmm := @run_makeMap Try.prog
  obtain ⟨W0, eW0, hw0, hlt, hbox⟩ := one_box w #[.int .i64 k, .slice a l.length c] 51
  refine calls_of_wp_segs Try.func96 rfl ?_
  simp only [Try.ntmps96, List.size_toArray, List.length_cons, List.length_nil, Nat.reduceAdd, Nat.reduceSub, Array.replicate_succ, Array.replicate_zero, List.push_toArray, List.append_toArray, List.nil_append, List.cons_append]
  go_upto_region 1 with fail
  clear eW0
  have hF : Hid (∀ W, Aft W0 W → W.cell? ⟨w.heap.size, 0, none⟩ = some (.int .i64 k) ∧ W.cell? ⟨w.heap.size, 1, none⟩ = some (.slice a l.length c)) := hid fun W hW => ⟨(hbox.out W hW) 0 _ rfl, (hbox.out W hW) 1 _ rfl⟩
  clear hbox
  obtain ⟨W1, hr1, hi1, hg1⟩ := (IN.made (P := Try.prog) (K := 3) (W0.alloc (.cells #[.bool false] 4))).put (t := 143) Try.underlying3 Try.underlying143 (by unfold maxLen; omega) 0 1 (by omega) (by omega)
  obtain ⟨W2, hr2, hi2, hg2⟩ := hi1.put (t := 143) Try.underlying3 Try.underlying143 (by unfold maxLen; omega) 1 2 (by omega) (by omega)
  obtain ⟨W3, hr3, hi3, hg3⟩ := hi2.put (t := 143) Try.underlying3 Try.underlying143 (by unfold maxLen; omega) 2 3 (by omega) (by omega)
  have hr4 := hi3.look (t := 143) Try.underlying3 Try.underlying143 (by kernel_rfl) k hkb
  have hc0 : (W0.alloc (.cells #[.bool false] 4)).cell? ⟨W0.heap.size, 0, none⟩ = some (.bool false) := cell_new W0 #[.bool false] 4 0 _ rfl
  have hf0 := frozen_new W0 #[.bool false] 4 0
  have hs1 := size_new W0 (.cells #[.bool false] 4)
  have hw1 := (Aft.refl W0).alloc (.cells #[.bool false] 4)
  generalize hW1 : W0.alloc (.cells #[.bool false] 4) = Wa at *
  have hs2 := size_new Wa (.map #[] 0)
  have hw2 := (Aft.refl Wa).alloc (.map #[] 0)
  have hb : Wa.heap.size = W0.heap.size + 1 := by rw [← hW1]; simp
  rw [hb] at hr1 hr2 hr3 hr4 hg1 hg2 hg3 hs2
  have hwa3 : Aft Wa W3 := ((hw2.grown hg1 (fun j hj => by cases hj; omega)).grown hg2 (fun j hj => by cases hj; omega)).grown hg3 (fun j hj => by cases hj; omega)
  have hw3 : Aft W0 W3 := hw1.trans hwa3
  replace hc0 : W3.cell? ⟨W0.heap.size, 0, none⟩ = some (.bool false) := (hwa3.cell hs1).trans hc0
  replace hf0 : W3.frozen? ⟨W0.heap.size, 0, none⟩ = false := (hwa3.frozen hs1).trans hf0
  obtain ⟨p1, p2⟩ := hF.out W3 hw3
  have hs3 := hwa3.size
  clear hW1
  obtain ⟨q, hq⟩ : ∃ q, ((if k = 2 then some 3 else if k = 1 then some 2 else if k = 0 then some 1 else none : Option Int).getD 0) = q := ⟨_, rfl⟩
  have hq' : q = if 0 ≤ k ∧ k ≤ 2 then k + 1 else 0 := by
    rw [← hq]
    split
    · rename_i h; subst h; rfl
    · split
      · rename_i h; subst h; rfl
      · split
        · rename_i h; subst h; rfl
        · rw [if_neg (by omega)]; rfl
  replace hr4 : (Instr.lookup 143 (.map (some (W0.heap.size + 1))) (.int .i64 k) false).run Try.prog W3 = .ok (.int .i64 q) W3 := by rw [← hq]; exact hr4
  clear hq
  have HD := hid (shaped_case k l)
  generalize hn2 : w.heap.size = n2 at *
  generalize hn4 : W0.heap.size = n4 at *
  clear hi1 hi2 hi3 hg1 hg2 hg3 hw2
  have HQQ := hid hq'
  clear hq'
  go_upto_region 2 with fail
  have hq' := HQQ.out
  have hend : ∀ b : Bool, Aft w (W3.setCell ⟨n4, 0, none⟩ (.bool b)) := fun b => (hw0.trans hw3).setCell (by simp; omega) _
  by_cases hk : 0 ≤ k ∧ k ≤ 2
  case neg =>
    have hq0 : (q == 0) = true := by rw [hq', if_neg hk]; rfl
    have HQ := hid (show shapedZ k l = false by rw [HD.out, if_pos (.inl hk)])
    clear hq'
    go_wp2
    exact ⟨.bool false, results_cell1 rfl _ _ n4 _ rfl (World.cell?_setCell_same' _ _ _ (by rw [hc0]; rfl)), by rw [HQ.out], hend _⟩
  rw [if_pos hk] at hq'
  have hq0 : (q == 0) = false := by rw [beq_eq_false_iff_ne]; omega
  by_cases hlen : (l.length : Int) < q
  · have HQ := hid (show shapedZ k l = false by rw [HD.out, if_pos (.inr (.inl (by omega)))])
    clear hq'
    go_wp2
    exact ⟨.bool false, results_cell1 rfl _ _ n4 _ rfl (World.cell?_setCell_same' _ _ _ (by rw [hc0]; rfl)), by rw [HQ.out], hend _⟩
  by_cases hdot : k = 0 ∧ 1 < l.length
  · have HQ := hid (show shapedZ k l = false by rw [HD.out, if_pos (.inr (.inr hdot))])
    have hk0 : (k == 0) = true := by rw [hdot.1]; rfl
    have h1 : (1 : Int) < l.length := by omega
    clear hq' hdot
    go_wp2
    exact ⟨.bool false, results_cell1 rfl _ _ n4 _ rfl (World.cell?_setCell_same' _ _ _ (by rw [hc0]; rfl)), by rw [HQ.out], hend _⟩
  have HD2 := hid (show shapedZ k l = !((List.range (nSeg k l)).any fun i => decide ((sgZ l i).1 = (sgZ l i).2)) by rw [HD.out, if_neg (by omega)])
  have fwd : ∀ {Q : Prop}, ((k == 0) = true → ¬ (1 : Int) < l.length → Q) → ((k == 0) = false → True → Q) → Q := fun h1 h2 => by
    by_cases h : k = 0
    · exact h1 (by rw [h]; rfl) (by omega)
    · exact h2 (by rw [beq_eq_false_iff_ne]; exact h) trivial
  clear hq' hdot hb hs2 hwa3 hw1 hs3
  refine fwd ?_ ?_
  · intro hk0
    intro hone
    clear fwd
    go_wp2_with fail
    refine (segments_fn k _ W3).mono ?_
    rintro e W4 ⟨rfl, hW4⟩
    have hB : ShBox W4 W3.heap.size k (.slice a l.length c) l := by
      rw [← hW4]
      exact ⟨cell_new _ _ _ _ _ rfl, cell_new _ _ _ _ _ rfl, (hP.aft (hw0.trans hw3)).aft ((Aft.refl _).alloc _)⟩
    have hw34 : Aft W3 W4 := hW4 ▸ (Aft.refl W3).alloc _
    have hs4 : W3.heap.size < W4.heap.size := hW4 ▸ size_new _ _
    clear hW4
    have hn43 := World.block_lt_of_cell? _ _ hc0
    simp only at hn43
    have hz0 := hw0.size
    replace hc0 : W4.cell? ⟨n4, 0, none⟩ = some (.bool false) := (hw34.cell (by omega)).trans hc0
    replace hf0 : W4.frozen? ⟨n4, 0, none⟩ = false := (hw34.frozen (by omega)).trans hf0
    clear p1 p2 hr1 hr2 hr3 hr4
    go_wp2
    refine wp_segs (w₀ := w) (X := fun j => j = n4) hP (by omega) hsm hB (fun j hj => by rcases hj with rfl; omega) rfl
      (fun pre W => (W.cell? ⟨n4, 0, none⟩ = some (.bool false) ∧ W.frozen? ⟨n4, 0, none⟩ = false) ∧ ∀ i ∈ pre, decide ((sgZ l i).1 = (sgZ l i).2) = false)
      (fun cd pre W => cd = .ret ∧ W.cell? ⟨n4, 0, none⟩ = some (.bool false) ∧ ∃ i ∈ pre, decide ((sgZ l i).1 = (sgZ l i).2) = true)
      (fun s A B h hx => ⟨⟨(World.cell?_of_block (a := ⟨n4, 0, none⟩) (hx n4 rfl)).trans h.1.1, (World.frozen?_of_block (a := ⟨n4, 0, none⟩) (hx n4 rfl)).trans h.1.2⟩, h.2⟩)
      (fun cd s A B h hx => ⟨h.1, (World.cell?_of_block (a := ⟨n4, 0, none⟩) (hx n4 rfl)).trans h.2.1, h.2.2⟩)
      ⟨⟨hc0, hf0⟩, by simp⟩ (fun Bx ax ay bx by_ => { tmps := #[.agg #[.int .i64 k, .slice a l.length c], .pointer (some ⟨n2, 0, none⟩), .pointer (some ⟨n4, 0, none⟩), .int .i64 q, .pointer (some ⟨Bx, 0, none⟩), .map (some (n4 + 1)), .map (some (n4 + 1)), .pointer (some ⟨n2, 0, none⟩), .int .i64 k, .int .i64 q, .int .i64 q, .bool false, .bool false, .pointer (some ⟨n2, 1, none⟩), .slice a l.length c, .int .i64 l.length, .int .i64 q, .bool false, .bool false, .bool false, .pointer (some ⟨n2, 0, none⟩), .int .i64 k, .bool true, .bool true, .pointer (some ⟨n2, 1, none⟩), .slice a l.length c, .int .i64 l.length, .bool false, .bool false, .bool false, .agg #[.int .i64 k, .slice a l.length c], .func (.func 116) #[] #[.pointer (some ⟨W3.heap.size, 0, none⟩)], .agg #[.int .i64 ax, .int .i64 ay, .int .i64 bx, .int .i64 by_], undef, undef, undef, undef, undef], defers := [] }) ?assign1 ?body1 ?done1 ?stop1
    case assign1 =>
      intro y ax ay bx by_ W K hK
      gi_wp2
      exact hK _ _ ((Aft.refl W).alloc _) (Nat.le_refl _) ⟨⟨cell_new _ _ _ _ _ rfl, cell_new _ _ _ _ _ rfl⟩, cell_new _ _ _ _ _ rfl, cell_new _ _ _ _ _ rfl⟩
    case body1 =>
      rintro y pre i Bx ax ay bx by_ W hs hy hr hKn ⟨⟨hcr, hfr⟩, hon⟩ hBx ⟨⟨q1, q2⟩, q3, q4⟩ hlen
      have hk1 : Kx (fun j => j = n4) W W := aft_kx (Aft.refl W)
      by_cases hxy : ax = bx ∧ ay = by_
      · have hx1 : (ax == bx) = true := by rw [hxy.1]; simp
        have hx2 : (ay == by_) = true := by rw [hxy.2]; simp
        have HX := hid hxy
        clear hxy
        gi_wp2
        exact ⟨hk1.trans (Kx.setCell _ rfl), rfl, World.cell?_setCell_same' _ _ _ (by rw [hcr]; rfl), i, by simp, by rw [hs.out]; simp [HX.out]⟩
      · have hon' : Hid (∀ j ∈ pre ++ [i], decide ((sgZ l j).1 = (sgZ l j).2) = false) := hid fun j hj => by
          rcases List.mem_append.1 hj with h | h
          · exact hon j h
          · obtain rfl : j = i := by simpa using h
            rw [hs.out]; simpa using hxy
        clear hon
        by_cases hx : ax = bx
        · have hx1 : (ax == bx) = true := by rw [hx]; simp
          have hx2 : (ay == by_) = false := by rw [beq_eq_false_iff_ne]; exact fun h => hxy ⟨hx, h⟩
          clear hxy hx
          gi_wp2
          exact ⟨hk1, ⟨hcr, hfr⟩, hon'.out⟩
        · have hx1 : (ax == bx) = false := by rw [beq_eq_false_iff_ne]; exact hx
          clear hxy hx
          gi_wp2
          exact ⟨hk1, ⟨hcr, hfr⟩, hon'.out⟩
    case done1 =>
      rintro D W hD hKn ⟨⟨hcr, hfr⟩, hon⟩ hd
      have hres : shapedZ k l = true := by
        rw [HD2.out, List.any_eq_false.2 (fun x hx => by rw [hon x hx]; simp)]
        rfl
      have HR := hid hres
      clear hres hon
      have hkf := hKn.trans ((Kx.setCell (A := W) (p := ⟨n4, 0, none⟩) (X := fun j => j = n4) (.bool true) rfl).kn hKn.size)
      have hfin := kn_end (o := .deferred none) ((hw0.trans hw3).trans hw34) (fun j hj => by rcases hj with rfl; omega) hkf hD
      have HF := hid hfin
      clear hfin
      go_wp2
      have hd' : (W.setCell ⟨n4, 0, none⟩ (.bool true)).heap[D]? = some (.deferred (some [])) := (Below.heap_setCell W ⟨n4, 0, none⟩ _ D (by simp; omega)).trans hd
      refine ⟨by simp, .inl ⟨_, _, rfl, run_takeDeferred hd', ?_⟩⟩
      exact ⟨.bool true, results_cell1 rfl _ _ n4 _ rfl (end_cell (World.cell?_setCell_same' _ _ _ (by rw [hcr]; rfl)) hd'), by rw [HR.out], HF.out⟩
    case stop1 =>
      rintro D cd m W hD hm hKn ⟨rfl, hcr, hon⟩ hd
      have hres : shapedZ k l = false := by
        obtain ⟨j, hj, hj'⟩ := hon
        rw [HD2.out, List.any_eq_true.2 ⟨j, List.mem_range.2 (by have := List.mem_range.1 hj; omega), hj'⟩]
        rfl
      have hfin := kn_end (o := .deferred none) ((hw0.trans hw3).trans hw34) (fun j hj => by rcases hj with rfl; omega) hKn hD
      have HF := hid hfin
      have HR := hid hres
      clear hfin hres
      go_wp2
      refine ⟨by simp, .inl ⟨_, _, rfl, run_takeDeferred hd, ?_⟩⟩
      exact ⟨.bool false, results_cell1 rfl _ _ n4 _ rfl (end_cell hcr hd), by rw [HR.out], HF.out⟩
  · intro hk0
    intro hone
    clear fwd
    go_wp2_with fail
    refine (segments_fn k _ W3).mono ?_
    rintro e W4 ⟨rfl, hW4⟩
    have hB : ShBox W4 W3.heap.size k (.slice a l.length c) l := by
      rw [← hW4]
      exact ⟨cell_new _ _ _ _ _ rfl, cell_new _ _ _ _ _ rfl, (hP.aft (hw0.trans hw3)).aft ((Aft.refl _).alloc _)⟩
    have hw34 : Aft W3 W4 := hW4 ▸ (Aft.refl W3).alloc _
    have hs4 : W3.heap.size < W4.heap.size := hW4 ▸ size_new _ _
    clear hW4
    have hn43 := World.block_lt_of_cell? _ _ hc0
    simp only at hn43
    have hz0 := hw0.size
    replace hc0 : W4.cell? ⟨n4, 0, none⟩ = some (.bool false) := (hw34.cell (by omega)).trans hc0
    replace hf0 : W4.frozen? ⟨n4, 0, none⟩ = false := (hw34.frozen (by omega)).trans hf0
    clear p1 p2 hr1 hr2 hr3 hr4
    go_wp2
    refine wp_segs (w₀ := w) (X := fun j => j = n4) hP (by omega) hsm hB (fun j hj => by rcases hj with rfl; omega) rfl
      (fun pre W => (W.cell? ⟨n4, 0, none⟩ = some (.bool false) ∧ W.frozen? ⟨n4, 0, none⟩ = false) ∧ ∀ i ∈ pre, decide ((sgZ l i).1 = (sgZ l i).2) = false)
      (fun cd pre W => cd = .ret ∧ W.cell? ⟨n4, 0, none⟩ = some (.bool false) ∧ ∃ i ∈ pre, decide ((sgZ l i).1 = (sgZ l i).2) = true)
      (fun s A B h hx => ⟨⟨(World.cell?_of_block (a := ⟨n4, 0, none⟩) (hx n4 rfl)).trans h.1.1, (World.frozen?_of_block (a := ⟨n4, 0, none⟩) (hx n4 rfl)).trans h.1.2⟩, h.2⟩)
      (fun cd s A B h hx => ⟨h.1, (World.cell?_of_block (a := ⟨n4, 0, none⟩) (hx n4 rfl)).trans h.2.1, h.2.2⟩)
      ⟨⟨hc0, hf0⟩, by simp⟩ (fun Bx ax ay bx by_ => { tmps := #[.agg #[.int .i64 k, .slice a l.length c], .pointer (some ⟨n2, 0, none⟩), .pointer (some ⟨n4, 0, none⟩), .int .i64 q, .pointer (some ⟨Bx, 0, none⟩), .map (some (n4 + 1)), .map (some (n4 + 1)), .pointer (some ⟨n2, 0, none⟩), .int .i64 k, .int .i64 q, .int .i64 q, .bool false, .bool false, .pointer (some ⟨n2, 1, none⟩), .slice a l.length c, .int .i64 l.length, .int .i64 q, .bool false, .bool false, .bool false, .pointer (some ⟨n2, 0, none⟩), .int .i64 k, .bool false, .bool false, undef, undef, undef, undef, .bool false, .bool false, .agg #[.int .i64 k, .slice a l.length c], .func (.func 116) #[] #[.pointer (some ⟨W3.heap.size, 0, none⟩)], .agg #[.int .i64 ax, .int .i64 ay, .int .i64 bx, .int .i64 by_], undef, undef, undef, undef, undef], defers := [] }) ?assign2 ?body2 ?done2 ?stop2
    case assign2 =>
      intro y ax ay bx by_ W K hK
      gi_wp2
      exact hK _ _ ((Aft.refl W).alloc _) (Nat.le_refl _) ⟨⟨cell_new _ _ _ _ _ rfl, cell_new _ _ _ _ _ rfl⟩, cell_new _ _ _ _ _ rfl, cell_new _ _ _ _ _ rfl⟩
    case body2 =>
      rintro y pre i Bx ax ay bx by_ W hs hy hr hKn ⟨⟨hcr, hfr⟩, hon⟩ hBx ⟨⟨q1, q2⟩, q3, q4⟩ hlen
      have hk1 : Kx (fun j => j = n4) W W := aft_kx (Aft.refl W)
      by_cases hxy : ax = bx ∧ ay = by_
      · have hx1 : (ax == bx) = true := by rw [hxy.1]; simp
        have hx2 : (ay == by_) = true := by rw [hxy.2]; simp
        have HX := hid hxy
        clear hxy
        gi_wp2
        exact ⟨hk1.trans (Kx.setCell _ rfl), rfl, World.cell?_setCell_same' _ _ _ (by rw [hcr]; rfl), i, by simp, by rw [hs.out]; simp [HX.out]⟩
      · have hon' : Hid (∀ j ∈ pre ++ [i], decide ((sgZ l j).1 = (sgZ l j).2) = false) := hid fun j hj => by
          rcases List.mem_append.1 hj with h | h
          · exact hon j h
          · obtain rfl : j = i := by simpa using h
            rw [hs.out]; simpa using hxy
        clear hon
        by_cases hx : ax = bx
        · have hx1 : (ax == bx) = true := by rw [hx]; simp
          have hx2 : (ay == by_) = false := by rw [beq_eq_false_iff_ne]; exact fun h => hxy ⟨hx, h⟩
          clear hxy hx
          gi_wp2
          exact ⟨hk1, ⟨hcr, hfr⟩, hon'.out⟩
        · have hx1 : (ax == bx) = false := by rw [beq_eq_false_iff_ne]; exact hx
          clear hxy hx
          gi_wp2
          exact ⟨hk1, ⟨hcr, hfr⟩, hon'.out⟩
    case done2 =>
      rintro D W hD hKn ⟨⟨hcr, hfr⟩, hon⟩ hd
      have hres : shapedZ k l = true := by
        rw [HD2.out, List.any_eq_false.2 (fun x hx => by rw [hon x hx]; simp)]
        rfl
      have HR := hid hres
      clear hres hon
      have hkf := hKn.trans ((Kx.setCell (A := W) (p := ⟨n4, 0, none⟩) (X := fun j => j = n4) (.bool true) rfl).kn hKn.size)
      have hfin := kn_end (o := .deferred none) ((hw0.trans hw3).trans hw34) (fun j hj => by rcases hj with rfl; omega) hkf hD
      have HF := hid hfin
      clear hfin
      go_wp2
      have hd' : (W.setCell ⟨n4, 0, none⟩ (.bool true)).heap[D]? = some (.deferred (some [])) := (Below.heap_setCell W ⟨n4, 0, none⟩ _ D (by simp; omega)).trans hd
      refine ⟨by simp, .inl ⟨_, _, rfl, run_takeDeferred hd', ?_⟩⟩
      exact ⟨.bool true, results_cell1 rfl _ _ n4 _ rfl (end_cell (World.cell?_setCell_same' _ _ _ (by rw [hcr]; rfl)) hd'), by rw [HR.out], HF.out⟩
    case stop2 =>
      rintro D cd m W hD hm hKn ⟨rfl, hcr, hon⟩ hd
      have hres : shapedZ k l = false := by
        obtain ⟨j, hj, hj'⟩ := hon
        rw [HD2.out, List.any_eq_true.2 ⟨j, List.mem_range.2 (by have := List.mem_range.1 hj; omega), hj'⟩]
        rfl
      have hfin := kn_end (o := .deferred none) ((hw0.trans hw3).trans hw34) (fun j hj => by rcases hj with rfl; omega) hKn hD
      have HF := hid hfin
      have HR := hid hres
      clear hfin hres
      go_wp2
      refine ⟨by simp, .inl ⟨_, _, rfl, run_takeDeferred hd, ?_⟩⟩
      exact ⟨.bool false, results_cell1 rfl _ _ n4 _ rfl (end_cell hcr hd), by rw [HR.out], HF.out⟩
end Go.Proofs.Ytokdclbfjlnnjaa
