/- The program's Length, within, Inside. -/
import Derived.Test.YtokdclbfjlnnjaaP5
namespace Go.Proofs.Ytokdclbfjlnnjaa
open Go.RowKit Go.BigFrame
attribute [local go_sem] Oper.semAt_some

theorem run_max_int4 (P : Program) (w : World) (ts : Array TypeId) (t : TypeId) (x y z u : Int) : (Builtin.max_ ts t #[.int .i64 x, .int .i64 y, .int .i64 z, .int .i64 u]).run P w = .ok (.int .i64 (max (max x y) (max z u))) w := by
  have h : (Builtin.max_ ts t #[.int .i64 x, .int .i64 y, .int .i64 z, .int .i64 u]).run P w = .ok (.int .i64 (if u > (if z > (if y > x then y else x) then z else (if y > x then y else x)) then u else (if z > (if y > x then y else x) then z else (if y > x then y else x)))) w := by
    simp [Builtin.max_, Builtin.max2]
  rw [h]
  congr 2
  omega

theorem nSeg_le (k : Int) (l : List Pt) : nSeg k l ≤ l.length := by unfold nSeg; split <;> (try split) <;> omega

def ScL (l : List Pt) : Prop := ∀ p ∈ l, Sc p.1 ∧ Sc p.2
theorem ptZ_sc {l : List Pt} (h : ScL l) (i : Nat) : Sc (ptZ l i).1 ∧ Sc (ptZ l i).2 := by
  unfold ptZ
  rcases Nat.lt_or_ge (i % l.length) l.length with hh | hh
  · rw [List.getD_eq_getElem?_getD, List.getElem?_eq_getElem hh]
    exact h _ (List.getElem_mem hh)
  · rw [List.getD_eq_getElem?_getD, List.getElem?_eq_none hh]
    simp [Sc]
theorem sgZ_sc {l : List Pt} (h : ScL l) (i : Nat) : Sc (sgZ l i).1.1 ∧ Sc (sgZ l i).1.2 ∧ Sc (sgZ l i).2.1 ∧ Sc (sgZ l i).2.2 :=
  ⟨(ptZ_sc h i).1, (ptZ_sc h i).2, (ptZ_sc h (i + 1)).1, (ptZ_sc h (i + 1)).2⟩

def slen (s : Pt × Pt) : Int := max (max (s.2.1 - s.1.1) (-(s.2.1 - s.1.1))) (max (s.2.2 - s.1.2) (-(s.2.2 - s.1.2)))
def lenS (l : List Pt) : List Nat → Int
  | [] => 0
  | i :: pre => slen (sgZ l i) + lenS l pre
theorem lenS_snoc (l : List Pt) : ∀ (pre : List Nat) (i : Nat), lenS l (pre ++ [i]) = lenS l pre + slen (sgZ l i)
  | [], i => by simp [lenS]
  | j :: pre, i => by simp only [List.cons_append, lenS, lenS_snoc l pre i]; omega
theorem slen_bd {s : Pt × Pt} (h : Sc s.1.1 ∧ Sc s.1.2 ∧ Sc s.2.1 ∧ Sc s.2.2) : 0 ≤ slen s ∧ slen s ≤ 10000 := by
  obtain ⟨h1, h2, h3, h4⟩ := h
  unfold Sc at *
  unfold slen
  omega
theorem lenS_bd {l : List Pt} (h : ScL l) : ∀ pre : List Nat, 0 ≤ lenS l pre ∧ lenS l pre ≤ 10000 * pre.length
  | [] => by simp [lenS]
  | i :: pre => by
    have h1 := slen_bd (sgZ_sc h i)
    have h2 := lenS_bd h pre
    simp only [lenS, List.length_cons]
    omega
def lengthZ (k : Int) (l : List Pt) : Int := lenS l (List.range (nSeg k l))

theorem onX_cell {β : Type} (b : Nat) (f : β → Value) : OnX (fun j => j = b) (fun s W => W.cell? ⟨b, 0, none⟩ = some (f s) ∧ W.frozen? ⟨b, 0, none⟩ = false) := fun s A B h hb =>
  ⟨(World.cell?_of_block (a := ⟨b, 0, none⟩) (hb b rfl)).trans h.1, (World.frozen?_of_block (a := ⟨b, 0, none⟩) (hb b rfl)).trans h.2⟩

set_option maxRecDepth 100000 in
set_option maxHeartbeats 2000000 in
theorem length_any (k : Int) (vp : Value) (l : List Pt) (w : World) (hl : Prs w vp l) (hsm : l.length ≤ 1000) (hsc : ScL l) :
    Calls Try.prog 37 #[.agg #[.int .i64 k, vp]] w fun e w' => e = .returned (.int .i64 (lengthZ k l)) ∧ Aft w w' := by
  have hP := hl
  obtain ⟨a, c, rfl, hl⟩ := hl
  obtain ⟨W0, eW0, hw0, hlt, hbox⟩ := one_box w #[.int .i64 k, .slice a l.length c] 51
  refine calls_of_wp_segs Try.func37 rfl ?_
  simp only [Try.ntmps37, List.size_toArray, List.length_cons, List.length_nil, Nat.reduceAdd, Nat.reduceSub, Array.replicate_succ, Array.replicate_zero, List.push_toArray, List.append_toArray, List.nil_append, List.cons_append]
  go_upto_region 1 with fail
  clear eW0
  have hF : Hid (∀ W, Aft W0 W → W.cell? ⟨w.heap.size, 0, none⟩ = some (.int .i64 k) ∧ W.cell? ⟨w.heap.size, 1, none⟩ = some (.slice a l.length c)) := hid fun W hW => ⟨hbox.out W hW 0 _ rfl, hbox.out W hW 1 _ rfl⟩
  clear hbox
  go_upto_region 2 with fail
  have hc0 := cell_new W0 #[.int .i64 0] 3 0 _ rfl
  have hf0 := frozen_new W0 #[.int .i64 0] 3 0
  have hs1 := size_new W0 (.cells #[.int .i64 0] 3)
  have hw1 := (Aft.refl W0).alloc (.cells #[.int .i64 0] 3)
  generalize hW1 : W0.alloc (.cells #[.int .i64 0] 3) = W1 at *
  obtain ⟨p1, p2⟩ := hF.out W1 hw1
  have hw01 := hw0.trans hw1
  generalize hn3 : W0.heap.size = n3 at *
  go_wp2_with fail
  refine (segments_fn k _ W1).mono ?_
  rintro e W2 ⟨rfl, hW2⟩
  have hB : ShBox W2 W1.heap.size k (.slice a l.length c) l := by
    rw [← hW2]
    exact ⟨cell_new _ _ _ _ _ rfl, cell_new _ _ _ _ _ rfl, (hP.aft hw01).aft ((Aft.refl _).alloc _)⟩
  have hw12 : Aft W1 W2 := hW2 ▸ (Aft.refl W1).alloc _
  have hs2 : W1.heap.size < W2.heap.size := hW2 ▸ size_new _ _
  have hc2 : W2.cell? ⟨n3, 0, none⟩ = some (.int .i64 0) := (hw12.cell hs1).trans hc0
  have hf2 : W2.frozen? ⟨n3, 0, none⟩ = false := (hw12.frozen hs1).trans hf0
  have hz := hw0.size
  clear hW2 hW1
  go_wp2
  refine wp_segs (w₀ := w) (X := fun j => j = n3) hP (by have := hw12.size; omega) hsm hB (fun j hj => by subst hj; omega) rfl
    (fun pre W => W.cell? ⟨n3, 0, none⟩ = some (.int .i64 (lenS l pre)) ∧ W.frozen? ⟨n3, 0, none⟩ = false) (fun _ _ _ => False) (onX_cell n3 fun pre => .int .i64 (lenS l pre)) (fun _ _ _ _ h _ => h) ⟨hc2, hf2⟩ (fun Bx ax ay bx by_ => { tmps := #[.agg #[.int .i64 k, .slice a l.length c], .pointer (some ⟨w.heap.size, 0, none⟩), .int .i64 0, .pointer (some ⟨n3, 0, none⟩), .pointer (some ⟨Bx, 0, none⟩), undef, undef, .agg #[.int .i64 k, .slice a l.length c], .func (.func 116) #[] #[.pointer (some ⟨W1.heap.size, 0, none⟩)], .agg #[.int .i64 ax, .int .i64 ay, .int .i64 bx, .int .i64 by_], undef, undef, undef, undef, undef, undef, undef, undef, undef, undef, undef, undef, undef, undef, undef, undef, undef, undef, undef, undef, undef, undef, undef, undef], defers := [] }) ?assign ?body ?done ?stop
  case assign =>
    intro y ax ay bx by_ W K hK
    gi_wp2
    exact hK _ _ ((Aft.refl W).alloc _) (Nat.le_refl _) ⟨⟨cell_new _ _ _ _ _ rfl, cell_new _ _ _ _ _ rfl⟩, cell_new _ _ _ _ _ rfl, cell_new _ _ _ _ _ rfl⟩
  case body =>
    rintro y pre i Bx ax ay bx by_ W hs hy hr hKn ⟨hcc, hff⟩ hBx h4 hlen
    have hsc4 := sgZ_sc hsc i
    have hlb := lenS_bd hsc pre
    have hns := nSeg_le k l
    have hsn := lenS_snoc l pre i
    rw [hs.out] at hsc4 hsn
    obtain ⟨⟨q1, q2⟩, q3, q4⟩ := h4
    obtain ⟨⟨u1, u1'⟩, ⟨u2, u2'⟩, ⟨u3, u3'⟩, u4, u4'⟩ := hsc4
    have hmx := @run_max_int4 Try.prog
    gi_wp2_with fail
    refine wpIn_region_flow (Fence.free_wide.inRound y) _ (Aft.refl _) [FV.is (.pointer (some ⟨Bx, 2, none⟩)), FV.is (.pointer (some ⟨Bx, 2, none⟩)), FV.is (.int .i64 bx), FV.is (.pointer (some ⟨Bx, 0, none⟩)), FV.is (.pointer (some ⟨Bx, 0, none⟩)), FV.is (.int .i64 ax), FV.is (.int .i64 (bx - ax)), FV.is (.pointer (some ⟨Bx, 2, none⟩)), FV.is (.pointer (some ⟨Bx, 3, none⟩)), FV.is (.int .i64 by_), FV.is (.pointer (some ⟨Bx, 0, none⟩)), FV.is (.pointer (some ⟨Bx, 1, none⟩)), FV.is (.int .i64 ay), FV.is (.int .i64 (by_ - ay)), FV.is (.int .i64 (bx - ax)), FV.is (.int .i64 (by_ - ay))]
      [(0, 10), (1, 11), (2, 12), (3, 13), (4, 14), (5, 15), (6, 16), (7, 17), (8, 18), (9, 19), (10, 20), (11, 21), (12, 22), (13, 23), (14, 5), (15, 6)]
      [[], [(0, 10)], [(1, 11)], [], [(3, 13)], [(4, 14)], [(2, 12), (5, 15)], [], [(7, 17)], [(8, 18)], [], [(10, 20)], [(11, 21)], [(9, 19), (12, 22)], [(6, 16)], [(13, 23)]] (by kernel_rfl) (by kernel_rfl) (by kernel_rfl) ?_ ?_
    · refine flowObs_cons (fun W hW => flowOb_nil ?_) ?_
      · go_wp2
        exact ⟨rfl, Aft.refl W⟩
      refine flowObs_cons (fun W hW => flowOb_cons fun v0 h0 => flowOb_nil ?_) ?_
      · obtain rfl := h0
        go_wp2
        exact ⟨rfl, Aft.refl W⟩
      refine flowObs_cons (fun W hW => flowOb_cons fun v0 h0 => flowOb_nil ?_) ?_
      · obtain rfl := h0
        have q1W := (hW.cell (World.block_lt_of_cell? _ _ q1)).trans q1
        have q2W := (hW.cell (World.block_lt_of_cell? _ _ q2)).trans q2
        have q3W := (hW.cell (World.block_lt_of_cell? _ _ q3)).trans q3
        have q4W := (hW.cell (World.block_lt_of_cell? _ _ q4)).trans q4
        go_wp2
        exact ⟨rfl, Aft.refl W⟩
      refine flowObs_cons (fun W hW => flowOb_nil ?_) ?_
      · go_wp2
        exact ⟨rfl, Aft.refl W⟩
      refine flowObs_cons (fun W hW => flowOb_cons fun v0 h0 => flowOb_nil ?_) ?_
      · obtain rfl := h0
        go_wp2
        exact ⟨rfl, Aft.refl W⟩
      refine flowObs_cons (fun W hW => flowOb_cons fun v0 h0 => flowOb_nil ?_) ?_
      · obtain rfl := h0
        have q1W := (hW.cell (World.block_lt_of_cell? _ _ q1)).trans q1
        have q2W := (hW.cell (World.block_lt_of_cell? _ _ q2)).trans q2
        have q3W := (hW.cell (World.block_lt_of_cell? _ _ q3)).trans q3
        have q4W := (hW.cell (World.block_lt_of_cell? _ _ q4)).trans q4
        go_wp2
        exact ⟨rfl, Aft.refl W⟩
      refine flowObs_cons (fun W hW => flowOb_cons fun v0 h0 => flowOb_cons fun v1 h1 => flowOb_nil ?_) ?_
      · obtain rfl := h0
        obtain rfl := h1
        go_wp2
        exact ⟨rfl, Aft.refl W⟩
      refine flowObs_cons (fun W hW => flowOb_nil ?_) ?_
      · go_wp2
        exact ⟨rfl, Aft.refl W⟩
      refine flowObs_cons (fun W hW => flowOb_cons fun v0 h0 => flowOb_nil ?_) ?_
      · obtain rfl := h0
        go_wp2
        exact ⟨rfl, Aft.refl W⟩
      refine flowObs_cons (fun W hW => flowOb_cons fun v0 h0 => flowOb_nil ?_) ?_
      · obtain rfl := h0
        have q1W := (hW.cell (World.block_lt_of_cell? _ _ q1)).trans q1
        have q2W := (hW.cell (World.block_lt_of_cell? _ _ q2)).trans q2
        have q3W := (hW.cell (World.block_lt_of_cell? _ _ q3)).trans q3
        have q4W := (hW.cell (World.block_lt_of_cell? _ _ q4)).trans q4
        go_wp2
        exact ⟨rfl, Aft.refl W⟩
      refine flowObs_cons (fun W hW => flowOb_nil ?_) ?_
      · go_wp2
        exact ⟨rfl, Aft.refl W⟩
      refine flowObs_cons (fun W hW => flowOb_cons fun v0 h0 => flowOb_nil ?_) ?_
      · obtain rfl := h0
        go_wp2
        exact ⟨rfl, Aft.refl W⟩
      refine flowObs_cons (fun W hW => flowOb_cons fun v0 h0 => flowOb_nil ?_) ?_
      · obtain rfl := h0
        have q1W := (hW.cell (World.block_lt_of_cell? _ _ q1)).trans q1
        have q2W := (hW.cell (World.block_lt_of_cell? _ _ q2)).trans q2
        have q3W := (hW.cell (World.block_lt_of_cell? _ _ q3)).trans q3
        have q4W := (hW.cell (World.block_lt_of_cell? _ _ q4)).trans q4
        go_wp2
        exact ⟨rfl, Aft.refl W⟩
      refine flowObs_cons (fun W hW => flowOb_cons fun v0 h0 => flowOb_cons fun v1 h1 => flowOb_nil ?_) ?_
      · obtain rfl := h0
        obtain rfl := h1
        go_wp2
        exact ⟨rfl, Aft.refl W⟩
      refine flowObs_cons (fun W hW => flowOb_cons fun v0 h0 => flowOb_nil ?_) ?_
      · obtain rfl := h0
        go_wp2
        exact ⟨rfl, Aft.refl W⟩
      refine flowObs_cons (fun W hW => flowOb_cons fun v0 h0 => flowOb_nil ?_) flowObs_nil
      · obtain rfl := h0
        go_wp2
        exact ⟨rfl, Aft.refl W⟩
    · intro W' hW'
      iterate 14 refine flowEndIn_cons fun _ _ => ?_
      refine flowEndIn_cons fun v h => flowEndIn_cons fun v' h' => flowEndIn_nil ?_
      obtain rfl := h
      obtain rfl := h'
      simp only [Act.put, List.setIfInBounds_toArray, List.set_cons_succ, List.set_cons_zero]
      have hcc' := (hW'.cell (World.block_lt_of_cell? _ _ hcc)).trans hcc
      have hff' := (hW'.frozen (World.block_lt_of_cell? _ _ hcc)).trans hff
      have hk1 := aft_kx (X := fun j => j = n3) hW'
      gi_wp2
      have hval : lenS l pre + max (bx - ax) (max (-(bx - ax)) (max (by_ - ay) (-(by_ - ay)))) = lenS l (pre ++ [i]) := by
        rw [hsn]
        unfold slen
        simp only
        omega
      rw [hval]
      exact ⟨hk1.trans (Kx.setCell _ rfl), World.cell?_setCell_same' _ _ _ (by rw [hcc']; rfl), by rw [World.frozen?_setCell]; exact hff'⟩
  case done =>
    rintro D W hD hKn ⟨hcc, hff⟩ hd
    have hfin := kn_end (o := .deferred none) (hw01.trans hw12) (fun j hj => by subst hj; omega) hKn hD
    go_wp2
    refine ⟨by simp, .inl ⟨_, _, rfl, run_takeDeferred hd, ?_⟩⟩
    exact ⟨_, results_tmp rfl _ _ _, rfl, hfin⟩
  case stop =>
    rintro D cd m W _ _ _ h _
    exact h.elim
end Go.Proofs.Ytokdclbfjlnnjaa
