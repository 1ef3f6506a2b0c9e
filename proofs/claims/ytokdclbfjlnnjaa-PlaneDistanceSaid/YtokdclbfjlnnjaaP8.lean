/- The program's lists of segments: slices.Collect of the iterator; elements. -/
import Derived.Maps.OwnIn
import Derived.Maps.AppendAt
import Derived.Test.YtokdclbfjlnnjaaP7
namespace Go.Proofs.Ytokdclbfjlnnjaa
open Go.RowKit Go.BigFrame
attribute [local go_sem] Oper.semAt_some

section
variable {X : Nat → Prop} {w₀ w : World} {Bs : Nat} {k : Int} {vp : Value} {l : List Pt}
/-- How a round that always goes on is left. -/
def segPostG (n : Nat) (X : Nat → Prop) (C : List Nat → World → Prop) (xs : List Nat) (W : World) : Exit → Act → World → Prop
  | .normal, _, W' => KeepsFrom n W W' ∧ Kn n X W W' ∧ C xs W'
  | _, _, _ => False
theorem segPostG_own {C : List Nat → World → Prop} {xs : List Nat} {W : World} (hW : Kn w.heap.size X w W) :
    ∀ (e : Exit) (a : Act) (W' : World), segPostG w.heap.size X C xs W e a W' → ownPostG w.heap.size (Kn w.heap.size X) (fun s W => Kn w.heap.size X w W ∧ C s W) (fun _ _ _ => False) xs W e a W'
  | .normal, _, _, h => ⟨h.1, h.2.1, hW.trans h.2.1, h.2.2⟩
  | .ret, _, _, h => h.elim
  | .exit _, _, _, h => h.elim
  | .goto _, _, _, h => h.elim

/-- A loop over the segments of a shape whose body may write rows laid since. -/
theorem wp_segsG {g : Operand} {p : Tmp} {assign body : Code} {Q : Exit → Act → World → Prop} {a : Act}
    (hP : Prs w₀ vp l) (hw : w₀.heap.size ≤ w.heap.size) (hsm : l.length ≤ 1000) (hB : ShBox w Bs k vp l) (hX : ∀ j, X j → w₀.heap.size ≤ j ∧ j < w.heap.size ∧ j ≠ Bs)
    (hg : a.eval g = .func (.func 116) #[] #[.pointer (some ⟨Bs, 0, none⟩)])
    (C : List Nat → World → Prop) (hO : OwnFrom w.heap.size C) (hA : ∀ s A B, C s A → Aft A B → C s B) (h0 : C [] w) (mk : Nat → Int → Int → Int → Int → Act)
    (hassign : ∀ (y : Nat) (ax ay bx by_ : Int) (W : World) (K : Act → World → Prop), (∀ Bx W', Aft W W' → W.heap.size ≤ Bx → B4 W' Bx ax ay bx by_ → K (mk Bx ax ay bx by_) W') →
      assign.wpIn (Fence.wide.inRound y) 7 Try.prog (Exit.then K (fun _ _ _ => False)) { tmps := a.tmps.setIfInBounds p (.agg #[.int .i64 ax, .int .i64 ay, .int .i64 bx, .int .i64 by_]), defers := [] } W)
    (hbody : ∀ (y : Nat) (pre : List Nat) (i Bx : Nat) (ax ay bx by_ : Int) (W : World), Hid (sgZ l i = ((ax, ay), (bx, by_))) → w.heap.size ≤ y → (∃ r, W.heap[y]? = some (.loop r)) → Kn w.heap.size X w W → C pre W → w.heap.size ≤ Bx → B4 W Bx ax ay bx by_ → pre.length < nSeg k l →
      body.wpIn (Fence.wide.inRound y) 7 Try.prog (segPostG w.heap.size X C (pre ++ [i]) W) (mk Bx ax ay bx by_) W)
    (hdone : ∀ (D : Nat) (W : World), w.heap.size ≤ D → Kn w.heap.size X w W → C (List.range (nSeg k l)) W → W.heap[D]? = some (.deferred (some [])) → Q .normal { a with defers := { target := .collected D, args := #[] } :: a.defers } W) :
    (Code.rangeFunc g #[p] assign body).wp Try.prog Q a w := by
  have hXn : ∀ j, X j → j < w.heap.size := fun j h => (hX j h).2.1
  have hBs := World.block_lt_of_cell? _ _ hB.kind
  have hKO : OwnFrom w.heap.size (fun (_ : List Nat) W => Kn w.heap.size X w W) := fun s A B row hs hg hr => (own_kn (C := fun (_ : List Nat) _ => True) hXn (fun _ _ _ _ _ => trivial) s A B row ⟨hs, trivial⟩ hg hr).1
  refine (wpIn_wide (n := 9)).1 (wpIn_rangeFunc_ownH (F := Fence.wide) (n := 9) rfl (by omega) (gf := 116) (lb := #[.pointer (some ⟨Bs, 0, none⟩)]) hg trivial (Go.Proofs.enters_of Try.func116 (by kernel_rfl) rfl)
    (segs1_any 8 (by omega) k l vp Bs (Kn w.heap.size X) w hB hsm (kn_box hP hw hX hBs)) (fun h k => h.trans k) kn_b (Below.refl _ _) (fun _ => rfl)
    (fun s W => Kn w.heap.size X w W ∧ C s W) (fun _ _ _ => False) (OwnFrom.and hKO hO) (fun _ _ _ _ _ h _ _ => h) ⟨Kn.refl _ _ _, h0⟩ (SegAt mk w l) (segAt_own mk) ?_ ?_ ?_ ?_)
  · intro y pre i W K hI hK
    have e : (#[p].zip #[segV (sgZ l i)]).foldl (fun t (x : Tmp × Value) => t.setIfInBounds x.1 x.2) a.tmps = a.tmps.setIfInBounds p (segV (sgZ l i)) := by simp
    refine (show _ from e ▸ hassign y _ _ _ _ W K fun Bx W' h1 h2 h3 => ?_)
    have hkx : Kx X W W' := aft_kx h1
    exact hK _ _ (hkx.keeps hXn) (hkx.kn hI.1.size) ⟨hI.1.trans (hkx.kn hI.1.size), hA _ _ _ hI.2 h1⟩ ⟨Bx, by have := hI.1.size; omega, h3, rfl⟩
  · rintro y pre i a' W hy hr ⟨hI, hC'⟩ ⟨Bx, hBx, h4, rfl⟩ hlen
    exact wpIn_mono (hbody y pre i Bx _ _ _ _ W rfl hy hr hI hC' hBx h4 hlen) (segPostG_own hI)
  · rintro D xs W hD rfl ⟨hI, hC'⟩ hd
    exact hdone D W hD hI hC' hd
  · rintro D c pre W hD _ h hd
    exact h.elim
end

theorem sep_ne' {g g' n c n' c' : Nat} (h : g ≠ g') : Sep (.slice (some ⟨g, 0, none⟩) n c) (.slice (some ⟨g', 0, none⟩) n' c') := fun k a b => h (by
  simp only [Value.ownBlock, Option.some.injEq] at a b
  omega)
theorem ownsRow_own {A B : World} {row : Option Nat} {base : Nat} {e : TypeId} {size n : Nat} {v : Value} {xs : List Value} (h : A.ownsRow base e size v n xs) (hg : A.grownBy B row) (hr : ∀ r, row = some r → ∃ o : Obj, A.heap[r]? = some o ∧ o.isCells = false) : B.ownsRow base e size v n xs := by
  refine ⟨h.1, h.2.imp id ?_⟩
  rintro ⟨g, cap, cur, h1, h2, h3, h4⟩
  exact ⟨g, cap, cur, h1, h2, (grownBy_keeps_cells hg hr h3 rfl).trans h3, h4⟩

theorem keeps_app {A B : World} {base : Nat} {e : TypeId} {size n : Nat} {v : Value} {xs : List Value} (h : A.ownsRow base e size v n xs) (hg : A.grownBy B v.ownBlock) : KeepsOthers A B :=
  ⟨hg.size, fun k o ho hc => (hg.block k (Array.getElem?_eq_some_iff.1 ho).1 (fun e => by
    rcases h.2 with ⟨rfl, _⟩ | ⟨g, cap, cur, rfl, _, h3, _⟩
    · cases e
    · cases e; rw [h3] at ho; cases ho; cases hc)).trans ho⟩
theorem grown_setCell (A : World) (p : Addr) (u : Value) : A.grownBy (A.setCell p u) (some p.block) :=
  ⟨rfl, rfl, rfl, by show A.heap.size ≤ (A.heap.modify _ _).size; rw [Array.size_modify]; exact Nat.le_refl _, fun j _ h2 => Below.heap_setCell A p u j (fun e => h2 (e ▸ rfl))⟩

/-- A row of segments in a box. -/
def SegRow (n2 base : Nat) (l : List Pt) (pre : List Nat) (W : World) : Prop := ∃ v, W.cell? ⟨n2, 0, none⟩ = some v ∧ W.frozen? ⟨n2, 0, none⟩ = false ∧ W.ownsRow base 112 4 v pre.length (pre.flatMap fun i => scells (sgZ l i))

set_option maxRecDepth 100000 in
set_option maxHeartbeats 4000000 in
theorem appendSeq_any (Bs : Nat) (k : Int) (vp : Value) (l : List Pt) (w : World) (hB : ShBox w Bs k vp l) (hsm : l.length ≤ 1000) :
    Calls Try.prog 119 #[.slice none 0 0, .func (.func 116) #[] #[.pointer (some ⟨Bs, 0, none⟩)]] w fun e w' => ∃ v, e = .returned v ∧ w'.ownsRow w.heap.size 112 4 v (nSeg k l) (segC l (nSeg k l)) ∧ Aft w w' := by
  obtain ⟨W1, eW1, hw1, hlt, hbox⟩ := one_box w #[.slice none 0 0] 109
  have hBs := World.block_lt_of_cell? _ _ hB.kind
  refine calls_of_wp_segs Try.func119 rfl ?_
  simp only [Try.ntmps119, List.size_toArray, List.length_cons, List.length_nil, Nat.reduceAdd, Nat.reduceSub, Array.replicate_succ, Array.replicate_zero, List.push_toArray, List.append_toArray, List.nil_append, List.cons_append]
  have hc0 : W1.cell? ⟨w.heap.size, 0, none⟩ = some (.slice none 0 0) := hbox.out W1 (Aft.refl _) 0 _ rfl
  have hf0 : W1.frozen? ⟨w.heap.size, 0, none⟩ = false := eW1 ▸ frozen_new w _ _ 0
  clear hbox
  have hB1 := hB.aft hw1
  generalize hn2 : w.heap.size = n2 at *
  have hz := hw1.size
  go_wp2
  clear eW1
  refine wp_segsG (w₀ := w) (X := fun j => j = n2) hB.prs (by omega) hsm hB1 (fun j hj => by subst hj; omega) rfl (SegRow n2 W1.heap.size l)
    (fun s A B row h hg hr => by obtain ⟨v, h1, h2, h3⟩ := h; exact ⟨v, cell_kept h1 hg (fun r e => (hr r e).2), (frozen_kept h1 hg (fun r e => (hr r e).2)).trans h2, ownsRow_own h3 hg (fun r e => (hr r e).2)⟩)
    (fun s A B h hw => by obtain ⟨v, h1, h2, h3⟩ := h; exact ⟨v, (hw.cell (World.block_lt_of_cell? _ _ h1)).trans h1, (hw.frozen (World.block_lt_of_cell? _ _ h1)).trans h2, ownsRow_aft h3 hw⟩)
    ⟨_, hc0, hf0, World.ownsRow_nil _ _ _ _⟩ (fun Bx ax ay bx by_ => { tmps := #[.slice none 0 0, .func (.func 116) #[] #[.pointer (some ⟨Bs, 0, none⟩)], .pointer (some ⟨n2, 0, none⟩), undef, .slice none 0 0, .pointer (some ⟨Bx, 0, none⟩), .func (.func 116) #[] #[.pointer (some ⟨Bs, 0, none⟩)], .agg #[.int .i64 ax, .int .i64 ay, .int .i64 bx, .int .i64 by_], undef, undef, undef, undef, undef], defers := [] }) ?assign ?body ?done
  case assign =>
    intro y ax ay bx by_ W K hK
    gi_wp2
    exact hK _ _ ((Aft.refl W).alloc _) (Nat.le_refl _) ⟨⟨cell_new _ _ _ _ _ rfl, cell_new _ _ _ _ _ rfl⟩, cell_new _ _ _ _ _ rfl, cell_new _ _ _ _ _ rfl⟩
  case body =>
    rintro y pre i Bx ax ay bx by_ W hs hy hr hKn ⟨v, hcv, hfv, hrow⟩ hBx ⟨⟨q1, q2⟩, q3, q4⟩ hlen
    have hns := nSeg_le k l
    have hsz := hKn.size
    obtain ⟨i0, hi0, hz0, hz1, hz2⟩ := info_parts Try.info112
    have hflat : (pre ++ [i]).flatMap (fun i => scells (sgZ l i)) = (pre.flatMap fun i => scells (sgZ l i)) ++ scells ((ax, ay), (bx, by_)) := by
      rw [List.flatMap_append]
      simp [hs.out]
    gi_wp2_with (gi_at_builtin; refine wpListIn_append_own_at _ rfl (.tmp 8) (.tmp 10) 109 rfl W1.heap.size 112 i0 (.agg #[.int .i64 0, .int .i64 0, .int .i64 0, .int .i64 0]) 4 32 Try.underlying109 hi0 hz0 hz1 hz2 rfl (by decide) v pre.length _ rfl (hrow.alloc _) ⟨W.heap.size, 0, none⟩ 1 1 (scells ((ax, ay), (bx, by_))) rfl rfl ?_ (scells_one _) (by unfold maxLen; omega) (by omega) (by simp; omega) ?_)
    · intro j u hj
      obtain ⟨ad, e, h⟩ := Rd.new (w := W) (cs := #[.int .i64 ax, .int .i64 ay, .int .i64 bx, .int .i64 by_]) (e := 112) j u hj
      cases e
      exact h
    · intro v' w' hown' hgrow _ _
      have hk1 : KeepsOthers (W.alloc (.cells #[.int .i64 ax, .int .i64 ay, .int .i64 bx, .int .i64 by_] 112)) w' := keeps_app (hrow.alloc _) hgrow
      have hlt2 := fun j e => (hrow.lt j e).1
      have hgs := hgrow.size
      have hrow2 : ∀ j, j < W1.heap.size → w'.heap[j]? = W.heap[j]? := fun j hj =>
        (hgrow.block j (by simp; omega) (fun e => by have := hlt2 j e.symm; omega)).trans (((Aft.refl W).alloc _).block j (by omega))
      obtain ⟨g', cap', rfl⟩ := ownsRow_some' hown' (by omega)
      have hg' := (hown'.lt g' rfl).1
      have hcv' : w'.cell? ⟨n2, 0, none⟩ = some v := (World.cell?_of_block (a := ⟨n2, 0, none⟩) (hrow2 n2 (by omega))).trans hcv
      have hfv' : w'.frozen? ⟨n2, 0, none⟩ = false := (World.frozen?_of_block (a := ⟨n2, 0, none⟩) (hrow2 n2 (by omega))).trans hfv
      simp at hgs
      gi_wp2
      refine ⟨((KeepsOthers.alloc W _).trans (hk1.trans (KeepsOthers.setCell _ _ _))).from _, ⟨hgrow.os, hgrow.tape, hgrow.output, by simp; omega, fun j hj hx => ?_⟩, _, World.cell?_setCell_same' _ _ _ (by rw [hcv']; rfl), by rw [World.frozen?_setCell]; exact hfv', ?_⟩
      · exact (Below.heap_setCell w' ⟨n2, 0, none⟩ _ j hx).trans (hrow2 j hj)
      · rw [hflat, List.length_append]
        exact Sep.kept (v' := .slice (some ⟨n2, 0, none⟩) 0 0) (sep_ne' (by omega)) hown' (grown_setCell w' ⟨n2, 0, none⟩ _)
  case done =>
    rintro D W hD hKn ⟨v, hcv, hfv, hrow⟩ hd
    have hfin := kn_end (o := .deferred none) hw1 (fun j hj => by subst hj; omega) hKn hD
    have HF := hid hfin
    have HR := hid (ownsRow_own (B := W.putObj D (.deferred none)) hrow (grownBy_putObj' _ D _) (fun r e => by cases e; exact ⟨_, hd, rfl⟩))
    clear hrow hfin
    go_wp2
    refine ⟨by simp, .inl ⟨_, _, rfl, run_takeDeferred hd, ?_⟩⟩
    refine ⟨_, results_tmp rfl _ _ _, _, rfl, ?_, HF.out⟩
    have := HR.out
    rw [List.length_range] at this
    exact ownsRow_mono this (by omega)

set_option maxHeartbeats 400000 in
theorem collect_any (Bs : Nat) (k : Int) (vp : Value) (l : List Pt) (w : World) (hB : ShBox w Bs k vp l) (hsm : l.length ≤ 1000) :
    Calls Try.prog 100 #[.func (.func 116) #[] #[.pointer (some ⟨Bs, 0, none⟩)]] w fun e w' => ∃ v, e = .returned v ∧ w'.ownsRow w.heap.size 112 4 v (nSeg k l) (segC l (nSeg k l)) ∧ Aft w w' := by
  go_enter Try.func100, Try.ntmps100
  go_wp2_with fail
  refine (appendSeq_any Bs k vp l w hB hsm).mono ?_
  rintro e w1 ⟨v, rfl, hown, hw⟩
  have HO := hid hown
  clear hown
  go_wp2
  go_ret
  exact ⟨_, rfl, HO.out, hw⟩

set_option maxRecDepth 100000 in
set_option maxHeartbeats 2000000 in
theorem elements_any (k : Int) (vp : Value) (l : List Pt) (w : World) (hl : Prs w vp l) (hsm : l.length ≤ 1000) (hdot : k = 0 → l.length = 1) :
    Calls Try.prog 74 #[.agg #[.int .i64 k, vp]] w fun e w' => ∃ v, e = .returned v ∧ w'.ownsRow w.heap.size 112 4 v (nPart k l) (segC l (nPart k l)) ∧ Aft w w' := by
  have hP := hl
  obtain ⟨a, c, rfl, hl⟩ := hl
  have hn := hl.le
  obtain ⟨W0, eW0, hw0, hlt, hbox⟩ := one_box w #[.int .i64 k, .slice a l.length c] 51
  go_enter Try.func74, Try.ntmps74
  go_upto_region 1 with fail
  clear eW0
  have hF : Hid (∀ W, Aft W0 W → W.cell? ⟨w.heap.size, 0, none⟩ = some (.int .i64 k) ∧ W.cell? ⟨w.heap.size, 1, none⟩ = some (.slice a l.length c)) := hid fun W hW => ⟨hbox.out W hW 0 _ rfl, hbox.out W hW 1 _ rfl⟩
  clear hbox
  obtain ⟨p1, p2⟩ := hF.out W0 (Aft.refl _)
  generalize hn0 : w.heap.size = n0 at *
  by_cases hk : k = 0
  · have h1 := hdot hk
    subst hk
    have h1i : (0 : Int) < l.length := by omega
    have hlr := hl.aft hw0
    obtain ⟨b, off, x, y, rfl, c1, c2, hb, hx, _⟩ := hlr.rd.pair hlr.ok (show 0 < l.length by omega)
    rw [Nat.zero_mul, Nat.add_zero] at c1 c2
    have hsg : segC l 1 = scells ((x, y), (x, y)) := by
      have e0 : ptZ l 0 = (x, y) := ptZ_get hx.out
      have e1 : ptZ l 1 = (x, y) := by rw [← h1]; exact ptZ_round hx.out
      rw [segC_succ]
      simp only [sgZ, e0, e1]
      rfl
    have SG := hid hsg; clear hsg h1 hdot
    go_upto_region 2 with fail
    refine wp_region_flow _ (Aft.refl _) [FV.is (.pointer (some ⟨n0, 1, none⟩)), FV.is (.slice (some ⟨b, off, none⟩) l.length c), FV.is (.pointer (some ⟨b, off, none⟩)), FV.is (.agg #[.int .i64 x, .int .i64 y]), FV.is (.pointer (some ⟨n0, 1, none⟩)), FV.is (.slice (some ⟨b, off, none⟩) l.length c), FV.is (.pointer (some ⟨b, off, none⟩)), FV.is (.agg #[.int .i64 x, .int .i64 y]), FV.is (.agg #[.int .i64 x, .int .i64 y, .int .i64 x, .int .i64 y])]
      [(0, 12), (1, 13), (2, 14), (3, 15), (4, 16), (5, 17), (6, 18), (7, 19), (8, 20)]
      [[], [(0, 12)], [(1, 13)], [(2, 14)], [], [(4, 16)], [(5, 17)], [(6, 18)], [(3, 15), (7, 19)]] (by kernel_rfl) (by kernel_rfl) ?_ ?_
    · refine flowObs_cons (fun W hW => flowOb_nil ?_) ?_
      · go_wp2
        exact ⟨rfl, Aft.refl W⟩
      refine flowObs_cons (fun W hW => flowOb_cons fun v0 h0 => flowOb_nil ?_) ?_
      · obtain rfl := h0
        have p2W := (hW.cell (World.block_lt_of_cell? _ _ p2)).trans p2
        have c1W := (hW.cell (World.block_lt_of_cell? _ _ c1)).trans c1
        have c2W := (hW.cell (World.block_lt_of_cell? _ _ c2)).trans c2
        go_wp2
        exact ⟨rfl, Aft.refl W⟩
      refine flowObs_cons (fun W hW => flowOb_cons fun v0 h0 => flowOb_nil ?_) ?_
      · obtain rfl := h0
        go_wp2
        exact ⟨rfl, Aft.refl W⟩
      refine flowObs_cons (fun W hW => flowOb_cons fun v0 h0 => flowOb_nil ?_) ?_
      · obtain rfl := h0
        have p2W := (hW.cell (World.block_lt_of_cell? _ _ p2)).trans p2
        have c1W := (hW.cell (World.block_lt_of_cell? _ _ c1)).trans c1
        have c2W := (hW.cell (World.block_lt_of_cell? _ _ c2)).trans c2
        go_wp2
        exact ⟨rfl, Aft.refl W⟩
      refine flowObs_cons (fun W hW => flowOb_nil ?_) ?_
      · go_wp2
        exact ⟨rfl, Aft.refl W⟩
      refine flowObs_cons (fun W hW => flowOb_cons fun v0 h0 => flowOb_nil ?_) ?_
      · obtain rfl := h0
        have p2W := (hW.cell (World.block_lt_of_cell? _ _ p2)).trans p2
        have c1W := (hW.cell (World.block_lt_of_cell? _ _ c1)).trans c1
        have c2W := (hW.cell (World.block_lt_of_cell? _ _ c2)).trans c2
        go_wp2
        exact ⟨rfl, Aft.refl W⟩
      refine flowObs_cons (fun W hW => flowOb_cons fun v0 h0 => flowOb_nil ?_) ?_
      · obtain rfl := h0
        go_wp2
        exact ⟨rfl, Aft.refl W⟩
      refine flowObs_cons (fun W hW => flowOb_cons fun v0 h0 => flowOb_nil ?_) ?_
      · obtain rfl := h0
        have p2W := (hW.cell (World.block_lt_of_cell? _ _ p2)).trans p2
        have c1W := (hW.cell (World.block_lt_of_cell? _ _ c1)).trans c1
        have c2W := (hW.cell (World.block_lt_of_cell? _ _ c2)).trans c2
        go_wp2
        exact ⟨rfl, Aft.refl W⟩
      refine flowObs_cons (fun W hW => flowOb_cons fun v0 h0 => flowOb_cons fun v1 h1 => flowOb_nil ?_) flowObs_nil
      · obtain rfl := h0
        obtain rfl := h1
        go_wp2
        exact ⟨rfl, Aft.refl W⟩
    · intro W hW
      iterate 8 refine flowEnd_cons fun _ _ => ?_
      refine flowEnd_cons fun v h => flowEnd_nil ?_
      obtain rfl := h
      have hown : (W.alloc (.cells #[.int .i64 x, .int .i64 y, .int .i64 x, .int .i64 y] 112)).ownsRow W.heap.size 112 4 (.slice (some ⟨W.heap.size, 0, none⟩) 1 1) 1 [.int .i64 x, .int .i64 y, .int .i64 x, .int .i64 y] := ownsRow_lit W #[_, _, _, _] 1 112 4 rfl (by unfold maxLen; omega)
      have hz := hW.size
      have hz' := hw0.size
      have hw := (hw0.trans hW).alloc (.cells #[.int .i64 x, .int .i64 y, .int .i64 x, .int .i64 y] 112)
      have HO := hid hown
      clear hown
      go_wp2
      go_ret
      refine ⟨_, rfl, ?_, hw⟩
      rw [show nPart 0 l = 1 from rfl, SG.out]
      exact ownsRow_mono HO.out (by omega)
  · have ek : (k == 0) = false := by simpa using hk
    have ep : nPart k l = nSeg k l := by unfold nPart; rw [if_neg hk]
    have EP := hid ep; clear ep
    go_wp2_with fail
    refine (segments_fn k _ W0).mono ?_
    rintro e W1 ⟨rfl, hW1⟩
    have hB : ShBox W1 W0.heap.size k (.slice a l.length c) l := by
      rw [← hW1]
      exact ⟨cell_new _ _ _ _ _ rfl, cell_new _ _ _ _ _ rfl, (hP.aft hw0).aft ((Aft.refl _).alloc _)⟩
    have hw01 : Aft W0 W1 := hW1 ▸ (Aft.refl W0).alloc _
    clear hW1
    go_wp2_with fail
    refine (collect_any _ k _ l _ hB hsm).mono ?_
    rintro e W2 ⟨v, rfl, hown, hw2⟩
    have hz' := hw0.size
    have hz2 := hw01.size
    have HO := hid hown
    clear hown
    have hw := (hw0.trans hw01).trans hw2
    go_wp2
    go_ret
    exact ⟨_, rfl, by rw [EP.out]; exact ownsRow_mono HO.out (by omega), hw⟩
end Go.Proofs.Ytokdclbfjlnnjaa
