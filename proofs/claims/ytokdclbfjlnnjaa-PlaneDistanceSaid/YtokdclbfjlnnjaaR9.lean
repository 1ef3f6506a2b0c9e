/- The shapes of two figures in one row; bounds of distances. -/
import Derived.Test.YtokdclbfjlnnjaaR8
import Derived.Test.YtokdclbfjlnnjaaQ7
namespace Go.Proofs.Ytokdclbfjlnnjaa
open Go.RowKit Go.BigFrame

theorem prs_off {b1 : Nat} {W1 A B : World} {g o n c : Nat} {l : List Pt} (h : Prs W1 (.slice (some ⟨g, o, none⟩) n c) l) (hA : Aft W1 A) (hs : ∀ j, b1 ≤ j → j < W1.heap.size → B.heap[j]? = A.heap[j]?) (hg : b1 ≤ g) : Prs B (.slice (some ⟨g, o, none⟩) n c) l := by
  obtain ⟨a', c', e', hp⟩ := h
  simp only [Value.slice.injEq] at e'
  obtain ⟨rfl, e2, rfl⟩ := e'
  refine ⟨_, _, by rw [← e2], { hp with rd := fun j v hj => ?_ }⟩
  have hc := Rd.at0 hp.rd hj
  have hlt := World.block_lt_of_cell? _ _ hc
  have hc' : B.cell? ⟨g, o + j, none⟩ = some v := (World.cell?_of_block (a := ⟨g, o + j, none⟩) ((hs g hg hlt).trans (hA.block g hlt))).trans hc
  refine ⟨_, rfl, ?_⟩
  by_cases h0 : j = 0
  · subst h0; simpa [Addr.add] using hc'
  · simpa [Addr.add, h0] using hc'
/-- Two rows of shapes, the second appended to a copy of the first. -/
theorem rows_join {b1 base : Nat} {W1 W2 W3 W4 : World} {a1 a2 a : Option Addr} {n1 n2 c1 c2 n c : Nat} {R1 R2 : List (Int × Value)} {L1 L2 : List Sh} {v1 : Value}
    (h1 : ShsB b1 W1 a1 n1 c1 R1 L1) (h2 : ShsB W2.heap.size W3 a2 n2 c2 R2 L2) (hw12 : Aft W1 W2) (hw23 : Aft W2 W3) (hg : W3.grownBy W4 v1.ownBlock)
    (hb : ∀ b, v1.ownBlock = some b → b < b1 ∨ W1.heap.size ≤ b) (hb2 : ∀ b, v1.ownBlock = some b → b < W2.heap.size)
    (ho : W4.ownsRow base 51 2 (.slice a n c) n (shCells R1 ++ shCells R2)) (hn : n = n1 + n2) (hsz : n * 32 ≤ 140737488351232) : ShsAt W4 a n c (R1 ++ R2) (L1 ++ L2) := by
  obtain ⟨a', c', e, hrd, hc1, hc2⟩ := ownsRow_at ho
  simp only [Value.slice.injEq] at e
  obtain ⟨rfl, _, rfl⟩ := e
  have hl1 := h1.sh.len
  have hl2 := h2.sh.len
  have hR1 := h1.sh.lenR
  have hR2 := h2.sh.lenR
  refine ⟨by simp; omega, by simp; omega, by rw [shCells_append]; exact hrd, fun i r s hr hs => ?_, hc1, hc2, hsz⟩
  rcases Nat.lt_or_ge i L1.length with hi | hi
  · rw [List.getElem?_append_left (by omega)] at hr
    rw [List.getElem?_append_left hi] at hs
    obtain ⟨q1, q2⟩ := h1.sh.el i r s hr hs
    obtain ⟨g, m, c, e, hgb⟩ := h1.from_ r (List.mem_of_getElem? hr)
    rw [e] at q2 ⊢
    exact ⟨q1, prs_off q2 (hw12.trans hw23) (fun j hj hj' => hg.block j (by have := hw12.size; have := hw23.size; omega) (fun e => by have := hb j e.symm; omega)) hgb⟩
  · rw [List.getElem?_append_right (by omega)] at hr
    rw [List.getElem?_append_right hi] at hs
    rw [show i - R1.length = i - L1.length by omega] at hr
    obtain ⟨q1, q2⟩ := h2.sh.el _ r s hr hs
    obtain ⟨g, m, c, e, hgb⟩ := h2.from_ r (List.mem_of_getElem? hr)
    rw [e] at q2 ⊢
    exact ⟨q1, prs_off q2 (Aft.refl W3) (fun j hj hj' => hg.block j hj' (fun e => by have := hb2 j e.symm; omega)) hgb⟩
theorem shs_one {w : World} {a : Option Addr} {n c : Nat} {R : List (Int × Value)} {L : List Sh} (h : ShsAt w a n c R L) : ∀ u ∈ shCells R, u.oneCell' = true := by
  intro u hu
  simp only [shCells, List.mem_flatMap] at hu
  obtain ⟨r, hr, hu⟩ := hu
  obtain ⟨i, hi, rfl⟩ := List.mem_iff_getElem.1 hr
  have hs : L[i]? = some (L[i]'(by rw [← h.lenR]; exact hi)) := List.getElem?_eq_getElem _
  obtain ⟨_, a', c', e, _⟩ := h.el i _ _ (List.getElem?_eq_getElem hi) hs
  simp at hu
  rcases hu with rfl | rfl
  · rfl
  · rw [e]; rfl
theorem gen_part {k : Int} {l : List Pt} (h : Gen k l) : 0 < nPart k l := by
  rcases h with ⟨rfl, x, y, rfl, _⟩ | ⟨rfl, h1, _⟩ | ⟨rfl, x, y, wd, h, rfl, _⟩ | ⟨rfl, x, y, wd, t1, t2, h, rfl, _⟩ | ⟨rfl, x, y, wd, h, rfl, _⟩
  · simp [nPart]
  · unfold nPart nSeg
    rw [if_neg (by decide), if_neg (by omega), if_neg (by decide)]
    omega
  all_goals simp [nPart, nSeg, rectL, triL, braL]
theorem near_bd {ox oy ka kb : Int} {la lb : List Pt} (ha : Sm ox oy ka la) (hb : Sm ox oy kb lb) : (nearZ ka la kb lb).1 ≤ 400000000 ∧ (nearZ ka la kb lb).2 ≤ 20000 := by
  have hf := allFar_frac ha.near hb.near (nPart kb lb) (nPart ka la)
  unfold nearZ
  split
  · simp
  · cases hst : allFar la lb (nPart kb lb) (nPart ka la) with
    | none => simp [fracZ]
    | some f =>
      obtain ⟨n, d⟩ := f
      obtain ⟨b1, b2, b3, b4⟩ := hf _ hst
      simp only at b1 b2 b3 b4
      unfold fracZ
      simp only
      split
      · simp
      · have h1 := Int.ediv_le_self (((Nat.gcd d.toNat n.toNat : Nat)) : Int) (show (0 : Int) ≤ n by omega)
        have h2 := Int.ediv_le_self (((Nat.gcd d.toNat n.toNat : Nat)) : Int) (show (0 : Int) ≤ d by omega)
        simp only
        omega
/-- What the statement on distances asks of two shapes. -/
theorem pair_facts {ka kb : Int} {la lb : List Pt} (ga : Gen ka la) (gb : Gen kb lb) {n d : Int} (h : nearZ ka la kb lb = (n, d)) :
    nearZ kb lb ka la = (n, d) ∧ 1 ≤ d ∧ 0 ≤ n ∧ n ≤ 400000000 ∧ d ≤ 20000 ∧ (n = 0 ↔ meets la lb (nPart ka la) (nPart kb lb) = true) ∧
    (∀ i, i < nPart ka la → ∀ j, j < nPart kb lb → n ≤ sqZ (sgZ la i).1 (sgZ lb j).1 * d) ∧
    ((boxZ la).2.1 < (boxZ lb).1.1 → ((boxZ lb).1.1 - (boxZ la).2.1) * ((boxZ lb).1.1 - (boxZ la).2.1) * d ≤ n) := by
  have sa := gen_sm ga
  have sb := gen_sm gb
  obtain ⟨h1, h2, h3, h4, h5⟩ := near_facts (ka := ka) (kb := kb) (gen_part ga) (gen_part gb)
  obtain ⟨b1, b2⟩ := near_bd sa sb
  rw [h] at h1 h2 h3 h4 h5 b1 b2
  refine ⟨by rw [near_swap, h], h1, h2, b1, b2, h3, h4, fun hlt => h5 _ _ hlt (fun i => ?_) (fun j => ?_)⟩
  · exact ((box_spec sa.ne).1 _ (ptZ_mem sa.ne i)).2.2.1
  · exact ((box_spec sb.ne).1 _ (ptZ_mem sb.ne j)).1
theorem box_bd {ox oy k : Int} {l : List Pt} (h : Sm ox oy k l) : (ox ≤ (boxZ l).1.1 ∧ (boxZ l).1.1 ≤ ox + 60) ∧ (oy ≤ (boxZ l).1.2 ∧ (boxZ l).1.2 ≤ oy + 60) ∧ (ox ≤ (boxZ l).2.1 ∧ (boxZ l).2.1 ≤ ox + 60) ∧ (oy ≤ (boxZ l).2.2 ∧ (boxZ l).2.2 ≤ oy + 60) := by
  obtain ⟨_, ⟨p, hp, e1⟩, ⟨q, hq, e2⟩, ⟨r, hr, e3⟩, ⟨s, hs, e4⟩⟩ := box_spec h.ne
  have := h.box p hp
  have := h.box q hq
  have := h.box r hr
  have := h.box s hs
  omega
theorem field_fig (x y : Int) (a : Option Addr) (n c : Nat) (W : World) : (Instr.field 45 (.agg #[.int .i64 x, .int .i64 y, .slice a n c]) 2).run Try.prog W = .ok (.slice a n c) W := by
  unfold Instr.field
  simp [go_sem, run_underlying Try.underlying45, part, asAgg]
theorem genL_append {L M : List Sh} (h : GenL L) (h' : GenL M) : GenL (L ++ M) := fun s hs => by
  rcases List.mem_append.1 hs with x | x
  · exact h s x
  · exact h' s x
end Go.Proofs.Ytokdclbfjlnnjaa
