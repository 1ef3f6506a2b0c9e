/- A figure that came in, as whatever it may be: shapes, and points of each, one by one. -/
import Derived.Test.YtokdclbfjlnnjaaR16
import Derived.Deep.SlicePairs
namespace Go.Proofs.Ytokdclbfjlnnjaa
open Go.RowKit Go.BigFrame

def PtsRaw (w : World) (v : Value) (m : Nat) : Prop := ∃ ap c, v = .slice ap m c ∧ m ≤ maxLen ∧ ∀ j, j < m → ∃ b off x y, ap = some ⟨b, off, none⟩ ∧ w.cell? ⟨b, off + j * 2, none⟩ = some (.int .i64 x) ∧ w.cell? ⟨b, off + j * 2 + 1, none⟩ = some (.int .i64 y) ∧ b < w.heap.size ∧ kOk x ∧ kOk y
def ShsRaw (w : World) (v : Value) (n : Nat) : Prop := ∃ a c, v = .slice a n c ∧ n ≤ maxLen ∧ ∀ i, i < n → ∃ b off k u m, a = some ⟨b, off, none⟩ ∧ w.cell? ⟨b, off + i * 2, none⟩ = some (.int .i64 k) ∧ w.cell? ⟨b, off + i * 2 + 1, none⟩ = some u ∧ b < w.heap.size ∧ kOk k ∧ PtsRaw w u m
theorem PtsRaw.aft {w w' : World} {v : Value} {m : Nat} (h : PtsRaw w v m) (hw : Aft w w') : PtsRaw w' v m := by
  obtain ⟨ap, c, e, hm, h⟩ := h
  refine ⟨ap, c, e, hm, fun j hj => ?_⟩
  obtain ⟨b, off, x, y, e, h1, h2, hb, hx, hy⟩ := h j hj
  exact ⟨b, off, x, y, e, (hw.cell hb).trans h1, (hw.cell hb).trans h2, Nat.lt_of_lt_of_le hb hw.size, hx, hy⟩
theorem ShsRaw.aft {w w' : World} {v : Value} {m : Nat} (h : ShsRaw w v m) (hw : Aft w w') : ShsRaw w' v m := by
  obtain ⟨ap, c, e, hm, h⟩ := h
  refine ⟨ap, c, e, hm, fun j hj => ?_⟩
  obtain ⟨b, off, x, y, n, e, h1, h2, hb, hx, hy⟩ := h j hj
  exact ⟨b, off, x, y, n, e, (hw.cell hb).trans h1, (hw.cell hb).trans h2, Nat.lt_of_lt_of_le hb hw.size, hx, hy.aft hw⟩
theorem PtsRaw.nil (w : World) : PtsRaw w (.slice none 0 0) 0 := ⟨none, 0, rfl, Nat.zero_le _, fun j hj => by omega⟩
theorem ShsRaw.nil (w : World) : ShsRaw w (.slice none 0 0) 0 := ⟨none, 0, rfl, Nat.zero_le _, fun j hj => by omega⟩

theorem addr_plain {w : World} {x : Addr} {v : Value} (h : w.cell? (x.add (0 * 2)) = some v) : ∃ b off, x = ⟨b, off, none⟩ ∧ b < w.heap.size := by
  obtain ⟨b, off, spot⟩ := x
  cases spot with
  | some s => exact (cell_spot (by simpa [Addr.add] using h)).elim
  | none => exact ⟨b, off, rfl, World.block_lt_of_cell? w ⟨b, off, none⟩ (by simpa [Addr.add] using h)⟩
theorem add_off {w : World} {b off j : Nat} {v : Value} (h : w.cell? ((⟨b, off, none⟩ : Addr).add j) = some v) : w.cell? ⟨b, off + j, none⟩ = some v := by
  unfold Addr.add at h
  by_cases h0 : j = 0
  · simpa [h0] using h
  · simpa [h0] using h
theorem wf_ok {n : Int} (h : (Lit.int .i64 n).wf = true) : kOk n := i64_bd h

section
variable {H : Type} {enc : TypeId × Value → H} {P : Program} {w : World} {base : Nat} {spare : Nat → Bool} {held : Bool}
theorem ptsRaw_of_open {t e : TypeId} {f0 f1 : Field} {fuel : Nat} {cs : List Value} {x : DataW H × List MemPlace} (ht : P.underlying t = some (.slice e)) (he : P.underlying e = some (.struct #[f0, f1]))
    (ce : P.cellsOf e = 2) (o0 : f0.offset = 0) (o1 : f1.offset = 1) (c0 : P.cellsOf f0.type = 1) (c1 : P.cellsOf f1.type = 1) (i0 : P.underlying f0.type = some (.int .i64)) (i1 : P.underlying f1.type = some (.int .i64))
    (h : DataW.trod enc P w base spare held fuel t cs = some x) : ∃ v m, cs = [v] ∧ PtsRaw w v m := by
  rcases Go.Deep.open_slice_pairs ht he ce o0 o1 c0 c1 h with ⟨rfl, _⟩ | ⟨a, len, cap, m, n, V0, V1, D0, D1, P0, P1, rfl, _, hlc, hcm, hm, _, hx⟩
  · exact ⟨_, 0, rfl, PtsRaw.nil w⟩
  · have hlm : len ≤ m := by rw [hm]; split <;> omega
    refine ⟨_, len, rfl, some a, cap, rfl, by omega, fun j hj => ?_⟩
    obtain ⟨q0, _, _, _⟩ := hx 0 (by omega)
    obtain ⟨b, off, rfl, hb⟩ := addr_plain q0
    obtain ⟨q1, q2, q3, q4⟩ := hx j (by omega)
    obtain ⟨x, e1, _, hx1⟩ := DataW.trod_int i0 q3
    obtain ⟨y, e2, _, hy1⟩ := DataW.trod_int i1 q4
    simp only [List.cons.injEq, and_true] at e1 e2
    rw [e1] at q1
    rw [e2] at q2
    exact ⟨b, off, x, y, rfl, add_off q1, by rw [Nat.add_assoc]; exact add_off q2, hb, wf_ok hx1, wf_ok hy1⟩
theorem shsRaw_of_open {t e : TypeId} {f0 f1 : Field} {tp ep : TypeId} {g0 g1 : Field} {fuel : Nat} {cs : List Value} {x : DataW H × List MemPlace} (ht : P.underlying t = some (.slice e)) (he : P.underlying e = some (.struct #[f0, f1]))
    (ce : P.cellsOf e = 2) (o0 : f0.offset = 0) (o1 : f1.offset = 1) (c0 : P.cellsOf f0.type = 1) (c1 : P.cellsOf f1.type = 1) (i0 : P.underlying f0.type = some (.int .i64)) (i1 : P.underlying f1.type = some (.slice ep))
    (he' : P.underlying ep = some (.struct #[g0, g1])) (ce' : P.cellsOf ep = 2) (o0' : g0.offset = 0) (o1' : g1.offset = 1) (c0' : P.cellsOf g0.type = 1) (c1' : P.cellsOf g1.type = 1) (i0' : P.underlying g0.type = some (.int .i64)) (i1' : P.underlying g1.type = some (.int .i64))
    (_ : f1.type = tp)
    (h : DataW.trod enc P w base spare held fuel t cs = some x) : ∃ v m, cs = [v] ∧ ShsRaw w v m := by
  rcases Go.Deep.open_slice_pairs ht he ce o0 o1 c0 c1 h with ⟨rfl, _⟩ | ⟨a, len, cap, m, n, V0, V1, D0, D1, P0, P1, rfl, _, hlc, hcm, hm, _, hx⟩
  · exact ⟨_, 0, rfl, ShsRaw.nil w⟩
  · have hlm : len ≤ m := by rw [hm]; split <;> omega
    refine ⟨_, len, rfl, some a, cap, rfl, by omega, fun j hj => ?_⟩
    obtain ⟨q0, _, _, _⟩ := hx 0 (by omega)
    obtain ⟨b, off, rfl, hb⟩ := addr_plain q0
    obtain ⟨q1, q2, q3, q4⟩ := hx j (by omega)
    obtain ⟨x, e1, _, hx1⟩ := DataW.trod_int i0 q3
    obtain ⟨v, m', e2, hp⟩ := ptsRaw_of_open i1 he' ce' o0' o1' c0' c1' i0' i1' q4
    simp only [List.cons.injEq, and_true] at e1 e2
    rw [e1] at q1
    rw [e2] at q2
    exact ⟨b, off, x, v, m', rfl, add_off q1, by rw [Nat.add_assoc]; exact add_off q2, hb, wf_ok hx1, hp⟩
end
end Go.Proofs.Ytokdclbfjlnnjaa
