/- What the walk of Bent needs: an append that leaves what was there, and the end of the walk. -/
import Derived.Test.YtokdclbfjlnnjaaR16
import Derived.Test.YtokdclbfjlnnjaaFlowR
namespace Go.Proofs.Ytokdclbfjlnnjaa
open Go.RowKit Go.BigFrame

theorem put12 {W : World} {b : Nat} {x y : Int} {v0 : Value} (h : B3 W b x y v0) (v : Value) : B3 (W.setCell ⟨b, 2, none⟩ v) b x y v ∧ Kx (fun j => j = b) W (W.setCell ⟨b, 2, none⟩ v) :=
  ⟨⟨(World.cell?_setCell_other _ _ _ _ (by simp)).trans h.1, (World.cell?_setCell_other _ _ _ _ (by simp)).trans h.2.1, World.cell?_setCell_same' _ _ _ (by rw [h.2.2]; rfl)⟩, Kx.setCell (p := ⟨b, 2, none⟩) _ rfl⟩
theorem grown_kx {A B : World} {row : Option Nat} (hg : A.grownBy B row) (n : Nat) (hr : ∀ k, row = some k → n < k) : Kx (fun j => n < j) A B :=
  ⟨hg.os, hg.tape, hg.output, hg.size, fun j hj hx => hg.block j hj (fun e => hx (hr j e.symm))⟩
/-- The box of a figure, and that of the result. -/
structure Boxes (V : World) (n4 n8 : Nat) (W H : Int) (v : Value) : Prop where
  lt : n4 < n8
  b4 : B3 V n4 W H v
  f4 : F3 V n4
  b8 : B3 V n8 0 0 (.slice none 0 0)
  f8 : F3 V n8
theorem Boxes.hi {V : World} {n4 n8 : Nat} {W H : Int} {v : Value} (h : Boxes V n4 n8 W H v) : n8 < V.heap.size := World.block_lt_of_cell? _ _ h.b8.1
theorem Boxes.kx {X : Nat → Prop} {A B : World} {n4 n8 : Nat} {W H : Int} {v : Value} (h : Boxes A n4 n8 W H v) (hk : Kx X A B) (hX : ∀ j, X j → n8 < j) : Boxes B n4 n8 W H v := by
  have := h.hi
  have := h.lt
  have x4 : ¬ X n4 := fun h => by have := hX _ h; omega
  have x8 : ¬ X n8 := fun h => by have := hX _ h; omega
  exact ⟨h.lt, h.b4.kx hk x4, h.f4.kx hk (by omega) x4, h.b8.kx hk x8, h.f8.kx hk (by omega) x8⟩
theorem Boxes.aft {A B : World} {n4 n8 : Nat} {W H : Int} {v : Value} (h : Boxes A n4 n8 W H v) (hw : Aft A B) : Boxes B n4 n8 W H v := h.kx (X := fun _ => False) (aft_kx hw) (fun _ h => h.elim)
theorem F3.set {V : World} {b : Nat} {u : Value} {c : Addr} (h : F3 V b) : F3 (V.setCell c u) b := by
  obtain ⟨h1, h2, h3⟩ := h
  exact ⟨by rw [World.frozen?_setCell]; exact h1, by rw [World.frozen?_setCell]; exact h2, by rw [World.frozen?_setCell]; exact h3⟩
theorem Boxes.put2 {V : World} {n4 n8 : Nat} {W H : Int} {v : Value} (h : Boxes V n4 n8 W H v) (u : Value) : Boxes (V.setCell ⟨n4, 2, none⟩ u) n4 n8 W H u ∧ Kx (fun j => j = n4) V (V.setCell ⟨n4, 2, none⟩ u) := by
  have p := put12 h.b4 u
  have := h.lt
  exact ⟨⟨h.lt, p.1, F3.set h.f4, h.b8.kx p.2 (by omega), F3.set h.f8⟩, p.2⟩
theorem PRow.at_ {b B m c g : Nat} {w : World} (h : PRow b B w (.slice (some ⟨g, 0, none⟩) m c)) {i : Nat} (hi : i < m) :
    ∃ x y, w.cell? ⟨g, i * 2, none⟩ = some (.int .i64 x) ∧ w.cell? ⟨g, i * 2 + 1, none⟩ = some (.int .i64 y) ∧ Sc x ∧ Sc y := by
  obtain ⟨l, h1, _, h3⟩ := h
  have hm : m = l.length := by
    rcases h1.2 with ⟨e, _⟩ | ⟨g', cap', cur, e, _⟩
    · cases e
    · cases e; rfl
  have hl : l[i]? = some l[i] := List.getElem?_eq_getElem (by omega)
  obtain ⟨q1, q2⟩ := prs_get hl
  have A : ∀ j u, (Go.prs l)[j]? = some u → w.cell? ⟨g, j, none⟩ = some u := fun j u hj => Rd.at0 (off := 0) (fun i v hi => ⟨_, rfl, h1.cells rfl i v hi⟩) hj |> fun e => by simpa using e
  obtain ⟨s1, s2⟩ := h3 _ (List.mem_of_getElem? hl)
  exact ⟨_, _, A _ _ q1, A _ _ q2, s1, s2⟩
theorem PRow.free {b B m c g : Nat} {w : World} (h : PRow b B w (.slice (some ⟨g, 0, none⟩) m c)) (j : Nat) : w.frozen? ⟨g, j, none⟩ = false := by
  obtain ⟨l, h1, _⟩ := h
  have hm : m = l.length := by
    rcases h1.2 with ⟨e, _⟩ | ⟨g', cap', cur, e, _⟩
    · cases e
    · cases e; rfl
  rw [← hm] at h1
  exact h1.frozenAt j
theorem GS.at_ {b B : Nat} {w : World} {g n c : Nat} {R : List (Int × Value)} (h : GS b B w (some ⟨g, 0, none⟩) n c R) {k : Nat} {x : Int} {u : Value} (hR : R[k]? = some (x, u)) :
    w.cell? ⟨g, k * 2, none⟩ = some (.int .i64 x) ∧ w.cell? ⟨g, k * 2 + 1, none⟩ = some u ∧ (∀ j, w.frozen? ⟨g, j, none⟩ = false) ∧ PRow b B w u := by
  have hk : k < n := by have := (List.getElem?_eq_some_iff.1 hR).1; have := h.len; omega
  obtain ⟨g', x', u', e, hR', _, _, c0, c1, hf, _, hp⟩ := h.row_at hk
  rw [hR] at hR'
  cases hR'
  cases e
  exact ⟨c0, c1, hf, hp⟩
/-- All stays but the block of a row, and the row stays, as it is and with what is appended. -/
def rowRel (hp base e size m cu : Nat) (xs news : List Value) : Rel where
  r A B := Kx (fun j => j = hp) A B ∧ (A.ownsRow base e size (.slice (some ⟨hp, 0, none⟩) m cu) m xs → B.ownsRow base e size (.slice (some ⟨hp, 0, none⟩) m cu) m xs) ∧
    (A.ownsRow base e size (.slice (some ⟨hp, 0, none⟩) (m + 1) cu) (m + 1) (xs ++ news) → B.ownsRow base e size (.slice (some ⟨hp, 0, none⟩) (m + 1) cu) (m + 1) (xs ++ news))
  refl _ := ⟨Kx.refl _ _, id, id⟩
  trans h k := ⟨Kx.trans h.1 k.1, fun x => k.2.1 (h.2.1 x), fun x => k.2.2 (h.2.2 x)⟩
  drew h := ⟨⟨h.1.os, h.1.tape, h.1.output, h.1.size, h.1.block⟩, h.2.1, h.2.2⟩
section
variable {hp base e size m cu : Nat} {xs news : List Value} {A B : World}
def AppV (N hp base e size m cu : Nat) (xs news : List Value) (v : Value) (W : World) : Prop :=
  ∃ gv cw, v = .slice (some ⟨gv, 0, none⟩) (m + 1) cw ∧ W.ownsRow base e size (.slice (some ⟨gv, 0, none⟩) (m + 1) cw) (m + 1) (xs ++ news) ∧ (gv = hp ∧ cw = cu ∨ ¬ gv = hp ∧ N ≤ gv)
theorem AppV.rel {N : Nat} {v : Value} (h : AppV N hp base e size m cu xs news v A) (hr : (rowRel hp base e size m cu xs news).r A B) : AppV N hp base e size m cu xs news v B := by
  obtain ⟨gv, cw, rfl, ho, h⟩ := h
  refine ⟨gv, cw, rfl, ?_, h⟩
  rcases h with ⟨rfl, rfl⟩ | h
  · exact hr.2.2 ho
  · exact ownsRow_kx3 ho hr.1 (fun g hg e => h.1 (by cases hg; exact e))
end
def frApp (N hp base e size m cu : Nat) (xs news : List Value) : ByRel.FR (rowRel hp base e size m cu xs news) := ⟨AppV N hp base e size m cu xs news, fun _ _ _ h hr => h.rel hr⟩
/-- One new row that is appended. -/
def frNew (hp base e size m cu : Nat) (xs news : List Value) : ByRel.FR (rowRel hp base e size m cu xs news) := ⟨fun v W => ∃ g, v = .slice (some ⟨g, 0, none⟩) 1 1 ∧ g < W.heap.size ∧ ¬ g = hp ∧ Rd W (some ⟨g, 0, none⟩) news,
  fun _ _ _ ⟨g, h1, h2, h3, h4⟩ hr => ⟨g, h1, Nat.lt_of_lt_of_le h2 hr.1.size, h3, fun j u hj => by
    obtain ⟨ad, e, hc⟩ := h4 j u hj
    cases e
    have hb : ((⟨g, 0, none⟩ : Addr).add j).block = g := by unfold Addr.add; split <;> rfl
    exact ⟨_, rfl, (World.cell?_of_block (by rw [hb]; exact hr.1.block g h2 h3)).trans hc⟩⟩⟩
end Go.Proofs.Ytokdclbfjlnnjaa
