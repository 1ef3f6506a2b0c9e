/- The reference's Moved and Turned. -/
import Derived.Test.YtokdclbfjlnnjaaLa
namespace Go.Proofs.Ytokdclbfjlnnjaa
open Go.RowKit Go.BigFrame

def trP (dx dy : Int) (p : Pt) : Pt := (p.1 + dx, p.2 + dy)
/-- Kept in a box of the call's own: a row that grows. -/
theorem box_row {W0 W w' : World} {n7 r c' g' : Nat} {v : Value} {xs : List Value} {k : Int} (hn7 : W0.heap.size ≤ n7) (hW : Aft W0 W) (hown : W.ownsRow (n7 + 1) 57 2 v r xs) (hgrow : W.grownBy w' v.ownBlock) (e9 : W.cell? ⟨n7, 0, none⟩ = some (.int .i64 k)) (c9 : W.cell? ⟨n7, 1, none⟩ = some v) (f9 : W.frozen? ⟨n7, 1, none⟩ = false)
    {ys : List Value} (hown' : w'.ownsRow (n7 + 1) 57 2 (.slice (some ⟨g', 0, none⟩) (r + 1) c') (r + 1) ys) :
    (w'.cell? ⟨n7, 1, none⟩ = some v ∧ w'.frozen? ⟨n7, 1, none⟩ = false) ∧ Hid ((w'.setCell ⟨n7, 1, none⟩ (.slice (some ⟨g', 0, none⟩) (r + 1) c')).cell? ⟨n7, 0, none⟩ = some (.int .i64 k) ∧ (w'.setCell ⟨n7, 1, none⟩ (.slice (some ⟨g', 0, none⟩) (r + 1) c')).cell? ⟨n7, 1, none⟩ = some (.slice (some ⟨g', 0, none⟩) (r + 1) c') ∧
      (w'.setCell ⟨n7, 1, none⟩ (.slice (some ⟨g', 0, none⟩) (r + 1) c')).frozen? ⟨n7, 1, none⟩ = false ∧ (w'.setCell ⟨n7, 1, none⟩ (.slice (some ⟨g', 0, none⟩) (r + 1) c')).ownsRow (n7 + 1) 57 2 (.slice (some ⟨g', 0, none⟩) (r + 1) c') (r + 1) ys ∧ Aft W0 (w'.setCell ⟨n7, 1, none⟩ (.slice (some ⟨g', 0, none⟩) (r + 1) c'))) := by
  have hlt := World.block_lt_of_cell? _ _ c9
  have hb9 : w'.heap[n7]? = W.heap[n7]? := hgrow.block n7 hlt (fun e => by have := (hown.lt n7 e.symm).1; omega)
  have e9W := (World.cell?_of_block (a := ⟨n7, 0, none⟩) hb9).trans e9
  have c9W := (World.cell?_of_block (a := ⟨n7, 1, none⟩) hb9).trans c9
  have f9W := (World.frozen?_of_block (a := ⟨n7, 1, none⟩) hb9).trans f9
  have hA := hW.grown hgrow (fun j hj => by have := (hown.lt j hj).1; omega)
  have hg' := (hown'.lt g' rfl).1
  refine ⟨⟨c9W, f9W⟩, hid ⟨?_, ?_, ?_, ?_, ?_⟩⟩
  · rw [World.cell?_setCell_other _ _ _ _ (by simp)]; exact e9W
  · exact World.cell?_setCell_same' _ _ _ (by rw [c9W]; rfl)
  · rw [World.frozen?_setCell]; exact f9W
  · exact Sep.kept (v' := .slice (some ⟨n7, 1, none⟩) 0 0) (sep_ne'' (by omega)) hown' (grown_setCell w' ⟨n7, 1, none⟩ _)
  · exact hA.setCell (p := ⟨n7, 1, none⟩) (by show W0.heap.size ≤ n7; omega) _
theorem store2b {w W : World} {n base m e : Nat} {u0 u1 v : Value} {xs : List Value} (hW : Aft w W) (hn : w.heap.size ≤ n) (hb : n < base) (ho : W.ownsRow base e 2 v m xs) (c0 : W.cell? ⟨n, 0, none⟩ = some u0) (c1 : W.cell? ⟨n, 1, none⟩ = some u1) (x y : Value) :
    Hid (((W.setCell ⟨n, 0, none⟩ x).setCell ⟨n, 1, none⟩ y).cell? ⟨n, 0, none⟩ = some x ∧ ((W.setCell ⟨n, 0, none⟩ x).setCell ⟨n, 1, none⟩ y).cell? ⟨n, 1, none⟩ = some y ∧
      ((W.setCell ⟨n, 0, none⟩ x).setCell ⟨n, 1, none⟩ y).ownsRow base e 2 v m xs ∧ Aft w ((W.setCell ⟨n, 0, none⟩ x).setCell ⟨n, 1, none⟩ y)) := by
  obtain ⟨h1, h2, h3, h4⟩ := store2 hW hn c0 c1 x y
  exact hid ⟨h1, h2, ownsRow_kx ho h3 (fun j hj => by subst hj; exact hb), h4⟩

theorem ownsRow_kx3 {X : Nat → Prop} {A B : World} {base : Nat} {e : TypeId} {size n : Nat} {v : Value} {xs : List Value} (h : A.ownsRow base e size v n xs) (hk : Kx X A B) (hX : ∀ g, v.ownBlock = some g → ¬ X g) : B.ownsRow base e size v n xs := by
  refine ⟨h.1, h.2.imp id ?_⟩
  rintro ⟨g, cap, cur, h1, h2, h3, h4⟩
  exact ⟨g, cap, cur, h1, h2, (hk.block g (Array.getElem?_eq_some_iff.1 h3).1 (hX g (by rw [h1]; rfl))).trans h3, h4⟩

def swP (p : Pt) : Pt := (p.2, p.1)
def turnZ (back : Bool) (l : List Pt) : List Pt := (if back then l.reverse else l).map swP
def turnI (back : Bool) (l : List Pt) (i : Nat) : Pt := swP (ptZ l (if back then l.length - 1 - i else i))

end Go.Proofs.Ytokdclbfjlnnjaa
