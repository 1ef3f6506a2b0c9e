/- Plain laws of the plane: what stays if shapes are moved. -/
import Derived.Test.YtokdclbfjlnnjaaR10
namespace Go.Proofs.Ytokdclbfjlnnjaa
open Go.RowKit

theorem ptZ_map {f : Pt → Pt} {l : List Pt} (h : l ≠ []) (i : Nat) : ptZ (l.map f) i = f (ptZ l i) := by
  have hl : 0 < l.length := List.length_pos_iff.2 h
  have hh := Nat.mod_lt i hl
  unfold ptZ
  rw [List.length_map, List.getD_eq_getElem?_getD, List.getD_eq_getElem?_getD, List.getElem?_map, List.getElem?_eq_getElem hh]
  rfl
theorem sgZ_map {f : Pt → Pt} {l : List Pt} (h : l ≠ []) (i : Nat) : sgZ (l.map f) i = (f (sgZ l i).1, f (sgZ l i).2) := by
  unfold sgZ
  rw [ptZ_map h, ptZ_map h]
theorem nSeg_map (f : Pt → Pt) (k : Int) (l : List Pt) : nSeg k (l.map f) = nSeg k l := by unfold nSeg; simp
section
variable (dx dy : Int)
def trS (s : Pt × Pt) : Pt × Pt := (trP dx dy s.1, trP dx dy s.2)
theorem cross_tr (a b c : Pt) : crossZ (trP dx dy a) (trP dx dy b) (trP dx dy c) = crossZ a b c := by simp only [crossZ, trP]; grind
theorem on_tr (p : Pt) (s : Pt × Pt) : onZ (trP dx dy p) (trS dx dy s) = onZ p s := by
  unfold onZ trS
  simp only [cross_tr]
  simp only [trP]
  simp only [Int.add_sub_add_right]
theorem meet_tr (s t : Pt × Pt) : meetZ (trS dx dy s) (trS dx dy t) = meetZ s t := by
  unfold meetZ
  simp only [show (trS dx dy s).1 = trP dx dy s.1 from rfl, show (trS dx dy s).2 = trP dx dy s.2 from rfl, show (trS dx dy t).1 = trP dx dy t.1 from rfl, show (trS dx dy t).2 = trP dx dy t.2 from rfl, on_tr, cross_tr]
theorem wind_tr (p : Pt) (s : Pt × Pt) : wind1 (trP dx dy p) (trS dx dy s) = wind1 p s := by
  unfold wind1
  simp only [show (trS dx dy s).1 = trP dx dy s.1 from rfl, show (trS dx dy s).2 = trP dx dy s.2 from rfl, cross_tr]
  simp only [trP, Int.add_le_add_iff_right, Int.add_lt_add_iff_right]
variable {dx dy}
theorem sg_tr {l : List Pt} (h : l ≠ []) (i : Nat) : sgZ (l.map (trP dx dy)) i = trS dx dy (sgZ l i) := sgZ_map h i
theorem windS_tr {l : List Pt} (h : l ≠ []) (p : Pt) : ∀ xs : List Nat, windS (trP dx dy p) (l.map (trP dx dy)) xs = windS p l xs
  | [] => rfl
  | i :: xs => by
    have ih := windS_tr h p xs
    show wind1 _ _ + _ = wind1 _ _ + _
    rw [sg_tr h, wind_tr, ih]
theorem within_tr {k : Int} {l : List Pt} (h : l ≠ []) (p : Pt) : withinZ (trP dx dy p) k (l.map (trP dx dy)) = withinZ p k l := by
  unfold withinZ
  rw [nSeg_map, windS_tr h]
  simp only [sg_tr h, on_tr]
theorem inside_tr {ka kb : Int} {la lb : List Pt} (ha : la ≠ []) (hb : lb ≠ []) : insideZ ka (la.map (trP dx dy)) kb (lb.map (trP dx dy)) = insideZ ka la kb lb := by
  unfold insideZ
  rw [nSeg_map, nSeg_map]
  simp only [sg_tr ha, sg_tr hb, meet_tr, List.any_map, Function.comp_def, within_tr hb, List.isEmpty_map]
theorem left_tr {la lb : List Pt} : leftZ (la.map (trP dx dy)) (lb.map (trP dx dy)) = leftZ la lb := by
  rw [left_eq, left_eq]
  unfold rleftZ
  simp only [List.any_map, Function.comp_def, List.length_map, trP, Int.add_le_add_iff_right]
theorem len_tr {l : List Pt} (h : l ≠ []) : ∀ xs : List Nat, lenS (l.map (trP dx dy)) xs = lenS l xs
  | [] => rfl
  | i :: xs => by
    have ih := len_tr (l := l) h xs
    unfold lenS
    rw [sg_tr h, ih]
    congr 1
    unfold slen trS trP
    simp only [Int.add_sub_add_right]
theorem length_tr {k : Int} {l : List Pt} (h : l ≠ []) : lengthZ k (l.map (trP dx dy)) = lengthZ k l := by
  unfold lengthZ
  rw [nSeg_map, len_tr h]
theorem longer_tr {ka kb : Int} {la lb : List Pt} (ha : la ≠ []) (hb : lb ≠ []) : longerZ ka (la.map (trP dx dy)) kb (lb.map (trP dx dy)) = longerZ ka la kb lb := by
  unfold longerZ
  rw [length_tr ha, length_tr hb]
end
end Go.Proofs.Ytokdclbfjlnnjaa
