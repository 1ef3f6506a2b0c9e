/- Plain laws of the plane: what stays if X and Y are exchanged and points are told in the opposite order. -/
import Derived.Test.YtokdclbfjlnnjaaQ9
namespace Go.Proofs.Ytokdclbfjlnnjaa
open Go.RowKit

def swS (s : Pt × Pt) : Pt × Pt := (swP s.1, swP s.2)
def flS (s : Pt × Pt) : Pt × Pt := (s.2, s.1)
theorem cross_sw (a b c : Pt) : crossZ (swP a) (swP b) (swP c) = -crossZ a b c := by simp only [crossZ, swP]; grind
theorem opp_neg (a b : Int) : oppZ (-a) (-b) = oppZ a b := by
  unfold oppZ
  rw [Bool.eq_iff_iff]; simp only [decide_eq_true_eq]; omega
theorem opp_comm (a b : Int) : oppZ a b = oppZ b a := by
  unfold oppZ
  rw [Bool.eq_iff_iff]; simp only [decide_eq_true_eq]; omega
theorem on_sw (p : Pt) (s : Pt × Pt) : onZ (swP p) (swS s) = onZ p s := by
  unfold onZ
  rw [Bool.eq_iff_iff]
  simp only [Bool.and_eq_true, decide_eq_true_eq]
  show (crossZ (swP s.1) (swP s.2) (swP p) = 0 ∧ (p.2 - s.1.2) * (p.2 - s.2.2) ≤ 0 ∧ (p.1 - s.1.1) * (p.1 - s.2.1) ≤ 0) ↔ _
  rw [cross_sw, Int.neg_eq_zero]
  exact ⟨fun ⟨a, b, c⟩ => ⟨a, c, b⟩, fun ⟨a, b, c⟩ => ⟨a, c, b⟩⟩
theorem meet_sw (s t : Pt × Pt) : meetZ (swS s) (swS t) = meetZ s t := by
  unfold meetZ
  simp only [show ∀ s, (swS s).1 = swP s.1 from fun _ => rfl, show ∀ s, (swS s).2 = swP s.2 from fun _ => rfl, on_sw, cross_sw, opp_neg]
theorem sq_sw (a b : Pt) : sqZ (swP a) (swP b) = sqZ a b := by unfold sqZ swP; simp only; omega
theorem far_sw (p : Pt) (s : Pt × Pt) : farZ (swP p) (swS s) = farZ p s := by
  unfold farZ
  simp only [show (swS s).1 = swP s.1 from rfl, show (swS s).2 = swP s.2 from rfl, cross_sw, sq_sw]
  simp only [swP, Int.neg_mul_neg]
  simp only [Int.add_comm ((p.2 - _) * _)]
theorem on_fl (p : Pt) (s : Pt × Pt) : onZ p (flS s) = onZ p s := by
  unfold onZ flS
  simp only [cross_swap s.1 s.2, Int.neg_eq_zero]
  simp only [Int.mul_comm (p.1 - s.2.1), Int.mul_comm (p.2 - s.2.2)]
theorem meet_fl (s t : Pt × Pt) : meetZ s (flS t) = meetZ s t := by
  unfold meetZ
  simp only [on_fl]
  simp only [flS, cross_swap t.1 t.2, opp_neg, opp_comm (crossZ s.1 s.2 t.2)]
  cases onZ s.1 t <;> cases onZ s.2 t <;> cases onZ t.1 s <;> cases onZ t.2 s <;> rfl
theorem sq_comm (a b : Pt) : sqZ a b = sqZ b a := by unfold sqZ; grind
theorem far_fl (p : Pt) (s : Pt × Pt) : farZ p (flS s) = farZ p s := by
  unfold farZ flS
  simp only [cross_swap s.1 s.2, Int.neg_mul_neg, sq_comm s.2 s.1, Int.min_comm (sqZ p s.2)]
  simp only [And.comm (a := 0 < (p.1 - s.2.1) * (s.1.1 - s.2.1) + (p.2 - s.2.2) * (s.1.2 - s.2.2))]
theorem slen_sw (s : Pt × Pt) : slen (swS s) = slen s := by unfold slen swS swP; simp only; omega
theorem slen_fl (s : Pt × Pt) : slen (flS s) = slen s := by unfold slen flS; simp only; omega

/-- The number of a segment, counted from the other end. -/
def revJ (n j : Nat) : Nat := if j + 1 < n then n - 2 - j else j
theorem revJ_inv {n j : Nat} (_ : j < n) : revJ n (revJ n j) = j := by unfold revJ; split <;> (try split) <;> omega
theorem revJ_lt {n m j : Nat} (h : j < m) (hm : m = n ∨ m + 1 = n) : revJ n j < m := by unfold revJ; split <;> omega
theorem ptZ_rev {l : List Pt} {i : Nat} (h : i < l.length) : ptZ l.reverse i = ptZ l (l.length - 1 - i) := by
  have h2 : l.length - 1 - i < l.length := by omega
  rw [ptZ_get (p := l[l.length - 1 - i]) (by rw [List.getElem?_reverse h, List.getElem?_eq_getElem h2]), ptZ_get (List.getElem?_eq_getElem h2)]
theorem ptZ_len {l : List Pt} (h : l ≠ []) : ptZ l l.length = ptZ l 0 := by
  have h0 : 0 < l.length := List.length_pos_iff.2 h
  rw [ptZ_round (List.getElem?_eq_getElem h0), ptZ_get (List.getElem?_eq_getElem h0)]
theorem sg_rev {l : List Pt} {j : Nat} (hj : j < l.length) : sgZ l.reverse j = flS (sgZ l (revJ l.length j)) := by
  have hne : l ≠ [] := fun e => by subst e; simp at hj
  unfold sgZ flS revJ
  split
  · rename_i h
    rw [ptZ_rev hj, ptZ_rev h]
    simp only
    rw [show l.length - 2 - j + 1 = l.length - 1 - j by omega, show l.length - 1 - (j + 1) = l.length - 2 - j by omega]
  · have hjn : j + 1 = l.length := by omega
    rw [ptZ_rev hj]
    have e : ptZ l.reverse (j + 1) = ptZ l j := by
      have h1 := ptZ_len (l := l.reverse) (by simpa using hne)
      rw [List.length_reverse] at h1
      rw [hjn, h1, ptZ_rev (by omega)]
      congr 1; omega
    have e2 : ptZ l (j + 1) = ptZ l 0 := by rw [hjn]; exact ptZ_len hne
    simp only [e, e2]
    rw [show l.length - 1 - j = 0 by omega]
theorem turn_ne {back : Bool} {l : List Pt} (h : l ≠ []) : turnZ back l ≠ [] := by cases back <;> simp [turnZ, h]
theorem turn_len (back : Bool) (l : List Pt) : (turnZ back l).length = l.length := by cases back <;> simp [turnZ]
theorem nSeg_turn (back : Bool) (k : Int) (l : List Pt) : nSeg k (turnZ back l) = nSeg k l := by unfold nSeg; rw [turn_len]
theorem nPart_turn (back : Bool) (k : Int) (l : List Pt) : nPart k (turnZ back l) = nPart k l := by unfold nPart; rw [nSeg_turn]
theorem sg_turnF {l : List Pt} (h : l ≠ []) (j : Nat) : sgZ (turnZ false l) j = swS (sgZ l j) := sgZ_map h j
theorem sg_turnT {l : List Pt} {j : Nat} (hj : j < l.length) : sgZ (turnZ true l) j = swS (flS (sgZ l (revJ l.length j))) := by
  have hne : l ≠ [] := fun e => by subst e; simp at hj
  rw [← sg_rev hj]
  exact sgZ_map (by simpa using hne) j
theorem nSeg_or {k : Int} {l : List Pt} : nSeg k l = 0 ∨ nSeg k l = l.length ∨ nSeg k l + 1 = l.length := by
  unfold nSeg
  split
  · exact .inl rfl
  · rename_i h
    split
    · exact .inr (.inl rfl)
    · exact .inr (.inr (by omega))
theorem nPart_or {k : Int} {l : List Pt} (hd : k = 0 → l.length = 1) : nPart k l = 0 ∨ nPart k l = l.length ∨ nPart k l + 1 = l.length := by
  unfold nPart
  split
  · rename_i h; exact .inr (.inl (hd h).symm)
  · exact nSeg_or
/-- A pair of segments of turned shapes is one of the shapes themselves. -/
theorem turn_pairs {la lb : List Pt} (ha : la ≠ []) {m m' : Nat} (hm' : m' = 0 ∨ m' = lb.length ∨ m' + 1 = lb.length) {R R' : Pt × Pt → Pt × Pt → Prop} (hR : ∀ s t, R (swS s) (swS (flS t)) ↔ R' s t) :
    (∃ i, i < m ∧ ∃ j, j < m' ∧ R (sgZ (turnZ false la) i) (sgZ (turnZ true lb) j)) ↔ (∃ i, i < m ∧ ∃ j, j < m' ∧ R' (sgZ la i) (sgZ lb j)) := by
  constructor
  · rintro ⟨i, hi, j, hj, h⟩
    rw [sg_turnF ha, sg_turnT (show j < lb.length by omega), hR] at h
    exact ⟨i, hi, _, revJ_lt hj (by omega), h⟩
  · rintro ⟨i, hi, j, hj, h⟩
    refine ⟨i, hi, revJ lb.length j, revJ_lt hj (by omega), ?_⟩
    rw [sg_turnF ha, sg_turnT (revJ_lt (m := lb.length) (show j < lb.length by omega) (.inl rfl)), hR, revJ_inv (by omega)]
    exact h
theorem near_turn {ka kb : Int} {la lb : List Pt} (ha : la ≠ []) (hd : kb = 0 → lb.length = 1) : nearZ ka (turnZ false la) kb (turnZ true lb) = nearZ ka la kb lb := by
  refine near_same ?_ fun g => ?_
  · rw [nPart_turn, nPart_turn, Bool.eq_iff_iff, meets_iff, meets_iff]
    exact turn_pairs ha (nPart_or hd) (R := fun s t => meetZ s t = true) (R' := fun s t => meetZ s t = true) (fun s t => by rw [meet_sw, meet_fl])
  · rw [nPart_turn, nPart_turn]
    unfold farS
    refine turn_pairs ha (nPart_or hd) (R := fun s t => far4 s t g) (R' := fun s t => far4 s t g) (fun s t => ?_)
    unfold far4
    simp only [show ∀ s, (swS s).1 = swP s.1 from fun _ => rfl, show ∀ s, (swS s).2 = swP s.2 from fun _ => rfl, far_sw, far_fl]
    simp only [flS]
    constructor
    · rintro (h | h | h | h) <;> simp [h]
    · rintro (h | h | h | h) <;> simp [h]
theorem lenS_perm {l : List Pt} {xs ys : List Nat} (h : xs.Perm ys) : lenS l xs = lenS l ys := by
  induction h with
  | nil => rfl
  | cons a _ ih => show slen _ + _ = slen _ + _; rw [ih]
  | swap a b xs => show slen _ + (slen _ + _) = slen _ + (slen _ + _); omega
  | trans _ _ h1 h2 => exact h1.trans h2
theorem lenS_map {l l' : List Pt} {f : Nat → Nat} : ∀ {xs : List Nat}, (∀ j ∈ xs, slen (sgZ l' j) = slen (sgZ l (f j))) → lenS l' xs = lenS l (xs.map f)
  | [], _ => rfl
  | i :: xs, h => by
    show slen _ + _ = slen _ + _
    rw [h i (by simp), lenS_map fun j hj => h j (by simp [hj])]
theorem rev_perm {n m : Nat} (hm : m = 0 ∨ m = n ∨ m + 1 = n) : ((List.range m).map (revJ n)).Perm (List.range m) := by
  have key : ∀ k, k + 1 = n → ((List.range k).map (revJ n)).Perm (List.range k) := fun k hk => by
    have : (List.range k).map (revJ n) = (List.range k).reverse := List.ext_getElem (by simp) (fun i h1 h2 => by
      simp at h1 h2
      simp only [List.getElem_map, List.getElem_range, List.getElem_reverse, List.length_range]
      unfold revJ
      rw [if_pos (by omega)]; omega)
    rw [this]; exact List.reverse_perm _
  rcases hm with rfl | rfl | hm
  · exact List.Perm.refl _
  · cases m with
    | zero => exact List.Perm.refl _
    | succ k =>
      rw [List.range_succ, List.map_append]
      refine List.Perm.append (key k rfl) ?_
      simp [revJ]
  · exact key m hm
theorem length_turn {back : Bool} {k : Int} {l : List Pt} (h : l ≠ []) : lengthZ k (turnZ back l) = lengthZ k l := by
  unfold lengthZ
  rw [nSeg_turn]
  cases back with
  | false =>
    have := lenS_map (l := l) (l' := turnZ false l) (f := id) (xs := List.range (nSeg k l)) (fun j _ => by rw [sg_turnF h, slen_sw]; rfl)
    rw [this, List.map_id]
  | true =>
    have := lenS_map (l := l) (l' := turnZ true l) (f := revJ l.length) (xs := List.range (nSeg k l)) (fun j hj => by
      have := List.mem_range.1 hj
      have := nSeg_le k l
      rw [sg_turnT (by omega), slen_sw, slen_fl])
    rw [this, lenS_perm (rev_perm nSeg_or)]
theorem longer_turn {ba bb : Bool} {ka kb : Int} {la lb : List Pt} (ha : la ≠ []) (hb : lb ≠ []) : longerZ ka (turnZ ba la) kb (turnZ bb lb) = longerZ ka la kb lb := by
  unfold longerZ
  rw [length_turn ha, length_turn hb]
end Go.Proofs.Ytokdclbfjlnnjaa
