/- RulesChecked in plain words. Conditions are in the theorems. -/
import Derived.Test.YtipllfcmdnellaaDoorG4
/- Two rules that contradict each other. -/
namespace Go.Proofs
open Go Go.Ax Go.Ax.Alg
def pairP (a b : Rl) : Prop := a.2.1 = b.2.1 ∧ 0 ≤ max a.2.2 b.2.2 ∧ min a.2.2 b.2.2 < 0 ∧ -1 - min a.2.2 b.2.2 < max a.2.2 b.2.2 ∧ appB a (haveZ a b) = true ∧ appB b (haveZ a b) = true
theorem w11_step {l : List Rl} (hv : ∀ r ∈ l, VR r) (hl : l.length ≤ 32) {a : Rl} (ha : VR a) (k : Nat) (R : O → Prop) (self : Int → O) (k0 : List Bool → Bool → Int → Int → Int → O) (k1 : (List ((List Int) × (Int × Int))) → Bool → Int → (List ((List Int) × (Int × Int))) → Int → Int → Bool → Int → ((List Int) × (Int × Int)) → (List Int) → Int → Int → Int → Int → Int → Int → Int → (List ((List Int) × (Int × Int))) → Int → Bool → Int → Int → (List Int) → Int → Int → O) (v0 : (List ((List Int) × (Int × Int)))) (v1 : Bool) (v2 : Int) (v3 : (List ((List Int) × (Int × Int)))) (v4 : Int) (v5 : Int) (v6 : Bool) (v7 : Int) (v8 : ((List Int) × (Int × Int))) (v9 : (List Int)) (v10 : Int) (v11 : Int) (v12 : Int) (v13 : Int) (v14 : Int) (v15 : Int) (v16 : Int) (v17 : Int) (v18 : (List Int)) (v19 : Int) (v20 : Int)
    (h0 : v0 = l) (h15 : v15 = (k : Int)) (h18 : v18 = a.1) (h19 : v19 = a.2.1) (h20 : v20 = a.2.2)
    (hs : ∀ b, l[k]? = some b → ¬ pairP a b → R (self ((k + 1 : Nat) : Int))) (hk : ∀ b, l[k]? = some b → pairP a b → R (k0 (haveZ a b) true 0 v12 (k : Int))) (hn : l.length ≤ k → R (k1 v0 v1 v2 v3 v4 v5 v6 v7 v8 v9 v10 v11 v12 v13 v14 v15 v15 v0 (v0.length : Int) (decide (v15 < (v0.length : Int))) v16 v17 v18 v19 v20)) : R (w11F0 200 self k0 k1 v0 v1 v2 v3 v4 v5 v6 v7 v8 v9 v10 v11 v12 v13 v14 v16 v17 v18 v19 v20 v15) := by
  unfold w11F0
  by_cases hlt : k < l.length
  · have hg : l[k]? = some l[k] := List.getElem?_eq_getElem hlt
    have hb := hv _ (List.mem_of_getElem? hg)
    rw [h0, h15, decide_eq_true (show (k : Int) < (l.length : Int) by omega), br_t, gx_at hg, nxt (by omega), h18, h19, h20]
    generalize hbe : l[k] = b at hg hb
    have a0 := ha.a0
    have a1 := ha.a1
    have b0 := hb.a0
    have b1 := hb.a1
    have ew : IntKind.i64.wrap (-1 - min a.2.2 b.2.2) = -1 - min a.2.2 b.2.2 := wr (by omega) (by omega)
    rw [ew]
    by_cases hc : a.2.1 = b.2.1 ∧ 0 ≤ max a.2.2 b.2.2 ∧ min a.2.2 b.2.2 < 0 ∧ -1 - min a.2.2 b.2.2 < max a.2.2 b.2.2
    · obtain ⟨c1, c2, c3, c4⟩ := hc
      have h30 := w30_eq ha hb
      rw [decide_eq_false (show ¬ a.2.1 ≠ b.2.1 from fun h => h c1), decide_eq_false (show ¬ max a.2.2 b.2.2 < 0 by omega), decide_eq_false (show ¬ 0 ≤ min a.2.2 b.2.2 by omega), decide_eq_false (show ¬ max a.2.2 b.2.2 ≤ -1 - min a.2.2 b.2.2 by omega), show (false || false || false || false) = false from rfl, br_f, ck_of (w30_p h30), w30_y1 h30, w30_y0 h30]
      cases hq : appB a (haveZ a b) && appB b (haveZ a b) with
      | true =>
        rw [Bool.and_eq_true] at hq
        simp only []
        rw [br_t, ← h15, h15]
        exact hk b hg ⟨c1, c2, c3, c4, hq.1, hq.2⟩
      | false =>
        simp only []
        rw [br_f]
        exact hs b hg fun h => by
          obtain ⟨_, _, _, _, h5, h6⟩ := h
          rw [h5, h6] at hq
          exact absurd hq (by decide)
    · have e : (decide (a.2.1 ≠ b.2.1) || decide (max a.2.2 b.2.2 < 0) || decide (0 ≤ min a.2.2 b.2.2) || decide (max a.2.2 b.2.2 ≤ -1 - min a.2.2 b.2.2)) = true := by
        simp only [Bool.or_eq_true, decide_eq_true_eq]
        omega
      rw [e, br_t]
      exact hs b hg fun h => hc ⟨h.1, h.2.1, h.2.2.1, h.2.2.2.1⟩
  · have hh := hn (by omega)
    rw [h0, h15] at hh
    rw [h0, h15, decide_eq_false (show ¬ (k : Int) < (l.length : Int) by omega), br_f]
    rw [decide_eq_false (show ¬ (k : Int) < (l.length : Int) by omega)] at hh
    exact hh
abbrev S11 := ((List ((List Int) × (Int × Int))) × Bool × Int × (List ((List Int) × (Int × Int))) × Int × Int × Bool × Int × ((List Int) × (Int × Int)) × (List Int) × Int × Int × Int × Int × Int × Int × Int × Int × (List Int) × Int × Int)
abbrev Y11 := ((List ((List Int) × (Int × Int))) × Bool × Int × (List ((List Int) × (Int × Int))) × Int × Int × Bool × Int × ((List Int) × (Int × Int)) × (List Int) × Int × Int × Int × Int × Int × Int × Int × (List ((List Int) × (Int × Int))) × Int × Bool × Int × Int × (List Int) × Int × Int)
theorem w11_in {l : List Rl} (hv : ∀ r ∈ l, VR r) (hl : l.length ≤ 32) {a : Rl} (ha : VR a) (i : Nat) (c1 : Bool) (c2 c4 c6 c7 : Int) (c3 : List Rl) (k0 : List Bool × Bool × Int × Int × Int → O) (k1 : Y11 → O) (k2 : Unit → O) (R : O → Prop)
    (hk : ∀ (k : Nat) b, l[k]? = some b → i < k → pairP a b → (∀ k' b, i < k' → k' < k → l[k']? = some b → ¬ pairP a b) → R (k0 (haveZ a b, true, 0, (i : Int), (k : Int))))
    (hn : (∀ k' b, i < k' → l[k']? = some b → ¬ pairP a b) → ∀ y : Y11, y.1 = l → y.2.1 = c1 → y.2.2.1 = c2 → y.2.2.2.1 = c3 → y.2.2.2.2.1 = c4 → y.2.2.2.2.2.1 = (i : Int) → y.2.2.2.2.2.2.2.2.2.2.2.2.2.2.2.2.2.2.2.2.1 = c6 → y.2.2.2.2.2.2.2.2.2.2.2.2.2.2.2.2.2.2.2.2.2.1 = c7 → R (k1 y)) : ∀ (n k : Nat) (x : S11), l.length - k < n → i < k → k ≤ l.length → x.1 = l → x.2.1 = c1 → x.2.2.1 = c2 → x.2.2.2.1 = c3 → x.2.2.2.2.1 = c4 → x.2.2.2.2.2.1 = (i : Int) → x.2.2.2.2.2.2.2.2.2.2.2.2.1 = (i : Int) → x.2.2.2.2.2.2.2.2.2.2.2.2.2.2.2.1 = (k : Int) → x.2.2.2.2.2.2.2.2.2.2.2.2.2.2.2.2.1 = c6 → x.2.2.2.2.2.2.2.2.2.2.2.2.2.2.2.2.2.1 = c7 → x.2.2.2.2.2.2.2.2.2.2.2.2.2.2.2.2.2.2.1 = a.1 → x.2.2.2.2.2.2.2.2.2.2.2.2.2.2.2.2.2.2.2.1 = a.2.1 → x.2.2.2.2.2.2.2.2.2.2.2.2.2.2.2.2.2.2.2.2 = a.2.2 →
    (∀ k' b, i < k' → k' < k → l[k']? = some b → ¬ pairP a b) → R (w11l0 200 n x k0 k1 k2)
  | 0, k, x, h, _, _, _, _, _, _, _, _, _, _, _, _, _, _, _, _ => by omega
  | n + 1, k, x, h, hik, hkl, e0, e1, e2, e3, e4, e5, e12, e15, e16, e17, e18, e19, e20, hb => by
    refine w11_step hv hl ha k R (fun v0 => w11l0 200 n (x.1, x.2.1, x.2.2.1, x.2.2.2.1, x.2.2.2.2.1, x.2.2.2.2.2.1, x.2.2.2.2.2.2.1, x.2.2.2.2.2.2.2.1, x.2.2.2.2.2.2.2.2.1, x.2.2.2.2.2.2.2.2.2.1, x.2.2.2.2.2.2.2.2.2.2.1, x.2.2.2.2.2.2.2.2.2.2.2.1, x.2.2.2.2.2.2.2.2.2.2.2.2.1, x.2.2.2.2.2.2.2.2.2.2.2.2.2.1, x.2.2.2.2.2.2.2.2.2.2.2.2.2.2.1, v0, x.2.2.2.2.2.2.2.2.2.2.2.2.2.2.2.2.1, x.2.2.2.2.2.2.2.2.2.2.2.2.2.2.2.2.2.1, x.2.2.2.2.2.2.2.2.2.2.2.2.2.2.2.2.2.2.1, x.2.2.2.2.2.2.2.2.2.2.2.2.2.2.2.2.2.2.2.1, x.2.2.2.2.2.2.2.2.2.2.2.2.2.2.2.2.2.2.2.2) k0 k1 k2) (fun y0 y1 y2 y3 y4 => k0 (y0, y1, y2, y3, y4)) (fun y0 y1 y2 y3 y4 y5 y6 y7 y8 y9 y10 y11 y12 y13 y14 y15 y16 y17 y18 y19 y20 y21 y22 y23 y24 => k1 (y0, y1, y2, y3, y4, y5, y6, y7, y8, y9, y10, y11, y12, y13, y14, y15, y16, y17, y18, y19, y20, y21, y22, y23, y24)) x.1 x.2.1 x.2.2.1 x.2.2.2.1 x.2.2.2.2.1 x.2.2.2.2.2.1 x.2.2.2.2.2.2.1 x.2.2.2.2.2.2.2.1 x.2.2.2.2.2.2.2.2.1 x.2.2.2.2.2.2.2.2.2.1 x.2.2.2.2.2.2.2.2.2.2.1 x.2.2.2.2.2.2.2.2.2.2.2.1 x.2.2.2.2.2.2.2.2.2.2.2.2.1 x.2.2.2.2.2.2.2.2.2.2.2.2.2.1 x.2.2.2.2.2.2.2.2.2.2.2.2.2.2.1 x.2.2.2.2.2.2.2.2.2.2.2.2.2.2.2.1 x.2.2.2.2.2.2.2.2.2.2.2.2.2.2.2.2.1 x.2.2.2.2.2.2.2.2.2.2.2.2.2.2.2.2.2.1 x.2.2.2.2.2.2.2.2.2.2.2.2.2.2.2.2.2.2.1 x.2.2.2.2.2.2.2.2.2.2.2.2.2.2.2.2.2.2.2.1 x.2.2.2.2.2.2.2.2.2.2.2.2.2.2.2.2.2.2.2.2 e0 e15 e18 e19 e20 (fun b hb1 hb2 => ?_) (fun b hb1 hb2 => ?_) (fun hlk => ?_)
    · have hkl2 := (List.getElem?_eq_some_iff.1 hb1).1
      refine w11_in hv hl ha i c1 c2 c4 c6 c7 c3 k0 k1 k2 R hk hn n (k + 1) _ (by omega) (by omega) (by omega) e0 e1 e2 e3 e4 e5 e12 rfl e16 e17 e18 e19 e20 ?_
      intro k' b' h1 h2 h3
      by_cases hk' : k' = k
      · subst hk'
        rw [hb1] at h3
        obtain rfl := Option.some.inj h3
        exact hb2
      · exact hb k' b' h1 (by omega) h3
    · have := hk k b hb1 hik hb2 hb
      rw [e12]
      exact this
    · refine hn (fun k' b' h1 h3 => hb k' b' h1 ?_ h3) _ e0 e1 e2 e3 e4 e5 e16 e17
      have := (List.getElem?_eq_some_iff.1 h3).1
      omega
def NoPair (l : List Rl) (i : Nat) : Prop := ∀ j a k b, j < i → j < k → l[j]? = some a → l[k]? = some b → ¬ pairP a b
theorem w11_loop {l : List Rl} (hv : ∀ r ∈ l, VR r) (hl : l.length ≤ 32) (k0 : List Bool × Bool × Int × Int × Int → O) (k1 : Bool × Int × Int × Int → O) (k2 : Unit → O) (R : O → Prop)
    (hk : ∀ (i k : Nat) a b, l[i]? = some a → l[k]? = some b → i < k → pairP a b → (∀ k' b, i < k' → k' < k → l[k']? = some b → ¬ pairP a b) → NoPair l i → R (k0 (haveZ a b, true, 0, (i : Int), (k : Int))))
    (hn : NoPair l l.length → R (k1 (false, 0, 0, 0))) : ∀ (n i : Nat), l.length - i < n → i ≤ l.length → NoPair l i → R (w11l1 200 n (l, false, 0, l, (l.length : Int), (i : Int), 0, 0) k0 k1 k2)
  | 0, i, h, _, _ => by omega
  | n + 1, i, h, hi, hp => by
    show R (w11F1 200 (w11n0 200) (fun v0 v1 v2 v3 v4 v5 v6 v7 => w11l1 200 n (v0, v1, v2, v3, v4, v5, v6, v7) k0 k1 k2) (fun y0 y1 y2 y3 y4 => k0 (y0, y1, y2, y3, y4)) (fun y0 y1 y2 y3 => k1 (y0, y1, y2, y3)) l false 0 l l.length i 0 0)
    unfold w11F1
    by_cases hlt : i < l.length
    · have hg : l[i]? = some l[i] := List.getElem?_eq_getElem hlt
      have ha := hv _ (List.mem_of_getElem? hg)
      rw [decide_eq_true (show (i : Int) < (l.length : Int) by omega), br_t, gx_at hg, nxt (by omega)]
      generalize l[i] = a at hg ha
      refine w11_in hv hl ha i false 0 l.length 0 0 l _ _ _ R (fun k b h1 h2 h3 h4 => ?_) (fun hno y e0 e1 e2 e3 e4 e5 e20 e21 => ?_) 200 (i + 1) _ (by omega) (by omega) (by omega) rfl rfl rfl rfl rfl rfl rfl rfl rfl rfl rfl rfl rfl (fun k' b' h1 h2 => by omega)
      · exact hk i k a b hg h1 h2 h3 h4 hp
      · simp only []
        rw [e0, e1, e2, e3, e4, e5, e20, e21, nxt (by omega)]
        refine w11_loop hv hl k0 k1 k2 R hk hn n (i + 1) (by omega) (by omega) ?_
        intro j a' k b' h1 h2 h3 h4
        by_cases hj : j = i
        · subst hj
          rw [hg] at h3
          obtain rfl := Option.some.inj h3
          exact hno k b' h2 h4
        · exact hp j a' k b' (by omega) h2 h3 h4
    · rw [decide_eq_false (show ¬ (i : Int) < (l.length : Int) by omega), br_f]
      rw [show i = l.length by omega] at hp
      exact hn hp
theorem w11_ex {l : List Rl} (hg : Good 32 l) :
    (∃ (i k : Nat) (a b : Rl), l[i]? = some a ∧ l[k]? = some b ∧ i < k ∧ pairP a b ∧ (∀ k' b, i < k' → k' < k → l[k']? = some b → ¬ pairP a b) ∧ NoPair l i ∧ w11z 200 l = some ((i : Int), (k : Int), haveZ a b, true, 0)) ∨ (NoPair l l.length ∧ w11z 200 l = some (0, 0, [], false, 0)) := by
  have hl := hg.1
  have hv : ∀ r ∈ l, VR r := fun r h => VR.of (hg.2 r h)
  unfold w11z w11 w11G
  have h29 := w29_eq l (by omega) (fun r h => by have := (hv r h).l; omega)
  rw [check_ok hl hg.2] at h29
  rw [ck_of (w29_p h29), w29_y0 h29, show decide ((0 : Int) ≠ 0) = false from rfl, br_f]
  refine w11_loop hv hl _ _ _ (fun z => (∃ (i k : Nat) (a b : Rl), l[i]? = some a ∧ l[k]? = some b ∧ i < k ∧ pairP a b ∧ (∀ k' b, i < k' → k' < k → l[k']? = some b → ¬ pairP a b) ∧ NoPair l i ∧ z.bind w11un = some ((i : Int), (k : Int), haveZ a b, true, 0)) ∨ (NoPair l l.length ∧ z.bind w11un = some (0, 0, [], false, 0))) (fun i k a b h1 h2 h3 h4 h5 h6 => ?_) (fun hno => ?_) 200 0 (by omega) (by omega) (fun j _ _ _ h => by omega)
  · exact Or.inl ⟨i, k, a, b, h1, h2, h3, h4, h5, h6, rfl⟩
  · exact Or.inr ⟨hno, rfl⟩
end Go.Proofs
/- Where no two rules contradict each other, there is a remedy. -/
namespace Go.Proofs
open Go Go.Ax Go.Ax.Alg
theorem mark_get (H : List Bool) (t : Int) (j : Nat) (hj : j < H.length) : (mark H t).getD j false = true ↔ (H.getD j false = true ∨ (0 < t ∧ (t - 1).toNat = j)) := by
  unfold mark
  by_cases h : 0 < t
  · rw [if_pos h]
    simp only [List.getD_eq_getElem?_getD, List.getElem?_set]
    by_cases e : (t - 1).toNat = j
    · rw [if_pos e, if_pos (by omega)]
      exact ⟨fun _ => Or.inr ⟨h, e⟩, fun _ => rfl⟩
    · rw [if_neg e]
      exact ⟨Or.inl, fun h => h.elim id fun h => absurd h.2 e⟩
  · rw [if_neg h]
    exact ⟨Or.inl, fun h' => h'.elim id fun h' => absurd h'.1 h⟩
theorem marks_get : ∀ (l : List Int) (H : List Bool) (j : Nat), j < H.length → ((l.foldl mark H).getD j false = true ↔ (H.getD j false = true ∨ ∃ t ∈ l, 0 < t ∧ (t - 1).toNat = j))
  | [], H, j, _ => ⟨Or.inl, fun h => h.elim id fun ⟨t, h, _⟩ => by cases h⟩
  | t :: r, H, j, hj => by
    rw [List.foldl_cons, marks_get r (mark H t) j (by rw [mark_len]; exact hj), mark_get H t j hj]
    constructor
    · rintro ((h | h) | ⟨s, hs, h⟩)
      · exact Or.inl h
      · exact Or.inr ⟨t, List.mem_cons_self, h⟩
      · exact Or.inr ⟨s, List.mem_cons_of_mem _ hs, h⟩
    · rintro (h | ⟨s, hs, h⟩)
      · exact Or.inl (Or.inl h)
      · rcases List.mem_cons.1 hs with e | hs
        · rw [e] at h; exact Or.inl (Or.inr h)
        · exact Or.inr ⟨s, hs, h⟩
theorem have_get (a b : Rl) (j : Nat) (hj : j < 16) : ((haveZ a b).getD j false = true ↔ ∃ t ∈ a.1 ++ b.1, 0 < t ∧ (t - 1).toNat = j) := by
  have h := marks_get (a.1 ++ b.1) (List.replicate 16 false) j (by rw [List.length_replicate]; exact hj)
  have e : (List.replicate 16 false).getD j false = false := by
    rw [List.getD_eq_getElem?_getD, List.getElem?_replicate, if_pos hj]; rfl
  rw [e] at h
  exact h.trans ⟨fun h => h.elim (fun h => by cases h) id, Or.inr⟩
theorem num_pos {t : Int} (h : 0 < t) : num t = t := by unfold num; omega
theorem hold_have {a b : Rl} (ha : termOk a.1) (hb : termOk b.1) {H : List Bool} (hH : ∀ t ∈ a.1 ++ b.1, holdT H t = true) {t : Int} (ht : t ∈ a.1 ++ b.1) : holdT (haveZ a b) t = true := by
  have hok : ∀ t ∈ a.1 ++ b.1, -16 ≤ t ∧ t ≤ 16 ∧ 1 ≤ num t := by
    intro t h
    rcases List.mem_append.1 h with h | h
    · exact ha t h
    · exact hb t h
  have hb := num_le (hok t ht)
  have hg := have_get a b (num t - 1).toNat (by omega)
  unfold holdT
  by_cases h : 0 < t
  · have : (haveZ a b).getD (num t - 1).toNat false = true := hg.2 ⟨t, ht, h, by rw [num_pos h]⟩
    rw [this, decide_eq_true h]; rfl
  · have : (haveZ a b).getD (num t - 1).toNat false = false := by
      cases hq : (haveZ a b).getD (num t - 1).toNat false with
      | false => rfl
      | true =>
        obtain ⟨s, hs, s0, se⟩ := hg.1 hq
        have h1 := hH s hs
        have h2 := hH t ht
        unfold holdT at h1 h2
        rw [num_pos s0, decide_eq_true s0, se] at h1
        rw [decide_eq_false h] at h2
        simp at h1 h2
        rw [h1] at h2
        exact absurd h2 (by decide)
    rw [this, decide_eq_false h]; rfl
theorem app_have {a b : Rl} (ha : termOk a.1) (hb : termOk b.1) {H : List Bool} (h1 : appB a H = true) (h2 : appB b H = true) : appB a (haveZ a b) = true ∧ appB b (haveZ a b) = true := by
  unfold appB at *
  rw [List.all_eq_true] at *
  have hH : ∀ t ∈ a.1 ++ b.1, holdT H t = true := by
    intro t h
    rcases List.mem_append.1 h with h | h
    · exact h1 t h
    · exact h2 t h
  refine ⟨fun t h => hold_have ha hb hH (List.mem_append_left _ h), ?_⟩
  rw [List.all_eq_true]
  exact fun t h => hold_have ha hb hH (List.mem_append_right _ h)
theorem lz_one (r : Rl) (H : List Bool) (d : Int) : lz [r] H d = if appB r H && decide (r.2.1 = d) then max 0 r.2.2 else 0 := rfl
theorem mz_one (r : Rl) (H : List Bool) (d : Int) : mz [r] H d = if appB r H && decide (r.2.1 = d) && decide (r.2.2 < 0) then min 9999 (-1 - r.2.2) else 9999 := rfl
theorem lz_ge (H : List Bool) : ∀ (l : List Rl) (r : Rl), r ∈ l → appB r H = true → r.2.2 ≤ lz l H r.2.1
  | s :: l, r, h, ha => by
    rw [show s :: l = [s] ++ l from rfl, lz_app]
    rcases List.mem_cons.1 h with e | h
    · subst e
      rw [lz_one, ha, decide_eq_true rfl, show (true && true) = true from rfl, if_pos rfl]; omega
    · have := lz_ge H l r h ha; omega
theorem mz_ge (H : List Bool) : ∀ (l : List Rl) (r : Rl), r ∈ l → appB r H = true → r.2.2 < 0 → mz l H r.2.1 ≤ -1 - r.2.2
  | s :: l, r, h, ha, h0 => by
    rw [show s :: l = [s] ++ l from rfl, mz_app]
    rcases List.mem_cons.1 h with e | h
    · subst e
      rw [mz_one, ha, decide_eq_true rfl, decide_eq_true h0, show (true && true && true) = true from rfl, if_pos rfl]; omega
    · have := mz_ge H l r h ha h0; omega
theorem lz_at (H : List Bool) (d : Int) : ∀ l : List Rl, lz l H d = 0 ∨ ∃ r ∈ l, appB r H = true ∧ r.2.1 = d ∧ r.2.2 = lz l H d
  | [] => Or.inl rfl
  | s :: l => by
    rw [show s :: l = [s] ++ l from rfl, lz_app, lz_one]
    have h0 := lz_pos l H d
    cases hq : appB s H && decide (s.2.1 = d) with
    | false =>
      rw [if_neg (by decide)]
      rcases lz_at H d l with h | ⟨r, hr, h1, h2, h3⟩
      · left; omega
      · right; exact ⟨r, List.mem_cons_of_mem _ hr, h1, h2, by omega⟩
    | true =>
      rw [Bool.and_eq_true, decide_eq_true_eq] at hq
      rw [if_pos rfl]
      by_cases hs : lz l H d < s.2.2
      · right; exact ⟨s, List.mem_cons_self, hq.1, hq.2, by omega⟩
      · rcases lz_at H d l with h | ⟨r, hr, h1, h2, h3⟩
        · left; omega
        · right; exact ⟨r, List.mem_cons_of_mem _ hr, h1, h2, by omega⟩
theorem mz_at (H : List Bool) (d : Int) : ∀ l : List Rl, mz l H d = 9999 ∨ ∃ r ∈ l, appB r H = true ∧ r.2.1 = d ∧ r.2.2 < 0 ∧ -1 - r.2.2 = mz l H d
  | [] => Or.inl rfl
  | s :: l => by
    rw [show s :: l = [s] ++ l from rfl, mz_app, mz_one]
    have h0 := mz_le l H d
    cases hq : appB s H && decide (s.2.1 = d) && decide (s.2.2 < 0) with
    | false =>
      rw [if_neg (by decide)]
      rcases mz_at H d l with h | ⟨r, hr, h1, h2, h3, h4⟩
      · left; omega
      · right; exact ⟨r, List.mem_cons_of_mem _ hr, h1, h2, h3, by omega⟩
    | true =>
      rw [Bool.and_eq_true, Bool.and_eq_true, decide_eq_true_eq, decide_eq_true_eq] at hq
      rw [if_pos rfl]
      by_cases hs : -1 - s.2.2 < mz l H d
      · right; exact ⟨s, List.mem_cons_self, hq.1.1, hq.1.2, hq.2, by omega⟩
      · rcases mz_at H d l with h | ⟨r, hr, h1, h2, h3, h4⟩
        · left; omega
        · right; exact ⟨r, List.mem_cons_of_mem _ hr, h1, h2, h3, by omega⟩
theorem bad_at {l : List Rl} {H : List Bool} {d : Int} (h0 : 0 ≤ d) (h3 : d < 3) (h : mz l H d < lz l H d) : badZ l H := by
  unfold badZ
  rcases (show d = 0 ∨ d = 1 ∨ d = 2 by omega) with rfl | rfl | rfl
  · exact Or.inl h
  · exact Or.inr (Or.inl h)
  · exact Or.inr (Or.inr h)
theorem bad_of_pair {l : List Rl} (hv : ∀ r ∈ l, VR r) {a b : Rl} (ha : a ∈ l) (hb : b ∈ l) (h : pairP a b) : badZ l (haveZ a b) := by
  obtain ⟨h1, h2, h3, h4, h5, h6⟩ := h
  have va := hv a ha
  refine bad_at (d := a.2.1) va.d0 va.d3 ?_
  have la := lz_ge _ l a ha h5
  have lb := lz_ge _ l b hb h6
  rw [← h1] at lb
  by_cases hab : a.2.2 ≤ b.2.2
  · have := mz_ge _ l a ha h5 (by omega); omega
  · have := mz_ge _ l b hb h6 (by omega)
    rw [← h1] at this
    omega
theorem no_bad {l : List Rl} (hv : ∀ r ∈ l, VR r) (hn : NoPair l l.length) (H : List Bool) : ¬ badZ l H := by
  have hd : ∀ d, ¬ mz l H d < lz l H d := by
    intro d h
    rcases lz_at H d l with h1 | ⟨r, hr, r1, r2, r3⟩
    · rcases mz_at H d l with h2 | ⟨s, hs, s1, s2, s3, s4⟩
      · omega
      · omega
    · have vr := hv r hr
      have := vr.a1
      rcases mz_at H d l with h2 | ⟨s, hs, s1, s2, s3, s4⟩
      · omega
      · have vs := hv s hs
        obtain ⟨i, hi⟩ := List.getElem?_of_mem hr
        obtain ⟨k, hk⟩ := List.getElem?_of_mem hs
        have hil := (List.getElem?_eq_some_iff.1 hi).1
        have hkl := (List.getElem?_eq_some_iff.1 hk).1
        rcases Nat.lt_trichotomy i k with hik | hik | hik
        · have := app_have vr.t vs.t r1 s1
          exact hn i r k s hil hik hi hk ⟨by omega, by omega, by omega, by omega, this.1, this.2⟩
        · subst hik
          rw [hi] at hk
          obtain rfl := Option.some.inj hk
          omega
        · have := app_have vs.t vr.t s1 r1
          exact hn k s i r hkl hik hk hi ⟨by omega, by omega, by omega, by omega, this.1, this.2⟩
  unfold badZ
  rintro (h | h | h)
  · exact hd _ h
  · exact hd _ h
  · exact hd _ h
theorem w4_loop {l : List Rl} (hg : Good 32 l) (hn : NoPair l l.length) {m : Int} (hm : I64 m) (c : Bool) (k0 k1 : Bool → O) (k2 : Unit → O) : ∀ (n i : Nat), 128 - i < n → i ≤ 128 → w4l0 200 n (m, c, (i : Int), l) k0 k1 k2 = k1 c
  | 0, i, h, _ => by omega
  | n + 1, i, h, hi => by
    show w4F0 200 _ _ _ m c l i = _
    unfold w4F0
    by_cases hlt : i < 128
    · obtain ⟨v, v0, v1, ev⟩ := w18_ex hm (show (1 : Int) ≤ 512 by omega) (by omega)
      rw [decide_eq_true (show (i : Int) < 128 by omega), br_t, ck_of (w18_p ev), w18_y0 ev, nxt (by omega)]
      obtain ⟨H, hH, eH⟩ := w17_ex (IntKind.i64.wrap (IntKind.i64.wrap (v * 128) + (i : Int)))
      have h16 := w16_good hg (by omega) hH
      rw [ck_of (w17_p eH), w17_y0 eH, ck_of (w16_p h16), w16_y3 h16, decide_eq_false (show ¬ ((leastZ l H).2.2.2 ≠ 0) from fun h => h (least_err.2 (no_bad (fun r h => VR.of (hg.2 r h)) hn H))), br_f]
      exact w4_loop hg hn hm c k0 k1 k2 n (i + 1) (by omega) (by omega)
    · rw [decide_eq_false (show ¬ (i : Int) < 128 by omega), br_f]
theorem w4_ur (x : Bool) : (some (w4r0 x) : O).bind w4un = some x := rfl
theorem law4 {l : List Int} (hl : ∀ x ∈ l, I64 x) {n : Int} (hn : I64 n) : w4z 200 l n = some true := by
  unfold w4z w4 w4G
  obtain ⟨a, ha, ea⟩ := w9_ex hl
  have a12 := w12_good ha (by omega)
  have hg : Good 32 a := ⟨by have := ha.1; omega, ha.2⟩
  have hv : ∀ r ∈ a, VR r := fun r h => VR.of (ha.2 r h)
  rw [ck_of (w9_p ea), w9_y0 ea, ck_of (w12_p a12), w12_y0 a12]
  rcases w11_ex hg with ⟨i, k, x, y, hi, hk, hik, hp, _, _, e⟩ | ⟨hno, e⟩
  · have hkl := (List.getElem?_eq_some_iff.1 hk).1
    have hb := bad_of_pair hv (List.mem_of_getElem? hi) (List.mem_of_getElem? hk) hp
    have h16 := w16_good hg (by omega) (have_len x y)
    have e18 : (leastZ a (haveZ x y)).2.2.2 = 18 := by unfold leastZ; rw [if_pos hb]
    rw [ck_of (w11_p e), w11_y4 e, w11_y0 e, w11_y1 e, w11_y3 e, w11_y2 e]
    simp only []
    rw [show decide ((0 : Int) ≠ 0) = false from rfl, decide_eq_false (show ¬ (i : Int) < 0 by omega), decide_eq_false (show ¬ (k : Int) < 0 by omega), show (false || false || false) = false from rfl, br_f, br_t, ck_of (w16_p h16), w16_y3 h16, e18, ck_of (Bool.or_true _), decide_eq_true rfl, decide_eq_true (show (i : Int) < (k : Int) by omega), decide_eq_true (show (k : Int) < (a.length : Int) by omega)]
    exact w4_ur true
  · rw [ck_of (w11_p e), w11_y4 e, w11_y0 e, w11_y1 e, w11_y3 e]
    simp only []
    rw [show decide ((0 : Int) ≠ 0) = false from rfl, decide_eq_false (show ¬ (0 : Int) < 0 by omega), show (false || false || false) = false from rfl, br_f, br_f]
    refine (congrArg (fun z : O => z.bind w4un) (w4_loop hg hno hn false _ _ _ 200 0 (by omega) (by omega))).trans ?_
    simp only []
    rw [ck_t]
    exact w4_ur true
end Go.Proofs
