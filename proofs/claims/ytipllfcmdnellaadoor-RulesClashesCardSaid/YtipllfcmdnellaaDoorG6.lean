/- Rules that contradict each other. Conditions are in the theorems. -/
import Derived.Test.YtipllfcmdnellaaDoorG4
/- Two rules that contradict each other. -/
namespace Go.Proofs
open Go Go.Ax Go.Ax.Alg
def pairP (a b : Rl) : Prop := a.2.1 = b.2.1 ∧ 0 ≤ max a.2.2 b.2.2 ∧ min a.2.2 b.2.2 < 0 ∧ -1 - min a.2.2 b.2.2 < max a.2.2 b.2.2 ∧ appB a (haveZ a b) = true ∧ appB b (haveZ a b) = true
theorem w11_step {l : List Rl} (hv : ∀ r ∈ l, VR r) (hl : l.length ≤ 32) {a : Rl} (ha : VR a) (k : Nat) (R : O → Prop) (self : Int → O) (k0 : List Bool → Bool → Int → Int → Int → O) (k1 : (List ((List Int) × (Int × Int))) → Bool → Int → (List ((List Int) × (Int × Int))) → Int → Int → Bool → Int → ((List Int) × (Int × Int)) → (List Int) → Int → Int → Int → Int → Int → Int → Int → (List ((List Int) × (Int × Int))) → Int → Bool → Int → Int → (List Int) → Int → Int → O) (v0 : (List ((List Int) × (Int × Int)))) (v1 : Bool) (v2 : Int) (v3 : (List ((List Int) × (Int × Int)))) (v4 : Int) (v5 : Int) (v6 : Bool) (v7 : Int) (v8 : ((List Int) × (Int × Int))) (v9 : (List Int)) (v10 : Int) (v11 : Int) (v12 : Int) (v13 : Int) (v14 : Int) (v15 : Int) (v16 : Int) (v17 : Int) (v18 : (List Int)) (v19 : Int) (v20 : Int)
    (h0 : v0 = l) (h15 : v15 = (k : Int)) (h18 : v18 = a.1) (h19 : v19 = a.2.1) (h20 : v20 = a.2.2)
    (hs : ∀ b, l[k]? = some b → ¬ pairP a b → R (self ((k + 1 : Nat) : Int))) (hk : ∀ b, l[k]? = some b → pairP a b → R (k0 (haveZ a b) true 0 v12 (k : Int))) (hn : l.length ≤ k → R (k1 v0 v1 v2 v3 v4 v5 v6 v7 v8 v9 v10 v11 v12 v13 v14 v15 v15 v0 (v0.length : Int) (decide (v15 < (v0.length : Int))) v16 v17 v18 v19 v20)) : R (w11F0 200 self k0 k1 v0 v1 v2 v3 v4 v5 v6 v7 v8 v9 v10 v11 v12 v13 v14 v16 v17 v18 v19 v20 v15) := by
 unfold w11F0
 by_cases hlt : k < l.length
 ·have hg : l[k]? = some l[k] := List.getElem?_eq_getElem hlt
  have hb := hv _ (List.mem_of_getElem? hg)
  rw [h0, h15, decide_eq_true (show (k : Int) < (l.length : Int) by omega), br_t, gx_at hg, nxt (by omega), h18, h19, h20]
  generalize hbe : l[k] = b at hg hb
  have a0 := ha.a0
  have a1 := ha.a1
  have b0 := hb.a0
  have b1 := hb.a1
  have ew : IntKind.i64.wrap (-1 - min a.2.2 b.2.2) = -1 - min a.2.2 b.2.2 := wr (by omega) (by omega)
  rw [ew]
  by_cases hc : a.2.1 = b.2.1 ∧ 0 ≤ max a.2.2 b.2.2 ∧ min a.2.2 b.2.2 < 0 ∧ -1 - min a.2.2 b.2.2 < max a.2.2 b.2.2
  ·obtain ⟨c1, c2, c3, c4⟩ := hc
   have h30 := w30_eq ha hb
   rw [decide_eq_false (show ¬ a.2.1 ≠ b.2.1 from fun h => h c1), decide_eq_false (show ¬ max a.2.2 b.2.2 < 0 by omega), decide_eq_false (show ¬ 0 ≤ min a.2.2 b.2.2 by omega), decide_eq_false (show ¬ max a.2.2 b.2.2 ≤ -1 - min a.2.2 b.2.2 by omega), show (false || false || false || false) = false from rfl, br_f, ck_of (w30_p h30), w30_y1 h30, w30_y0 h30]
   cases hq : appB a (haveZ a b) && appB b (haveZ a b) with
   | true =>
     rw [Bool.and_eq_true] at hq
     simp only []
     rw [br_t, ← h15, h15]
     exact hk b hg ⟨c1, c2, c3, c4, hq.1, hq.2⟩
   | false =>
     simp only []
     rw [br_f]
     exact hs b hg fun h => by
      obtain ⟨_, _, _, _, h5, h6⟩ := h
      rw [h5, h6] at hq
      exact absurd hq (by decide)
  ·have e : (decide (a.2.1 ≠ b.2.1) || decide (max a.2.2 b.2.2 < 0) || decide (0 ≤ min a.2.2 b.2.2) || decide (max a.2.2 b.2.2 ≤ -1 - min a.2.2 b.2.2)) = true := by
    simp only [Bool.or_eq_true, decide_eq_true_eq]
    omega
   rw [e, br_t]
   exact hs b hg fun h => hc ⟨h.1, h.2.1, h.2.2.1, h.2.2.2.1⟩
 ·have hh := hn (by omega)
  rw [h0, h15] at hh
  rw [h0, h15, decide_eq_false (show ¬ (k : Int) < (l.length : Int) by omega), br_f]
  rw [decide_eq_false (show ¬ (k : Int) < (l.length : Int) by omega)] at hh
  exact hh
abbrev S11 := ((List ((List Int) × (Int × Int))) × Bool × Int × (List ((List Int) × (Int × Int))) × Int × Int × Bool × Int × ((List Int) × (Int × Int)) × (List Int) × Int × Int × Int × Int × Int × Int × Int × Int × (List Int) × Int × Int)
abbrev Y11 := ((List ((List Int) × (Int × Int))) × Bool × Int × (List ((List Int) × (Int × Int))) × Int × Int × Bool × Int × ((List Int) × (Int × Int)) × (List Int) × Int × Int × Int × Int × Int × Int × Int × (List ((List Int) × (Int × Int))) × Int × Bool × Int × Int × (List Int) × Int × Int)
theorem w11_in {l : List Rl} (hv : ∀ r ∈ l, VR r) (hl : l.length ≤ 32) {a : Rl} (ha : VR a) (i : Nat) (c1 : Bool) (c2 c4 c6 c7 : Int) (c3 : List Rl) (k0 : List Bool × Bool × Int × Int × Int → O) (k1 : Y11 → O) (k2 : Unit → O) (R : O → Prop)
    (hk : ∀ (k : Nat) b, l[k]? = some b → i < k → pairP a b → (∀ k' b, i < k' → k' < k → l[k']? = some b → ¬ pairP a b) → R (k0 (haveZ a b, true, 0, (i : Int), (k : Int))))
    (hn : (∀ k' b, i < k' → l[k']? = some b → ¬ pairP a b) → ∀ y : Y11, y.1 = l → y.2.1 = c1 → y.2.2.1 = c2 → y.2.2.2.1 = c3 → y.2.2.2.2.1 = c4 → y.2.2.2.2.2.1 = (i : Int) → y.2.2.2.2.2.2.2.2.2.2.2.2.2.2.2.2.2.2.2.2.1 = c6 → y.2.2.2.2.2.2.2.2.2.2.2.2.2.2.2.2.2.2.2.2.2.1 = c7 → R (k1 y)) : ∀ (n k : Nat) (x : S11), l.length - k < n → i < k → k ≤ l.length → x.1 = l → x.2.1 = c1 → x.2.2.1 = c2 → x.2.2.2.1 = c3 → x.2.2.2.2.1 = c4 → x.2.2.2.2.2.1 = (i : Int) → x.2.2.2.2.2.2.2.2.2.2.2.2.1 = (i : Int) → x.2.2.2.2.2.2.2.2.2.2.2.2.2.2.2.1 = (k : Int) → x.2.2.2.2.2.2.2.2.2.2.2.2.2.2.2.2.1 = c6 → x.2.2.2.2.2.2.2.2.2.2.2.2.2.2.2.2.2.1 = c7 → x.2.2.2.2.2.2.2.2.2.2.2.2.2.2.2.2.2.2.1 = a.1 → x.2.2.2.2.2.2.2.2.2.2.2.2.2.2.2.2.2.2.2.1 = a.2.1 → x.2.2.2.2.2.2.2.2.2.2.2.2.2.2.2.2.2.2.2.2 = a.2.2 →
    (∀ k' b, i < k' → k' < k → l[k']? = some b → ¬ pairP a b) → R (w11l0 200 n x k0 k1 k2)
 | 0, k, x, h, _, _, _, _, _, _, _, _, _, _, _, _, _, _, _, _ => by omega
 | n + 1, k, x, h, hik, hkl, e0, e1, e2, e3, e4, e5, e12, e15, e16, e17, e18, e19, e20, hb => by
   refine w11_step hv hl ha k R (fun v0 => w11l0 200 n (x.1, x.2.1, x.2.2.1, x.2.2.2.1, x.2.2.2.2.1, x.2.2.2.2.2.1, x.2.2.2.2.2.2.1, x.2.2.2.2.2.2.2.1, x.2.2.2.2.2.2.2.2.1, x.2.2.2.2.2.2.2.2.2.1, x.2.2.2.2.2.2.2.2.2.2.1, x.2.2.2.2.2.2.2.2.2.2.2.1, x.2.2.2.2.2.2.2.2.2.2.2.2.1, x.2.2.2.2.2.2.2.2.2.2.2.2.2.1, x.2.2.2.2.2.2.2.2.2.2.2.2.2.2.1, v0, x.2.2.2.2.2.2.2.2.2.2.2.2.2.2.2.2.1, x.2.2.2.2.2.2.2.2.2.2.2.2.2.2.2.2.2.1, x.2.2.2.2.2.2.2.2.2.2.2.2.2.2.2.2.2.2.1, x.2.2.2.2.2.2.2.2.2.2.2.2.2.2.2.2.2.2.2.1, x.2.2.2.2.2.2.2.2.2.2.2.2.2.2.2.2.2.2.2.2) k0 k1 k2) (fun y0 y1 y2 y3 y4 => k0 (y0, y1, y2, y3, y4)) (fun y0 y1 y2 y3 y4 y5 y6 y7 y8 y9 y10 y11 y12 y13 y14 y15 y16 y17 y18 y19 y20 y21 y22 y23 y24 => k1 (y0, y1, y2, y3, y4, y5, y6, y7, y8, y9, y10, y11, y12, y13, y14, y15, y16, y17, y18, y19, y20, y21, y22, y23, y24)) x.1 x.2.1 x.2.2.1 x.2.2.2.1 x.2.2.2.2.1 x.2.2.2.2.2.1 x.2.2.2.2.2.2.1 x.2.2.2.2.2.2.2.1 x.2.2.2.2.2.2.2.2.1 x.2.2.2.2.2.2.2.2.2.1 x.2.2.2.2.2.2.2.2.2.2.1 x.2.2.2.2.2.2.2.2.2.2.2.1 x.2.2.2.2.2.2.2.2.2.2.2.2.1 x.2.2.2.2.2.2.2.2.2.2.2.2.2.1 x.2.2.2.2.2.2.2.2.2.2.2.2.2.2.1 x.2.2.2.2.2.2.2.2.2.2.2.2.2.2.2.1 x.2.2.2.2.2.2.2.2.2.2.2.2.2.2.2.2.1 x.2.2.2.2.2.2.2.2.2.2.2.2.2.2.2.2.2.1 x.2.2.2.2.2.2.2.2.2.2.2.2.2.2.2.2.2.2.1 x.2.2.2.2.2.2.2.2.2.2.2.2.2.2.2.2.2.2.2.1 x.2.2.2.2.2.2.2.2.2.2.2.2.2.2.2.2.2.2.2.2 e0 e15 e18 e19 e20 (fun b hb1 hb2 => ?_) (fun b hb1 hb2 => ?_) (fun hlk => ?_)
   ·have hkl2 := (List.getElem?_eq_some_iff.1 hb1).1
    refine w11_in hv hl ha i c1 c2 c4 c6 c7 c3 k0 k1 k2 R hk hn n (k + 1) _ (by omega) (by omega) (by omega) e0 e1 e2 e3 e4 e5 e12 rfl e16 e17 e18 e19 e20 ?_
    intro k' b' h1 h2 h3
    by_cases hk' : k' = k
    ·subst hk'
     rw [hb1] at h3
     obtain rfl := Option.some.inj h3
     exact hb2
    ·exact hb k' b' h1 (by omega) h3
   ·have := hk k b hb1 hik hb2 hb
    rw [e12]
    exact this
   ·refine hn (fun k' b' h1 h3 => hb k' b' h1 ?_ h3) _ e0 e1 e2 e3 e4 e5 e16 e17
    have := (List.getElem?_eq_some_iff.1 h3).1
    omega
def NoPair (l : List Rl) (i : Nat) : Prop := ∀ j a k b, j < i → j < k → l[j]? = some a → l[k]? = some b → ¬ pairP a b
theorem w11_loop {l : List Rl} (hv : ∀ r ∈ l, VR r) (hl : l.length ≤ 32) (k0 : List Bool × Bool × Int × Int × Int → O) (k1 : Bool × Int × Int × Int → O) (k2 : Unit → O) (R : O → Prop)
    (hk : ∀ (i k : Nat) a b, l[i]? = some a → l[k]? = some b → i < k → pairP a b → (∀ k' b, i < k' → k' < k → l[k']? = some b → ¬ pairP a b) → NoPair l i → R (k0 (haveZ a b, true, 0, (i : Int), (k : Int))))
    (hn : NoPair l l.length → R (k1 (false, 0, 0, 0))) : ∀ (n i : Nat), l.length - i < n → i ≤ l.length → NoPair l i → R (w11l1 200 n (l, false, 0, l, (l.length : Int), (i : Int), 0, 0) k0 k1 k2)
 | 0, i, h, _, _ => by omega
 | n + 1, i, h, hi, hp => by
   show R (w11F1 200 (w11n0 200) (fun v0 v1 v2 v3 v4 v5 v6 v7 => w11l1 200 n (v0, v1, v2, v3, v4, v5, v6, v7) k0 k1 k2) (fun y0 y1 y2 y3 y4 => k0 (y0, y1, y2, y3, y4)) (fun y0 y1 y2 y3 => k1 (y0, y1, y2, y3)) l false 0 l l.length i 0 0)
   unfold w11F1
   by_cases hlt : i < l.length
   ·have hg : l[i]? = some l[i] := List.getElem?_eq_getElem hlt
    have ha := hv _ (List.mem_of_getElem? hg)
    rw [decide_eq_true (show (i : Int) < (l.length : Int) by omega), br_t, gx_at hg, nxt (by omega)]
    generalize l[i] = a at hg ha
    refine w11_in hv hl ha i false 0 l.length 0 0 l _ _ _ R (fun k b h1 h2 h3 h4 => ?_) (fun hno y e0 e1 e2 e3 e4 e5 e20 e21 => ?_) 200 (i + 1) _ (by omega) (by omega) (by omega) rfl rfl rfl rfl rfl rfl rfl rfl rfl rfl rfl rfl rfl (fun k' b' h1 h2 => by omega)
    ·exact hk i k a b hg h1 h2 h3 h4 hp
    ·simp only []
     rw [e0, e1, e2, e3, e4, e5, e20, e21, nxt (by omega)]
     refine w11_loop hv hl k0 k1 k2 R hk hn n (i + 1) (by omega) (by omega) ?_
     intro j a' k b' h1 h2 h3 h4
     by_cases hj : j = i
     ·subst hj
      rw [hg] at h3
      obtain rfl := Option.some.inj h3
      exact hno k b' h2 h4
     ·exact hp j a' k b' (by omega) h2 h3 h4
   ·rw [decide_eq_false (show ¬ (i : Int) < (l.length : Int) by omega), br_f]
    rw [show i = l.length by omega] at hp
    exact hn hp
theorem w11_ex {l : List Rl} (hg : Good 32 l) :
    (∃ (i k : Nat) (a b : Rl), l[i]? = some a ∧ l[k]? = some b ∧ i < k ∧ pairP a b ∧ (∀ k' b, i < k' → k' < k → l[k']? = some b → ¬ pairP a b) ∧ NoPair l i ∧ w11z 200 l = some ((i : Int), (k : Int), haveZ a b, true, 0)) ∨ (NoPair l l.length ∧ w11z 200 l = some (0, 0, [], false, 0)) := by
 have hl := hg.1
 have hv : ∀ r ∈ l, VR r := fun r h => VR.of (hg.2 r h)
 unfold w11z w11 w11G
 have h29 := w29_eq l (by omega) (fun r h => by have := (hv r h).l; omega)
 rw [check_ok hl hg.2] at h29
 rw [ck_of (w29_p h29), w29_y0 h29, show decide ((0 : Int) ≠ 0) = false from rfl, br_f]
 refine w11_loop hv hl _ _ _ (fun z => (∃ (i k : Nat) (a b : Rl), l[i]? = some a ∧ l[k]? = some b ∧ i < k ∧ pairP a b ∧ (∀ k' b, i < k' → k' < k → l[k']? = some b → ¬ pairP a b) ∧ NoPair l i ∧ z.bind w11un = some ((i : Int), (k : Int), haveZ a b, true, 0)) ∨ (NoPair l l.length ∧ z.bind w11un = some (0, 0, [], false, 0))) (fun i k a b h1 h2 h3 h4 h5 h6 => ?_) (fun hno => ?_) 200 0 (by omega) (by omega) (fun j _ _ _ h => by omega)
 ·exact Or.inl ⟨i, k, a, b, h1, h2, h3, h4, h5, h6, rfl⟩
 ·exact Or.inr ⟨hno, rfl⟩
end Go.Proofs
/- Where no two rules contradict each other, there is a remedy. -/
namespace Go.Proofs
open Go Go.Ax Go.Ax.Alg
end Go.Proofs
