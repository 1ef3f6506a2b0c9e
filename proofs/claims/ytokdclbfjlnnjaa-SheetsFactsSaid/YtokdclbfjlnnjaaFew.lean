/- Plain laws: what Split returns passes Check, and as many spans that are apart need as many windows. -/
import Derived.Test.YtokdclbfjlnnjaaA1
namespace Go.Proofs.Ytokdclbfjlnnjaa
open Go.RowKit

/-- What holds of the windows and the pins round by round. -/
structure Greedy (l : List (Int × Int)) (wd : Int) (at_ pins : List Int) : Prop where
  len : pins.length = at_.length
  pin : ∀ (i : Nat) (p : Int), pins[i]? = some p → 0 ≤ p ∧ p < l.length ∧ at_[i]? = some (l.getD p.toNat (0, 0)).1
  far : ∀ (k i : Nat) (x p : Int), k < i → at_[k]? = some x → pins[i]? = some p → x < (l.getD p.toNat (0, 0)).1 ∧ x + wd < (l.getD p.toNat (0, 0)).2
  later : ∀ x ∈ at_, ∀ i p, unc l at_ wd i = some p → x ≤ p.1

theorem covB_mem {p : Int × Int} {at_ : List Int} {wd x : Int} (h : covB p at_ wd = false) (hx : x ∈ at_) : inB p x wd = false := by
  unfold covB at h
  have := List.any_eq_false.1 h x hx
  simpa using this
theorem pinLoop_spec {l : List (Int × Int)} {at_ : List Int} {wd : Int} : Least (unc l at_ wd) (fun _ => true) (pinLoop l at_ wd l.length (-1)) :=
  pinLoop_least l at_ wd l.length (-1) (Nat.le_refl _) (.inl ⟨rfl, fun i p hp => by have := (unc_some hp).2.1; simp; omega⟩)

theorem greedy_step {l : List (Int × Int)} {wd : Int} (hw : l.any (wideP wd) = false) (hb : l.any badP = false) {at_ pins : List Int} (h : Greedy l wd at_ pins) :
    Greedy l wd (rStep l wd (at_, pins)).1 (rStep l wd (at_, pins)).2 := by
  unfold rStep
  simp only []
  rcases pinLoop_spec (l := l) (at_ := at_) (wd := wd) with ⟨e, _⟩ | ⟨h0, q, hq, _, hm⟩
  · rw [e]; simpa using h
  generalize pinLoop l at_ wd l.length (-1) = pin at *
  rw [if_pos h0]
  obtain ⟨_, hlt, hgq, hcov⟩ := unc_some hq
  have hgd : l.getD pin.toNat (0, 0) = q := by simp [List.getD, hgq]
  have hwq : q.2 - q.1 ≤ wd := by
    have := List.any_eq_false.1 hw q (List.mem_of_getElem? hgq)
    simpa [wideP] using this
  have hbq : 0 ≤ q.1 ∧ q.1 ≤ q.2 := by
    have := List.any_eq_false.1 hb q (List.mem_of_getElem? hgq)
    simp [badP] at this; omega
  have hnew : ∀ x ∈ at_, x < q.1 ∧ x + wd < q.2 := fun x hx => by
    have h1 := h.later x hx pin q hq
    have h2 := covB_mem hcov hx
    simp [inB] at h2
    have := h2 h1
    omega
  simp only [hgd]
  refine ⟨by simp [h.len], fun i p hi => ?_, fun k i x p hki hk hi => ?_, fun x hx i p hp => ?_⟩
  · rcases Nat.lt_or_ge i pins.length with hl | hl
    · rw [List.getElem?_append_left hl] at hi
      obtain ⟨a1, a2, a3⟩ := h.pin i p hi
      exact ⟨a1, a2, by rw [List.getElem?_append_left (by rw [← h.len]; exact hl)]; exact a3⟩
    · rw [List.getElem?_append_right hl] at hi
      have hz : i - pins.length = 0 := by
        have := (List.getElem?_eq_some_iff.1 hi).1
        simp at this; omega
      rw [hz] at hi
      simp at hi
      subst hi
      refine ⟨h0, hlt, ?_⟩
      rw [List.getElem?_append_right (by rw [← h.len]; exact hl), ← h.len, hz]
      simp [hgq, List.getD]
  · have hil : i < (pins ++ [pin]).length := (List.getElem?_eq_some_iff.1 hi).1
    simp at hil
    have hkl : k < at_.length := by have := h.len; omega
    rw [List.getElem?_append_left hkl] at hk
    rcases Nat.lt_or_ge i pins.length with hl | hl
    · rw [List.getElem?_append_left hl] at hi
      exact h.far k i x p hki hk hi
    · rw [List.getElem?_append_right hl] at hi
      have hz : i - pins.length = 0 := by omega
      rw [hz] at hi
      simp at hi
      subst hi
      rw [hgd]
      exact hnew x (List.mem_of_getElem? hk)
  · obtain ⟨u1, u2, u3, u4⟩ := unc_some hp
    rw [covB_snoc, Bool.or_eq_false_iff] at u4
    have hp' : unc l at_ wd i = some p := by unfold unc liI; rw [if_pos u1, u3]; simp [Option.filter, u4.1]
    rcases List.mem_append.1 hx with h1 | h1
    · exact h.later x h1 i p hp'
    · obtain rfl : x = q.1 := by simpa using h1
      have := hm i p hp' rfl
      omega

theorem greedy_rounds {l : List (Int × Int)} {wd : Int} (hw : l.any (wideP wd) = false) (hb : l.any badP = false) : ∀ (k : Nat) (at_ pins : List Int), Greedy l wd at_ pins →
    Greedy l wd (rRounds l wd k (at_, pins)).1 (rRounds l wd k (at_, pins)).2
  | 0, _, _, h => h
  | k + 1, at_, pins, h => by
    unfold rRounds
    exact greedy_rounds hw hb k _ _ (greedy_step hw hb h)

theorem uncN_step {l : List (Int × Int)} {wd : Int} (hw : l.any (wideP wd) = false) (at_ pins : List Int) : uncN l (rStep l wd (at_, pins)).1 wd ≤ uncN l at_ wd - 1 := by
  unfold rStep
  simp only []
  rcases pinLoop_spec (l := l) (at_ := at_) (wd := wd) with ⟨e, hno⟩ | ⟨h0, q, hq, _, hm⟩
  · rw [e]
    have : uncN l at_ wd = 0 := by
      unfold uncN
      rw [List.length_eq_zero_iff, List.filter_eq_nil_iff]
      intro a ha hc
      obtain ⟨j, hj, rfl⟩ := List.getElem_of_mem ha
      have := hno j l[j] (by unfold unc liI; simp [hj, Option.filter]; simpa using hc)
      cases this
    simp [this]
  · generalize pinLoop l at_ wd l.length (-1) = pin at *
    rw [if_pos h0]
    obtain ⟨_, hlt, hgq, hcov⟩ := unc_some hq
    have hgd : l.getD pin.toNat (0, 0) = q := by simp [List.getD, hgq]
    have hwq : q.2 - q.1 ≤ wd := by
      have := List.any_eq_false.1 hw q (List.mem_of_getElem? hgq)
      simpa [wideP] using this
    rw [hgd]
    have := uncN_lt (x := q.1) (List.mem_of_getElem? hgq) hcov (by simp [inB]; omega)
    simp only []
    omega
theorem uncN_rounds {l : List (Int × Int)} {wd : Int} (hw : l.any (wideP wd) = false) : ∀ (k : Nat) (at_ pins : List Int), uncN l (rRounds l wd k (at_, pins)).1 wd ≤ uncN l at_ wd - k
  | 0, _, _ => Nat.le_refl _
  | k + 1, at_, pins => by
    unfold rRounds
    have h1 := uncN_rounds hw k (rStep l wd (at_, pins)).1 (rStep l wd (at_, pins)).2
    have h2 := uncN_step hw at_ pins
    have e : ((rStep l wd (at_, pins)).1, (rStep l wd (at_, pins)).2) = rStep l wd (at_, pins) := rfl
    rw [e] at h1
    omega

theorem wrap_in {x : Int} (h : -9223372036854775808 ≤ x ∧ x ≤ 9223372036854775807) : wrap64 x = x := by unfold wrap64; omega

/-- What Split returns is right. -/
theorem split_right {l : List (Int × Int)} {wd : Int} (h : fitsE l wd = 0) : Greedy l wd (rSplit l wd).1 (rSplit l wd).2.1 ∧ Right l wd (rSplit l wd).1 (rSplit l wd).2.1 := by
  obtain ⟨f1, f2, f3, f4, f5⟩ := fits_ok h
  have e : rSplit l wd = ((rRounds l wd l.length ([], [])).1, (rRounds l wd l.length ([], [])).2, 0) := by unfold rSplit; rw [if_pos h]
  have hG := greedy_rounds f5 f4 l.length [] [] ⟨rfl, fun i p hi => by simp at hi, fun k i x p _ hk => by simp at hk, fun x hx => by simp at hx⟩
  have hU := uncN_rounds f5 l.length [] []
  rw [uncN_nil] at hU
  rw [e]
  simp only []
  generalize (rRounds l wd l.length ([], [])).1 = at_ at *
  generalize (rRounds l wd l.length ([], [])).2 = pins at *
  have hpd : ∀ i, i < pins.length → pins[i]? = some (pins.getD i 0) := fun i hi => by simp [List.getD, hi]
  have hlg : ∀ p : Int, 0 ≤ p → p < l.length → l.getD p.toNat (0, 0) ∈ l := fun p h0 h1 => by
    have : p.toNat < l.length := by omega
    simp [List.getD, this]
  have hbnd : ∀ x ∈ at_, 0 ≤ x ∧ x ≤ 1000 := fun x hx => by
    obtain ⟨i, hi, rfl⟩ := List.getElem_of_mem hx
    obtain ⟨a1, a2, a3⟩ := hG.pin i _ (hpd i (by have := hG.len; omega))
    rw [List.getElem?_eq_getElem hi] at a3
    have hm := hlg _ a1 a2
    have := List.any_eq_false.1 f4 _ hm
    simp [badP] at this
    simp only [Option.some.injEq] at a3
    rw [a3]
    simp only [List.getD] at *
    omega
  refine ⟨hG, hG.len.symm, fun s hs => ?_, fun i hi => ?_, fun i hi k hk => ?_⟩
  · have h0 : covB s at_ wd = true := by
      cases hc : covB s at_ wd with
      | true => rfl
      | false =>
        exfalso
        have : 0 < uncN l at_ wd := List.length_pos_of_mem (List.mem_filter.2 ⟨hs, by simp [hc]⟩)
        omega
    unfold covB at h0
    obtain ⟨x, hx, hin⟩ := List.any_eq_true.1 h0
    refine List.any_eq_true.2 ⟨x, hx, ?_⟩
    have := hbnd x hx
    unfold inW
    rw [wrap_in (by omega)]
    exact hin
  · obtain ⟨a1, a2, a3⟩ := hG.pin i _ (hpd i hi)
    unfold pinOk
    have hc : (decide (i = 0) || decide (at_.getD (i - 1) 0 < at_.getD i 0)) = true := by
      rcases Nat.eq_zero_or_pos i with h0 | h0
      · simp [h0]
      · have hlt : i - 1 < at_.length := by have := hG.len; omega
        have := (hG.far (i - 1) i at_[i - 1] _ (by omega) (List.getElem?_eq_getElem hlt) (hpd i hi)).1
        have e1 : at_.getD i 0 = (l.getD (pins.getD i 0).toNat (0, 0)).1 := by rw [List.getD, a3]; rfl
        have e2 : at_.getD (i - 1) 0 = at_[i - 1] := by simp [List.getD, hlt]
        rw [e1, e2]
        simp only [Bool.or_eq_true, decide_eq_true_eq]
        exact .inr this
    rw [hc]
    simp only [a1, a2, decide_true, Bool.and_self]
  · obtain ⟨a1, a2, a3⟩ := hG.pin k _ (hpd k (by omega))
    have := (hG.far k i _ _ hk a3 (hpd i hi)).2
    unfold apOk apartB
    rw [decide_eq_true_eq]
    omega

/-- k spans of l that are apart from one another. -/
def Packs (l : List (Int × Int)) (wd : Int) (k : Nat) : Prop := ∃ P : List (Int × Int), k ≤ P.length ∧ P.Pairwise (fun p q => apartB p q wd = true) ∧ ∀ p ∈ P, p ∈ l
end Go.Proofs.Ytokdclbfjlnnjaa
