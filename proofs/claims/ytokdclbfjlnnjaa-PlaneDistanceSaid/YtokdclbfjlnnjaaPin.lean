/- Plain law: the greatest-first search for a pin finds the least element that is not covered. -/
import Derived.Test.YtokdclbfjlnnjaaS3
namespace Go.Proofs.Ytokdclbfjlnnjaa

def liI (l : List (Int × Int)) (i : Int) : Option (Int × Int) := if 0 ≤ i then l[i.toNat]? else none
/-- The elements that no window of at_ covers. -/
def unc (l : List (Int × Int)) (at_ : List Int) (wd : Int) (i : Int) : Option (Int × Int) := (liI l i).filter fun p => !covB p at_ wd

/-- pin is the least of f, by X and then by number, among those that see says. -/
def Least (f : Int → Option (Int × Int)) (see : Int → Bool) (pin : Int) : Prop :=
  (pin = -1 ∧ ∀ i p, f i = some p → see i = false) ∨
  (0 ≤ pin ∧ ∃ q, f pin = some q ∧ see pin = true ∧ ∀ i p, f i = some p → see i = true → q.1 < p.1 ∨ (q.1 = p.1 ∧ pin ≤ i))

theorem unc_some {l : List (Int × Int)} {at_ : List Int} {wd i : Int} {p : Int × Int} (h : unc l at_ wd i = some p) : 0 ≤ i ∧ i < l.length ∧ l[i.toNat]? = some p ∧ covB p at_ wd = false := by
  unfold unc liI at h
  split at h
  · rename_i h0
    simp only [Option.filter_eq_some_iff] at h
    obtain ⟨h1, h2⟩ := h
    have := (List.getElem?_eq_some_iff.1 h1).1
    exact ⟨h0, by omega, h1, by simpa using h2⟩
  · simp at h

theorem Least.uniq {f : Int → Option (Int × Int)} {see : Int → Bool} {a b : Int} (ha : Least f see a) (hb : Least f see b) : a = b := by
  rcases ha with ⟨rfl, h1⟩ | ⟨h0, q, hq, hs, hm⟩
  · rcases hb with ⟨rfl, _⟩ | ⟨_, q, hq, hs, _⟩
    · rfl
    · rw [h1 b q hq] at hs; cases hs
  · rcases hb with ⟨rfl, h2⟩ | ⟨_, q', hq', hs', hm'⟩
    · rw [h2 a q hq] at hs; cases hs
    · have h1 := hm b q' hq' hs'
      have h2 := hm' a q hq hs
      omega

theorem pinLoop_least (l : List (Int × Int)) (at_ : List Int) (wd : Int) : ∀ (k : Nat) (p : Int), k ≤ l.length → Least (unc l at_ wd) (fun i => decide ((k : Int) ≤ i)) p →
    Least (unc l at_ wd) (fun _ => true) (pinLoop l at_ wd k p) := by
  intro k
  induction k with
  | zero =>
    intro p _ h
    unfold pinLoop
    rcases h with ⟨rfl, h⟩ | ⟨h0, q, hq, _, hm⟩
    · refine .inl ⟨rfl, fun i p hp => ?_⟩
      have h1 := h i p hp
      have h2 := (unc_some hp).1
      simp at h1
      omega
    · refine .inr ⟨h0, q, hq, rfl, fun i p hp _ => hm i p hp ?_⟩
      have h2 := (unc_some hp).1
      simpa using h2
  | succ k ih =>
    intro p hk h
    unfold pinLoop
    refine ih _ (by omega) ?_
    have hkl : k < l.length := by omega
    have hgd : l.getD k (0, 0) = l[k] := by simp [List.getD, hkl]
    have hstep : ∀ i q, unc l at_ wd i = some q → decide ((k : Int) ≤ i) = true → i = k ∨ decide (((k + 1 : Nat) : Int) ≤ i) = true := by
      intro i q _ h1
      simp at h1 ⊢
      omega
    unfold pinStep
    rw [hgd]
    cases hc : covB l[k] at_ wd with
    | true =>
      simp only [Bool.not_true, Bool.false_and, Bool.false_eq_true, if_false]
      have hno : ∀ q, unc l at_ wd (k : Int) ≠ some q := by
        intro q hq
        obtain ⟨_, _, h1, h2⟩ := unc_some hq
        simp [hkl] at h1
        rw [← h1] at h2
        rw [h2] at hc; cases hc
      rcases h with ⟨rfl, h⟩ | ⟨h0, q, hq, hs, hm⟩
      · refine .inl ⟨rfl, fun i p hp => ?_⟩
        have h1 := h i p hp
        simp at h1 ⊢
        have : i ≠ k := fun e => hno p (e ▸ hp)
        omega
      · refine .inr ⟨h0, q, hq, by simp at hs ⊢; omega, fun i p hp hs' => hm i p hp ?_⟩
        rcases hstep i p hp hs' with h | h
        · exact absurd (h ▸ hp) (hno p)
        · exact h
    | false =>
      have hk' : unc l at_ wd (k : Int) = some l[k] := by
        unfold unc liI
        simp [hkl, hc]
      simp only [Bool.not_false, Bool.true_and]
      rcases h with ⟨rfl, h⟩ | ⟨h0, q, hq, hs, hm⟩
      · simp only [Int.reduceNeg, Int.reduceLT, decide_true, Bool.true_or, if_true]
        refine .inr ⟨by omega, _, hk', by simp, fun i p hp hs' => ?_⟩
        rcases hstep i p hp hs' with h1 | h1
        · subst h1; rw [hk'] at hp; cases hp; omega
        · have := h i p hp; simp at this h1; omega
      · obtain ⟨_, hlt, hgq, _⟩ := unc_some hq
        have hgp : l.getD p.toNat (0, 0) = q := by simp [List.getD, hgq]
        rw [hgp]
        have hd : decide (p < 0) = false := by simp; omega
        simp only [hd, Bool.false_or]
        by_cases hle : l[k].1 ≤ q.1
        · rw [if_pos (by simpa using hle)]
          refine .inr ⟨by omega, _, hk', by simp, fun i p' hp hs' => ?_⟩
          rcases hstep i p' hp hs' with h1 | h1
          · subst h1; rw [hk'] at hp; cases hp; omega
          · have := hm i p' hp h1
            simp at h1
            omega
        · rw [if_neg (by simpa using hle)]
          refine .inr ⟨h0, q, hq, by simp at hs ⊢; omega, fun i p' hp hs' => ?_⟩
          rcases hstep i p' hp hs' with h1 | h1
          · subst h1; rw [hk'] at hp; cases hp; omega
          · exact hm i p' hp h1

theorem pinLoop_eq {l : List (Int × Int)} {at_ : List Int} {wd pin : Int} (h : Least (unc l at_ wd) (fun _ => true) pin) : pinLoop l at_ wd l.length (-1) = pin := by
  refine (pinLoop_least l at_ wd l.length (-1) (Nat.le_refl _) (.inl ⟨rfl, fun i p hp => ?_⟩)).uniq h
  have := (unc_some hp).2.1
  simp; omega

theorem covB_snoc (p : Int × Int) (at_ : List Int) (x wd : Int) : covB p (at_ ++ [x]) wd = (covB p at_ wd || inB p x wd) := by simp [covB]

/-- How many are not covered. -/
def uncN (l : List (Int × Int)) (at_ : List Int) (wd : Int) : Nat := (l.filter fun p => !covB p at_ wd).length

theorem filter_le {α : Type} {f g : α → Bool} (h : ∀ a, g a = true → f a = true) : ∀ l : List α, (l.filter g).length ≤ (l.filter f).length
  | [] => Nat.le_refl _
  | a :: l => by
    have ih := filter_le h l
    have ha := h a
    simp only [List.filter_cons]
    cases hg : g a <;> cases hf : f a <;> simp_all <;> omega
theorem filter_lt {α : Type} {f g : α → Bool} (h : ∀ a, g a = true → f a = true) {p : α} (h1 : f p = true) (h2 : g p = false) : ∀ l : List α, p ∈ l → (l.filter g).length < (l.filter f).length
  | [], hp => by cases hp
  | a :: l, hp => by
    have hle := filter_le h l
    rcases List.mem_cons.1 hp with e | e
    · subst e
      simp only [List.filter_cons, h1, h2]
      simp; omega
    · have ih := filter_lt h h1 h2 l e
      have ha := h a
      simp only [List.filter_cons]
      cases hg : g a <;> cases hf : f a <;> simp_all <;> omega
theorem uncN_lt {l : List (Int × Int)} {at_ : List Int} {wd x : Int} {p : Int × Int} (hp : p ∈ l) (h1 : covB p at_ wd = false) (h2 : inB p x wd = true) : uncN l (at_ ++ [x]) wd < uncN l at_ wd :=
  filter_lt (fun a ha => by rw [covB_snoc] at ha; cases hc : covB a at_ wd <;> simp_all) (by simp [h1]) (by rw [covB_snoc, h2]; simp) l hp

theorem uncN_nil (l : List (Int × Int)) (wd : Int) : uncN l [] wd = l.length := by
  unfold uncN
  rw [List.filter_eq_self.2]
  intro a _
  simp [covB]
theorem uncN_pos {l : List (Int × Int)} {at_ : List Int} {wd i : Int} {p : Int × Int} (h : unc l at_ wd i = some p) : 0 < uncN l at_ wd := by
  obtain ⟨_, _, h1, h2⟩ := unc_some h
  unfold uncN
  exact List.length_pos_of_mem (List.mem_filter.2 ⟨List.mem_of_getElem? h1, by simp [h2]⟩)
theorem rRounds_stuck {l : List (Int × Int)} {wd : Int} {at_ pins : List Int} (h : ∀ i, unc l at_ wd i = none) : ∀ k, rRounds l wd k (at_, pins) = (at_, pins) := by
  have hp : pinLoop l at_ wd l.length (-1) = -1 := pinLoop_eq (.inl ⟨rfl, fun i p hp => by rw [h i] at hp; cases hp⟩)
  intro k
  induction k with
  | zero => rfl
  | succ k ih => unfold rRounds rStep; simp only [hp]; simpa using ih
end Go.Proofs.Ytokdclbfjlnnjaa
