/- Plain law: windows of moved spans. -/
import Derived.Test.YtokdclbfjlnnjaaA1
namespace Go.Proofs.Ytokdclbfjlnnjaa

def sh (n : Int) (l : List (Int × Int)) : List (Int × Int) := l.map fun p => (p.1 + n, p.2 + n)
def shI (n : Int) (l : List Int) : List Int := l.map (· + n)
/-- Spans within 0 to 110, and a distance of at most 800. -/
def Small (l : List (Int × Int)) : Prop := ∀ p ∈ l, 0 ≤ p.1 ∧ p.1 ≤ p.2 ∧ p.2 ≤ 200

theorem fits_sh {l : List (Int × Int)} {n wd : Int} (h : Small l) (h0 : 0 ≤ n) (h1 : n ≤ 800) : fitsE (sh n l) wd = fitsE l wd := by
  have b1 : l.any badP = false := List.any_eq_false.2 fun p hp => by have := h p hp; simp [badP]; omega
  have b2 : (sh n l).any badP = false := List.any_eq_false.2 fun p hp => by
    obtain ⟨q, hq, rfl⟩ := List.mem_map.1 hp
    have := h q hq; simp [badP]; omega
  have b3 : (sh n l).any (wideP wd) = l.any (wideP wd) := by
    unfold sh
    rw [List.any_map]
    congr 1
    funext p
    simp only [Function.comp, wideP]
    rw [decide_eq_decide]; omega
  unfold fitsE
  rw [b1, b2, b3]
  simp [sh]
theorem cov_sh (p : Int × Int) (at_ : List Int) (n wd : Int) : covB (p.1 + n, p.2 + n) (shI n at_) wd = covB p at_ wd := by
  unfold covB shI
  rw [List.any_map]
  congr 1
  funext x
  simp only [Function.comp, inB]
  congr 1 <;> rw [decide_eq_decide] <;> omega
theorem sh_getD (l : List (Int × Int)) (n : Int) (i : Nat) (h : i < l.length) : (sh n l).getD i (0, 0) = ((l.getD i (0, 0)).1 + n, (l.getD i (0, 0)).2 + n) := by
  simp [sh, List.getD, h]
theorem pinStep_lt {l : List (Int × Int)} {at_ : List Int} {wd : Int} {i : Nat} {pin : Int} (hi : i < l.length) (hp : pin < l.length) : pinStep l at_ wd i pin < l.length := by
  unfold pinStep; split <;> omega
theorem pinStep_sh {l : List (Int × Int)} {at_ : List Int} {n wd : Int} {i : Nat} {pin : Int} (hi : i < l.length) (hp : pin < l.length) : pinStep (sh n l) (shI n at_) wd i pin = pinStep l at_ wd i pin := by
  unfold pinStep
  rw [sh_getD l n i hi]
  simp only [cov_sh]
  by_cases h : pin < 0
  · simp [h]
  · rw [sh_getD l n pin.toNat (by omega)]
    have : decide ((l.getD i (0, 0)).1 + n ≤ (l.getD pin.toNat (0, 0)).1 + n) = decide ((l.getD i (0, 0)).1 ≤ (l.getD pin.toNat (0, 0)).1) := by rw [decide_eq_decide]; omega
    simp only [this]
theorem pinLoop_sh {l : List (Int × Int)} {at_ : List Int} {n wd : Int} : ∀ (i : Nat) (pin : Int), i ≤ l.length → pin < l.length → pinLoop (sh n l) (shI n at_) wd i pin = pinLoop l at_ wd i pin ∧ pinLoop l at_ wd i pin < l.length
  | 0, pin, _, h2 => ⟨rfl, h2⟩
  | i + 1, pin, h1, h2 => by
    unfold pinLoop
    rw [pinStep_sh (by omega) h2]
    exact pinLoop_sh i _ (by omega) (pinStep_lt (by omega) h2)
theorem rStep_sh {l : List (Int × Int)} {n wd : Int} (at_ pins : List Int) (hl : 0 < l.length) : rStep (sh n l) wd (shI n at_, pins) = (shI n (rStep l wd (at_, pins)).1, (rStep l wd (at_, pins)).2) := by
  have e : (sh n l).length = l.length := by simp [sh]
  obtain ⟨h1, h2⟩ := pinLoop_sh (n := n) (at_ := at_) (wd := wd) (l := l) l.length (-1) (Nat.le_refl _) (by omega)
  unfold rStep
  simp only [e, h1]
  split
  · rename_i h
    rw [sh_getD l n _ (by omega)]
    simp [shI]
  · rfl
theorem rRounds_sh {l : List (Int × Int)} {n wd : Int} (hl : 0 < l.length) : ∀ (k : Nat) (at_ pins : List Int), rRounds (sh n l) wd k (shI n at_, pins) = (shI n (rRounds l wd k (at_, pins)).1, (rRounds l wd k (at_, pins)).2)
  | 0, _, _ => rfl
  | k + 1, at_, pins => by
    unfold rRounds
    rw [rStep_sh at_ pins hl]
    exact rRounds_sh hl k _ _
theorem rSplit_sh {l : List (Int × Int)} {n wd : Int} (h : Small l) (h0 : 0 ≤ n) (h1 : n ≤ 800) : rSplit (sh n l) wd = (shI n (rSplit l wd).1, (rSplit l wd).2.1, (rSplit l wd).2.2) := by
  unfold rSplit
  rw [fits_sh h h0 h1]
  split
  · have e : (sh n l).length = l.length := by simp [sh]
    rw [e]
    rcases Nat.eq_zero_or_pos l.length with h2 | h2
    · rw [h2]; rfl
    · have := rRounds_sh (n := n) (wd := wd) h2 l.length [] []
      rw [show shI n [] = [] from rfl] at this
      rw [this]
  · rfl
end Go.Proofs.Ytokdclbfjlnnjaa
