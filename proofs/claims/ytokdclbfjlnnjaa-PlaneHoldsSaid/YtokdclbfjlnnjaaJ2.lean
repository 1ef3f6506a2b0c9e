/- Plain laws of the plane: a closed row of points that does not cut itself winds at most once around a point. -/
import Derived.Test.YtokdclbfjlnnjaaJ1
namespace Go.Proofs.Ytokdclbfjlnnjaa

def lo (a b : Pt) : Pt := if a.2 ≤ b.2 then a else b
def hg (a b : Pt) : Pt := if a.2 ≤ b.2 then b else a
/-- a b lies to the west of c d at a level. -/
def gapE (a b c d : Pt) (y : Int) : Int := gap (lo a b) (hg a b) (lo c d) (hg c d) y
def wI (a b c d : Pt) (y : Int) : Int := if 0 < gapE a b c d y then 1 else 0
/-- A segment passes a level upwards, downwards, or not. -/
def sgE (c d : Pt) (y : Int) : Int := if c.2 < y ∧ y < d.2 then 1 else if d.2 < y ∧ y < c.2 then -1 else 0
def rhoE (z a b c d : Pt) (y : Int) : Int := if y < z.2 then wind1 z (c, d) else sgE c d y * wI a b c d y
def lamE (z a b : Pt) (y : Int) : Int := if y < z.2 then westL z (a, b) else 0

theorem wind1_above {z c d : Pt} {y : Int} (hz : y < z.2) (hc : c.2 < y) (hd : d.2 < y) : wind1 z (c, d) = 0 := by
  unfold wind1; simp only; rw [if_neg (by omega), if_neg (by omega)]
theorem wind1_below {z c d : Pt} {y : Int} (hz : z.2 < y) (hc : y < c.2) (hd : y < d.2) : wind1 z (c, d) = 0 := by
  unfold wind1; simp only; rw [if_neg (by omega), if_neg (by omega)]
theorem westL_below {z c d : Pt} {y : Int} (hz : z.2 < y) (hc : y < c.2) (hd : y < d.2) : westL z (c, d) = 0 := by
  unfold westL; simp only; rw [if_neg (by omega), if_neg (by omega)]
set_option maxHeartbeats 2000000 in
/-- Two segments that do not cut: what is met at the four ends, above a level. -/
theorem pair {a b c d : Pt} {y : Int} (ha : a.2 ≠ y) (hb : b.2 ≠ y) (hc : c.2 ≠ y) (hd : d.2 ≠ y) (hab : y < a.2 ∨ y < b.2) (hn : (c.2 < y ∧ d.2 < y) ∨ ¬ Cut a b c d ∨ lo a b = lo c d ∧ (lo a b).2 < y) :
    rhoE a a b c d y - rhoE b a b c d y + lamE c a b y - lamE d a b y = 0 := by
  have S1 : c.2 < y → d.2 < y → sgE c d y = 0 := fun h1 h2 => by unfold sgE; rw [if_neg (by omega), if_neg (by omega)]
  have S2 : y < c.2 → y < d.2 → sgE c d y = 0 := fun h1 h2 => by unfold sgE; rw [if_neg (by omega), if_neg (by omega)]
  have S3 : c.2 < y → y < d.2 → sgE c d y = 1 := fun h1 h2 => by unfold sgE; rw [if_pos (by omega)]
  have S4 : y < c.2 → d.2 < y → sgE c d y = -1 := fun h1 h2 => by unfold sgE; rw [if_neg (by omega), if_pos (by omega)]
  by_cases hll : c.2 < y ∧ d.2 < y
  · have h0 := S1 hll.1 hll.2
    have r : ∀ z : Pt, rhoE z a b c d y = 0 := fun z => by
      unfold rhoE
      split
      · rename_i h; exact wind1_above h hll.1 hll.2
      · rw [h0, Int.zero_mul]
    have l1 : lamE c a b y = 0 := by unfold lamE; rw [if_neg (by omega)]
    have l2 : lamE d a b y = 0 := by unfold lamE; rw [if_neg (by omega)]
    rw [r, r, l1, l2]; rfl
  replace hn := hn.resolve_left hll
  by_cases hhh : y < a.2 ∧ y < b.2
  · have hn' : ¬ Cut a b c d := hn.resolve_right fun ⟨_, h⟩ => by unfold lo at h; split at h <;> omega
    have e := ends_any hn'
    have l : ∀ z : Pt, lamE z a b y = westL z (a, b) ∨ z.2 = y := fun z => by
      unfold lamE
      split
      · exact .inl rfl
      · by_cases hz : z.2 = y
        · exact .inr hz
        · exact .inl (westL_below (by omega) hhh.1 hhh.2).symm
    have l1 := (l c).resolve_right hc
    have l2 := (l d).resolve_right hd
    rw [l1, l2]
    unfold rhoE
    rw [if_pos hhh.1, if_pos hhh.2]
    exact e
  by_cases hs : y < c.2 ∧ y < d.2
  · have hn' : ¬ Cut a b c d := hn.resolve_right fun ⟨h1, h⟩ => by rw [h1] at h; unfold lo at h; split at h <;> omega
    have e := ends_any hn'
    have h0 := S2 hs.1 hs.2
    have r : ∀ z : Pt, z.2 ≠ y → rhoE z a b c d y = wind1 z (c, d) := fun z hz => by
      unfold rhoE
      split
      · rfl
      · rw [h0, Int.zero_mul, wind1_below (y := y) (by omega) hs.1 hs.2]
    rw [r a ha, r b hb]
    unfold lamE
    rw [if_pos hs.1, if_pos hs.2]
    exact e
  have hn2 : ¬ Cut (lo a b) (hg a b) (lo c d) (hg c d) ∨ lo a b = lo c d := by
    refine hn.imp (fun h hc => h ?_) (·.1)
    unfold lo hg at hc
    split at hc <;> split at hc
    · exact hc
    · exact hc.swap2
    · exact hc.swap1
    · exact hc.swap2.swap1
  have lv : (lo a b).2 < y ∧ y < (hg a b).2 ∧ (lo c d).2 < y ∧ y < (hg c d).2 := by
    unfold lo hg
    split <;> split <;> omega
  have e := ends_level lv.1 lv.2.1 lv.2.2.1 lv.2.2.2 hn2
  have eW : wI a b c d y = wind1 (hg a b) (lo c d, hg c d) + westL (hg c d) (lo a b, hg a b) := e
  rcases Int.lt_or_gt_of_ne ha with a1 | a1 <;> rcases Int.lt_or_gt_of_ne hc with c1 | c1
  · have b1 : y < b.2 := by omega
    have d1 : y < d.2 := by omega
    rw [show lo a b = a by unfold lo; rw [if_pos (by omega)], show hg a b = b by unfold hg; rw [if_pos (by omega)], show lo c d = c by unfold lo; rw [if_pos (by omega)], show hg c d = d by unfold hg; rw [if_pos (by omega)]] at eW
    unfold rhoE lamE
    rw [if_neg (by omega), if_pos b1, if_neg (by omega), if_pos d1, S3 c1 d1, eW]
    omega
  · have b1 : y < b.2 := by omega
    have d1 : d.2 < y := by omega
    rw [show lo a b = a by unfold lo; rw [if_pos (by omega)], show hg a b = b by unfold hg; rw [if_pos (by omega)], show lo c d = d by unfold lo; rw [if_neg (by omega)], show hg c d = c by unfold hg; rw [if_neg (by omega)]] at eW
    unfold rhoE lamE
    rw [if_neg (by omega), if_pos b1, if_pos c1, if_neg (by omega), S4 c1 d1, eW, wind1_swap b d c]
    omega
  · have b1 : b.2 < y := by omega
    have d1 : y < d.2 := by omega
    rw [show lo a b = b by unfold lo; rw [if_neg (by omega)], show hg a b = a by unfold hg; rw [if_neg (by omega)], show lo c d = c by unfold lo; rw [if_pos (by omega)], show hg c d = d by unfold hg; rw [if_pos (by omega)]] at eW
    unfold rhoE lamE
    rw [if_pos a1, if_neg (by omega), if_neg (by omega), if_pos d1, S3 c1 d1, eW, westL_swap d b a]
    omega
  · have b1 : b.2 < y := by omega
    have d1 : d.2 < y := by omega
    rw [show lo a b = b by unfold lo; rw [if_neg (by omega)], show hg a b = a by unfold hg; rw [if_neg (by omega)], show lo c d = d by unfold lo; rw [if_neg (by omega)], show hg c d = c by unfold hg; rw [if_neg (by omega)]] at eW
    unfold rhoE lamE
    rw [if_pos a1, if_neg (by omega), if_pos c1, if_neg (by omega), S4 c1 d1, eW, wind1_swap a d c, westL_swap c b a]
    omega

/-! ### Sums -/
def sumF (f : Nat → Int) (a : Nat) : Nat → Int
  | 0 => 0
  | k + 1 => sumF f a k + f (a + k)
theorem sumF_split (f : Nat → Int) (a k : Nat) : ∀ l, sumF f a (k + l) = sumF f a k + sumF f (a + k) l
  | 0 => by simp [sumF]
  | l + 1 => by
    rw [← Nat.add_assoc, sumF, sumF_split f a k l, sumF, Nat.add_assoc a k l]
    omega
theorem sumF_congr {f g : Nat → Int} {a : Nat} : ∀ {k : Nat}, (∀ m, a ≤ m → m < a + k → f m = g m) → sumF f a k = sumF g a k
  | 0, _ => rfl
  | k + 1, h => by rw [sumF, sumF, sumF_congr (fun m h1 h2 => h m h1 (by omega)), h (a + k) (by omega) (by omega)]
theorem sumF_zero {f : Nat → Int} {a k : Nat} (h : ∀ m, a ≤ m → m < a + k → f m = 0) : sumF f a k = 0 := by
  rw [sumF_congr (g := fun _ => 0) h]
  clear h
  induction k with
  | zero => rfl
  | succ k ih => rw [sumF, ih]; rfl
theorem sumF_sub (f g : Nat → Int) (a : Nat) : ∀ k, sumF (fun m => f m - g m) a k = sumF f a k - sumF g a k
  | 0 => by simp [sumF]
  | k + 1 => by rw [sumF, sumF, sumF, sumF_sub f g a k]; omega
theorem sumF_tele (g : Nat → Int) (a : Nat) : ∀ k, sumF (fun m => g m - g (m + 1)) a k = g a - g (a + k)
  | 0 => by simp [sumF]
  | k + 1 => by rw [sumF, sumF_tele g a k, Nat.add_assoc]; omega
theorem sumF_one (f : Nat → Int) (a : Nat) : sumF f a 1 = f a := by simp [sumF]
theorem sumF_turn {f : Nat → Int} {n : Nat} (h : ∀ m, f (m + n) = f m) : ∀ a, sumF f a n = sumF f 0 n
  | 0 => rfl
  | a + 1 => by
    rw [← sumF_turn h a]
    cases n with
    | zero => rfl
    | succ n =>
      have e1 := sumF_split f a 1 n
      rw [sumF_one] at e1
      have e2 := sumF_split f (a + 1) n 1
      rw [sumF_one, show a + 1 + n = a + (n + 1) by omega, h a] at e2
      rw [show n + 1 = 1 + n by omega, e1, show 1 + n = n + 1 by omega, e2]
      omega
end Go.Proofs.Ytokdclbfjlnnjaa
