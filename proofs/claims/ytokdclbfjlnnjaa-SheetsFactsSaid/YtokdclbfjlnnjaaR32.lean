/- Rows of sheets that a call makes; plain. -/
import Derived.Test.YtokdclbfjlnnjaaR31
namespace Go.Proofs.Ytokdclbfjlnnjaa
open Go.RowKit Go.BigFrame

theorem Try.info96 : (Try.prog.info? 96).map (fun i => (i.zero, i.size, i.bytes)) = some (some (.agg #[.int .i64 0, .int .i64 0, .int .i64 0, .slice none 0 0, .slice none 0 0]), 5, 72) := by kernel_rfl
abbrev Q5 := Int × Int × Int × Value × Value
def cells5 (Q : List Q5) : List Value := Q.flatMap fun q => [.int .i64 q.1, .int .i64 q.2.1, .int .i64 q.2.2.1, q.2.2.2.1, q.2.2.2.2]
theorem cells5_append (Q S : List Q5) : cells5 (Q ++ S) = cells5 Q ++ cells5 S := by simp [cells5]
/-- A row of sheets of the call's own; F: what is known of the slices of each. -/
def ShtRow (base e : Nat) (w : World) (v : Value) (l : List Sht) (F : Sht → Value → Value → Prop) : Prop :=
  ∃ Q : List Q5, w.ownsRow base e 5 v l.length (cells5 Q) ∧ Q.length = l.length ∧ ∀ (i : Nat) (q : Q5) (s : Sht), Q[i]? = some q → l[i]? = some s → q.1 = s.x ∧ q.2.1 = s.wd ∧ q.2.2.1 = s.ht ∧ F s q.2.2.2.1 q.2.2.2.2
theorem ShtRow.nil (base e : Nat) (w : World) (F : Sht → Value → Value → Prop) : ShtRow base e w (.slice none 0 0) [] F := ⟨[], World.ownsRow_nil _ _ _ _, rfl, fun i q s h => by simp at h⟩
theorem ShtRow.own {base e : Nat} {w : World} {v : Value} {l : List Sht} {F : Sht → Value → Value → Prop} (h : ShtRow base e w v l F) : ∃ xs, w.ownsRow base e 5 v l.length xs := let ⟨_, h, _⟩ := h; ⟨_, h⟩
theorem ShtRow.mono {base e : Nat} {w : World} {v : Value} {l : List Sht} {F G : Sht → Value → Value → Prop} (h : ShtRow base e w v l F) (hFG : ∀ s a b, F s a b → G s a b) : ShtRow base e w v l G := by
  obtain ⟨Q, h1, h2, h3⟩ := h
  exact ⟨Q, h1, h2, fun i q s hq hs => let ⟨a, b, c, d⟩ := h3 i q s hq hs; ⟨a, b, c, hFG _ _ _ d⟩⟩
theorem ShtRow.aft {base e : Nat} {w w' : World} {v : Value} {l : List Sht} {F : Sht → Value → Value → Prop} (h : ShtRow base e w v l F) (hw : Aft w w') : ShtRow base e w' v l F := by
  obtain ⟨Q, h1, h2, h3⟩ := h
  exact ⟨Q, ownsRow_aft h1 hw, h2, h3⟩
/-- With one sheet more. -/
theorem shtRow_snoc {base e : Nat} {w' : World} {v' : Value} {l : List Sht} {F : Sht → Value → Value → Prop} {s : Sht} {a b : Value} {Q : List Q5} (h2 : Q.length = l.length)
    (h3 : ∀ (i : Nat) (q : Q5) (s : Sht), Q[i]? = some q → l[i]? = some s → q.1 = s.x ∧ q.2.1 = s.wd ∧ q.2.2.1 = s.ht ∧ F s q.2.2.2.1 q.2.2.2.2) (hF : F s a b)
    (ho : w'.ownsRow base e 5 v' (l.length + 1) (cells5 Q ++ [.int .i64 s.x, .int .i64 s.wd, .int .i64 s.ht, a, b])) : ShtRow base e w' v' (l ++ [s]) F := by
  refine ⟨Q ++ [(s.x, s.wd, s.ht, a, b)], ?_, by simp [h2], fun i q t hq ht => ?_⟩
  · rw [cells5_append, List.length_append]
    exact ho
  · rcases Nat.lt_or_ge i l.length with hi | hi
    · rw [List.getElem?_append_left (by omega)] at hq
      rw [List.getElem?_append_left hi] at ht
      exact h3 i q t hq ht
    · rw [List.getElem?_append_right (by omega)] at hq
      rw [List.getElem?_append_right hi] at ht
      obtain ⟨j, hj⟩ : ∃ j, i - l.length = j := ⟨_, rfl⟩
      rw [show i - Q.length = j by omega] at hq
      rw [hj] at ht
      cases j with
      | succ j => simp at hq
      | zero =>
        simp at hq ht
        subst hq ht
        exact ⟨rfl, rfl, rfl, hF⟩

end Go.Proofs.Ytokdclbfjlnnjaa
