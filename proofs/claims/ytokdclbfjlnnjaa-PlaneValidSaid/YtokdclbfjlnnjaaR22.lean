/- A figure that came in as an argument: two numbers and shapes. -/
import Derived.Test.YtokdclbfjlnnjaaR17
import Derived.OpenShut
namespace Go.Proofs.Ytokdclbfjlnnjaa
open Go.RowKit Go.BigFrame

theorem three_of {α : Type} : ∀ {l : List α}, l.length = 3 → ∃ a b c, l = [a, b, c]
  | [a, b, c], _ => ⟨a, b, c, rfl⟩
set_option maxRecDepth 100000 in
theorem fig_of_open {H : Type} {enc : TypeId × Value → H} {w : World} {base : Nat} {spare : Nat → Bool} {held : Bool} {fuel : Nat} {cs : List Value} {x : DataW H × List MemPlace}
    (h : DataW.trod enc Try.prog w base spare held fuel 45 cs = some x) : ∃ (Wr Hr : Int) (v : Value) (n : Nat), cs = [.int .i64 Wr, .int .i64 Hr, v] ∧ ShsRaw w v n := by
  obtain ⟨xs, k, _, _, hl, hxl, hf⟩ := DataW.trod_struct Try.underlying45 h
  rw [show Try.prog.cellsOf 45 = 3 by kernel_rfl] at hl
  have c3 : Try.prog.cellsOf 3 = 1 := by kernel_rfl
  have c43 : Try.prog.cellsOf 43 = 1 := by kernel_rfl
  obtain ⟨v0, v1, v2, rfl⟩ := three_of hl
  obtain ⟨y0, y1, y2, rfl⟩ := three_of (hxl.trans rfl)
  have g0 : DataW.trod enc Try.prog w base spare held k 3 (([v0, v1, v2].drop 0).take (Try.prog.cellsOf 3)) = some y0 := hf 0 _ rfl
  have g1 : DataW.trod enc Try.prog w base spare held k 3 (([v0, v1, v2].drop 1).take (Try.prog.cellsOf 3)) = some y1 := hf 1 _ rfl
  have g2 : DataW.trod enc Try.prog w base spare held k 43 (([v0, v1, v2].drop 2).take (Try.prog.cellsOf 43)) = some y2 := hf 2 _ rfl
  rw [c3] at g0 g1
  rw [c43] at g2
  simp only [List.drop_zero, List.take_succ_cons, List.take_zero, List.drop_succ_cons] at g0 g1 g2
  obtain ⟨a0, e0, _, _⟩ := DataW.trod_int Try.underlying3 g0
  obtain ⟨a1, e1, _, _⟩ := DataW.trod_int Try.underlying3 g1
  obtain ⟨v, n, e2, hr⟩ := shsRaw_of_open (tp := 49) Try.underlying43 Try.underlying51 (by kernel_rfl) rfl rfl c3 (by kernel_rfl) Try.underlying3 Try.underlying49 Try.underlying57 (by kernel_rfl) rfl rfl c3 c3 Try.underlying3 Try.underlying3 rfl g2
  simp only [List.cons.injEq, and_true] at e0 e1 e2
  subst e0 e1 e2
  exact ⟨a0, a1, v2, n, rfl, hr⟩
end Go.Proofs.Ytokdclbfjlnnjaa
