/- Join, and what the law on it calls. -/
import Derived.Test.YtokdclbfjlnnjaaT4
import Derived.Test.YtokdclbfjlnnjaaT6
import Derived.Test.YtokdclbfjlnnjaaMb
namespace Go.Proofs.Ytokdclbfjlnnjaa
open Go.RowKit Go.Ab

theorem sh_pure (k : Int) (l : List Pt) : Pure (.agg [I k, .t (.sl l.length (ptT l))]) := .agg (pure_t (xs := [ti k, .sl l.length (ptT l)]))
theorem sh_open {w : World} {G : Lim} {u : Value} {k : Int} {l : List Pt} (h : DR0 w G u (.agg [I k, .t (.sl l.length (ptT l))])) : ∃ v, u = .agg #[.int .i64 k, v] ∧ TR w G v (.sl l.length (ptT l)) := by
  cases h with
  | @agg vs _ hl h h1 =>
    obtain ⟨q⟩ := vs
    match q, hl with
    | [a, b], _ =>
      have e1 := tr_v (dr_t (h 0 a _ rfl rfl))
      subst e1
      exact ⟨b, rfl, dr_t (h 1 b _ rfl rfl)⟩

abbrev joinD (r : (Int × Int × List Sh) × Int) : D := .tup [figD r.1.1 r.1.2.1 r.1.2.2, I r.2]
theorem Try.r96 : rowT Try.prog 96 = some true := by kernel_rfl
theorem Try.s96 : (Try.prog.info? 96).map (·.size) = some 5 := by kernel_rfl
theorem Try.z96 : (Try.prog.info? 96).bind (·.zero) = some (.agg #[.int .i64 0, .int .i64 0, .int .i64 0, .slice none 0 0, .slice none 0 0]) := by kernel_rfl
theorem Try.sl22 : Try.prog.underlying 22 = some (.slice 3) := by kernel_rfl
theorem Try.r4 : rowT Try.prog 4 = some false := by kernel_rfl
theorem Try.s4 : (Try.prog.info? 4).map (·.size) = some 1 := by kernel_rfl
theorem Try.r51 : rowT Try.prog 51 = some true := by kernel_rfl
theorem Try.s51 : (Try.prog.info? 51).map (·.size) = some 2 := by kernel_rfl
end Go.Proofs.Ytokdclbfjlnnjaa
