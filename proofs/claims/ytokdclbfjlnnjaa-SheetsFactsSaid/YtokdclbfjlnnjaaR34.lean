/- The reference's Cut. -/
import Derived.Test.YtokdclbfjlnnjaaR35
import Derived.Test.YtokdclbfjlnnjaaA4
namespace Go.Proofs.Ytokdclbfjlnnjaa
open Go.RowKit Go.BigFrame

theorem results_cut {fn : Func} (h : fn.results = #[.tmp 4, .cell 5 45, .tmp 6]) (tmps : Array Value) (w : World) (b : Nat) (x y : Int) (v v4 v6 : Value) (h4 : tmps.getD 4 undef = v4) (h6 : tmps.getD 6 undef = v6) (hp : tmps.getD 5 undef = .pointer (some ⟨b, 0, none⟩)) (hc : B3 w b x y v) :
    (results fn tmps).run Try.prog w = .ok (.tuple #[v4, .agg #[.int .i64 x, .int .i64 y, v], v6]) w := by
  obtain ⟨h0, h1, h2⟩ := hc
  have hp' : tmps[5]?.getD undef = .pointer (some ⟨b, 0, none⟩) := by simpa using hp
  have h4' : tmps[4]?.getD undef = v4 := by simpa using h4
  have h6' : tmps[6]?.getD undef = v6 := by simpa using h6
  simp only [Go.results, h]
  simp [hp', h4', h6', asAddr, go_sem, h0, h1, h2]

end Go.Proofs.Ytokdclbfjlnnjaa
