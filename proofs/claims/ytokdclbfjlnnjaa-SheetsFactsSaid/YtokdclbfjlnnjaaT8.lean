/- The reference's Join. -/
import Derived.Test.YtokdclbfjlnnjaaT7
namespace Go.Proofs.Ytokdclbfjlnnjaa
open Go.RowKit Go.Ab

theorem Try.z51 : (Try.prog.info? 51).bind (·.zero) = some (.agg #[.int .i64 0, .slice none 0 0]) := by kernel_rfl
end Go.Proofs.Ytokdclbfjlnnjaa
