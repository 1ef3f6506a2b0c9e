/- The reference's Span and rise. -/
import Derived.Test.YtokdclbfjlnnjaaR27
import Derived.Lib.MinMax
namespace Go.Proofs.Ytokdclbfjlnnjaa
open Go.RowKit Go.BigFrame

end Go.Proofs.Ytokdclbfjlnnjaa
