/- Equal figures are the same, by the reference's word. -/
import Derived.Test.YtokdclbfjlnnjaaR29
namespace Go.Proofs.Ytokdclbfjlnnjaa
open Go.RowKit Go.BigFrame

end Go.Proofs.Ytokdclbfjlnnjaa
