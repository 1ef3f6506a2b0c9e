/- Contracts at small shapes, in a later world. -/
import Derived.Test.YtokdclbfjlnnjaaA5
namespace Go.Proofs.Ytokdclbfjlnnjaa
open Go.RowKit Go.BigFrame

end Go.Proofs.Ytokdclbfjlnnjaa
