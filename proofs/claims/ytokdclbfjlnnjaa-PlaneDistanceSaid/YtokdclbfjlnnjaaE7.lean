/- The walk of PlaneDistance, its arguments in the order of the proof. -/
import Derived.Test.YtokdclbfjlnnjaaD7
namespace Go.Proofs.Ytokdclbfjlnnjaa
theorem distance_law (v1 : Value) (l1 : List Int) (v2 : Value) (l2 : List Int) (w : World) (hl1 : Ints w v1 l1) (hl2 : Ints w v2 l2) :
    Calls Try.prog 7 #[v1, v2] w fun e w' => e = .returned (.bool true) ∧ Aft w w' := distance_any v1 v2 l1 l2 w hl1 hl2
end Go.Proofs.Ytokdclbfjlnnjaa
