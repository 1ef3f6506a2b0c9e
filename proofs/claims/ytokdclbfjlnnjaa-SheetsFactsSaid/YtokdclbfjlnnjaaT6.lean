/- Join: the model, and that the sheets of a figure are joined to it. -/
import Derived.Test.YtokdclbfjlnnjaaT3
import Derived.Test.YtokdclbfjlnnjaaFew
namespace Go.Proofs.Ytokdclbfjlnnjaa
open Go.RowKit Go.Ab

def mvJ (x : Int) (s : Sh) : Sh := (s.1, mvL x s.2)
abbrev Ent := Int × Sh
def entS (s : Sht) : List Ent := (s.of_.zip s.sh).map fun p => (p.1, mvJ s.x p.2)
def entL (l : List Sht) : List Ent := l.flatMap entS
def lensOk (l : List Sht) : Prop := ∀ s ∈ l, s.of_.length = s.sh.length
def okE (n : Nat) (E : List Ent) : Prop := (∀ e ∈ E, 0 ≤ e.1 ∧ e.1 < n) ∧ (E.map (·.1)).Nodup
instance (l : List Sht) : Decidable (lensOk l) := by unfold lensOk; infer_instance
instance (n : Nat) (E : List Ent) : Decidable (okE n E) := by unfold okE; infer_instance
def keyB (w : Int) (e : Ent) : Bool := e.1 == w
def arrOf (n : Nat) (E : List Ent) : List Sh := (List.range n).map fun i : Nat => ((E.find? (keyB (i : Int))).map (·.2)).getD (0, [])
def metOf (n : Nat) (E : List Ent) : List Bool := (List.range n).map fun i : Nat => E.any (keyB (i : Int))
def joinM (l : List Sht) (w h : Int) : (Int × Int × List Sh) × Int := if lensOk l ∧ okE (entL l).length (entL l) then ((w, h, arrOf (entL l).length (entL l)), 0) else ((0, 0, []), 2)

/-! ### How often a number occurs -/
def cntE (w : Int) (E : List Ent) : Nat := (E.filter (keyB w)).length
def lastE (w : Int) (E : List Ent) : Sh := ((E.filter (keyB w)).getLast?.map (·.2)).getD (0, [])
def keysN (n : Nat) : List Int := (List.range n).map fun i : Nat => (i : Int)

/-! ### The sheets of a figure -/
/-- Which shapes stand on the first k sheets. -/
def onAll (L : List Sh) (at_ : List Int) (wd : Int) (k : Nat) : List Nat := (List.range k).flatMap fun j => ofS L at_ wd j L.length
end Go.Proofs.Ytokdclbfjlnnjaa
