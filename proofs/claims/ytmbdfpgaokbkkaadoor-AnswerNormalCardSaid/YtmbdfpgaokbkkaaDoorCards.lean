/-
  DERIVED. GIVEN WITH THE SEED: THE CARDS: each row of YtmbdfpgaokbkkaaDoorRows.lean that lists a variable, with what it lists TIED to the program's text (the seventh form; the later family's looks); each row that meets fmt, with fmt's text TOLD by the authors' own Lean function (tested against real Go, not proved from fmt's source: count such statements apart). THE CARD IS WHAT COUNTS. Prove the row's statement (the work); the ties are given (YtmbdfpgaokbkkaaDoorTie.lean); close each card by the builder's one call (the guide's Derived/Test/ToyasCard.lean, 'card_holds'). Laid BY PROGRAM, IN A SANDBOX (cutbox-door.mjs). By AI agents, Wed Nov 11 2026. No macro, syntax, notation, axiom, sorry.
-/
import Derived.Test.YtmbdfpgaokbkkaaDoorRows
import GoSem.ClaimSeven
namespace Go.Proofs.YtmbdfpgaokbkkaaDoor
namespace Rows

/-- THE TIED CARD OF 'dactyllaw40.AnswerValid'. -/
def answerValidCard : Claim7 := { stood := { row := answerValidRow, standIns := [], harness := (true, "4a0073f84d7f7c274080e9b90f3a7e4130636fdce088ed6b2c5a28badaf6bfdd"), looks := true }, kinds := [], alts := [], laidByText := true, laidKinds := [.data, .data, .data, .sentinel, .sentinel], laidTests := true, laidLooks := .later }
def AnswerValidCardSaid : Prop := Claim7.holds Tryd.pinned (.plain (OpenSpec.ofChange answerValidSpec)) answerValidCard

/-- THE TIED CARD OF 'dactyllaw40.AnswerNormal'. -/
def answerNormalCard : Claim7 := { stood := { row := answerNormalRow, standIns := [], harness := (true, "4a0073f84d7f7c274080e9b90f3a7e4130636fdce088ed6b2c5a28badaf6bfdd"), looks := true }, kinds := [], alts := [], laidByText := true, laidKinds := [.data, .data, .data, .sentinel, .sentinel], laidTests := true, laidLooks := .later }
def AnswerNormalCardSaid : Prop := Claim7.holds Tryd.pinned (.plain (OpenSpec.ofChange answerNormalSpec)) answerNormalCard

/-- THE SECOND FORM's CARD OF 'dactyllaw40.AnswerValid'. -/
def answerValidUptoCard : Claim7 := { stood := { row := answerValidUptoRow, standIns := [], harness := (true, "4a0073f84d7f7c274080e9b90f3a7e4130636fdce088ed6b2c5a28badaf6bfdd"), looks := true }, kinds := [], alts := [], laidByText := true, laidKinds := [.data, .data, .data, .sentinel, .sentinel], laidTests := true, laidLooks := .later }
def AnswerValidUptoCardSaid : Prop := Claim7.holds Tryd.pinned (.plain (OpenSpec.upto answerValidSpec)) answerValidUptoCard

/-- THE SECOND FORM's CARD OF 'dactyllaw40.AnswerNormal'. -/
def answerNormalUptoCard : Claim7 := { stood := { row := answerNormalUptoRow, standIns := [], harness := (true, "4a0073f84d7f7c274080e9b90f3a7e4130636fdce088ed6b2c5a28badaf6bfdd"), looks := true }, kinds := [], alts := [], laidByText := true, laidKinds := [.data, .data, .data, .sentinel, .sentinel], laidTests := true, laidLooks := .later }
def AnswerNormalUptoCardSaid : Prop := Claim7.holds Tryd.pinned (.plain (OpenSpec.upto answerNormalSpec)) answerNormalUptoCard
end Rows
end Go.Proofs.YtmbdfpgaokbkkaaDoor
