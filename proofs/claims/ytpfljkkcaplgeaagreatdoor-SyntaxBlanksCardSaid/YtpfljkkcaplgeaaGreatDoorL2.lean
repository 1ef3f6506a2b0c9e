/- Closed facts of the row. Conditions are in the theorems. -/
import Derived.Test.YtpfljkkcaplgeaaGreatDoorTie
import Derived.Test.YtpfljkkcaplgeaaGreatDoorCards
import Derived.SevenTiedAt
import Derived.ProofKit
import Derived.Test.YtpfljkkcaplgeaaGreatDoorE5
/- Closed facts of the row SyntaxBlanks. -/
namespace Go.Proofs.YtpfljkkcaplgeaaGreatDoor.syntaxBlanks
open Go.ChangeShapes Go.WideShapes Go.ChangeAt Go.RowKit Go.Ab Go.Ax Go.Proofs
set_option maxRecDepth 100000
theorem a1:(Rows.syntaxBlanksRow.inPlace == Tryz.prog.inPlace 7)=true:=by kernel_rfl
theorem a2:(Rows.syntaxBlanksRow.unfollowed == Tryz.prog.unfollowed 7)=true:=by kernel_rfl
theorem a3:(Rows.syntaxBlanksRow.recurses == Tryz.prog.recurses 7)=true:=by kernel_rfl
theorem a4:(Rows.syntaxBlanksRow.named == Tryz.prog.varsNamed 7)=true:=by kernel_rfl
theorem a5:laidOutB Tryz.prog=true:=by kernel_rfl
theorem a6:mapsRowed Tryz.prog=true:=by kernel_rfl
theorem a7:(Rows.syntaxBlanksRow.plainKeys == Tryz.prog.plainKeys)=true:=by kernel_rfl
theorem a8:Tryz.prog.stopsHeard=true:=by kernel_rfl
theorem a9:Tryz.prog.mayEnter=true:=by kernel_rfl
theorem b1:(Rows.syntaxBlanksRow.lifted == Tryz.prog.liftsFinal)=true:=by kernel_rfl
theorem b2:(Tryz.prog.make == some Rows.syntaxBlanksRow.make)=true:=by kernel_rfl
theorem b3:Rows.syntaxBlanksRow.wf (OpenSpec.ofChange Rows.syntaxBlanksSpec)=true:=by kernel_rfl
theorem b4:namedTie Tryz.prog Rows.syntaxBlanksRow.named Rows.syntaxBlanksSpec.vars=true:=by kernel_rfl
end Go.Proofs.YtpfljkkcaplgeaaGreatDoor.syntaxBlanks
