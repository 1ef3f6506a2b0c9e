/- Closed facts of the card. Conditions are in the theorems. -/
import Derived.Test.YtpfljkkcaplgeaaGreatDoorTie
import Derived.Test.YtpfljkkcaplgeaaGreatDoorCards
import Derived.SevenTiedAt
import Derived.ProofKit
import Derived.Test.YtpfljkkcaplgeaaGreatDoorE5
import Derived.Test.YtpfljkkcaplgeaaGreatDoorL2
open Bool renaming or_false->Bi
/- Closed facts of the card SyntaxBlanks. -/
namespace Go.Proofs.YtpfljkkcaplgeaaGreatDoor.syntaxBlanks
open Go.ChangeShapes Go.WideShapes Go.ChangeAt Go.RowKit Go.Ab Go.Ax Go.Proofs
set_option maxRecDepth 100000
theorem c1:Rows.syntaxBlanksRow.wfByText (OpenSpec.ofChange Rows.syntaxBlanksSpec)=true:=by kernel_rfl
theorem c2:true=Tryz.prog.looks []:=by kernel_rfl
end Go.Proofs.YtpfljkkcaplgeaaGreatDoor.syntaxBlanks
/- Closed facts of the card SyntaxBlanks. -/
namespace Go.Proofs.YtpfljkkcaplgeaaGreatDoor.syntaxBlanks
open Go.ChangeShapes Go.WideShapes Go.ChangeAt Go.RowKit Go.Ab Go.Ax Go.Proofs
set_option maxRecDepth 100000
theorem c4 : Tryz.prog.mainIs = some (true, "35b54055a81394151b65eed62b358ded36c925e96259468c736428b51beee8c0".toList) := by kernel_rfl
theorem c5 : Tryz.prog.funcNamed "dactyl/dactyllaw23.SyntaxBlanks" = some 7 := by kernel_rfl
theorem a5L{P:Program}(h:P.funcs.any Func.goes=false)(f:FuncId):P.goes f=false:=by
  have h2:∀g:FuncId,(P.funcs[g]?).any Func.goes=false:=λg=>by
    cases hg:P.funcs[g]? with
    |none=>rfl
    |some fn=>
      cases hf:Func.goes fn with
      |false=>exact hf
      |true=>
        rw[Array.any_eq_true'.2 ⟨fn,Array.mem_of_getElem? hg,hf⟩]at h;cases h
  unfold Program.goes;rw[h,Bool.and_false,Bi];simp only[h2];exact List.any_eq_false.2 λ_ _=>by simp
theorem a3m:Tryz.prog.funcs.any Func.goes=false:=by kernel_rfl
theorem a8P{o:Option FuncId}{p:FuncId->Bool}{f:FuncId}(h:o=some f)(k:p f=false):(o.any p||false)=false:=by
  rw[h,Bi];exact k
theorem c3:false=Rows.syntaxBlanksRow.goesBy Tryz.prog:=(a8P c5 (a5L a3m 7)).symm
end Go.Proofs.YtpfljkkcaplgeaaGreatDoor.syntaxBlanks
/- Closed facts of the card SyntaxBlanks. -/
namespace Go.Proofs.YtpfljkkcaplgeaaGreatDoor.syntaxBlanks
open Go.ChangeShapes Go.WideShapes Go.ChangeAt Go.RowKit Go.Ab Go.Ax Go.Proofs
set_option maxRecDepth 100000
theorem closed:joinedFacts Tryz.prog 7 Tryz.f7 Rows.syntaxBlanksSpec Rows.syntaxBlanksRow=true:=by
  unfold joinedFacts;rw[a1,a2,a3,a4,a5,a6,a7,a8,a9,b1,b2,b3,b4]
  kernel_rfl
end Go.Proofs.YtpfljkkcaplgeaaGreatDoor.syntaxBlanks
