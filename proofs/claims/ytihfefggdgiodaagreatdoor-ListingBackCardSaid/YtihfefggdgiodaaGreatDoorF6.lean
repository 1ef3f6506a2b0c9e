/- The examples hold. Conditions are in the theorems. -/
import Derived.Test.YtihfefggdgiodaaGreatDoorE7
import Derived.Test.YtihfefggdgiodaaGreatDoorProg
import Derived.KernelRfl
import Derived.Test.YtihfefggdgiodaaGreatDoorF5
/- What functions do. -/
namespace Go.Proofs
noncomputable section
open Go.Ax Go.Ax.Alg Go.RowKit Go.Ab
open Go
abbrev lF6x0:List UInt8:=[(18:UInt8),(0:UInt8),(56:UInt8),(32:UInt8),(59:UInt8)]
abbrev lF6x1:List UInt8:=[(32:UInt8),(32:UInt8),(120:UInt8),(123:UInt8)]
abbrev lF6x2:List UInt8:=[(18:UInt8),(0:UInt8),(56:UInt8),(63:UInt8)]
abbrev lF6x3:List UInt8:=[(32:UInt8),(59:UInt8)]
def w17r0 (a0:Bool):Res:=(.e .bo a0,[])
def w17c (N:Nat):Cx:=⟨Tryz.prog,99999,[(19,w19e N),(26,w26e N),(21,w21e N),(23,w23e N),(24,w24e N)],[]⟩
def w17b:Code:=Tryz.f17.body.getD .skip
theorem w17cx N:CxOk (w17c N):=ctx_ok (by kernel_rfl) (.cons (by kernel_rfl) (w19ok N) (.cons (by kernel_rfl) (w26ok N) (.cons (by kernel_rfl) (w21ok N) (.cons (by kernel_rfl) (w23ok N) (.cons (by kernel_rfl) (w24ok N) .nil))))) .nil
def w17G [Alg] (N:Nat):O:=
 ck (w19p N [lF6x1,[]] (5:Int)) <|
 ck (w19p N [lF6x1] (4:Int)) <|
 ck (w26p N [lF6x2,lF6x3]) <|
 ck (w21p N [lF6x1,[]] (4:Int)) <|
 gc (!(decide (w19y1 N [lF6x1,[]] (5:Int)≠(0:Int))||decide (w19y1 N [lF6x1] (4:Int)≠(0:Int))||decide (w26y1 N [lF6x2,lF6x3]≠(0:Int))||decide (w21y1 N [lF6x1,[]] (4:Int)≠(0:Int))||decide ((↑(w26y0 N [lF6x2,lF6x3]).length:Int)≠(1:Int)))) [] (w26y0 N [lF6x2,lF6x3]) 0 fun y0=>
 br (decide (w19y1 N [lF6x1,[]] (5:Int)≠(0:Int))||decide (w19y1 N [lF6x1] (4:Int)≠(0:Int))||decide (w26y1 N [lF6x2,lF6x3]≠(0:Int))||decide (w21y1 N [lF6x1,[]] (4:Int)≠(0:Int))||decide ((↑(w26y0 N [lF6x2,lF6x3]).length:Int)≠(1:Int))||decide (y0≠lF6x1))
  (some (w17r0 false))
  (ck (w23p N (w19y0 N [lF6x1,[]] (5:Int)) [lF6x0,[(16:UInt8)]]) <|
  br (w23y0 N (w19y0 N [lF6x1,[]] (5:Int)) [lF6x0,[(16:UInt8)]])
   (ck (w23p N (w19y0 N [lF6x1] (4:Int)) [lF6x2,lF6x3]) <|
   br (w23y0 N (w19y0 N [lF6x1] (4:Int)) [lF6x2,lF6x3])
    (ck (w24p N (w21y0 N [lF6x1,[]] (4:Int)) [(2:Int),(1:Int)]) <|
    some (w17r0 (w24y0 N (w21y0 N [lF6x1,[]] (4:Int)) [(2:Int),(1:Int)])))
    (some (w17r0 false)))
   (br false
    (ck (w24p N (w21y0 N [lF6x1,[]] (4:Int)) [(2:Int),(1:Int)]) <|
    some (w17r0 (w24y0 N (w21y0 N [lF6x1,[]] (4:Int)) [(2:Int),(1:Int)])))
    (some (w17r0 false))))
def w17 [Alg] (N:Nat):O:=w17G N  
def w17h [Alg] (_:Nat):Hint:=(.seq .d (.seq .d (.seq .d (.seq .d (.seq .d (.seq .d (.seq (.reg [1006,1013] [] []) .d)))))))
theorem w17hk N:HintOk (w17c N) Tryz.f17.ntmps (w17h N) w17b:=hk_of _ _ (And.intro trivial (And.intro trivial (And.intro trivial (And.intro trivial (And.intro trivial (And.intro trivial (And.intro trivial trivial)))))))
theorem w17q [Alg] N:w17G N=exec (w17c N) Tryz.f17.ntmps (w17h N) w17b ⟨argT 0 [],[],100⟩ (finX (w17c N) Tryz.f17 false):=by kernel_rfl
def w17un (r:Res):Option (Bool):=match r with
 | (x0,[])=>(match ue .bo x0 with | some a0=>some a0 | _=>none)
 | _=>none
theorem w17uo {r d} (h:w17un r=some d):r=w17r0 (d):=by
 unfold w17un at h;split at h
 ·split at h
  ·rename_i h0;cases h;rw [ue_some h0];rfl
  ·cases h
 ·cases h
def w17z (N:Nat):Option (Bool):=(w17 N ).bind w17un
theorem w17fin {N} (hc:CxOk (w17c N)) {d} (hd:w17z N=some d):DoK Tryz.prog 17 [] [] (w17r0 (d)):=
 finJ hc (by kernel_rfl) (by kernel_rfl) (w17hk N) (by kernel_rfl) w17uo (w17q N).symm.trans hd
end
end Go.Proofs
