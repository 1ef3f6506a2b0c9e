/- The examples hold. Conditions are in the theorems. -/
import Derived.Test.YtihfefggdgiodaaGreatDoorE7
import Derived.Test.YtihfefggdgiodaaGreatDoorProg
import Derived.KernelRfl
import Derived.Test.YtihfefggdgiodaaGreatDoorF5
open And renaming intro->aK
/- What functions do. -/
namespace Go.Proofs
noncomputable section
open Go.Ax Go.Ax.aA Go.RowKit Go.Ab
open Go
abbrev aCP:List UInt8:=[(18:UInt8),(0:UInt8),(56:UInt8),(32:UInt8),(59:UInt8)]
abbrev jX:List UInt8:=[(32:UInt8),(32:UInt8),(120:UInt8),(123:UInt8)]
abbrev vI:List UInt8:=[(18:UInt8),(0:UInt8),(56:UInt8),(63:UInt8)]
abbrev vH:List UInt8:=[(32:UInt8),(59:UInt8)]
def zD(a0:Bool):aH:=(.e .bo a0,[])
def EC(N:Nat):Cx:=⟨Tryz.prog,99999,[(19,P6 N),(26,Oz N),(21,ZG N),(23,PM N),(24,Ys N)],[]⟩
def ZY:Code:=Tryz.f17.body.getD .skip
theorem aNb N:aJ (EC N):=cM (by kernel_rfl) (.cons (by kernel_rfl) (ZS N) (.cons (by kernel_rfl) (Yb N) (.cons (by kernel_rfl) (aNB N) (.cons (by kernel_rfl) (Yx N) (.cons (by kernel_rfl) (aMb N) .nil))))) .nil
def Pf[aA](N:Nat):O:=
 ck (Bh N [jX,[]] (5:Int))<|
 ck (Bh N [jX] (4:Int))<|
 ck (Dt N [vI,vH])<|
 ck (Jd N [jX,[]] (4:Int))<|
 gc (!(decide (sR N [jX,[]] (5:Int)≠(0:Int))||decide (sR N [jX] (4:Int)≠(0:Int))||decide (yJ N [vI,vH]≠(0:Int))||decide (Dz N [jX,[]] (4:Int)≠(0:Int))||decide ((↑(uO N [vI,vH]).length:Int)≠(1:Int)))) [] (uO N [vI,vH]) 0 λy0=>
 br (decide (sR N [jX,[]] (5:Int)≠(0:Int))||decide (sR N [jX] (4:Int)≠(0:Int))||decide (yJ N [vI,vH]≠(0:Int))||decide (Dz N [jX,[]] (4:Int)≠(0:Int))||decide ((↑(uO N [vI,vH]).length:Int)≠(1:Int))||decide (y0≠jX))
  (some (zD false))
  (ck (yQ N (sS N [jX,[]] (5:Int)) [aCP,[(16:UInt8)]])<|
  br (Bc N (sS N [jX,[]] (5:Int)) [aCP,[(16:UInt8)]])
   (ck (yQ N (sS N [jX] (4:Int)) [vI,vH])<|
   br (Bc N (sS N [jX] (4:Int)) [vI,vH])
    (ck (Dy N (yU N [jX,[]] (4:Int)) [(2:Int),(1:Int)])<|
    some (zD (Dx N (yU N [jX,[]] (4:Int)) [(2:Int),(1:Int)])))
    (some (zD false)))
   (br false
    (ck (Dy N (yU N [jX,[]] (4:Int)) [(2:Int),(1:Int)])<|
    some (zD (Dx N (yU N [jX,[]] (4:Int)) [(2:Int),(1:Int)])))
    (some (zD false))))
def ZZ[aA](N:Nat):O:=Pf N  
def ZX[aA](_:Nat):Hint:=(.seq .d (.seq .d (.seq .d (.seq .d (.seq .d (.seq .d (.seq (.jS [1006,1013] [] []) .d)))))))
theorem aN9 N:bN (EC N) Tryz.f17.ntmps (ZX N) ZY:=bW _ _ (aK trivial (aK trivial (aK trivial (aK trivial (aK trivial (aK trivial (aK trivial trivial)))))))
theorem aN8[aA] N:Pf N=exec (EC N) Tryz.f17.ntmps (ZX N) ZY ⟨cC 0 [],[],100⟩ (cJ (EC N) Tryz.f17 false):=by kernel_rfl
def Jo(r:aH):Option (Bool):=match r with
 |(x0,[])=>(match ue .bo x0 with|some a0=>some a0|_=>none)
 |_=>none
theorem aN7{r d}(h:Jo r=some d):r=zD (d):=by
 unfold Jo at h;split at h
 .split at h
  .rename_i h0;cases h;rw[b7 h0];rfl
  .cases h
 .cases h
def Pe(N:Nat):Option (Bool):=(ZZ N ).bind Jo
theorem aNa{N}(hc:aJ (EC N)){d}(hd:Pe N=some d):cR Tryz.prog 17 [] [] (zD (d)):=
 c8 hc (by kernel_rfl) (by kernel_rfl) (aN9 N) (by kernel_rfl) aN7 (aN8 N).symm.trans hd
end
end Go.Proofs
