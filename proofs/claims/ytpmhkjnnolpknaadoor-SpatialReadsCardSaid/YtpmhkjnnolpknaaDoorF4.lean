/- What the readers do. Conditions are in the theorems. -/
import Derived.Test.YtpmhkjnnolpknaaDoorE7
import Derived.Test.YtpmhkjnnolpknaaDoorF0
import Derived.Test.YtpmhkjnnolpknaaDoorProg
import Derived.KernelRfl
import Derived.Test.YtpmhkjnnolpknaaDoorF2
open And renaming intro->aF
open Eq renaming trans->dK
open Go.IntKind renaming i64->aA
/- What functions do. -/
namespace Go.Proofs
noncomputable section
open Go.Ax Go.Ax.aB Go.RowKit Go.Ab
open Go
abbrev aG:=List UInt8
def sH(a0:Bool):aM:=(.e .bo a0,[])
def sI(_:Nat):Cx:=⟨Tryd.prog,99999,[],[]⟩
def QY:Code:=Tryd.f53.body.getD .skip
theorem aMd N:aK (sI N):=cH (by kernel_rfl) .nil .nil
def JZ[aB](_:Nat)(self:Int->O)(k0:Bool->O)(k1:Bool->O)(x0_0 x0_1:aG)(x0_2:Bool)(x0_3 x0_4:Int):O:=
 br (decide (x0_4<x0_3))
  (gx x0_0 x0_4 λy5=>
  gx x0_1 x0_4 λy6=>
  br (decide (y5≠y6))
   (k0 false)
   (self (aA.wrap (x0_4+1))))
  (k1 x0_2)
def QX:Code:=cE [1,1,0,1,0,0] QY
def ZQ:Nm:=⟨[0,1,4,12,13],[],[]⟩
def zI(x:aG×aG×Bool×Int×Int):Sg:=⟨[(0,.e (.sl .u8) x.1),(1,.e (.sl .u8) x.2.1),(4,.e .bo x.2.2.1),(12,.e (.i .i64) x.2.2.2.1),(13,.e (.i .i64) x.2.2.2.2)],[],100⟩
def JV(σ:Sg):aG×aG×Bool×Int×Int:=(aC (.sl .u8) 0 0 σ,aC (.sl .u8) 1 0 σ,aC .bo 4 0 σ,aC (.i .i64) 12 0 σ,aC (.i .i64) 13 0 σ)
theorem aM7:∀x,JV (zI x)=x:=λ_=>by kernel_rfl
def JY(y:Bool):Exit×Sg:=(.ret,⟨[(4,.e .bo y)],[],100⟩)
def aM5(_:Exit)(σ:Sg):Bool:=aC .bo 4 0 σ
def JX(y:Bool):Exit×Sg:=((.exit 0),⟨[(4,.e .bo y)],[],100⟩)
def aM4(_:Exit)(σ:Sg):Bool:=aC .bo 4 0 σ
def aM3:List (Exit×Nm):=[(.ret,⟨[4],[],[]⟩),((.exit 0),⟨[4],[],[]⟩)]
def zH[aB](N:Nat):Nat->(aG×aG×Bool×Int×Int)->((Bool)->O)->((Bool)->O)->((Unit)->O)->O
 |0,_,_,_,_=>none
 |n+1,x,k0,k1,k2=>JZ N (λv0=>zH N n (x.1,x.2.1,x.2.2.1,x.2.2.2.1,v0) k0 k1 k2) (λy0=>k0 y0) (λy0=>k1 y0) x.1 x.2.1 x.2.2.1 x.2.2.2.1 x.2.2.2.2
def ZP[aB] N a0 a1 a2 a3 a4 (k0:Bool->O) (k1:Bool->O):=zH N N (a0,a1,a2,a3,a4) (λy=>k0 y) (λy=>k1 y) (λ_=>none)
def ZN[aB] N a0 a1 a2 a3 a4 (k0:Bool->O) (k1:Bool->O):=aP zI JV (zH N N) (zI (a0,a1,a2,a3,a4)) (λy=>k0 y) (λy=>k1 y) (λ_=>none)
theorem aMc[aB] N:ZN N=ZP N:=funext λ_=>funext λ_=>funext λ_=>funext λ_=>funext λ_=>funext λ_=>funext λ_=>cL aM7 _ _ _ _
theorem aM8[aB](N:Nat)(self:Sg->O)(K:Exit->Sg->O)(x:aG×aG×Bool×Int×Int):JZ N (λv0=>self (zI (x.1,x.2.1,x.2.2.1,x.2.2.2.1,v0))) (λy0=>K (JY y0).1 (JY y0).2) (λy0=>K (JX y0).1 (JX y0).2) x.1 x.2.1 x.2.2.1 x.2.2.2.1 x.2.2.2.2=exec (sI N) Tryd.f53.ntmps .d QX (zI x) (cZ ZQ aM3 self K):=by kernel_rfl
theorem aMh N (hc:aK (sI N)):cF (sI N) Tryd.f53.ntmps (.loop QX) JY JX (aN 2) (aP zI JV (zH N N)):=
 dD hc (cX QX) (jA aM5 aM4 .ret (.exit 0) (λ_=>by kernel_rfl) (λ_=>by kernel_rfl) (λ_=>rfl) (λ_=>rfl) (by kernel_rfl)) (n:=N) (λx K=>dE (zH N) (λ_ _ _ _=>rfl) (λn K ih x=>by
  refine dK ?_ (aM8 N _ K x);simp only[<-ih];rfl) N x K)
def Q0[aB](_:Nat)(in0:aG->aG->Bool->Int->Int->(Bool->O)->(Bool->O)->O)(s10 s21:aG):O:=
 br (decide ((↑s10.length:Int)≠(↑s21.length:Int)))
  (some (sH false))
  (in0 s10 s21 false ((↑s10.length:Int)) 0
   (λz7=>
    some (sH z7))
   (λ_=>
    some (sH true)))
def ZT[aB] N s10 s21:=Q0 N (ZP N) s10 s21
def ZR[aB](N:Nat):Hint:=(.seq .d (.seq .d (.seq (.seq .d (.block (.sub ZQ _ _ _ JY JX (aN 2) (aP zI JV (zH N N))))) .d)))
theorem aMa N (hc:aK (sI N)):bH (sI N) Tryd.f53.ntmps (ZR N) QY:=bS _ _ (aF trivial (aF trivial (aF (aF trivial (aMh N hc)) trivial)))
theorem aM9[aB] N s10 s21:Q0 N (ZN N) s10 s21=exec (sI N) Tryd.f53.ntmps (ZR N) QY ⟨cA 0 [.e (.sl .u8) s10,.e (.sl .u8) s21],[],100⟩ (cD (sI N) Tryd.f53 false):=by kernel_rfl
def Eh(r:aM):Option (Bool):=match r with
 |(x0,[])=>(match ue .bo x0 with|some a0=>some a0|_=>none)
 |_=>none
theorem aM6{r d}(h:Eh r=some d):r=sH (d):=by
 unfold Eh at h;split at h
 .split at h
  .rename_i h0;cases h;rw[bG h0];rfl
  .cases h
 .cases h
def uY N s10 s21:=(ZT N s10 s21).bind Eh
theorem aMb{N}(hc:aK (sI N)){s10 s21 d}(hd:uY N s10 s21=some d):cI Tryd.prog 53 [.e (.sl .u8) s10,.e (.sl .u8) s21] [] (sH (d)):=
 cJ hc (by kernel_rfl) (by kernel_rfl) (aMa N hc) (by kernel_rfl) aM6 (λhr=>(aM9 N s10 s21).symm.trans (by rw[aMc N];exact hr)) hd
def JW N s10 s21:=(uY N s10 s21).isSome
def JU N s10 s21:=((uY N s10 s21).getD false)
def QW(N:Nat):bR:=E2 (.sl .u8) (.sl .u8) (λx0 x1=>(JW N x0 x1,sH (JU N x0 x1)))
theorem ZO N:aX Tryd.prog 53 (QW N):=aX.e2 (λx0 x1 h=>cS (z:=uY N x0 x1) h (aMb (aMd N)) rfl)
def CI(a0:(List aG)):aM:=(.e (.sl (.sl .u8)) a0,[])
def j7(_:Nat):Cx:=⟨Tryd.prog,99999,[],[]⟩
def Ej:Code:=Tryd.f52.body.getD .skip
theorem aNC N:aK (j7 N):=cH (by kernel_rfl) .nil .nil
def CK[aB](_:Nat)(self:Int->O)(k0:(List aG)->Int->Int->Bool->aG->aG->aG->aG->Int->Int->Int->Bool->Bool->Bool->(List aG)->O)(x61_0:(List aG))(x61_1 x61_2:Int)(x61_3:Bool)(x61_4 x61_5:aG)(x61_6 x61_7:aG)(x61_8:Int)(x61_10:(List aG))(x61_9:Int):O:=
 gc (decide (0<x61_9)) 0 x61_6 (aA.wrap (x61_9-1)) λy64=>
 br (decide (0<x61_9)&&decide (y64=0))
  (self (aA.wrap (x61_9-1)))
  (k0 x61_0 x61_1 x61_2 x61_3 x61_4 x61_5 x61_6 x61_7 x61_8 x61_9 x61_9 (decide (0<x61_9)) (decide (0<x61_9)) (decide (0<x61_9)&&decide (y64=0)) x61_10)
def Q5:Code:=cE [1,1,0,1,0,0,1,1,0,0,1,1,0,0,0] Ej
def Z0:Nm:=⟨[2,3,7,8,9,10,11,12,5,13,14,6],[],[]⟩
def zP(x:(List aG)×Int×Int×Bool×aG×aG×aG×aG×Int×Int×(List aG)):Sg:=⟨[(2,.bI),(3,.own 0),(7,.e (.sl (.sl .u8)) x.1),(8,.e (.i .i64) x.2.1),(9,.e (.i .i64) x.2.2.1),(10,.e .bo x.2.2.2.1),(11,.pt (.sl .u8) x.2.2.2.2.1 0),(12,.e (.sl .u8) x.2.2.2.2.2.1),(5,.e (.sl .u8) x.2.2.2.2.2.2.1),(13,.e (.sl .u8) x.2.2.2.2.2.2.2.1),(14,.e (.i .i64) x.2.2.2.2.2.2.2.2.1),(6,.e (.i .i64) x.2.2.2.2.2.2.2.2.2.1)],[(0,.row 42 (.sl .u8) x.2.2.2.2.2.2.2.2.2.2 true)],100⟩
def J2(σ:Sg):(List aG)×Int×Int×Bool×aG×aG×aG×aG×Int×Int×(List aG):=(aC (.sl (.sl .u8)) 7 0 σ,aC (.i .i64) 8 0 σ,aC (.i .i64) 9 0 σ,aC .bo 10 0 σ,aC (.sl .u8) 11 0 σ,aC (.sl .u8) 12 0 σ,aC (.sl .u8) 5 0 σ,aC (.sl .u8) 13 0 σ,aC (.i .i64) 14 0 σ,aC (.i .i64) 6 0 σ,c9 (.sl .u8) 0 σ)
theorem aMr:∀x,J2 (zP x)=x:=λ_=>by kernel_rfl
def J5(y:(List aG)×Int×Int×Bool×aG×aG×aG×aG×Int×Int×Int×Bool×Bool×Bool×(List aG)):Exit×Sg:=((.exit 2),⟨[(2,.bI),(3,.own 0),(7,.e (.sl (.sl .u8)) y.1),(8,.e (.i .i64) y.2.1),(9,.e (.i .i64) y.2.2.1),(10,.e .bo y.2.2.2.1),(11,.pt (.sl .u8) y.2.2.2.2.1 0),(12,.e (.sl .u8) y.2.2.2.2.2.1),(5,.e (.sl .u8) y.2.2.2.2.2.2.1),(13,.e (.sl .u8) y.2.2.2.2.2.2.2.1),(14,.e (.i .i64) y.2.2.2.2.2.2.2.2.1),(6,.e (.i .i64) y.2.2.2.2.2.2.2.2.2.1),(15,.e (.i .i64) y.2.2.2.2.2.2.2.2.2.2.1),(16,.e .bo y.2.2.2.2.2.2.2.2.2.2.2.1),(17,.e .bo y.2.2.2.2.2.2.2.2.2.2.2.2.1),(24,.e .bo y.2.2.2.2.2.2.2.2.2.2.2.2.2.1)],[(0,.row 42 (.sl .u8) y.2.2.2.2.2.2.2.2.2.2.2.2.2.2 true)],100⟩)
def aMn(_:Exit)(σ:Sg):(List aG)×Int×Int×Bool×aG×aG×aG×aG×Int×Int×Int×Bool×Bool×Bool×(List aG):=(aC (.sl (.sl .u8)) 7 0 σ,aC (.i .i64) 8 0 σ,aC (.i .i64) 9 0 σ,aC .bo 10 0 σ,aC (.sl .u8) 11 0 σ,aC (.sl .u8) 12 0 σ,aC (.sl .u8) 5 0 σ,aC (.sl .u8) 13 0 σ,aC (.i .i64) 14 0 σ,aC (.i .i64) 6 0 σ,aC (.i .i64) 15 0 σ,aC .bo 16 0 σ,aC .bo 17 0 σ,aC .bo 24 0 σ,c9 (.sl .u8) 0 σ)
def aMk:List (Exit×Nm):=[((.exit 2),⟨[2,3,7,8,9,10,11,12,5,13,14,6,15,16,17,24],[],[]⟩)]
def zM[aB](N:Nat):Nat->((List aG)×Int×Int×Bool×aG×aG×aG×aG×Int×Int×(List aG))->(((List aG)×Int×Int×Bool×aG×aG×aG×aG×Int×Int×Int×Bool×Bool×Bool×(List aG))->O)->((Unit)->O)->((Unit)->O)->O
 |0,_,_,_,_=>none
 |n+1,x,k0,k1,k2=>CK N (λv0=>zM N n (x.1,x.2.1,x.2.2.1,x.2.2.2.1,x.2.2.2.2.1,x.2.2.2.2.2.1,x.2.2.2.2.2.2.1,x.2.2.2.2.2.2.2.1,x.2.2.2.2.2.2.2.2.1,v0,x.2.2.2.2.2.2.2.2.2.2) k0 k1 k2) (λy0 y1 y2 y3 y4 y5 y6 y7 y8 y9 y10 y11 y12 y13 y14=>k0 (y0,y1,y2,y3,y4,y5,y6,y7,y8,y9,y10,y11,y12,y13,y14)) x.1 x.2.1 x.2.2.1 x.2.2.2.1 x.2.2.2.2.1 x.2.2.2.2.2.1 x.2.2.2.2.2.2.1 x.2.2.2.2.2.2.2.1 x.2.2.2.2.2.2.2.2.1 x.2.2.2.2.2.2.2.2.2.2 x.2.2.2.2.2.2.2.2.2.1
def Q2[aB] N a0 a1 a2 a3 a4 a5 a6 a7 a8 a9 a10 (k0:(List aG)->Int->Int->Bool->aG->aG->aG->aG->Int->Int->Int->Bool->Bool->Bool->(List aG)->O):=zM N N (a0,a1,a2,a3,a4,a5,a6,a7,a8,a9,a10) (λy=>k0 y.1 y.2.1 y.2.2.1 y.2.2.2.1 y.2.2.2.2.1 y.2.2.2.2.2.1 y.2.2.2.2.2.2.1 y.2.2.2.2.2.2.2.1 y.2.2.2.2.2.2.2.2.1 y.2.2.2.2.2.2.2.2.2.1 y.2.2.2.2.2.2.2.2.2.2.1 y.2.2.2.2.2.2.2.2.2.2.2.1 y.2.2.2.2.2.2.2.2.2.2.2.2.1 y.2.2.2.2.2.2.2.2.2.2.2.2.2.1 y.2.2.2.2.2.2.2.2.2.2.2.2.2.2) (λ_=>none) (λ_=>none)
def Q1[aB] N a0 a1 a2 a3 a4 a5 a6 a7 a8 a9 a10 (k0:(List aG)->Int->Int->Bool->aG->aG->aG->aG->Int->Int->Int->Bool->Bool->Bool->(List aG)->O):=aP zP J2 (zM N N) (zP (a0,a1,a2,a3,a4,a5,a6,a7,a8,a9,a10)) (λy=>k0 y.1 y.2.1 y.2.2.1 y.2.2.2.1 y.2.2.2.2.1 y.2.2.2.2.2.1 y.2.2.2.2.2.2.1 y.2.2.2.2.2.2.2.1 y.2.2.2.2.2.2.2.2.1 y.2.2.2.2.2.2.2.2.2.1 y.2.2.2.2.2.2.2.2.2.2.1 y.2.2.2.2.2.2.2.2.2.2.2.1 y.2.2.2.2.2.2.2.2.2.2.2.2.1 y.2.2.2.2.2.2.2.2.2.2.2.2.2.1 y.2.2.2.2.2.2.2.2.2.2.2.2.2.2) (λ_=>none) (λ_=>none)
theorem Z3[aB] N:Q1 N=Q2 N:=funext λ_=>funext λ_=>funext λ_=>funext λ_=>funext λ_=>funext λ_=>funext λ_=>funext λ_=>funext λ_=>funext λ_=>funext λ_=>funext λ_=>cL aMr _ _ _ _
theorem aMu[aB](N:Nat)(self:Sg->O)(K:Exit->Sg->O)(x:(List aG)×Int×Int×Bool×aG×aG×aG×aG×Int×Int×(List aG)):CK N (λv0=>self (zP (x.1,x.2.1,x.2.2.1,x.2.2.2.1,x.2.2.2.2.1,x.2.2.2.2.2.1,x.2.2.2.2.2.2.1,x.2.2.2.2.2.2.2.1,x.2.2.2.2.2.2.2.2.1,v0,x.2.2.2.2.2.2.2.2.2.2))) (λy0 y1 y2 y3 y4 y5 y6 y7 y8 y9 y10 y11 y12 y13 y14=>K (J5 (y0,y1,y2,y3,y4,y5,y6,y7,y8,y9,y10,y11,y12,y13,y14)).1 (J5 (y0,y1,y2,y3,y4,y5,y6,y7,y8,y9,y10,y11,y12,y13,y14)).2) x.1 x.2.1 x.2.2.1 x.2.2.2.1 x.2.2.2.2.1 x.2.2.2.2.2.1 x.2.2.2.2.2.2.1 x.2.2.2.2.2.2.2.1 x.2.2.2.2.2.2.2.2.1 x.2.2.2.2.2.2.2.2.2.2 x.2.2.2.2.2.2.2.2.2.1=exec (j7 N) Tryd.f52.ntmps .d Q5 (zP x) (cZ Z0 aMk self K):=by kernel_rfl
theorem aNG N (hc:aK (j7 N)):cF (j7 N) Tryd.f52.ntmps (.loop Q5) J5 (aN 1) (aN 2) (aP zP J2 (zM N N)):=
 dD hc (cX Q5) (eC aMn (.exit 2) (λ_=>by kernel_rfl) (λ_=>rfl) (by kernel_rfl)) (n:=N) (λx K=>dE (zM N) (λ_ _ _ _=>rfl) (λn K ih x=>by
  refine dK ?_ (aMu N _ K x);simp only[<-ih];rfl) N x K)
def J6[aB](_:Nat)(in0:(List aG)->Int->Int->Bool->aG->aG->aG->aG->Int->Int->(List aG)->((List aG)->Int->Int->Bool->aG->aG->aG->aG->Int->Int->Int->Bool->Bool->Bool->(List aG)->O)->O)(self:(List aG)->Int->Int->(List aG)->O)(k0:(List aG)->O)(x0_0:(List aG))(x0_1 x0_2:Int)(x0_3:(List aG)):O:=
 br (decide (x0_2<x0_1))
  (gx x0_0 x0_2 λy60=>
  in0 x0_0 x0_1 x0_2 (decide (x0_2<x0_1)) y60 y60 y60 y60 ((↑y60.length:Int)) ((↑y60.length:Int)) x0_3
   (λz65 z66 z67 _ _ _ z71 _ _ z74 _ _ _ _ z79=>
    ck (dX z71.length none (some z74))<|
    ck (b9 (z79++[bW z71 none (some z74)]).length (24:Nat))<|
    self z65 z66 (aA.wrap (z67+1)) (z79++[bW z71 none (some z74)])))
  (k0 x0_3)
def Q4:Code:=cE [1,1,0,1,0,0] Ej
def ZZ:Nm:=⟨[2,3,7,8,9],[],[.mL 3 (.row 42 (.sl .u8) [] true)]⟩
def zO(x:(List aG)×Int×Int×(List aG)):Sg:=⟨[(2,.bI),(3,.own 0),(7,.e (.sl (.sl .u8)) x.1),(8,.e (.i .i64) x.2.1),(9,.e (.i .i64) x.2.2.1)],[(0,.row 42 (.sl .u8) x.2.2.2 true)],100⟩
def J1(σ:Sg):(List aG)×Int×Int×(List aG):=(aC (.sl (.sl .u8)) 7 0 σ,aC (.i .i64) 8 0 σ,aC (.i .i64) 9 0 σ,c9 (.sl .u8) 0 σ)
theorem aMq:∀x,J1 (zO x)=x:=λ_=>by kernel_rfl
def J4(y:(List aG)):Exit×Sg:=((.exit 0),⟨[(2,.bI),(3,.own 0)],[(0,.row 42 (.sl .u8) y true)],100⟩)
def aMm(_:Exit)(σ:Sg):(List aG):=c9 (.sl .u8) 0 σ
def aMj:List (Exit×Nm):=[((.exit 0),⟨[2,3],[],[]⟩)]
def zL[aB](N:Nat):Nat->((List aG)×Int×Int×(List aG))->(((List aG))->O)->((Unit)->O)->((Unit)->O)->O
 |0,_,_,_,_=>none
 |n+1,x,k0,k1,k2=>J6 N (Q2 N) (λv0 v1 v2 v3=>zL N n (v0,v1,v2,v3) k0 k1 k2) (λy0=>k0 y0) x.1 x.2.1 x.2.2.1 x.2.2.2
def ZX[aB] N a0 a1 a2 a3 (k0:(List aG)->O):=zL N N (a0,a1,a2,a3) (λy=>k0 y) (λ_=>none) (λ_=>none)
def ZV[aB] N a0 a1 a2 a3 (k0:(List aG)->O):=aP zO J1 (zL N N) (zO (a0,a1,a2,a3)) (λy=>k0 y) (λ_=>none) (λ_=>none)
theorem aNB[aB] N:ZV N=ZX N:=funext λ_=>funext λ_=>funext λ_=>funext λ_=>funext λ_=>cL aMq _ _ _ _
def Z1[aB](N:Nat):Hint:=(.seq .d (.seq .d (.seq (.block (.seq .d (.seq .d (.seq (.block (.sub Z0 _ _ _ J5 (aN 1) (aN 2) (aP zP J2 (zM N N)))) .d)))) .d)))
theorem aMx N (hc:aK (j7 N)):bH (j7 N) Tryd.f52.ntmps (Z1 N) Q4:=bS _ _ (aF trivial (aF trivial (aF (aF trivial (aF trivial (aF (aNG N hc) trivial))) trivial)))
theorem aMt[aB](N:Nat)(self:Sg->O)(K:Exit->Sg->O)(x:(List aG)×Int×Int×(List aG)):J6 N (Q1 N) (λv0 v1 v2 v3=>self (zO (v0,v1,v2,v3))) (λy0=>K (J4 y0).1 (J4 y0).2) x.1 x.2.1 x.2.2.1 x.2.2.2=exec (j7 N) Tryd.f52.ntmps (Z1 N) Q4 (zO x) (cZ ZZ aMj self K):=by kernel_rfl
theorem aNF N (hc:aK (j7 N)):cF (j7 N) Tryd.f52.ntmps (.loop Q4) J4 (aN 1) (aN 2) (aP zO J1 (zL N N)):=
 dD hc (aMx N hc) (eC aMm (.exit 0) (λ_=>by kernel_rfl) (λ_=>rfl) (by kernel_rfl)) (n:=N) (λx K=>dE (zL N) (λ_ _ _ _=>rfl) (λn K ih x=>by
  refine dK ?_ (aMt N _ K x);simp only[Z3 N,<-ih];rfl) N x K)
def CJ[aB](_:Nat)(self:(List aG)->O)(k0:(List aG)->O)(x81_0:(List aG)):O:=
 gc (decide ((0:Int)<(↑x81_0.length:Int))) [] x81_0 (aA.wrap ((↑x81_0.length:Int)-(1:Int))) λy85=>
 br (decide ((0:Int)<(↑x81_0.length:Int))&&decide ((↑y85.length:Int)=(0:Int)))
  (ck (dX x81_0.length none (some (aA.wrap ((↑x81_0.length:Int)-(1:Int)))))<|
  self (bW x81_0 none (some (aA.wrap ((↑x81_0.length:Int)-(1:Int))))))
  (k0 x81_0)
def Q3:Code:=cE [1,1,1,0,0,0] Ej
def ZY:Nm:=⟨[2,3],[(3,(.sl (.sl .u8)))],[.qP 3]⟩
def zN(x:(List aG)):Sg:=⟨[(2,.bI),(3,.e (.sl (.sl .u8)) x)],[],100⟩
def J0(σ:Sg):(List aG):=aC (.sl (.sl .u8)) 3 0 σ
theorem aMp:∀x,J0 (zN x)=x:=λ_=>by kernel_rfl
def J3(y:(List aG)):Exit×Sg:=((.exit 4),⟨[(2,.bI),(3,.e (.sl (.sl .u8)) y)],[],100⟩)
def aMl(_:Exit)(σ:Sg):(List aG):=aC (.sl (.sl .u8)) 3 0 σ
def aMi:List (Exit×Nm):=[((.exit 4),⟨[2,3],[],[]⟩)]
def zK[aB](N:Nat):Nat->(List aG)->(((List aG))->O)->((Unit)->O)->((Unit)->O)->O
 |0,_,_,_,_=>none
 |n+1,x,k0,k1,k2=>CJ N (λv0=>zK N n v0 k0 k1 k2) (λy0=>k0 y0) x
def ZW[aB] N a0 (k0:(List aG)->O):=zK N N a0 (λy=>k0 y) (λ_=>none) (λ_=>none)
def ZU[aB] N a0 (k0:(List aG)->O):=aP zN J0 (zK N N) (zN a0) (λy=>k0 y) (λ_=>none) (λ_=>none)
theorem aNA[aB] N:ZU N=ZW N:=funext λ_=>funext λ_=>cL aMp _ _ _ _
theorem aMs[aB](N:Nat)(self:Sg->O)(K:Exit->Sg->O)(x:(List aG)):CJ N (λv0=>self (zN v0)) (λy0=>K (J3 y0).1 (J3 y0).2) x=exec (j7 N) Tryd.f52.ntmps .d Q3 (zN x) (cZ ZY aMi self K):=by kernel_rfl
theorem aNE N (hc:aK (j7 N)):cF (j7 N) Tryd.f52.ntmps (.loop Q3) J3 (aN 1) (aN 2) (aP zN J0 (zK N N)):=
 dD hc (cX Q3) (eC aMl (.exit 4) (λ_=>by kernel_rfl) (λ_=>rfl) (by kernel_rfl)) (n:=N) (λx K=>dE (zK N) (λ_ _ _ _=>rfl) (λn K ih x=>by
  refine dK ?_ (aMs N _ K x);simp only[<-ih];rfl) N x K)
def Q6[aB](_:Nat)(_in0:(List aG)->Int->Int->Bool->aG->aG->aG->aG->Int->Int->(List aG)->((List aG)->Int->Int->Bool->aG->aG->aG->aG->Int->Int->Int->Bool->Bool->Bool->(List aG)->O)->O)(in1:(List aG)->Int->Int->(List aG)->((List aG)->O)->O)(in2:(List aG)->((List aG)->O)->O)(p0:(List aG)):O:=
 in1 p0 ((↑p0.length:Int)) 0 []
  (λz80=>
   in2 z80
    (λz86=>
     some (CI z86)))
def Zb[aB] N p0:=Q6 N (Q2 N) (ZX N) (ZW N) p0
def Z2[aB](N:Nat):Hint:=(.seq .d (.seq .d (.seq (.seq .d (.block (.sub ZZ _ _ _ J4 (aN 1) (aN 2) (aP zO J1 (zL N N))))) (.seq (.block (.sub ZY _ _ _ J3 (aN 1) (aN 2) (aP zN J0 (zK N N)))) .d))))
theorem aMy N (hc:aK (j7 N)):bH (j7 N) Tryd.f52.ntmps (Z2 N) Ej:=bS _ _ (aF trivial (aF trivial (aF (aF trivial (aNF N hc)) (aF (aNE N hc) trivial))))
theorem aMv[aB] N p0:Q6 N (Q1 N) (ZV N) (ZU N) p0=exec (j7 N) Tryd.f52.ntmps (Z2 N) Ej ⟨cA 0 [.e (.sl (.sl .u8)) p0],[],100⟩ (cD (j7 N) Tryd.f52 false):=by kernel_rfl
def CH(r:aM):Option ((List aG)):=match r with
 |(x0,[])=>(match ue (.sl (.sl .u8)) x0 with|some a0=>some a0|_=>none)
 |_=>none
theorem aMo{r d}(h:CH r=some d):r=CI (d):=by
 unfold CH at h;split at h
 .split at h
  .rename_i h0;cases h;rw[bG h0];rfl
  .cases h
 .cases h
def uZ N p0:=(Zb N p0).bind CH
theorem aMz{N}(hc:aK (j7 N)){p0 d}(hd:uZ N p0=some d):cI Tryd.prog 52 [.e (.sl (.sl .u8)) p0] [] (CI (d)):=
 cJ hc (by kernel_rfl) (by kernel_rfl) (aMy N hc) (by kernel_rfl) aMo (λhr=>(aMv N p0).symm.trans (by rw[Z3 N,aNB N,aNA N];exact hr)) hd
def Ei N p0:=(uZ N p0).isSome
def zJ N p0:=((uZ N p0).getD [])
def Z4(N:Nat):bR:=E1 (.sl (.sl .u8)) (λx0=>(Ei N x0,CI (zJ N x0)))
theorem aMw N:aX Tryd.prog 52 (Z4 N):=aX.e1 (λx0 h=>cS (z:=uZ N x0) h (aMz (aNC N)) rfl)
def sJ(a0:Bool):aM:=(.e .bo a0,[])
def sK(N:Nat):Cx:=⟨Tryd.prog,99999,[(53,QW N)],[]⟩
def Q8:Code:=Tryd.f51.body.getD .skip
theorem aNS N:aK (sK N):=cH (by kernel_rfl) (.cons (by kernel_rfl) (ZO N) .nil) .nil
def Jc[aB](N:Nat)(self:Int->O)(k0:Bool->O)(k1:Bool->O)(x0_0:(List aG))(x0_1:Bool)(x0_2:(List aG))(x0_3 x0_4:Int):O:=
 br (decide (x0_4<x0_3))
  (gx x0_2 x0_4 λy5=>
  gx x0_0 x0_4 λy6=>
  ck (JW N y5 y6)<|
  br (!JU N y5 y6)
   (k0 false)
   (self (aA.wrap (x0_4+1))))
  (k1 x0_1)
def Q7:Code:=cE [1,1,0,1,0,0] Q8
def Ze:Nm:=⟨[1,2,6,15,16,17],[],[]⟩
def zR(x:(List aG)×Bool×(List aG)×Int×Int):Sg:=⟨[(1,.e (.sl (.sl .u8)) x.1),(2,.fn 53 []),(6,.e .bo x.2.1),(15,.e (.sl (.sl .u8)) x.2.2.1),(16,.e (.i .i64) x.2.2.2.1),(17,.e (.i .i64) x.2.2.2.2)],[],100⟩
def J8(σ:Sg):(List aG)×Bool×(List aG)×Int×Int:=(aC (.sl (.sl .u8)) 1 0 σ,aC .bo 6 0 σ,aC (.sl (.sl .u8)) 15 0 σ,aC (.i .i64) 16 0 σ,aC (.i .i64) 17 0 σ)
theorem aNL:∀x,J8 (zR x)=x:=λ_=>by kernel_rfl
def Jb(y:Bool):Exit×Sg:=(.ret,⟨[(6,.e .bo y)],[],100⟩)
def aNJ(_:Exit)(σ:Sg):Bool:=aC .bo 6 0 σ
def Ja(y:Bool):Exit×Sg:=((.exit 0),⟨[(6,.e .bo y)],[],100⟩)
def aNI(_:Exit)(σ:Sg):Bool:=aC .bo 6 0 σ
def aNH:List (Exit×Nm):=[(.ret,⟨[6],[],[]⟩),((.exit 0),⟨[6],[],[]⟩)]
def zQ[aB](N:Nat):Nat->((List aG)×Bool×(List aG)×Int×Int)->((Bool)->O)->((Bool)->O)->((Unit)->O)->O
 |0,_,_,_,_=>none
 |n+1,x,k0,k1,k2=>Jc N (λv0=>zQ N n (x.1,x.2.1,x.2.2.1,x.2.2.2.1,v0) k0 k1 k2) (λy0=>k0 y0) (λy0=>k1 y0) x.1 x.2.1 x.2.2.1 x.2.2.2.1 x.2.2.2.2
def Zd[aB] N a0 a1 a2 a3 a4 (k0:Bool->O) (k1:Bool->O):=zQ N N (a0,a1,a2,a3,a4) (λy=>k0 y) (λy=>k1 y) (λ_=>none)
def Zc[aB] N a0 a1 a2 a3 a4 (k0:Bool->O) (k1:Bool->O):=aP zR J8 (zQ N N) (zR (a0,a1,a2,a3,a4)) (λy=>k0 y) (λy=>k1 y) (λ_=>none)
theorem aNR[aB] N:Zc N=Zd N:=funext λ_=>funext λ_=>funext λ_=>funext λ_=>funext λ_=>funext λ_=>funext λ_=>cL aNL _ _ _ _
theorem aNM[aB](N:Nat)(self:Sg->O)(K:Exit->Sg->O)(x:(List aG)×Bool×(List aG)×Int×Int):Jc N (λv0=>self (zR (x.1,x.2.1,x.2.2.1,x.2.2.2.1,v0))) (λy0=>K (Jb y0).1 (Jb y0).2) (λy0=>K (Ja y0).1 (Ja y0).2) x.1 x.2.1 x.2.2.1 x.2.2.2.1 x.2.2.2.2=exec (sK N) Tryd.f51.ntmps .d Q7 (zR x) (cZ Ze aNH self K):=by kernel_rfl
theorem aNW N (hc:aK (sK N)):cF (sK N) Tryd.f51.ntmps (.loop Q7) Jb Ja (aN 2) (aP zR J8 (zQ N N)):=
 dD hc (cX Q7) (jA aNJ aNI .ret (.exit 0) (λ_=>by kernel_rfl) (λ_=>by kernel_rfl) (λ_=>rfl) (λ_=>rfl) (by kernel_rfl)) (n:=N) (λx K=>dE (zQ N) (λ_ _ _ _=>rfl) (λn K ih x=>by
  refine dK ?_ (aNM N _ K x);simp only[<-ih];rfl) N x K)
def Qa[aB](_:Nat)(in0:(List aG)->Bool->(List aG)->Int->Int->(Bool->O)->(Bool->O)->O)(s10 s21:(List aG)):O:=
 br (decide ((↑s10.length:Int)≠(↑s21.length:Int)))
  (some (sJ false))
  (in0 s21 false s10 ((↑s10.length:Int)) 0
   (λz7=>
    some (sJ z7))
   (λ_=>
    some (sJ true)))
def Zi[aB] N s10 s21:=Qa N (Zd N) s10 s21
def Zf[aB](N:Nat):Hint:=(.seq .d (.seq .d (.seq (.seq .d (.block (.sub Ze _ _ _ Jb Ja (aN 2) (aP zR J8 (zQ N N))))) .d)))
theorem aNP N (hc:aK (sK N)):bH (sK N) Tryd.f51.ntmps (Zf N) Q8:=bS _ _ (aF trivial (aF trivial (aF (aF trivial (aNW N hc)) trivial)))
theorem aNN[aB] N s10 s21:Qa N (Zc N) s10 s21=exec (sK N) Tryd.f51.ntmps (Zf N) Q8 ⟨cA 0 [.e (.sl (.sl .u8)) s10,.e (.sl (.sl .u8)) s21,.fn 53 []],[],100⟩ (cD (sK N) Tryd.f51 false):=by kernel_rfl
def Ek(r:aM):Option (Bool):=match r with
 |(x0,[])=>(match ue .bo x0 with|some a0=>some a0|_=>none)
 |_=>none
theorem aNK{r d}(h:Ek r=some d):r=sJ (d):=by
 unfold Ek at h;split at h
 .split at h
  .rename_i h0;cases h;rw[bG h0];rfl
  .cases h
 .cases h
def u6 N s10 s21:=(Zi N s10 s21).bind Ek
theorem aNQ{N}(hc:aK (sK N)){s10 s21 d}(hd:u6 N s10 s21=some d):cI Tryd.prog 51 [.e (.sl (.sl .u8)) s10,.e (.sl (.sl .u8)) s21,.fn 53 []] [] (sJ (d)):=
 cJ hc (by kernel_rfl) (by kernel_rfl) (aNP N hc) (by kernel_rfl) aNK (λhr=>(aNN N s10 s21).symm.trans (by rw[aNR N];exact hr)) hd
def J9 N s10 s21:=(u6 N s10 s21).isSome
def J7 N s10 s21:=((u6 N s10 s21).getD false)
def Zg(N:Nat):bR:=Vb (.sl (.sl .u8)) (.sl (.sl .u8)) 53 (λx0 x1=>(J9 N x0 x1,sJ (J7 N x0 x1)))
theorem aNO N:aX Tryd.prog 51 (Zg N):=aX.f2 (λx0 x1 h=>cS (z:=u6 N x0 x1) h (aNQ (aNS N)) rfl)
def FM(a0:Bool):aM:=(.e .bo a0,[])
def FN(N:Nat):Cx:=⟨Tryd.prog,99999,[(52,Z4 N),(51,Zg N),(53,QW N)],[]⟩
def aBz:Code:=Tryd.f32.body.getD .skip
theorem aRo N:aK (FN N):=cH (by kernel_rfl) (.cons (by kernel_rfl) (aMw N) (.cons (by kernel_rfl) (aNO N) (.cons (by kernel_rfl) (ZO N) .nil))) .nil
def Rj[aB](N:Nat)(a0 b1:(List aG)):O:=
 ck (Ei N a0)<|
 ck (Ei N b1)<|
 ck (J9 N (zJ N a0) (zJ N b1))<|
 some (FM (J7 N (zJ N a0) (zJ N b1)))
def w32[aB] N a0 b1:=Rj N a0 b1
def aBx[aB](_:Nat):Hint:=.d
theorem aRm N:bH (FN N) Tryd.f32.ntmps (aBx N) aBz:=bS _ _ trivial
theorem aRk[aB] N a0 b1:Rj N a0 b1=exec (FN N) Tryd.f32.ntmps (aBx N) aBz ⟨cA 0 [.e (.sl (.sl .u8)) a0,.e (.sl (.sl .u8)) b1],[],100⟩ (cD (FN N) Tryd.f32 false):=by kernel_rfl
def LV(r:aM):Option (Bool):=match r with
 |(x0,[])=>(match ue .bo x0 with|some a0=>some a0|_=>none)
 |_=>none
theorem aRj{r d}(h:LV r=some d):r=FM (d):=by
 unfold LV at h;split at h
 .split at h
  .rename_i h0;cases h;rw[bG h0];rfl
  .cases h
 .cases h
def vQ N a0 b1:=(w32 N a0 b1).bind LV
theorem aRn{N}(hc:aK (FN N)){a0 b1 d}(hd:vQ N a0 b1=some d):cI Tryd.prog 32 [.e (.sl (.sl .u8)) a0,.e (.sl (.sl .u8)) b1] [] (FM (d)):=
 cJ hc (by kernel_rfl) (by kernel_rfl) (aRm N) (by kernel_rfl) aRj (aRk N a0 b1).symm.trans hd
def C6 N a0 b1:=(vQ N a0 b1).isSome
def A1 N a0 b1:=((vQ N a0 b1).getD false)
def aBy(N:Nat):bR:=E2 (.sl (.sl .u8)) (.sl (.sl .u8)) (λx0 x1=>(C6 N x0 x1,FM (A1 N x0 x1)))
theorem aRl N:aX Tryd.prog 32 (aBy N):=aX.e2 (λx0 x1 h=>cS (z:=vQ N x0 x1) h (aRn (aRo N)) rfl)
def rX(a0:Int):aM:=(.e (.i .i64) a0,[])
def rY(_:Nat):Cx:=⟨Tryd.prog,99999,[],[]⟩
def PU:Code:=Tryd.f72.body.getD .skip
theorem aJi N:aK (rY N):=cH (by kernel_rfl) .nil .nil
def IP[aB](_:Nat)(self:Int->O)(k0:Int->O)(k1:Int->O)(x0_0:aG)(x0_1:UInt8)(x0_2 x0_3 x0_4:Int):O:=
 br (decide (x0_4<x0_3))
  (gx x0_0 x0_4 λy3=>
  br (decide (x0_1=y3))
   (k0 x0_4)
   (self (aA.wrap (x0_4+1))))
  (k1 x0_2)
def PT:Code:=cE [1,0,1,0,0] PU
def X8:Nm:=⟨[0,1,4,7,8],[],[]⟩
def yN(x:aG×UInt8×Int×Int×Int):Sg:=⟨[(0,.e (.sl .u8) x.1),(1,.e .u8 x.2.1),(4,.e (.i .i64) x.2.2.1),(7,.e (.i .i64) x.2.2.2.1),(8,.e (.i .i64) x.2.2.2.2)],[],100⟩
def IK(σ:Sg):aG×UInt8×Int×Int×Int:=(aC (.sl .u8) 0 0 σ,aC .u8 1 0 σ,aC (.i .i64) 4 0 σ,aC (.i .i64) 7 0 σ,aC (.i .i64) 8 0 σ)
theorem aJc:∀x,IK (yN x)=x:=λ_=>by kernel_rfl
def IM(y:Int):Exit×Sg:=(.ret,⟨[(4,.e (.i .i64) y)],[],100⟩)
def aJa(_:Exit)(σ:Sg):Int:=aC (.i .i64) 4 0 σ
def IL(y:Int):Exit×Sg:=((.exit 0),⟨[(4,.e (.i .i64) y)],[],100⟩)
def aJ9(_:Exit)(σ:Sg):Int:=aC (.i .i64) 4 0 σ
def aJ8:List (Exit×Nm):=[(.ret,⟨[4],[],[]⟩),((.exit 0),⟨[4],[],[]⟩)]
def uK[aB](N:Nat):Nat->(aG×UInt8×Int×Int×Int)->((Int)->O)->((Int)->O)->((Unit)->O)->O
 |0,_,_,_,_=>none
 |n+1,x,k0,k1,k2=>IP N (λv0=>uK N n (x.1,x.2.1,x.2.2.1,x.2.2.2.1,v0) k0 k1 k2) (λy0=>k0 y0) (λy0=>k1 y0) x.1 x.2.1 x.2.2.1 x.2.2.2.1 x.2.2.2.2
def X7[aB] N a0 a1 a2 a3 a4 (k0:Int->O) (k1:Int->O):=uK N N (a0,a1,a2,a3,a4) (λy=>k0 y) (λy=>k1 y) (λ_=>none)
def X5[aB] N a0 a1 a2 a3 a4 (k0:Int->O) (k1:Int->O):=aP yN IK (uK N N) (yN (a0,a1,a2,a3,a4)) (λy=>k0 y) (λy=>k1 y) (λ_=>none)
theorem aJh[aB] N:X5 N=X7 N:=funext λ_=>funext λ_=>funext λ_=>funext λ_=>funext λ_=>funext λ_=>funext λ_=>cL aJc _ _ _ _
theorem aJd[aB](N:Nat)(self:Sg->O)(K:Exit->Sg->O)(x:aG×UInt8×Int×Int×Int):IP N (λv0=>self (yN (x.1,x.2.1,x.2.2.1,x.2.2.2.1,v0))) (λy0=>K (IM y0).1 (IM y0).2) (λy0=>K (IL y0).1 (IL y0).2) x.1 x.2.1 x.2.2.1 x.2.2.2.1 x.2.2.2.2=exec (rY N) Tryd.f72.ntmps .d PT (yN x) (cZ X8 aJ8 self K):=by kernel_rfl
theorem aJj N (hc:aK (rY N)):cF (rY N) Tryd.f72.ntmps (.loop PT) IM IL (aN 2) (aP yN IK (uK N N)):=
 dD hc (cX PT) (jA aJa aJ9 .ret (.exit 0) (λ_=>by kernel_rfl) (λ_=>by kernel_rfl) (λ_=>rfl) (λ_=>rfl) (by kernel_rfl)) (n:=N) (λx K=>dE (uK N) (λ_ _ _ _=>rfl) (λn K ih x=>by
  refine dK ?_ (aJd N _ K x);simp only[<-ih];rfl) N x K)
def Xd[aB](_:Nat)(in0:aG->UInt8->Int->Int->Int->(Int->O)->(Int->O)->O)(s0:aG)(v1:UInt8):O:=
 in0 s0 v1 0 ((↑s0.length:Int)) 0
  (λz4=>
   some (rX z4))
  (λ_=>
   some (rX ((-1:Int))))
def Xe[aB] N s0 v1:=Xd N (X7 N) s0 v1
def X9[aB](N:Nat):Hint:=(.seq .d (.seq (.seq .d (.block (.sub X8 _ _ _ IM IL (aN 2) (aP yN IK (uK N N))))) .d))
theorem aJf N (hc:aK (rY N)):bH (rY N) Tryd.f72.ntmps (X9 N) PU:=bS _ _ (aF trivial (aF (aF trivial (aJj N hc)) trivial))
theorem aJe[aB] N s0 v1:Xd N (X5 N) s0 v1=exec (rY N) Tryd.f72.ntmps (X9 N) PU ⟨cA 0 [.e (.sl .u8) s0,.e .u8 v1],[],100⟩ (cD (rY N) Tryd.f72 false):=by kernel_rfl
def PR(r:aM):Option (Int):=match r with
 |(x0,[])=>(match ue (.i .i64) x0 with|some a0=>some a0|_=>none)
 |_=>none
theorem aJb{r d}(h:PR r=some d):r=rX (d):=by
 unfold PR at h;split at h
 .split at h
  .rename_i h0;cases h;rw[bG h0];rfl
  .cases h
 .cases h
def rW N s0 v1:=(Xe N s0 v1).bind PR
theorem aJg{N}(hc:aK (rY N)){s0 v1 d}(hd:rW N s0 v1=some d):cI Tryd.prog 72 [.e (.sl .u8) s0,.e .u8 v1] [] (rX (d)):=
 cJ hc (by kernel_rfl) (by kernel_rfl) (aJf N hc) (by kernel_rfl) aJb (λhr=>(aJe N s0 v1).symm.trans (by rw[aJh N];exact hr)) hd
def Bu N s0 v1:=(rW N s0 v1).isSome
def j5 N s0 v1:=((rW N s0 v1).getD 0)
def PS(N:Nat):bR:=E2 (.sl .u8) .u8 (λx0 x1=>(Bu N x0 x1,rX (j5 N x0 x1)))
theorem X6 N:aX Tryd.prog 72 (PS N):=aX.e2 (λx0 x1 h=>cS (z:=rW N x0 x1) h (aJg (aJi N)) rfl)
def uA(a0:Int)(a1:Bool):aM:=(.aU [.e (.i .i64) a0,.e .bo a1],[])
def rN(N:Nat):Cx:=⟨Tryd.prog,99999,[(81,Ow N),(72,PS N)],[]⟩
def O6:Code:=Tryd.f89.body.getD .skip
theorem aH2 N:aK (rN N):=cH (by kernel_rfl) (.cons (by kernel_rfl) (W7 N) (.cons (by kernel_rfl) (X6 N) .nil)) .nil
def HW[aB](N:Nat)(self:Int->Int->Int->O)(k0:Int->Bool->O)(k1:Int->Bool->Int->Int->O)(x0_0:Int)(x0_1:Bool)(x0_4:(UInt8×(UInt8×(UInt8×(UInt8×(UInt8×(UInt8×(UInt8×(UInt8×(UInt8×UInt8))))))))))(x0_5:aG)(x0_6 x0_2:Int)(x0_3 x0_7:Int):O:=
 br (decide (x0_7<x0_6))
  (gx x0_5 x0_7 λy3=>
  br (decide (y3=0))
   (self x0_2 x0_3 (aA.wrap (x0_7+1)))
   (ck (Bu N [x0_4.1,x0_4.2.1,x0_4.2.2.1,x0_4.2.2.2.1,x0_4.2.2.2.2.1,x0_4.2.2.2.2.2.1,x0_4.2.2.2.2.2.2.1,x0_4.2.2.2.2.2.2.2.1,x0_4.2.2.2.2.2.2.2.2.1,x0_4.2.2.2.2.2.2.2.2.2] y3)<|
   br (decide (j5 N [x0_4.1,x0_4.2.1,x0_4.2.2.1,x0_4.2.2.2.1,x0_4.2.2.2.2.1,x0_4.2.2.2.2.2.1,x0_4.2.2.2.2.2.2.1,x0_4.2.2.2.2.2.2.2.1,x0_4.2.2.2.2.2.2.2.2.1,x0_4.2.2.2.2.2.2.2.2.2] y3<(0:Int))||decide (x0_3=6))
    (k0 0 false)
    (self (aA.wrap (aA.wrap ((10:Int)*x0_2)+j5 N [x0_4.1,x0_4.2.1,x0_4.2.2.1,x0_4.2.2.2.1,x0_4.2.2.2.2.1,x0_4.2.2.2.2.2.1,x0_4.2.2.2.2.2.2.1,x0_4.2.2.2.2.2.2.2.1,x0_4.2.2.2.2.2.2.2.2.1,x0_4.2.2.2.2.2.2.2.2.2] y3)) (aA.wrap (x0_3+1)) (aA.wrap (x0_7+1)))))
  (k1 x0_0 x0_1 x0_2 x0_3)
def O5:Code:=cE [1,1,1,0,1,0,0] O6
def Vv:Nm:=⟨[2,3,4,5,6,11,12,13],[],[]⟩
def xY(x:Int×Bool×Int×Int×(UInt8×(UInt8×(UInt8×(UInt8×(UInt8×(UInt8×(UInt8×(UInt8×(UInt8×UInt8)))))))))×aG×Int×Int):Sg:=⟨[(2,.e (.i .i64) x.1),(3,.e .bo x.2.1),(4,.e (.i .i64) x.2.2.1),(5,.e (.i .i64) x.2.2.2.1),(6,.pt (.pr .u8 (.pr .u8 (.pr .u8 (.pr .u8 (.pr .u8 (.pr .u8 (.pr .u8 (.pr .u8 (.pr .u8 .u8))))))))) x.2.2.2.2.1 0),(11,.e (.sl .u8) x.2.2.2.2.2.1),(12,.e (.i .i64) x.2.2.2.2.2.2.1),(13,.e (.i .i64) x.2.2.2.2.2.2.2)],[],100⟩
def HS(σ:Sg):Int×Bool×Int×Int×(UInt8×(UInt8×(UInt8×(UInt8×(UInt8×(UInt8×(UInt8×(UInt8×(UInt8×UInt8)))))))))×aG×Int×Int:=(aC (.i .i64) 2 0 σ,aC .bo 3 0 σ,aC (.i .i64) 4 0 σ,aC (.i .i64) 5 0 σ,aC (.pr .u8 (.pr .u8 (.pr .u8 (.pr .u8 (.pr .u8 (.pr .u8 (.pr .u8 (.pr .u8 (.pr .u8 .u8))))))))) 6 0 σ,aC (.sl .u8) 11 0 σ,aC (.i .i64) 12 0 σ,aC (.i .i64) 13 0 σ)
theorem aHV:∀x,HS (xY x)=x:=λ_=>by kernel_rfl
def HV(y:Int×Bool):Exit×Sg:=(.ret,⟨[(2,.e (.i .i64) y.1),(3,.e .bo y.2)],[],100⟩)
def aHT(_:Exit)(σ:Sg):Int×Bool:=(aC (.i .i64) 2 0 σ,aC .bo 3 0 σ)
def HU(y:Int×Bool×Int×Int):Exit×Sg:=((.exit 0),⟨[(2,.e (.i .i64) y.1),(3,.e .bo y.2.1),(4,.e (.i .i64) y.2.2.1),(5,.e (.i .i64) y.2.2.2)],[],100⟩)
def aHS(_:Exit)(σ:Sg):Int×Bool×Int×Int:=(aC (.i .i64) 2 0 σ,aC .bo 3 0 σ,aC (.i .i64) 4 0 σ,aC (.i .i64) 5 0 σ)
def aHR:List (Exit×Nm):=[(.ret,⟨[2,3],[],[]⟩),((.exit 0),⟨[2,3,4,5],[],[]⟩)]
def uB[aB](N:Nat):Nat->(Int×Bool×Int×Int×(UInt8×(UInt8×(UInt8×(UInt8×(UInt8×(UInt8×(UInt8×(UInt8×(UInt8×UInt8)))))))))×aG×Int×Int)->((Int×Bool)->O)->((Int×Bool×Int×Int)->O)->((Unit)->O)->O
 |0,_,_,_,_=>none
 |n+1,x,k0,k1,k2=>HW N (λv0 v1 v2=>uB N n (x.1,x.2.1,v0,v1,x.2.2.2.2.1,x.2.2.2.2.2.1,x.2.2.2.2.2.2.1,v2) k0 k1 k2) (λy0 y1=>k0 (y0,y1)) (λy0 y1 y2 y3=>k1 (y0,y1,y2,y3)) x.1 x.2.1 x.2.2.2.2.1 x.2.2.2.2.2.1 x.2.2.2.2.2.2.1 x.2.2.1 x.2.2.2.1 x.2.2.2.2.2.2.2
def Vu[aB] N a0 a1 a2 a3 a4 a5 a6 a7 (k0:Int->Bool->O) (k1:Int->Bool->Int->Int->O):=uB N N (a0,a1,a2,a3,a4,a5,a6,a7) (λy=>k0 y.1 y.2) (λy=>k1 y.1 y.2.1 y.2.2.1 y.2.2.2) (λ_=>none)
def Vt[aB] N a0 a1 a2 a3 a4 a5 a6 a7 (k0:Int->Bool->O) (k1:Int->Bool->Int->Int->O):=aP xY HS (uB N N) (xY (a0,a1,a2,a3,a4,a5,a6,a7)) (λy=>k0 y.1 y.2) (λy=>k1 y.1 y.2.1 y.2.2.1 y.2.2.2) (λ_=>none)
theorem aH1[aB] N:Vt N=Vu N:=funext λ_=>funext λ_=>funext λ_=>funext λ_=>funext λ_=>funext λ_=>funext λ_=>funext λ_=>funext λ_=>funext λ_=>cL aHV _ _ _ _
theorem aHW[aB](N:Nat)(self:Sg->O)(K:Exit->Sg->O)(x:Int×Bool×Int×Int×(UInt8×(UInt8×(UInt8×(UInt8×(UInt8×(UInt8×(UInt8×(UInt8×(UInt8×UInt8)))))))))×aG×Int×Int):HW N (λv0 v1 v2=>self (xY (x.1,x.2.1,v0,v1,x.2.2.2.2.1,x.2.2.2.2.2.1,x.2.2.2.2.2.2.1,v2))) (λy0 y1=>K (HV (y0,y1)).1 (HV (y0,y1)).2) (λy0 y1 y2 y3=>K (HU (y0,y1,y2,y3)).1 (HU (y0,y1,y2,y3)).2) x.1 x.2.1 x.2.2.2.2.1 x.2.2.2.2.2.1 x.2.2.2.2.2.2.1 x.2.2.1 x.2.2.2.1 x.2.2.2.2.2.2.2=exec (rN N) Tryd.f89.ntmps .d O5 (xY x) (cZ Vv aHR self K):=by kernel_rfl
theorem aH7 N (hc:aK (rN N)):cF (rN N) Tryd.f89.ntmps (.loop O5) HV HU (aN 2) (aP xY HS (uB N N)):=
 dD hc (cX O5) (jA aHT aHS .ret (.exit 0) (λ_=>by kernel_rfl) (λ_=>by kernel_rfl) (λ_=>rfl) (λ_=>rfl) (by kernel_rfl)) (n:=N) (λx K=>dE (uB N) (λ_ _ _ _=>rfl) (λn K ih x=>by
  refine dK ?_ (aHW N _ K x);simp only[<-ih];rfl) N x K)
def O8[aB](N:Nat)(in0:Int->Bool->Int->Int->(UInt8×(UInt8×(UInt8×(UInt8×(UInt8×(UInt8×(UInt8×(UInt8×(UInt8×UInt8)))))))))->aG->Int->Int->(Int->Bool->O)->(Int->Bool->Int->Int->O)->O)(l0:aG):O:=
 ck (EO N)<|
 in0 0 false 0 0 ((Bq N,Bp N,Bo N,Bn N,Bm N,Bl N,Bk N,Bj N,Bi N,Bh N)) l0 ((↑l0.length:Int)) 0
  (λz4 z5=>
   some (uA z4 z5))
  (λ_ _ z8 z9=>
   some (uA z8 (decide (0<z9))))
def WB[aB] N l0:=O8 N (Vu N) l0
def Vx[aB](N:Nat):Hint:=(.seq .d (.seq .d (.seq .d (.seq (.seq (.fT [] [.fz 6 (.pr .u8 (.pr .u8 (.pr .u8 (.pr .u8 (.pr .u8 (.pr .u8 (.pr .u8 (.pr .u8 (.pr .u8 .u8)))))))))] []) (.block (.sub Vv _ _ _ HV HU (aN 2) (aP xY HS (uB N N))))) .d))))
theorem aHZ N (hc:aK (rN N)):bH (rN N) Tryd.f89.ntmps (Vx N) O6:=bS _ _ (aF trivial (aF trivial (aF trivial (aF (aF trivial (aH7 N hc)) trivial))))
theorem aHX[aB] N l0:O8 N (Vt N) l0=exec (rN N) Tryd.f89.ntmps (Vx N) O6 ⟨cA 0 [.e (.sl .u8) l0],[],100⟩ (cD (rN N) Tryd.f89 false):=by kernel_rfl
def EG(r:aM):Option (Int×Bool):=match r with
 |(.aU [x0,x1],[])=>(match ue (.i .i64) x0,ue .bo x1 with|some a0,some a1=>some (a0,a1)|_,_=>none)
 |_=>none
theorem aHU{r d}(h:EG r=some d):r=uA d.1 d.2:=by
 unfold EG at h;split at h
 .split at h
  .rename_i h0 h1;cases h;rw[bG h0,bG h1];rfl
  .cases h
 .cases h
def pS N l0:=(WB N l0).bind EG
theorem aH0{N}(hc:aK (rN N)){l0 d}(hd:pS N l0=some d):cI Tryd.prog 89 [.e (.sl .u8) l0] [] (uA d.1 d.2):=
 cJ hc (by kernel_rfl) (by kernel_rfl) (aHZ N hc) (by kernel_rfl) aHU (λhr=>(aHX N l0).symm.trans (by rw[aH1 N];exact hr)) hd
def HT N l0:=(pS N l0).isSome
def EF N l0:=((pS N l0).getD (0,false)).1
def HR N l0:=((pS N l0).getD (0,false)).2
def Vy(N:Nat):bR:=E1 (.sl .u8) (λx0=>(HT N x0,uA (EF N x0) (HR N x0)))
theorem aHY N:aX Tryd.prog 89 (Vy N):=aX.e1 (λx0 h=>cS (z:=pS N x0) h (aH0 (aH2 N)) rfl)
def uJ(a0:(List Int))(a1:Bool):aM:=(.aU [.e (.sl (.i .i64)) a0,.e .bo a1],[])
def rV(N:Nat):Cx:=⟨Tryd.prog,99999,[(89,Vy N)],[]⟩
def PO:Code:=Tryd.f73.body.getD .skip
theorem aJ6 N:aK (rV N):=cH (by kernel_rfl) (.cons (by kernel_rfl) (aHY N) .nil) .nil
def IJ[aB](N:Nat)(self:Int->(List Int)->O)(k0:Bool->O)(k1:Bool->(List Int)->O)(x0_0:Bool)(x0_1:(List aG))(x0_2 x0_3:Int)(x0_4:(List Int)):O:=
 br (decide (x0_3<x0_2))
  (gx x0_1 x0_3 λy4=>
  ck (HT N y4)<|
  br (!HR N y4)
   (k0 false)
   (ck (b9 (x0_4++[EF N y4]).length (8:Nat))<|
   self (aA.wrap (x0_3+1)) (x0_4++[EF N y4])))
  (k1 x0_0 x0_4)
def PN:Code:=cE [1,1,0,1,0,0] PO
def XV:Nm:=⟨[2,3,4,9,10,11],[],[.mL 4 (.row 3 (.i .i64) [] true)]⟩
def yM(x:Bool×(List aG)×Int×Int×(List Int)):Sg:=⟨[(2,.bI),(3,.e .bo x.1),(4,.own 0),(9,.e (.sl (.sl .u8)) x.2.1),(10,.e (.i .i64) x.2.2.1),(11,.e (.i .i64) x.2.2.2.1)],[(0,.row 3 (.i .i64) x.2.2.2.2 true)],100⟩
def IG(σ:Sg):Bool×(List aG)×Int×Int×(List Int):=(aC .bo 3 0 σ,aC (.sl (.sl .u8)) 9 0 σ,aC (.i .i64) 10 0 σ,aC (.i .i64) 11 0 σ,c9 (.i .i64) 0 σ)
theorem aJZ:∀x,IG (yM x)=x:=λ_=>by kernel_rfl
def II(y:Bool):Exit×Sg:=(.ret,⟨[(2,.bI),(3,.e .bo y)],[],100⟩)
def aJX(_:Exit)(σ:Sg):Bool:=aC .bo 3 0 σ
def IH(y:Bool×(List Int)):Exit×Sg:=((.exit 0),⟨[(2,.bI),(3,.e .bo y.1),(4,.own 0)],[(0,.row 3 (.i .i64) y.2 true)],100⟩)
def aJW(_:Exit)(σ:Sg):Bool×(List Int):=(aC .bo 3 0 σ,c9 (.i .i64) 0 σ)
def aJV:List (Exit×Nm):=[(.ret,⟨[2,3],[],[]⟩),((.exit 0),⟨[2,3,4],[],[]⟩)]
def yL[aB](N:Nat):Nat->(Bool×(List aG)×Int×Int×(List Int))->((Bool)->O)->((Bool×(List Int))->O)->((Unit)->O)->O
 |0,_,_,_,_=>none
 |n+1,x,k0,k1,k2=>IJ N (λv0 v1=>yL N n (x.1,x.2.1,x.2.2.1,v0,v1) k0 k1 k2) (λy0=>k0 y0) (λy0 y1=>k1 (y0,y1)) x.1 x.2.1 x.2.2.1 x.2.2.2.1 x.2.2.2.2
def XU[aB] N a0 a1 a2 a3 a4 (k0:Bool->O) (k1:Bool->(List Int)->O):=yL N N (a0,a1,a2,a3,a4) (λy=>k0 y) (λy=>k1 y.1 y.2) (λ_=>none)
def XS[aB] N a0 a1 a2 a3 a4 (k0:Bool->O) (k1:Bool->(List Int)->O):=aP yM IG (yL N N) (yM (a0,a1,a2,a3,a4)) (λy=>k0 y) (λy=>k1 y.1 y.2) (λ_=>none)
theorem aJ5[aB] N:XS N=XU N:=funext λ_=>funext λ_=>funext λ_=>funext λ_=>funext λ_=>funext λ_=>funext λ_=>cL aJZ _ _ _ _
theorem aJ0[aB](N:Nat)(self:Sg->O)(K:Exit->Sg->O)(x:Bool×(List aG)×Int×Int×(List Int)):IJ N (λv0 v1=>self (yM (x.1,x.2.1,x.2.2.1,v0,v1))) (λy0=>K (II y0).1 (II y0).2) (λy0 y1=>K (IH (y0,y1)).1 (IH (y0,y1)).2) x.1 x.2.1 x.2.2.1 x.2.2.2.1 x.2.2.2.2=exec (rV N) Tryd.f73.ntmps .d PN (yM x) (cZ XV aJV self K):=by kernel_rfl
theorem aJ7 N (hc:aK (rV N)):cF (rV N) Tryd.f73.ntmps (.loop PN) II IH (aN 2) (aP yM IG (yL N N)):=
 dD hc (cX PN) (jA aJX aJW .ret (.exit 0) (λ_=>by kernel_rfl) (λ_=>by kernel_rfl) (λ_=>rfl) (λ_=>rfl) (by kernel_rfl)) (n:=N) (λx K=>dE (yL N) (λ_ _ _ _=>rfl) (λn K ih x=>by
  refine dK ?_ (aJ0 N _ K x);simp only[<-ih];rfl) N x K)
def PQ[aB](_:Nat)(in0:Bool->(List aG)->Int->Int->(List Int)->(Bool->O)->(Bool->(List Int)->O)->O)(l0:(List aG)):O:=
 in0 false l0 ((↑l0.length:Int)) 0 []
  (λz5=>
   some (uJ [] z5))
  (λ_ z7=>
   some (uJ z7 true))
def X4[aB] N l0:=PQ N (XU N) l0
def XW[aB](N:Nat):Hint:=(.seq .d (.seq .d (.seq (.seq .d (.block (.sub XV _ _ _ II IH (aN 2) (aP yM IG (yL N N))))) .d)))
theorem aJ3 N (hc:aK (rV N)):bH (rV N) Tryd.f73.ntmps (XW N) PO:=bS _ _ (aF trivial (aF trivial (aF (aF trivial (aJ7 N hc)) trivial)))
theorem aJ1[aB] N l0:PQ N (XS N) l0=exec (rV N) Tryd.f73.ntmps (XW N) PO ⟨cA 0 [.e (.sl (.sl .u8)) l0],[],100⟩ (cD (rV N) Tryd.f73 false):=by kernel_rfl
def EW(r:aM):Option ((List Int)×Bool):=match r with
 |(.aU [x0,x1],[])=>(match ue (.sl (.i .i64)) x0,ue .bo x1 with|some a0,some a1=>some (a0,a1)|_,_=>none)
 |_=>none
theorem aJY{r d}(h:EW r=some d):r=uJ d.1 d.2:=by
 unfold EW at h;split at h
 .split at h
  .rename_i h0 h1;cases h;rw[bG h0,bG h1];rfl
  .cases h
 .cases h
def pY N l0:=(X4 N l0).bind EW
theorem aJ4{N}(hc:aK (rV N)){l0 d}(hd:pY N l0=some d):cI Tryd.prog 73 [.e (.sl (.sl .u8)) l0] [] (uJ d.1 d.2):=
 cJ hc (by kernel_rfl) (by kernel_rfl) (aJ3 N hc) (by kernel_rfl) aJY (λhr=>(aJ1 N l0).symm.trans (by rw[aJ5 N];exact hr)) hd
def rU N l0:=(pY N l0).isSome
def rT N l0:=((pY N l0).getD ([],false)).1
def rS N l0:=((pY N l0).getD ([],false)).2
def XX(N:Nat):bR:=E1 (.sl (.sl .u8)) (λx0=>(rU N x0,uJ (rT N x0) (rS N x0)))
theorem aJ2 N:aX Tryd.prog 73 (XX N):=aX.e1 (λx0 h=>cS (z:=pY N x0) h (aJ4 (aJ6 N)) rfl)
def qC(a0:Int)(a1:(List Int))(a2:Bool):aM:=(.aU [.agg [.e (.i .i64) a0,.e (.sl (.i .i64)) a1],.e .bo a2],[])
def lK(N:Nat):Cx:=⟨Tryd.prog,99999,[(72,PS N),(73,XX N),(74,XR N)],[]⟩
def KT:Code:=Tryd.f48.body.getD .skip
theorem aOq N:aK (lK N):=cH (by kernel_rfl) (.cons (by kernel_rfl) (X6 N) (.cons (by kernel_rfl) (aJ2 N) (.cons (by kernel_rfl) (aJU N) .nil))) .nil
def RC[aB](_:Nat)(k0:(List aG)->Bool->(List aG)->Int->Int->Bool->Int->aG->aG->Int->aG->aG->Int->Bool->aG->UInt8->UInt8->Int->Bool->Int->Bool->Int->Bool->Int->Bool->Bool->Bool->Int->Int->Bool->Int->Int->Int->Int->O)(x423_0:(List aG))(x423_1:Bool)(x423_2:(List aG))(x423_3 x423_4:Int)(x423_5:Bool)(x423_6:Int)(x423_7 x423_8:aG)(x423_9:Int)(x423_10 x423_11:aG)(x423_12:Int)(x423_13:Bool)(x423_14:aG)(x423_15 x423_16:UInt8)(x423_17:Int)(x423_18:Bool)(x423_19:Int)(x423_20:Bool)(x423_21:Int)(x423_22:Bool)(x423_23:Int)(x423_24 x423_25 x423_26:Bool)(x423_27 x423_28:Int)(x423_29 x423_30 x423_31:Int):O:=
 br (decide (x423_23=5))
  (k0 x423_0 x423_1 x423_2 x423_3 x423_4 x423_5 x423_6 x423_7 x423_8 x423_9 x423_10 x423_11 x423_12 x423_13 x423_14 x423_15 x423_16 x423_17 x423_18 x423_19 x423_20 x423_21 x423_22 x423_23 x423_24 x423_25 x423_26 0 x423_23 (decide (x423_23=5)) x423_28 x423_29 x423_30 x423_31)
  (k0 x423_0 x423_1 x423_2 x423_3 x423_4 x423_5 x423_6 x423_7 x423_8 x423_9 x423_10 x423_11 x423_12 x423_13 x423_14 x423_15 x423_16 x423_17 x423_18 x423_19 x423_20 x423_21 x423_22 x423_23 x423_24 x423_25 x423_26 x423_27 x423_23 (decide (x423_23=5)) x423_28 x423_29 x423_30 x423_31)
def RA:Code:=cE [1,1,1,1,0,1,0,0,1,1,0,0,1,1,1,1,1,0] KT
def aOl:Nm:=⟨[0,2,3,7,46,47,48,49,50,51,52,8,9,53,54,55,57,58,59,60,61,56,62,63,10,11,64,65,12],[],[]⟩
def CV(x:(List aG)×Bool×(List aG)×Int×Int×Bool×Int×aG×aG×Int×aG×aG×Int×Bool×aG×UInt8×UInt8×Int×Bool×Int×Bool×Int×Bool×Int×Bool×Bool×Bool×Int×Int×Int×Int×Int):Sg:=⟨[(0,.e (.sl (.sl .u8)) x.1),(2,.ref 0 0),(3,.e .bo x.2.1),(7,.own 1),(46,.e (.sl (.sl .u8)) x.2.2.1),(47,.e (.i .i64) x.2.2.2.1),(48,.e (.i .i64) x.2.2.2.2.1),(49,.e .bo x.2.2.2.2.2.1),(50,.e (.i .i64) x.2.2.2.2.2.2.1),(51,.pt (.sl .u8) x.2.2.2.2.2.2.2.1 0),(52,.e (.sl .u8) x.2.2.2.2.2.2.2.2.1),(8,.e (.i .i64) x.2.2.2.2.2.2.2.2.2.1),(9,.e (.sl .u8) x.2.2.2.2.2.2.2.2.2.2.1),(53,.e (.sl .u8) x.2.2.2.2.2.2.2.2.2.2.2.1),(54,.e (.i .i64) x.2.2.2.2.2.2.2.2.2.2.2.2.1),(55,.e .bo x.2.2.2.2.2.2.2.2.2.2.2.2.2.1),(57,.own 1),(58,.e (.sl .u8) x.2.2.2.2.2.2.2.2.2.2.2.2.2.2.1),(59,.pt .u8 x.2.2.2.2.2.2.2.2.2.2.2.2.2.2.2.1 0),(60,.e .u8 x.2.2.2.2.2.2.2.2.2.2.2.2.2.2.2.2.1),(61,.aU [.e (.i .i64) x.2.2.2.2.2.2.2.2.2.2.2.2.2.2.2.2.2.1,.e .bo x.2.2.2.2.2.2.2.2.2.2.2.2.2.2.2.2.2.2.1]),(56,.aU [.e (.i .i64) x.2.2.2.2.2.2.2.2.2.2.2.2.2.2.2.2.2.2.2.1,.e .bo x.2.2.2.2.2.2.2.2.2.2.2.2.2.2.2.2.2.2.2.2.1]),(62,.e (.i .i64) x.2.2.2.2.2.2.2.2.2.2.2.2.2.2.2.2.2.2.2.2.2.1),(63,.e .bo x.2.2.2.2.2.2.2.2.2.2.2.2.2.2.2.2.2.2.2.2.2.2.1),(10,.e (.i .i64) x.2.2.2.2.2.2.2.2.2.2.2.2.2.2.2.2.2.2.2.2.2.2.2.1),(11,.e .bo x.2.2.2.2.2.2.2.2.2.2.2.2.2.2.2.2.2.2.2.2.2.2.2.2.1),(64,.e .bo x.2.2.2.2.2.2.2.2.2.2.2.2.2.2.2.2.2.2.2.2.2.2.2.2.2.1),(65,.e .bo x.2.2.2.2.2.2.2.2.2.2.2.2.2.2.2.2.2.2.2.2.2.2.2.2.2.2.1),(12,.e (.i .i64) x.2.2.2.2.2.2.2.2.2.2.2.2.2.2.2.2.2.2.2.2.2.2.2.2.2.2.2.1)],[(0,.box 24 [.e (.i .i64) x.2.2.2.2.2.2.2.2.2.2.2.2.2.2.2.2.2.2.2.2.2.2.2.2.2.2.2.2.1,.bI]),(1,.mp .u8 [((44:UInt8),.e (.i .i64) x.2.2.2.2.2.2.2.2.2.2.2.2.2.2.2.2.2.2.2.2.2.2.2.2.2.2.2.2.2.1),((36:UInt8),.e (.i .i64) x.2.2.2.2.2.2.2.2.2.2.2.2.2.2.2.2.2.2.2.2.2.2.2.2.2.2.2.2.2.2.1),((33:UInt8),.e (.i .i64) x.2.2.2.2.2.2.2.2.2.2.2.2.2.2.2.2.2.2.2.2.2.2.2.2.2.2.2.2.2.2.2)])],100⟩
def KP(σ:Sg):(List aG)×Bool×(List aG)×Int×Int×Bool×Int×aG×aG×Int×aG×aG×Int×Bool×aG×UInt8×UInt8×Int×Bool×Int×Bool×Int×Bool×Int×Bool×Bool×Bool×Int×Int×Int×Int×Int:=(aC (.sl (.sl .u8)) 0 0 σ,aC .bo 3 0 σ,aC (.sl (.sl .u8)) 46 0 σ,aC (.i .i64) 47 0 σ,aC (.i .i64) 48 0 σ,aC .bo 49 0 σ,aC (.i .i64) 50 0 σ,aC (.sl .u8) 51 0 σ,aC (.sl .u8) 52 0 σ,aC (.i .i64) 8 0 σ,aC (.sl .u8) 9 0 σ,aC (.sl .u8) 53 0 σ,aC (.i .i64) 54 0 σ,aC .bo 55 0 σ,aC (.sl .u8) 58 0 σ,aC .u8 59 0 σ,aC .u8 60 0 σ,aC (.i .i64) 61 0 σ,aC .bo 61 1 σ,aC (.i .i64) 56 0 σ,aC .bo 56 1 σ,aC (.i .i64) 62 0 σ,aC .bo 63 0 σ,aC (.i .i64) 10 0 σ,aC .bo 11 0 σ,aC .bo 64 0 σ,aC .bo 65 0 σ,aC (.i .i64) 12 0 σ,bP (.i .i64) 0 0 σ,tC (.i .i64) .u8 1 0 σ,tC (.i .i64) .u8 1 1 σ,tC (.i .i64) .u8 1 2 σ)
theorem aOg:∀x,KP (CV x)=x:=λ_=>by kernel_rfl
def KW(y:(List aG)×Bool×(List aG)×Int×Int×Bool×Int×aG×aG×Int×aG×aG×Int×Bool×aG×UInt8×UInt8×Int×Bool×Int×Bool×Int×Bool×Int×Bool×Bool×Bool×Int×Int×Bool×Int×Int×Int×Int):Exit×Sg:=(.normal,⟨[(0,.e (.sl (.sl .u8)) y.1),(2,.ref 0 0),(3,.e .bo y.2.1),(7,.own 1),(46,.e (.sl (.sl .u8)) y.2.2.1),(47,.e (.i .i64) y.2.2.2.1),(48,.e (.i .i64) y.2.2.2.2.1),(49,.e .bo y.2.2.2.2.2.1),(50,.e (.i .i64) y.2.2.2.2.2.2.1),(51,.pt (.sl .u8) y.2.2.2.2.2.2.2.1 0),(52,.e (.sl .u8) y.2.2.2.2.2.2.2.2.1),(8,.e (.i .i64) y.2.2.2.2.2.2.2.2.2.1),(9,.e (.sl .u8) y.2.2.2.2.2.2.2.2.2.2.1),(53,.e (.sl .u8) y.2.2.2.2.2.2.2.2.2.2.2.1),(54,.e (.i .i64) y.2.2.2.2.2.2.2.2.2.2.2.2.1),(55,.e .bo y.2.2.2.2.2.2.2.2.2.2.2.2.2.1),(57,.own 1),(58,.e (.sl .u8) y.2.2.2.2.2.2.2.2.2.2.2.2.2.2.1),(59,.pt .u8 y.2.2.2.2.2.2.2.2.2.2.2.2.2.2.2.1 0),(60,.e .u8 y.2.2.2.2.2.2.2.2.2.2.2.2.2.2.2.2.1),(61,.aU [.e (.i .i64) y.2.2.2.2.2.2.2.2.2.2.2.2.2.2.2.2.2.1,.e .bo y.2.2.2.2.2.2.2.2.2.2.2.2.2.2.2.2.2.2.1]),(56,.aU [.e (.i .i64) y.2.2.2.2.2.2.2.2.2.2.2.2.2.2.2.2.2.2.2.1,.e .bo y.2.2.2.2.2.2.2.2.2.2.2.2.2.2.2.2.2.2.2.2.1]),(62,.e (.i .i64) y.2.2.2.2.2.2.2.2.2.2.2.2.2.2.2.2.2.2.2.2.2.1),(63,.e .bo y.2.2.2.2.2.2.2.2.2.2.2.2.2.2.2.2.2.2.2.2.2.2.1),(10,.e (.i .i64) y.2.2.2.2.2.2.2.2.2.2.2.2.2.2.2.2.2.2.2.2.2.2.2.1),(11,.e .bo y.2.2.2.2.2.2.2.2.2.2.2.2.2.2.2.2.2.2.2.2.2.2.2.2.1),(64,.e .bo y.2.2.2.2.2.2.2.2.2.2.2.2.2.2.2.2.2.2.2.2.2.2.2.2.2.1),(65,.e .bo y.2.2.2.2.2.2.2.2.2.2.2.2.2.2.2.2.2.2.2.2.2.2.2.2.2.2.1),(12,.e (.i .i64) y.2.2.2.2.2.2.2.2.2.2.2.2.2.2.2.2.2.2.2.2.2.2.2.2.2.2.2.1),(66,.e (.i .i64) y.2.2.2.2.2.2.2.2.2.2.2.2.2.2.2.2.2.2.2.2.2.2.2.2.2.2.2.2.1),(67,.e .bo y.2.2.2.2.2.2.2.2.2.2.2.2.2.2.2.2.2.2.2.2.2.2.2.2.2.2.2.2.2.1)],[(0,.box 24 [.e (.i .i64) y.2.2.2.2.2.2.2.2.2.2.2.2.2.2.2.2.2.2.2.2.2.2.2.2.2.2.2.2.2.2.1,.bI]),(1,.mp .u8 [((44:UInt8),.e (.i .i64) y.2.2.2.2.2.2.2.2.2.2.2.2.2.2.2.2.2.2.2.2.2.2.2.2.2.2.2.2.2.2.2.1),((36:UInt8),.e (.i .i64) y.2.2.2.2.2.2.2.2.2.2.2.2.2.2.2.2.2.2.2.2.2.2.2.2.2.2.2.2.2.2.2.2.1),((33:UInt8),.e (.i .i64) y.2.2.2.2.2.2.2.2.2.2.2.2.2.2.2.2.2.2.2.2.2.2.2.2.2.2.2.2.2.2.2.2.2)])],100⟩)
def aOd(_:Exit)(σ:Sg):(List aG)×Bool×(List aG)×Int×Int×Bool×Int×aG×aG×Int×aG×aG×Int×Bool×aG×UInt8×UInt8×Int×Bool×Int×Bool×Int×Bool×Int×Bool×Bool×Bool×Int×Int×Bool×Int×Int×Int×Int:=(aC (.sl (.sl .u8)) 0 0 σ,aC .bo 3 0 σ,aC (.sl (.sl .u8)) 46 0 σ,aC (.i .i64) 47 0 σ,aC (.i .i64) 48 0 σ,aC .bo 49 0 σ,aC (.i .i64) 50 0 σ,aC (.sl .u8) 51 0 σ,aC (.sl .u8) 52 0 σ,aC (.i .i64) 8 0 σ,aC (.sl .u8) 9 0 σ,aC (.sl .u8) 53 0 σ,aC (.i .i64) 54 0 σ,aC .bo 55 0 σ,aC (.sl .u8) 58 0 σ,aC .u8 59 0 σ,aC .u8 60 0 σ,aC (.i .i64) 61 0 σ,aC .bo 61 1 σ,aC (.i .i64) 56 0 σ,aC .bo 56 1 σ,aC (.i .i64) 62 0 σ,aC .bo 63 0 σ,aC (.i .i64) 10 0 σ,aC .bo 11 0 σ,aC .bo 64 0 σ,aC .bo 65 0 σ,aC (.i .i64) 12 0 σ,aC (.i .i64) 66 0 σ,aC .bo 67 0 σ,bP (.i .i64) 0 0 σ,tC (.i .i64) .u8 1 0 σ,tC (.i .i64) .u8 1 1 σ,tC (.i .i64) .u8 1 2 σ)
def aOa:List (Exit×Nm):=[(.normal,⟨[0,2,3,7,46,47,48,49,50,51,52,8,9,53,54,55,57,58,59,60,61,56,62,63,10,11,64,65,12,66,67],[],[]⟩)]
def KS[aB](N:Nat)(_:Nat)(x:(List aG)×Bool×(List aG)×Int×Int×Bool×Int×aG×aG×Int×aG×aG×Int×Bool×aG×UInt8×UInt8×Int×Bool×Int×Bool×Int×Bool×Int×Bool×Bool×Bool×Int×Int×Int×Int×Int)(k0:((List aG)×Bool×(List aG)×Int×Int×Bool×Int×aG×aG×Int×aG×aG×Int×Bool×aG×UInt8×UInt8×Int×Bool×Int×Bool×Int×Bool×Int×Bool×Bool×Bool×Int×Int×Bool×Int×Int×Int×Int)->O)(_:(Unit)->O)(_:(Unit)->O):O:=RC N (λy0 y1 y2 y3 y4 y5 y6 y7 y8 y9 y10 y11 y12 y13 y14 y15 y16 y17 y18 y19 y20 y21 y22 y23 y24 y25 y26 y27 y28 y29 y30 y31 y32 y33=>k0 (y0,y1,y2,y3,y4,y5,y6,y7,y8,y9,y10,y11,y12,y13,y14,y15,y16,y17,y18,y19,y20,y21,y22,y23,y24,y25,y26,y27,y28,y29,y30,y31,y32,y33)) x.1 x.2.1 x.2.2.1 x.2.2.2.1 x.2.2.2.2.1 x.2.2.2.2.2.1 x.2.2.2.2.2.2.1 x.2.2.2.2.2.2.2.1 x.2.2.2.2.2.2.2.2.1 x.2.2.2.2.2.2.2.2.2.1 x.2.2.2.2.2.2.2.2.2.2.1 x.2.2.2.2.2.2.2.2.2.2.2.1 x.2.2.2.2.2.2.2.2.2.2.2.2.1 x.2.2.2.2.2.2.2.2.2.2.2.2.2.1 x.2.2.2.2.2.2.2.2.2.2.2.2.2.2.1 x.2.2.2.2.2.2.2.2.2.2.2.2.2.2.2.1 x.2.2.2.2.2.2.2.2.2.2.2.2.2.2.2.2.1 x.2.2.2.2.2.2.2.2.2.2.2.2.2.2.2.2.2.1 x.2.2.2.2.2.2.2.2.2.2.2.2.2.2.2.2.2.2.1 x.2.2.2.2.2.2.2.2.2.2.2.2.2.2.2.2.2.2.2.1 x.2.2.2.2.2.2.2.2.2.2.2.2.2.2.2.2.2.2.2.2.1 x.2.2.2.2.2.2.2.2.2.2.2.2.2.2.2.2.2.2.2.2.2.1 x.2.2.2.2.2.2.2.2.2.2.2.2.2.2.2.2.2.2.2.2.2.2.1 x.2.2.2.2.2.2.2.2.2.2.2.2.2.2.2.2.2.2.2.2.2.2.2.1 x.2.2.2.2.2.2.2.2.2.2.2.2.2.2.2.2.2.2.2.2.2.2.2.2.1 x.2.2.2.2.2.2.2.2.2.2.2.2.2.2.2.2.2.2.2.2.2.2.2.2.2.1 x.2.2.2.2.2.2.2.2.2.2.2.2.2.2.2.2.2.2.2.2.2.2.2.2.2.2.1 x.2.2.2.2.2.2.2.2.2.2.2.2.2.2.2.2.2.2.2.2.2.2.2.2.2.2.2.1 x.2.2.2.2.2.2.2.2.2.2.2.2.2.2.2.2.2.2.2.2.2.2.2.2.2.2.2.2.1 x.2.2.2.2.2.2.2.2.2.2.2.2.2.2.2.2.2.2.2.2.2.2.2.2.2.2.2.2.2.1 x.2.2.2.2.2.2.2.2.2.2.2.2.2.2.2.2.2.2.2.2.2.2.2.2.2.2.2.2.2.2.1 x.2.2.2.2.2.2.2.2.2.2.2.2.2.2.2.2.2.2.2.2.2.2.2.2.2.2.2.2.2.2.2
def KR[aB] N a0 a1 a2 a3 a4 a5 a6 a7 a8 a9 a10 a11 a12 a13 a14 a15 a16 a17 a18 a19 a20 a21 a22 a23 a24 a25 a26 a27 a28 a29 a30 a31 (k0:(List aG)->Bool->(List aG)->Int->Int->Bool->Int->aG->aG->Int->aG->aG->Int->Bool->aG->UInt8->UInt8->Int->Bool->Int->Bool->Int->Bool->Int->Bool->Bool->Bool->Int->Int->Bool->Int->Int->Int->Int->O):=KS N N (a0,a1,a2,a3,a4,a5,a6,a7,a8,a9,a10,a11,a12,a13,a14,a15,a16,a17,a18,a19,a20,a21,a22,a23,a24,a25,a26,a27,a28,a29,a30,a31) (λy=>k0 y.1 y.2.1 y.2.2.1 y.2.2.2.1 y.2.2.2.2.1 y.2.2.2.2.2.1 y.2.2.2.2.2.2.1 y.2.2.2.2.2.2.2.1 y.2.2.2.2.2.2.2.2.1 y.2.2.2.2.2.2.2.2.2.1 y.2.2.2.2.2.2.2.2.2.2.1 y.2.2.2.2.2.2.2.2.2.2.2.1 y.2.2.2.2.2.2.2.2.2.2.2.2.1 y.2.2.2.2.2.2.2.2.2.2.2.2.2.1 y.2.2.2.2.2.2.2.2.2.2.2.2.2.2.1 y.2.2.2.2.2.2.2.2.2.2.2.2.2.2.2.1 y.2.2.2.2.2.2.2.2.2.2.2.2.2.2.2.2.1 y.2.2.2.2.2.2.2.2.2.2.2.2.2.2.2.2.2.1 y.2.2.2.2.2.2.2.2.2.2.2.2.2.2.2.2.2.2.1 y.2.2.2.2.2.2.2.2.2.2.2.2.2.2.2.2.2.2.2.1 y.2.2.2.2.2.2.2.2.2.2.2.2.2.2.2.2.2.2.2.2.1 y.2.2.2.2.2.2.2.2.2.2.2.2.2.2.2.2.2.2.2.2.2.1 y.2.2.2.2.2.2.2.2.2.2.2.2.2.2.2.2.2.2.2.2.2.2.1 y.2.2.2.2.2.2.2.2.2.2.2.2.2.2.2.2.2.2.2.2.2.2.2.1 y.2.2.2.2.2.2.2.2.2.2.2.2.2.2.2.2.2.2.2.2.2.2.2.2.1 y.2.2.2.2.2.2.2.2.2.2.2.2.2.2.2.2.2.2.2.2.2.2.2.2.2.1 y.2.2.2.2.2.2.2.2.2.2.2.2.2.2.2.2.2.2.2.2.2.2.2.2.2.2.1 y.2.2.2.2.2.2.2.2.2.2.2.2.2.2.2.2.2.2.2.2.2.2.2.2.2.2.2.1 y.2.2.2.2.2.2.2.2.2.2.2.2.2.2.2.2.2.2.2.2.2.2.2.2.2.2.2.2.1 y.2.2.2.2.2.2.2.2.2.2.2.2.2.2.2.2.2.2.2.2.2.2.2.2.2.2.2.2.2.1 y.2.2.2.2.2.2.2.2.2.2.2.2.2.2.2.2.2.2.2.2.2.2.2.2.2.2.2.2.2.2.1 y.2.2.2.2.2.2.2.2.2.2.2.2.2.2.2.2.2.2.2.2.2.2.2.2.2.2.2.2.2.2.2.1 y.2.2.2.2.2.2.2.2.2.2.2.2.2.2.2.2.2.2.2.2.2.2.2.2.2.2.2.2.2.2.2.2.1 y.2.2.2.2.2.2.2.2.2.2.2.2.2.2.2.2.2.2.2.2.2.2.2.2.2.2.2.2.2.2.2.2.2) (λ_=>none) (λ_=>none)
def Qx[aB] N a0 a1 a2 a3 a4 a5 a6 a7 a8 a9 a10 a11 a12 a13 a14 a15 a16 a17 a18 a19 a20 a21 a22 a23 a24 a25 a26 a27 a28 a29 a30 a31 (k0:(List aG)->Bool->(List aG)->Int->Int->Bool->Int->aG->aG->Int->aG->aG->Int->Bool->aG->UInt8->UInt8->Int->Bool->Int->Bool->Int->Bool->Int->Bool->Bool->Bool->Int->Int->Bool->Int->Int->Int->Int->O):=aP CV KP (KS N N) (CV (a0,a1,a2,a3,a4,a5,a6,a7,a8,a9,a10,a11,a12,a13,a14,a15,a16,a17,a18,a19,a20,a21,a22,a23,a24,a25,a26,a27,a28,a29,a30,a31)) (λy=>k0 y.1 y.2.1 y.2.2.1 y.2.2.2.1 y.2.2.2.2.1 y.2.2.2.2.2.1 y.2.2.2.2.2.2.1 y.2.2.2.2.2.2.2.1 y.2.2.2.2.2.2.2.2.1 y.2.2.2.2.2.2.2.2.2.1 y.2.2.2.2.2.2.2.2.2.2.1 y.2.2.2.2.2.2.2.2.2.2.2.1 y.2.2.2.2.2.2.2.2.2.2.2.2.1 y.2.2.2.2.2.2.2.2.2.2.2.2.2.1 y.2.2.2.2.2.2.2.2.2.2.2.2.2.2.1 y.2.2.2.2.2.2.2.2.2.2.2.2.2.2.2.1 y.2.2.2.2.2.2.2.2.2.2.2.2.2.2.2.2.1 y.2.2.2.2.2.2.2.2.2.2.2.2.2.2.2.2.2.1 y.2.2.2.2.2.2.2.2.2.2.2.2.2.2.2.2.2.2.1 y.2.2.2.2.2.2.2.2.2.2.2.2.2.2.2.2.2.2.2.1 y.2.2.2.2.2.2.2.2.2.2.2.2.2.2.2.2.2.2.2.2.1 y.2.2.2.2.2.2.2.2.2.2.2.2.2.2.2.2.2.2.2.2.2.1 y.2.2.2.2.2.2.2.2.2.2.2.2.2.2.2.2.2.2.2.2.2.2.1 y.2.2.2.2.2.2.2.2.2.2.2.2.2.2.2.2.2.2.2.2.2.2.2.1 y.2.2.2.2.2.2.2.2.2.2.2.2.2.2.2.2.2.2.2.2.2.2.2.2.1 y.2.2.2.2.2.2.2.2.2.2.2.2.2.2.2.2.2.2.2.2.2.2.2.2.2.1 y.2.2.2.2.2.2.2.2.2.2.2.2.2.2.2.2.2.2.2.2.2.2.2.2.2.2.1 y.2.2.2.2.2.2.2.2.2.2.2.2.2.2.2.2.2.2.2.2.2.2.2.2.2.2.2.1 y.2.2.2.2.2.2.2.2.2.2.2.2.2.2.2.2.2.2.2.2.2.2.2.2.2.2.2.2.1 y.2.2.2.2.2.2.2.2.2.2.2.2.2.2.2.2.2.2.2.2.2.2.2.2.2.2.2.2.2.1 y.2.2.2.2.2.2.2.2.2.2.2.2.2.2.2.2.2.2.2.2.2.2.2.2.2.2.2.2.2.2.1 y.2.2.2.2.2.2.2.2.2.2.2.2.2.2.2.2.2.2.2.2.2.2.2.2.2.2.2.2.2.2.2.1 y.2.2.2.2.2.2.2.2.2.2.2.2.2.2.2.2.2.2.2.2.2.2.2.2.2.2.2.2.2.2.2.2.1 y.2.2.2.2.2.2.2.2.2.2.2.2.2.2.2.2.2.2.2.2.2.2.2.2.2.2.2.2.2.2.2.2.2) (λ_=>none) (λ_=>none)
theorem aAP[aB] N:Qx N=KR N:=funext λ_=>funext λ_=>funext λ_=>funext λ_=>funext λ_=>funext λ_=>funext λ_=>funext λ_=>funext λ_=>funext λ_=>funext λ_=>funext λ_=>funext λ_=>funext λ_=>funext λ_=>funext λ_=>funext λ_=>funext λ_=>funext λ_=>funext λ_=>funext λ_=>funext λ_=>funext λ_=>funext λ_=>funext λ_=>funext λ_=>funext λ_=>funext λ_=>funext λ_=>funext λ_=>funext λ_=>funext λ_=>funext λ_=>cL aOg _ _ _ _
theorem aOi[aB](N:Nat)(K:Exit->Sg->O)(x:(List aG)×Bool×(List aG)×Int×Int×Bool×Int×aG×aG×Int×aG×aG×Int×Bool×aG×UInt8×UInt8×Int×Bool×Int×Bool×Int×Bool×Int×Bool×Bool×Bool×Int×Int×Int×Int×Int):RC N (λy0 y1 y2 y3 y4 y5 y6 y7 y8 y9 y10 y11 y12 y13 y14 y15 y16 y17 y18 y19 y20 y21 y22 y23 y24 y25 y26 y27 y28 y29 y30 y31 y32 y33=>K (KW (y0,y1,y2,y3,y4,y5,y6,y7,y8,y9,y10,y11,y12,y13,y14,y15,y16,y17,y18,y19,y20,y21,y22,y23,y24,y25,y26,y27,y28,y29,y30,y31,y32,y33)).1 (KW (y0,y1,y2,y3,y4,y5,y6,y7,y8,y9,y10,y11,y12,y13,y14,y15,y16,y17,y18,y19,y20,y21,y22,y23,y24,y25,y26,y27,y28,y29,y30,y31,y32,y33)).2) x.1 x.2.1 x.2.2.1 x.2.2.2.1 x.2.2.2.2.1 x.2.2.2.2.2.1 x.2.2.2.2.2.2.1 x.2.2.2.2.2.2.2.1 x.2.2.2.2.2.2.2.2.1 x.2.2.2.2.2.2.2.2.2.1 x.2.2.2.2.2.2.2.2.2.2.1 x.2.2.2.2.2.2.2.2.2.2.2.1 x.2.2.2.2.2.2.2.2.2.2.2.2.1 x.2.2.2.2.2.2.2.2.2.2.2.2.2.1 x.2.2.2.2.2.2.2.2.2.2.2.2.2.2.1 x.2.2.2.2.2.2.2.2.2.2.2.2.2.2.2.1 x.2.2.2.2.2.2.2.2.2.2.2.2.2.2.2.2.1 x.2.2.2.2.2.2.2.2.2.2.2.2.2.2.2.2.2.1 x.2.2.2.2.2.2.2.2.2.2.2.2.2.2.2.2.2.2.1 x.2.2.2.2.2.2.2.2.2.2.2.2.2.2.2.2.2.2.2.1 x.2.2.2.2.2.2.2.2.2.2.2.2.2.2.2.2.2.2.2.2.1 x.2.2.2.2.2.2.2.2.2.2.2.2.2.2.2.2.2.2.2.2.2.1 x.2.2.2.2.2.2.2.2.2.2.2.2.2.2.2.2.2.2.2.2.2.2.1 x.2.2.2.2.2.2.2.2.2.2.2.2.2.2.2.2.2.2.2.2.2.2.2.1 x.2.2.2.2.2.2.2.2.2.2.2.2.2.2.2.2.2.2.2.2.2.2.2.2.1 x.2.2.2.2.2.2.2.2.2.2.2.2.2.2.2.2.2.2.2.2.2.2.2.2.2.1 x.2.2.2.2.2.2.2.2.2.2.2.2.2.2.2.2.2.2.2.2.2.2.2.2.2.2.1 x.2.2.2.2.2.2.2.2.2.2.2.2.2.2.2.2.2.2.2.2.2.2.2.2.2.2.2.1 x.2.2.2.2.2.2.2.2.2.2.2.2.2.2.2.2.2.2.2.2.2.2.2.2.2.2.2.2.1 x.2.2.2.2.2.2.2.2.2.2.2.2.2.2.2.2.2.2.2.2.2.2.2.2.2.2.2.2.2.1 x.2.2.2.2.2.2.2.2.2.2.2.2.2.2.2.2.2.2.2.2.2.2.2.2.2.2.2.2.2.2.1 x.2.2.2.2.2.2.2.2.2.2.2.2.2.2.2.2.2.2.2.2.2.2.2.2.2.2.2.2.2.2.2=exec (lK N) Tryd.f48.ntmps .d RA (CV x) (kR aOa K):=by kernel_rfl
theorem aOx N (hc:aK (lK N)):cF (lK N) Tryd.f48.ntmps RA KW (aN 1) (aN 2) (aP CV KP (KS N N)):=
 mG hc (cX RA) (eC aOd .normal (λ_=>by kernel_rfl) (λ_=>rfl) (by kernel_rfl)) (λx K=>by
  exact aOi N K x)
def KX[aB](N:Nat)(in0:(List aG)->Bool->(List aG)->Int->Int->Bool->Int->aG->aG->Int->aG->aG->Int->Bool->aG->UInt8->UInt8->Int->Bool->Int->Bool->Int->Bool->Int->Bool->Bool->Bool->Int->Int->Int->Int->Int->((List aG)->Bool->(List aG)->Int->Int->Bool->Int->aG->aG->Int->aG->aG->Int->Bool->aG->UInt8->UInt8->Int->Bool->Int->Bool->Int->Bool->Int->Bool->Bool->Bool->Int->Int->Bool->Int->Int->Int->Int->O)->O)(self:Int->O)(k0:Bool->Int->(List Int)->O)(k1:Bool->Int->O)(x3_0:(List aG))(x3_1:Bool)(x3_2:(List aG))(x3_3 x3_5:Int)(x3_6 x3_7:Int)(x3_8 x3_4:Int):O:=
 br (decide (x3_4<x3_3))
  (gx x3_2 x3_4 λy421=>
  br (decide ((↑y421.length:Int)=(0:Int)))
   (self (aA.wrap (x3_4+1)))
   (gx y421 0 λy422=>
   br (decide (44=y422))
    (br false
     (self (aA.wrap (x3_4+1)))
     (in0 x3_0 x3_1 x3_2 x3_3 x3_4 (decide (x3_4<x3_3)) x3_4 y421 y421 x3_4 y421 y421 ((↑y421.length:Int)) (decide ((↑y421.length:Int)=(0:Int))) y421 y422 y422 x3_6 true x3_6 true x3_6 true x3_6 true true false 1 x3_5 x3_6 x3_7 x3_8
      (λz424 _ _ _ _ _ _ _ _ z433 z434 _ _ _ _ _ _ _ _ _ _ _ _ z447 _ _ _ z451 _ _ _ _ _ _=>
       br (decide (z433<z451))
        (k0 false 0 [])
        (ck (dX z424.length (some z451) (some z433))<|
        ck (yK N (bW z424 (some z451) (some z433)))<|
        ck (dX z434.length (some (1:Int)) none)<|
        ck (b9 (bW z424 (some z451) (some z433)++[bW z434 (some (1:Int)) none]).length (24:Nat))<|
        ck (rU N (bW z424 (some z451) (some z433)++[bW z434 (some (1:Int)) none]))<|
        k0 (rS N (bW z424 (some z451) (some z433)++[bW z434 (some (1:Int)) none])) z447 (rT N (bW z424 (some z451) (some z433)++[bW z434 (some (1:Int)) none]))))))
    (br (decide (36=y422))
     (br false
      (self (aA.wrap (x3_4+1)))
      (in0 x3_0 x3_1 x3_2 x3_3 x3_4 (decide (x3_4<x3_3)) x3_4 y421 y421 x3_4 y421 y421 ((↑y421.length:Int)) (decide ((↑y421.length:Int)=(0:Int))) y421 y422 y422 x3_7 true x3_7 true x3_7 true x3_7 true true false 1 x3_5 x3_6 x3_7 x3_8
       (λz458 _ _ _ _ _ _ _ _ z467 z468 _ _ _ _ _ _ _ _ _ _ _ _ z481 _ _ _ z485 _ _ _ _ _ _=>
        br (decide (z467<z485))
         (k0 false 0 [])
         (ck (dX z458.length (some z485) (some z467))<|
         ck (yK N (bW z458 (some z485) (some z467)))<|
         ck (dX z468.length (some (1:Int)) none)<|
         ck (b9 (bW z458 (some z485) (some z467)++[bW z468 (some (1:Int)) none]).length (24:Nat))<|
         ck (rU N (bW z458 (some z485) (some z467)++[bW z468 (some (1:Int)) none]))<|
         k0 (rS N (bW z458 (some z485) (some z467)++[bW z468 (some (1:Int)) none])) z481 (rT N (bW z458 (some z485) (some z467)++[bW z468 (some (1:Int)) none]))))))
     (br (decide (33=y422))
      (br false
       (self (aA.wrap (x3_4+1)))
       (in0 x3_0 x3_1 x3_2 x3_3 x3_4 (decide (x3_4<x3_3)) x3_4 y421 y421 x3_4 y421 y421 ((↑y421.length:Int)) (decide ((↑y421.length:Int)=(0:Int))) y421 y422 y422 x3_8 true x3_8 true x3_8 true x3_8 true true false 1 x3_5 x3_6 x3_7 x3_8
        (λz492 _ _ _ _ _ _ _ _ z501 z502 _ _ _ _ _ _ _ _ _ _ _ _ z515 _ _ _ z519 _ _ _ _ _ _=>
         br (decide (z501<z519))
          (k0 false 0 [])
          (ck (dX z492.length (some z519) (some z501))<|
          ck (yK N (bW z492 (some z519) (some z501)))<|
          ck (dX z502.length (some (1:Int)) none)<|
          ck (b9 (bW z492 (some z519) (some z501)++[bW z502 (some (1:Int)) none]).length (24:Nat))<|
          ck (rU N (bW z492 (some z519) (some z501)++[bW z502 (some (1:Int)) none]))<|
          k0 (rS N (bW z492 (some z519) (some z501)++[bW z502 (some (1:Int)) none])) z515 (rT N (bW z492 (some z519) (some z501)++[bW z502 (some (1:Int)) none]))))))
      (br true
       (self (aA.wrap (x3_4+1)))
       (in0 x3_0 x3_1 x3_2 x3_3 x3_4 (decide (x3_4<x3_3)) x3_4 y421 y421 x3_4 y421 y421 ((↑y421.length:Int)) (decide ((↑y421.length:Int)=(0:Int))) y421 y422 y422 0 false 0 false 0 false 0 false false true 1 x3_5 x3_6 x3_7 x3_8
        (λz526 _ _ _ _ _ _ _ _ z535 z536 _ _ _ _ _ _ _ _ _ _ _ _ z549 _ _ _ z553 _ _ _ _ _ _=>
         br (decide (z535<z553))
          (k0 false 0 [])
          (ck (dX z526.length (some z553) (some z535))<|
          ck (yK N (bW z526 (some z553) (some z535)))<|
          ck (dX z536.length (some (1:Int)) none)<|
          ck (b9 (bW z526 (some z553) (some z535)++[bW z536 (some (1:Int)) none]).length (24:Nat))<|
          ck (rU N (bW z526 (some z553) (some z535)++[bW z536 (some (1:Int)) none]))<|
          k0 (rS N (bW z526 (some z553) (some z535)++[bW z536 (some (1:Int)) none])) z549 (rT N (bW z526 (some z553) (some z535)++[bW z536 (some (1:Int)) none]))))))))))
  (k1 x3_1 x3_5)
def Qz:Code:=cE [1,1,1,1,0,1,0,0] KT
def aAM:Nm:=⟨[0,2,3,7,46,47,48],[],[]⟩
def AE(x:(List aG)×Bool×(List aG)×Int×Int×Int×Int×Int×Int):Sg:=⟨[(0,.e (.sl (.sl .u8)) x.1),(2,.ref 0 0),(3,.e .bo x.2.1),(7,.own 1),(46,.e (.sl (.sl .u8)) x.2.2.1),(47,.e (.i .i64) x.2.2.2.1),(48,.e (.i .i64) x.2.2.2.2.1)],[(0,.box 24 [.e (.i .i64) x.2.2.2.2.2.1,.bI]),(1,.mp .u8 [((44:UInt8),.e (.i .i64) x.2.2.2.2.2.2.1),((36:UInt8),.e (.i .i64) x.2.2.2.2.2.2.2.1),((33:UInt8),.e (.i .i64) x.2.2.2.2.2.2.2.2)])],100⟩
def KO(σ:Sg):(List aG)×Bool×(List aG)×Int×Int×Int×Int×Int×Int:=(aC (.sl (.sl .u8)) 0 0 σ,aC .bo 3 0 σ,aC (.sl (.sl .u8)) 46 0 σ,aC (.i .i64) 47 0 σ,aC (.i .i64) 48 0 σ,bP (.i .i64) 0 0 σ,tC (.i .i64) .u8 1 0 σ,tC (.i .i64) .u8 1 1 σ,tC (.i .i64) .u8 1 2 σ)
theorem aOf:∀x,KO (AE x)=x:=λ_=>by kernel_rfl
def KV(y:Bool×Int×(List Int)):Exit×Sg:=(.ret,⟨[(2,.ref 0 0),(3,.e .bo y.1)],[(0,.box 24 [.e (.i .i64) y.2.1,.e (.sl (.i .i64)) y.2.2])],100⟩)
def aOc(_:Exit)(σ:Sg):Bool×Int×(List Int):=(aC .bo 3 0 σ,bP (.i .i64) 0 0 σ,bP (.sl (.i .i64)) 0 1 σ)
def KU(y:Bool×Int):Exit×Sg:=((.exit 0),⟨[(2,.ref 0 0),(3,.e .bo y.1)],[(0,.box 24 [.e (.i .i64) y.2,.bI])],100⟩)
def aOb(_:Exit)(σ:Sg):Bool×Int:=(aC .bo 3 0 σ,bP (.i .i64) 0 0 σ)
def aO9:List (Exit×Nm):=[(.ret,⟨[2,3],[],[.cv 2 1 (.sl (.i .i64))]⟩),((.exit 0),⟨[2,3],[],[]⟩)]
def AD[aB](N:Nat):Nat->((List aG)×Bool×(List aG)×Int×Int×Int×Int×Int×Int)->((Bool×Int×(List Int))->O)->((Bool×Int)->O)->((Unit)->O)->O
 |0,_,_,_,_=>none
 |n+1,x,k0,k1,k2=>KX N (KR N) (λv0=>AD N n (x.1,x.2.1,x.2.2.1,x.2.2.2.1,v0,x.2.2.2.2.2.1,x.2.2.2.2.2.2.1,x.2.2.2.2.2.2.2.1,x.2.2.2.2.2.2.2.2) k0 k1 k2) (λy0 y1 y2=>k0 (y0,y1,y2)) (λy0 y1=>k1 (y0,y1)) x.1 x.2.1 x.2.2.1 x.2.2.2.1 x.2.2.2.2.2.1 x.2.2.2.2.2.2.1 x.2.2.2.2.2.2.2.1 x.2.2.2.2.2.2.2.2 x.2.2.2.2.1
def aAL[aB] N a0 a1 a2 a3 a4 a5 a6 a7 a8 (k0:Bool->Int->(List Int)->O) (k1:Bool->Int->O):=AD N N (a0,a1,a2,a3,a4,a5,a6,a7,a8) (λy=>k0 y.1 y.2.1 y.2.2) (λy=>k1 y.1 y.2) (λ_=>none)
def aAK[aB] N a0 a1 a2 a3 a4 a5 a6 a7 a8 (k0:Bool->Int->(List Int)->O) (k1:Bool->Int->O):=aP AE KO (AD N N) (AE (a0,a1,a2,a3,a4,a5,a6,a7,a8)) (λy=>k0 y.1 y.2.1 y.2.2) (λy=>k1 y.1 y.2) (λ_=>none)
theorem aOp[aB] N:aAK N=aAL N:=funext λ_=>funext λ_=>funext λ_=>funext λ_=>funext λ_=>funext λ_=>funext λ_=>funext λ_=>funext λ_=>funext λ_=>funext λ_=>cL aOf _ _ _ _
def aAN[aB](N:Nat):Hint:=(.seq .d (.seq .d (.seq (.block (.seq .d (.seq .d (.seq .d (.seq .d (.seq .d (.seq (.sub aOl _ _ _ KW (aN 1) (aN 2) (aP CV KP (KS N N))) (.seq .d (.seq (.fT [] [] [[],[],[],[],[],[],[],[],[188,156],[]]) .d))))))))) .d)))
theorem aOm N (hc:aK (lK N)):bH (lK N) Tryd.f48.ntmps (aAN N) Qz:=bS _ _ (aF trivial (aF trivial (aF (aF trivial (aF trivial (aF trivial (aF trivial (aF trivial (aF (aOx N hc) (aF trivial (aF trivial trivial)))))))) trivial)))
theorem aOh[aB](N:Nat)(self:Sg->O)(K:Exit->Sg->O)(x:(List aG)×Bool×(List aG)×Int×Int×Int×Int×Int×Int):KX N (Qx N) (λv0=>self (AE (x.1,x.2.1,x.2.2.1,x.2.2.2.1,v0,x.2.2.2.2.2.1,x.2.2.2.2.2.2.1,x.2.2.2.2.2.2.2.1,x.2.2.2.2.2.2.2.2))) (λy0 y1 y2=>K (KV (y0,y1,y2)).1 (KV (y0,y1,y2)).2) (λy0 y1=>K (KU (y0,y1)).1 (KU (y0,y1)).2) x.1 x.2.1 x.2.2.1 x.2.2.2.1 x.2.2.2.2.2.1 x.2.2.2.2.2.2.1 x.2.2.2.2.2.2.2.1 x.2.2.2.2.2.2.2.2 x.2.2.2.2.1=exec (lK N) Tryd.f48.ntmps (aAN N) Qz (AE x) (cZ aAM aO9 self K):=by kernel_rfl
theorem aOw N (hc:aK (lK N)):cF (lK N) Tryd.f48.ntmps (.loop Qz) KV KU (aN 2) (aP AE KO (AD N N)):=
 dD hc (aOm N hc) (jA aOc aOb .ret (.exit 0) (λ_=>by kernel_rfl) (λ_=>by kernel_rfl) (λ_=>rfl) (λ_=>rfl) (by kernel_rfl)) (n:=N) (λx K=>dE (AD N) (λ_ _ _ _=>rfl) (λn K ih x=>by
  refine dK ?_ (aOh N _ K x);simp only[aAP N,<-ih];rfl) N x K)
def RB[aB](N:Nat)(_in0:(List aG)->Bool->(List aG)->Int->Int->Bool->Int->aG->aG->Int->aG->aG->Int->Bool->aG->UInt8->UInt8->Int->Bool->Int->Bool->Int->Bool->Int->Bool->Bool->Bool->Int->Int->Int->Int->Int->((List aG)->Bool->(List aG)->Int->Int->Bool->Int->aG->aG->Int->aG->aG->Int->Bool->aG->UInt8->UInt8->Int->Bool->Int->Bool->Int->Bool->Int->Bool->Bool->Bool->Int->Int->Bool->Int->Int->Int->Int->O)->O)(in1:(List aG)->Bool->(List aG)->Int->Int->Int->Int->Int->Int->(Bool->Int->(List Int)->O)->(Bool->Int->O)->O)(p0:(List aG)):O:=
 br (decide ((↑p0.length:Int)<(2:Int)))
  (some (qC 0 [] false))
  (gx p0 1 λy0=>
  ck (Bu N y0 (63:UInt8))<|
  br (decide ((0:Int)<=j5 N y0 (63:UInt8)))
   (gx p0 1 λy1=>
   ck (dX y1.length (some (aA.wrap (j5 N y0 (63:UInt8)+(1:Int)))) none)<|
   gx p0 1 λy2=>
   ck (dX y2.length none (some (j5 N y0 (63:UInt8))))<|
   ck (rU N [bW y1 (some (aA.wrap (j5 N y0 (63:UInt8)+(1:Int)))) none,bW y2 none (some (j5 N y0 (63:UInt8)))])<|
   some (qC 6 (rT N [bW y1 (some (aA.wrap (j5 N y0 (63:UInt8)+(1:Int)))) none,bW y2 none (some (j5 N y0 (63:UInt8)))]) (rS N [bW y1 (some (aA.wrap (j5 N y0 (63:UInt8)+(1:Int)))) none,bW y2 none (some (j5 N y0 (63:UInt8)))])))
   (ck true <|
   ck true <|
   ck true <|
   in1 p0 false p0 ((↑p0.length:Int)) 0 0 3 4 5
    (λz560 z561 z562=>
     some (qC z561 z562 z560))
    (λ_ _=>
     some (qC 0 [] false))))
def w48[aB] N p0:=RB N (KR N) (aAL N) p0
def aAO[aB](N:Nat):Hint:=(.seq .d (.seq .d (.seq .d (.seq .d (.seq (.seq .d (.block (.sub aAM _ _ _ KV KU (aN 2) (aP AE KO (AD N N))))) .d)))))
theorem aOn N (hc:aK (lK N)):bH (lK N) Tryd.f48.ntmps (aAO N) KT:=bS _ _ (aF trivial (aF trivial (aF trivial (aF trivial (aF (aF trivial (aOw N hc)) trivial)))))
theorem aOj[aB] N p0:RB N (Qx N) (aAK N) p0=exec (lK N) Tryd.f48.ntmps (aAO N) KT ⟨cA 0 [.e (.sl (.sl .u8)) p0],[],100⟩ (cD (lK N) Tryd.f48 false):=by kernel_rfl
def Es(r:aM):Option (Int×(List Int)×Bool):=match r with
 |(.aU [.agg [x0,x1],x2],[])=>(match ue (.i .i64) x0,ue (.sl (.i .i64)) x1,ue .bo x2 with|some a0,some a1,some a2=>some (a0,a1,a2)|_,_,_=>none)
 |_=>none
theorem aOe{r d}(h:Es r=some d):r=qC d.1 d.2.1 d.2.2:=by
 unfold Es at h;split at h
 .split at h
  .rename_i h0 h1 h2;cases h;rw[bG h0,bG h1,bG h2];rfl
  .cases h
 .cases h
def nP N p0:=(w48 N p0).bind Es
theorem aOo{N}(hc:aK (lK N)){p0 d}(hd:nP N p0=some d):cI Tryd.prog 48 [.e (.sl (.sl .u8)) p0] [] (qC d.1 d.2.1 d.2.2):=
 cJ hc (by kernel_rfl) (by kernel_rfl) (aOn N hc) (by kernel_rfl) aOe (λhr=>(aOj N p0).symm.trans (by rw[aAP N,aOp N];exact hr)) hd
def KQ N p0:=(nP N p0).isSome
def sM N p0:=((nP N p0).getD (0,[],false)).1
def sL N p0:=((nP N p0).getD (0,[],false)).2.1
def KN N p0:=((nP N p0).getD (0,[],false)).2.2
def aAQ(N:Nat):bR:=E1 (.sl (.sl .u8)) (λx0=>(KQ N x0,qC (sM N x0) (sL N x0) (KN N x0)))
theorem aOk N:aX Tryd.prog 48 (aAQ N):=aX.e1 (λx0 h=>cS (z:=nP N x0) h (aOo (aOq N)) rfl)
def A3(a0:Int)(a1:(List Int))(a2:Int):aM:=(.aU [.agg [.e (.i .i64) a0,.e (.sl (.i .i64)) a1],.e (.i .i64) a2],[])
def FZ(N:Nat):Cx:=⟨Tryd.prog,99999,[(48,aAQ N),(21,SK N),(32,aBy N)],[]⟩
def aCO:Code:=Tryd.f28.body.getD .skip
theorem aSU N:aK (FZ N):=cH (by kernel_rfl) (.cons (by kernel_rfl) (aOk N) (.cons (by kernel_rfl) (aCr N) (.cons (by kernel_rfl) (aRl N) .nil))) .nil
def Rt[aB](N:Nat)(p0:(List aG)):O:=
 ck (KQ N p0)<|
 br (!KN N p0)
  (some (A3 0 [] 2))
  (ck (Ad N (sM N p0) (sL N p0))<|
  ck (!!decide (nS N (sM N p0) (sL N p0)≠(0:Int))||C6 N p0 (jM N (sM N p0) (sL N p0)))<|
  br (decide (nS N (sM N p0) (sL N p0)≠(0:Int))||!A1 N p0 (jM N (sM N p0) (sL N p0)))
   (some (A3 0 [] 2))
   (some (A3 (sM N p0) (sL N p0) 0)))
def w28[aB] N p0:=Rt N p0
def aCM[aB](_:Nat):Hint:=.d
theorem aSS N:bH (FZ N) Tryd.f28.ntmps (aCM N) aCO:=bS _ _ trivial
theorem aSQ[aB] N p0:Rt N p0=exec (FZ N) Tryd.f28.ntmps (aCM N) aCO ⟨cA 0 [.e (.sl (.sl .u8)) p0],[],100⟩ (cD (FZ N) Tryd.f28 false):=by kernel_rfl
def L0(r:aM):Option (Int×(List Int)×Int):=match r with
 |(.aU [.agg [x0,x1],x2],[])=>(match ue (.i .i64) x0,ue (.sl (.i .i64)) x1,ue (.i .i64) x2 with|some a0,some a1,some a2=>some (a0,a1,a2)|_,_,_=>none)
 |_=>none
theorem aSP{r d}(h:L0 r=some d):r=A3 d.1 d.2.1 d.2.2:=by
 unfold L0 at h;split at h
 .split at h
  .rename_i h0 h1 h2;cases h;rw[bG h0,bG h1,bG h2];rfl
  .cases h
 .cases h
def vT N p0:=(w28 N p0).bind L0
theorem aST{N}(hc:aK (FZ N)){p0 d}(hd:vT N p0=some d):cI Tryd.prog 28 [.e (.sl (.sl .u8)) p0] [] (A3 d.1 d.2.1 d.2.2):=
 cJ hc (by kernel_rfl) (by kernel_rfl) (aSS N) (by kernel_rfl) aSP (aSQ N p0).symm.trans hd
def L1 N p0:=(vT N p0).isSome
def lO N p0:=((vT N p0).getD (0,[],0)).1
def lN N p0:=((vT N p0).getD (0,[],0)).2.1
def vU N p0:=((vT N p0).getD (0,[],0)).2.2
def aCN(N:Nat):bR:=E1 (.sl (.sl .u8)) (λx0=>(L1 N x0,A3 (lO N x0) (lN N x0) (vU N x0)))
theorem aSR N:aX Tryd.prog 28 (aCN N):=aX.e1 (λx0 h=>cS (z:=vT N x0) h (aST (aSU N)) rfl)
def Bc(a0:Bool):aM:=(.e .bo a0,[])
def aHQ[aB](_:Nat)(self:Int->(List aG)->O)(k0:Int->Bool->(List aG)->Int->Int->Int->(List Int)->(List aG)->O)(x2_0:Int)(x2_1:Bool)(x2_2:(List aG))(x2_3 x2_4 x2_6:Int)(x2_7:(List Int))(x2_5:Int)(x2_8:(List aG)):O:=
 br (decide (x2_5<(↑x2_2.length:Int)))
  (gx x2_2 x2_5 λy5=>
  ck (b9 ([]++y5).length (1:Nat))<|
  ck (b9 (x2_8.length+[[]++y5].length) (24:Nat))<|
  self (aA.wrap (x2_5+1)) (x2_8++[[]++y5]))
  (k0 x2_0 x2_1 x2_2 x2_3 x2_4 x2_6 x2_7 x2_8)
def Vr[aB](N:Nat):Nat->(Int×Bool×(List aG)×Int×Int×Int×Int×(List Int)×(List aG))->((Int×Bool×(List aG)×Int×Int×Int×(List Int)×(List aG))->O)->((Unit)->O)->((Unit)->O)->O
 |0,_,_,_,_=>none
 |n+1,x,k0,k1,k2=>aHQ N (λv0 v1=>Vr N n (x.1,x.2.1,x.2.2.1,x.2.2.2.1,x.2.2.2.2.1,v0,x.2.2.2.2.2.2.1,x.2.2.2.2.2.2.2.1,v1) k0 k1 k2) (λy0 y1 y2 y3 y4 y5 y6 y7=>k0 (y0,y1,y2,y3,y4,y5,y6,y7)) x.1 x.2.1 x.2.2.1 x.2.2.2.1 x.2.2.2.2.1 x.2.2.2.2.2.2.1 x.2.2.2.2.2.2.2.1 x.2.2.2.2.2.1 x.2.2.2.2.2.2.2.2
def aHN[aB] N a0 a1 a2 a3 a4 a5 a6 a7 a8 (k0:Int->Bool->(List aG)->Int->Int->Int->(List Int)->(List aG)->O):=Vr N N (a0,a1,a2,a3,a4,a5,a6,a7,a8) (λy=>k0 y.1 y.2.1 y.2.2.1 y.2.2.2.1 y.2.2.2.2.1 y.2.2.2.2.2.1 y.2.2.2.2.2.2.1 y.2.2.2.2.2.2.2) (λ_=>none) (λ_=>none)
def aHP[aB](N:Nat)(self:Int->Int->O)(k0:Bool->Int->Int->(List Int)->O)(x25_0:Bool)(x25_1 x25_2:Int)(x25_3:UInt8)(x25_6:Int)(x25_7:(List Int))(x25_8:(List aG))(x25_4 x25_5:Int):O:=
 br (decide (x25_5<10))
  (ck (qI N (gH (aA.wrap ((48:Int)+x25_5))))<|
  br (decide (x25_3=dZ N (gH (aA.wrap ((48:Int)+x25_5)))))
   (gx x25_8 x25_1 λy34=>
   gx y34 x25_2 λy35=>
   br (decide (y35=dZ N (gH (aA.wrap ((48:Int)+x25_5)))))
    (self (aA.wrap (aA.wrap (x25_4+1)+(1:Int))) (aA.wrap (x25_5+1)))
    (self (aA.wrap (x25_4+1)) (aA.wrap (x25_5+1))))
   (gx x25_8 x25_1 λy36=>
   gx y36 x25_2 λy37=>
   br (decide (y37=dZ N (gH (aA.wrap ((48:Int)+x25_5)))))
    (self (aA.wrap (x25_4+1)) (aA.wrap (x25_5+1)))
    (self x25_4 (aA.wrap (x25_5+1)))))
  (k0 x25_0 x25_4 x25_6 x25_7)
def Vq[aB](N:Nat):Nat->(Bool×Int×Int×UInt8×Int×Int×Int×(List Int)×(List aG))->((Bool×Int×Int×(List Int))->O)->((Unit)->O)->((Unit)->O)->O
 |0,_,_,_,_=>none
 |n+1,x,k0,k1,k2=>aHP N (λv0 v1=>Vq N n (x.1,x.2.1,x.2.2.1,x.2.2.2.1,v0,v1,x.2.2.2.2.2.2.1,x.2.2.2.2.2.2.2.1,x.2.2.2.2.2.2.2.2) k0 k1 k2) (λy0 y1 y2 y3=>k0 (y0,y1,y2,y3)) x.1 x.2.1 x.2.2.1 x.2.2.2.1 x.2.2.2.2.2.2.1 x.2.2.2.2.2.2.2.1 x.2.2.2.2.2.2.2.2 x.2.2.2.2.1 x.2.2.2.2.2.1
def aHM[aB] N a0 a1 a2 a3 a4 a5 a6 a7 a8 (k0:Bool->Int->Int->(List Int)->O):=Vq N N (a0,a1,a2,a3,a4,a5,a6,a7,a8) (λy=>k0 y.1 y.2.1 y.2.2.1 y.2.2.2) (λ_=>none) (λ_=>none)
def w8G[aB](N:Nat)(in0:Int->Bool->(List aG)->Int->Int->Int->Int->(List Int)->(List aG)->(Int->Bool->(List aG)->Int->Int->Int->(List Int)->(List aG)->O)->O)(in1:Bool->Int->Int->UInt8->Int->Int->Int->(List Int)->(List aG)->(Bool->Int->Int->(List Int)->O)->O)(l0:(List Int))(line1 at2 to3:Int):O:=
 ck (Fe N l0)<|
 ck (Ad N (iD N l0) (iC N l0))<|
 br (decide (nS N (iD N l0) (iC N l0)≠(0:Int))||decide ((↑(jM N (iD N l0) (iC N l0)).length:Int)=(0:Int)))
  (some (Bc false))
  (ck (j8 N line1 (↑(jM N (iD N l0) (iC N l0)).length:Int))<|
  gx (jM N (iD N l0) (iC N l0)) (bK N line1 (↑(jM N (iD N l0) (iC N l0)).length:Int)) λy0=>
  br (decide ((↑y0.length:Int)=(0:Int)))
   (some (Bc false))
   (gx (jM N (iD N l0) (iC N l0)) (bK N line1 (↑(jM N (iD N l0) (iC N l0)).length:Int)) λy1=>
   ck (j8 N at2 (↑y1.length:Int))<|
   in0 to3 false (jM N (iD N l0) (iC N l0)) (bK N line1 (↑(jM N (iD N l0) (iC N l0)).length:Int)) (bK N at2 (↑y1.length:Int)) 0 (iD N l0) (iC N l0) []
    (λz6 z7 z8 z9 z10 z11 z12 z13=>
     ck (decide ((0:Int)<=z9/\z9<(↑z13.length:Int)))<|
     gn z13 z9.toNat λ_=>
     gn z13 z9.toNat λy15=>
     ck (decide ((0:Int)<=z10/\z10<(↑y15.length:Int)))<|
     gn z13 z9.toNat λy16=>
     gn y16 z10.toNat λy17=>
     ck (decide ((0:Int)<=z9/\z9<(↑z13.length:Int)))<|
     gn z13 z9.toNat λ_=>
     ck (j8 N z6 (16:Int))<|
     gx [(48:UInt8),(49:UInt8),(50:UInt8),(51:UInt8),(52:UInt8),(53:UInt8),(54:UInt8),(55:UInt8),(56:UInt8),(57:UInt8),(95:UInt8),(43:UInt8),(45:UInt8),(42:UInt8),(61:UInt8),(91:UInt8)] (bK N z6 (16:Int)) λy19=>
     ck (qI N y19)<|
     gn z13 z9.toNat λy20=>
     ck (decide ((0:Int)<=z10/\z10<(↑y20.length:Int)))<|
     gn z13 z9.toNat λy21=>
     gn y21 z10.toNat λ_=>
     ck (C6 N z8 (z13.set z9.toNat (y21.set z10.toNat (dZ N y19))))<|
     br (A1 N z8 (z13.set z9.toNat (y21.set z10.toNat (dZ N y19))))
      (gx (z13.set z9.toNat (y21.set z10.toNat (dZ N y19))) z9 λy23=>
      gx y23 z10 λy24=>
      ck (!decide (y17=y24)||true)<|
      some (Bc (decide (y17=y24)&&true)))
      (ck (L1 N (z13.set z9.toNat (y21.set z10.toNat (dZ N y19))))<|
      br (decide (vU N (z13.set z9.toNat (y21.set z10.toNat (dZ N y19)))≠(0:Int)))
       (ck (!decide (vU N (z13.set z9.toNat (y21.set z10.toNat (dZ N y19)))=(2:Int))||true)<|
       some (Bc (decide (vU N (z13.set z9.toNat (y21.set z10.toNat (dZ N y19)))=(2:Int))&&true)))
       (ck (Ad N (lO N (z13.set z9.toNat (y21.set z10.toNat (dZ N y19)))) (lN N (z13.set z9.toNat (y21.set z10.toNat (dZ N y19)))))<|
       ck (!!decide (nS N (lO N (z13.set z9.toNat (y21.set z10.toNat (dZ N y19)))) (lN N (z13.set z9.toNat (y21.set z10.toNat (dZ N y19))))≠(0:Int))||C6 N (jM N (lO N (z13.set z9.toNat (y21.set z10.toNat (dZ N y19)))) (lN N (z13.set z9.toNat (y21.set z10.toNat (dZ N y19))))) (z13.set z9.toNat (y21.set z10.toNat (dZ N y19))))<|
       ck (!!(decide (nS N (lO N (z13.set z9.toNat (y21.set z10.toNat (dZ N y19)))) (lN N (z13.set z9.toNat (y21.set z10.toNat (dZ N y19))))≠(0:Int))||!A1 N (jM N (lO N (z13.set z9.toNat (y21.set z10.toNat (dZ N y19)))) (lN N (z13.set z9.toNat (y21.set z10.toNat (dZ N y19))))) (z13.set z9.toNat (y21.set z10.toNat (dZ N y19))))||LY N (lO N (z13.set z9.toNat (y21.set z10.toNat (dZ N y19)))) (lN N (z13.set z9.toNat (y21.set z10.toNat (dZ N y19)))) z11 z12)<|
       br (decide (nS N (lO N (z13.set z9.toNat (y21.set z10.toNat (dZ N y19)))) (lN N (z13.set z9.toNat (y21.set z10.toNat (dZ N y19))))≠(0:Int))||!A1 N (jM N (lO N (z13.set z9.toNat (y21.set z10.toNat (dZ N y19)))) (lN N (z13.set z9.toNat (y21.set z10.toNat (dZ N y19))))) (z13.set z9.toNat (y21.set z10.toNat (dZ N y19)))||FQ N (lO N (z13.set z9.toNat (y21.set z10.toNat (dZ N y19)))) (lN N (z13.set z9.toNat (y21.set z10.toNat (dZ N y19)))) z11 z12)
        (some (Bc false))
        (in1 z7 z9 z10 y17 0 0 z11 z12 (z13.set z9.toNat (y21.set z10.toNat (dZ N y19)))
         (λ_ z39 z40 _=>
          ck (!(decide (z39<2)||decide (z40≠3)&&decide (z40≠4))||true)<|
          some (Bc ((decide (z39<2)||decide (z40≠3)&&decide (z40≠4))&&true)))))))))
def w8[aB] N l0 line1 at2 to3:=w8G N (aHN N) (aHM N) l0 line1 at2 to3
end
end Go.Proofs
