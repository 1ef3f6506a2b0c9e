/- What the other reader does; pages that are changed and made. Conditions are in the theorems. -/
import Derived.Test.YtpmhkjnnolpknaaDoorE7
import Derived.Test.YtpmhkjnnolpknaaDoorF0
import Derived.Test.YtpmhkjnnolpknaaDoorProg
import Derived.KernelRfl
import Derived.Test.YtpmhkjnnolpknaaDoorF2
open And renaming intro->aF
open Eq renaming trans->dK
open Go.IntKind renaming i64->aA
open List renaming take->tT
/- What functions do. -/
namespace Go.Proofs
noncomputable section
open Go.Ax Go.Ax.aB Go.RowKit Go.Ab
open Go
abbrev aI:=List UInt8
abbrev aF6:List UInt8:=[(48:UInt8),(49:UInt8),(50:UInt8),(51:UInt8),(52:UInt8),(53:UInt8),(54:UInt8),(55:UInt8),(56:UInt8),(57:UInt8),(95:UInt8),(43:UInt8),(45:UInt8),(42:UInt8),(61:UInt8),(91:UInt8)]
def yH(a0:Int)(a1:Bool):aM:=(.aU [.e (.i .i64) a0,.e .bo a1],[])
def lH(N:Nat):Cx:=⟨Tryd.prog,99999,[(31,FO N)],[]⟩
def Hy:Code:=Tryd.f75.body.getD .skip
theorem aJR N:aK (lH N):=cH (by kernel_rfl) (.cons (by kernel_rfl) (LW N) .nil) .nil
def Bt[aB](N:Nat)(self:Int->Int->Bool->Int->O)(k0:aI->Int->Int->Int->Int->Bool->O)(x24_0:aI)(x24_1 x24_4:Int)(x24_2 x24_3:Int)(x24_5:Bool)(x24_6:Int):O:=
 br (decide (x24_6<10))
  (gc (!x24_5) 0 x24_0 x24_4 λy27=>
  ck (!!x24_5||qI N (gH (aA.wrap ((48:Int)+x24_6))))<|
  br (!x24_5&&decide (y27=dZ N (gH (aA.wrap ((48:Int)+x24_6)))))
   (self (aA.wrap (aA.wrap ((10:Int)*x24_2)+x24_6)) (aA.wrap (x24_3+1)) true (aA.wrap (x24_6+1)))
   (self x24_2 x24_3 x24_5 (aA.wrap (x24_6+1))))
  (k0 x24_0 x24_1 x24_2 x24_3 x24_4 x24_5)
def PJ:Code:=cE [1,1,1,0,1,0,0,1,0,0,1,1,0,1,0,0] Hy
def XI:Nm:=⟨[0,2,8,9,10,11,12],[],[]⟩
def yJ(x:aI×Int×Int×Int×Int×Bool×Int):Sg:=⟨[(0,.e (.sl .u8) x.1),(2,.e (.i .i64) x.2.1),(8,.e (.i .i64) x.2.2.1),(9,.e (.i .i64) x.2.2.2.1),(10,.e (.i .i64) x.2.2.2.2.1),(11,.e .bo x.2.2.2.2.2.1),(12,.e (.i .i64) x.2.2.2.2.2.2)],[],100⟩
def Hw(σ:Sg):aI×Int×Int×Int×Int×Bool×Int:=(aC (.sl .u8) 0 0 σ,aC (.i .i64) 2 0 σ,aC (.i .i64) 8 0 σ,aC (.i .i64) 9 0 σ,aC (.i .i64) 10 0 σ,aC .bo 11 0 σ,aC (.i .i64) 12 0 σ)
theorem aJI:∀x,Hw (yJ x)=x:=λ_=>by kernel_rfl
def IE(y:aI×Int×Int×Int×Int×Bool):Exit×Sg:=((.exit 2),⟨[(0,.e (.sl .u8) y.1),(2,.e (.i .i64) y.2.1),(8,.e (.i .i64) y.2.2.1),(9,.e (.i .i64) y.2.2.2.1),(10,.e (.i .i64) y.2.2.2.2.1),(11,.e .bo y.2.2.2.2.2)],[],100⟩)
def aJF(_:Exit)(σ:Sg):aI×Int×Int×Int×Int×Bool:=(aC (.sl .u8) 0 0 σ,aC (.i .i64) 2 0 σ,aC (.i .i64) 8 0 σ,aC (.i .i64) 9 0 σ,aC (.i .i64) 10 0 σ,aC .bo 11 0 σ)
def aJC:List (Exit×Nm):=[((.exit 2),⟨[0,2,8,9,10,11],[],[]⟩)]
def uI[aB](N:Nat):Nat->(aI×Int×Int×Int×Int×Bool×Int)->((aI×Int×Int×Int×Int×Bool)->O)->((Unit)->O)->((Unit)->O)->O
 |0,_,_,_,_=>none
 |n+1,x,k0,k1,k2=>Bt N (λv0 v1 v2 v3=>uI N n (x.1,x.2.1,v0,v1,x.2.2.2.2.1,v2,v3) k0 k1 k2) (λy0 y1 y2 y3 y4 y5=>k0 (y0,y1,y2,y3,y4,y5)) x.1 x.2.1 x.2.2.2.2.1 x.2.2.1 x.2.2.2.1 x.2.2.2.2.2.1 x.2.2.2.2.2.2
def Hx[aB] N a0 a1 a2 a3 a4 a5 a6 (k0:aI->Int->Int->Int->Int->Bool->O):=uI N N (a0,a1,a2,a3,a4,a5,a6) (λy=>k0 y.1 y.2.1 y.2.2.1 y.2.2.2.1 y.2.2.2.2.1 y.2.2.2.2.2) (λ_=>none) (λ_=>none)
def PG[aB] N a0 a1 a2 a3 a4 a5 a6 (k0:aI->Int->Int->Int->Int->Bool->O):=aP yJ Hw (uI N N) (yJ (a0,a1,a2,a3,a4,a5,a6)) (λy=>k0 y.1 y.2.1 y.2.2.1 y.2.2.2.1 y.2.2.2.2.1 y.2.2.2.2.2) (λ_=>none) (λ_=>none)
theorem XL[aB] N:PG N=Hx N:=funext λ_=>funext λ_=>funext λ_=>funext λ_=>funext λ_=>funext λ_=>funext λ_=>funext λ_=>cL aJI _ _ _ _
theorem aJK[aB](N:Nat)(self:Sg->O)(K:Exit->Sg->O)(x:aI×Int×Int×Int×Int×Bool×Int):Bt N (λv0 v1 v2 v3=>self (yJ (x.1,x.2.1,v0,v1,x.2.2.2.2.1,v2,v3))) (λy0 y1 y2 y3 y4 y5=>K (IE (y0,y1,y2,y3,y4,y5)).1 (IE (y0,y1,y2,y3,y4,y5)).2) x.1 x.2.1 x.2.2.2.2.1 x.2.2.1 x.2.2.2.1 x.2.2.2.2.2.1 x.2.2.2.2.2.2=exec (lH N) Tryd.f75.ntmps .d PJ (yJ x) (cZ XI aJC self K):=by kernel_rfl
theorem aJT N (hc:aK (lH N)):cF (lH N) Tryd.f75.ntmps (.loop PJ) IE (aN 1) (aN 2) (aP yJ Hw (uI N N)):=
 dD hc (cX PJ) (eC aJF (.exit 2) (λ_=>by kernel_rfl) (λ_=>rfl) (by kernel_rfl)) (n:=N) (λx K=>dE (uI N) (λ_ _ _ _=>rfl) (λn K ih x=>by
  refine dK ?_ (aJK N _ K x);simp only[<-ih];rfl) N x K)
def IF[aB](_:Nat)(in0:aI->Int->Int->Int->Int->Bool->Int->(aI->Int->Int->Int->Int->Bool->O)->O)(self:aI->Int->Int->Int->Int->O)(k0:Int->Bool->O)(k1:Int->Int->O)(x0_0:aI)(x0_1 x0_2:Int)(x0_3 x0_4:Int):O:=
 br (decide (x0_4<x0_1))
  (gx x0_0 x0_4 λy23=>
  br (decide (y23=0))
   (self x0_0 x0_1 x0_2 x0_3 (aA.wrap (x0_4+1)))
   (in0 x0_0 x0_1 x0_2 x0_3 x0_4 false 0
    (λz28 z29 z30 z31 z32 z33=>
     br (!z33||decide (6<z31))
      (k0 0 false)
      (self z28 z29 z30 z31 (aA.wrap (z32+1))))))
  (k1 x0_2 x0_3)
def PI:Code:=cE [1,1,1,0,1,0,0] Hy
def XG:Nm:=⟨[0,2,8,9,10],[],[]⟩
def yI(x:aI×Int×Int×Int×Int):Sg:=⟨[(0,.e (.sl .u8) x.1),(2,.e (.i .i64) x.2.1),(8,.e (.i .i64) x.2.2.1),(9,.e (.i .i64) x.2.2.2.1),(10,.e (.i .i64) x.2.2.2.2)],[],100⟩
def Hv(σ:Sg):aI×Int×Int×Int×Int:=(aC (.sl .u8) 0 0 σ,aC (.i .i64) 2 0 σ,aC (.i .i64) 8 0 σ,aC (.i .i64) 9 0 σ,aC (.i .i64) 10 0 σ)
theorem aJH:∀x,Hv (yI x)=x:=λ_=>by kernel_rfl
def ID(y:Int×Bool):Exit×Sg:=(.ret,⟨[(6,.e (.i .i64) y.1),(7,.e .bo y.2)],[],100⟩)
def aJE(_:Exit)(σ:Sg):Int×Bool:=(aC (.i .i64) 6 0 σ,aC .bo 7 0 σ)
def IC(y:Int×Int):Exit×Sg:=((.exit 0),⟨[(8,.e (.i .i64) y.1),(9,.e (.i .i64) y.2)],[],100⟩)
def aJD(_:Exit)(σ:Sg):Int×Int:=(aC (.i .i64) 8 0 σ,aC (.i .i64) 9 0 σ)
def aJB:List (Exit×Nm):=[(.ret,⟨[6,7],[],[]⟩),((.exit 0),⟨[8,9],[],[]⟩)]
def rR[aB](N:Nat):Nat->(aI×Int×Int×Int×Int)->((Int×Bool)->O)->((Int×Int)->O)->((Unit)->O)->O
 |0,_,_,_,_=>none
 |n+1,x,k0,k1,k2=>IF N (Hx N) (λv0 v1 v2 v3 v4=>rR N n (v0,v1,v2,v3,v4) k0 k1 k2) (λy0 y1=>k0 (y0,y1)) (λy0 y1=>k1 (y0,y1)) x.1 x.2.1 x.2.2.1 x.2.2.2.1 x.2.2.2.2
def PH[aB] N a0 a1 a2 a3 a4 (k0:Int->Bool->O) (k1:Int->Int->O):=rR N N (a0,a1,a2,a3,a4) (λy=>k0 y.1 y.2) (λy=>k1 y.1 y.2) (λ_=>none)
def XF[aB] N a0 a1 a2 a3 a4 (k0:Int->Bool->O) (k1:Int->Int->O):=aP yI Hv (rR N N) (yI (a0,a1,a2,a3,a4)) (λy=>k0 y.1 y.2) (λy=>k1 y.1 y.2) (λ_=>none)
theorem aJQ[aB] N:XF N=PH N:=funext λ_=>funext λ_=>funext λ_=>funext λ_=>funext λ_=>funext λ_=>funext λ_=>cL aJH _ _ _ _
def XJ[aB](N:Nat):Hint:=(.seq .d (.seq (.block (.seq .d (.seq .d (.seq (.seq .d (.block (.sub XI _ _ _ IE (aN 1) (aN 2) (aP yJ Hw (uI N N))))) .d)))) .d))
theorem aJN N (hc:aK (lH N)):bH (lH N) Tryd.f75.ntmps (XJ N) PI:=bS _ _ (aF trivial (aF (aF trivial (aF trivial (aF (aF trivial (aJT N hc)) trivial))) trivial))
theorem aJJ[aB](N:Nat)(self:Sg->O)(K:Exit->Sg->O)(x:aI×Int×Int×Int×Int):IF N (PG N) (λv0 v1 v2 v3 v4=>self (yI (v0,v1,v2,v3,v4))) (λy0 y1=>K (ID (y0,y1)).1 (ID (y0,y1)).2) (λy0 y1=>K (IC (y0,y1)).1 (IC (y0,y1)).2) x.1 x.2.1 x.2.2.1 x.2.2.2.1 x.2.2.2.2=exec (lH N) Tryd.f75.ntmps (XJ N) PI (yI x) (cZ XG aJB self K):=by kernel_rfl
theorem aJS N (hc:aK (lH N)):cF (lH N) Tryd.f75.ntmps (.loop PI) ID IC (aN 2) (aP yI Hv (rR N N)):=
 dD hc (aJN N hc) (jA aJE aJD .ret (.exit 0) (λ_=>by kernel_rfl) (λ_=>by kernel_rfl) (λ_=>rfl) (λ_=>rfl) (by kernel_rfl)) (n:=N) (λx K=>dE (rR N) (λ_ _ _ _=>rfl) (λn K ih x=>by
  refine dK ?_ (aJJ N _ K x);simp only[XL N,<-ih];rfl) N x K)
def PM[aB](_:Nat)(_in0:aI->Int->Int->Int->Int->Bool->Int->(aI->Int->Int->Int->Int->Bool->O)->O)(in1:aI->Int->Int->Int->Int->(Int->Bool->O)->(Int->Int->O)->O)(l0:aI)(from1 to2:Int):O:=
 in1 l0 to2 0 0 from1
  (λz34 z35=>
   some (yH z34 z35))
  (λz36 z37=>
   some (yH z36 (decide (0<z37))))
def XQ[aB] N l0 from1 to2:=PM N (Hx N) (PH N) l0 from1 to2
def XK[aB](N:Nat):Hint:=(.seq .d (.seq .d (.seq .d (.seq (.seq .d (.block (.sub XG _ _ _ ID IC (aN 2) (aP yI Hv (rR N N))))) .d))))
theorem aJO N (hc:aK (lH N)):bH (lH N) Tryd.f75.ntmps (XK N) Hy:=bS _ _ (aF trivial (aF trivial (aF trivial (aF (aF trivial (aJS N hc)) trivial))))
theorem aJL[aB] N l0 from1 to2:PM N (PG N) (XF N) l0 from1 to2=exec (lH N) Tryd.f75.ntmps (XK N) Hy ⟨cA 0 [.e (.sl .u8) l0,.e (.i .i64) from1,.e (.i .i64) to2],[],100⟩ (cD (lH N) Tryd.f75 false):=by kernel_rfl
def Hu(r:aM):Option (Int×Bool):=match r with
 |(.aU [x0,x1],[])=>(match ue (.i .i64) x0,ue .bo x1 with|some a0,some a1=>some (a0,a1)|_,_=>none)
 |_=>none
theorem aJG{r d}(h:Hu r=some d):r=yH d.1 d.2:=by
 unfold Hu at h;split at h
 .split at h
  .rename_i h0 h1;cases h;rw[bG h0,bG h1];rfl
  .cases h
 .cases h
def yG N l0 from1 to2:=(XQ N l0 from1 to2).bind Hu
theorem aJP{N}(hc:aK (lH N)){l0 from1 to2 d}(hd:yG N l0 from1 to2=some d):cI Tryd.prog 75 [.e (.sl .u8) l0,.e (.i .i64) from1,.e (.i .i64) to2] [] (yH d.1 d.2):=
 cJ hc (by kernel_rfl) (by kernel_rfl) (aJO N hc) (by kernel_rfl) aJG (λhr=>(aJL N l0 from1 to2).symm.trans (by rw[XL N,aJQ N];exact hr)) hd
def uH N l0 from1 to2:=(yG N l0 from1 to2).isSome
def pX N l0 from1 to2:=((yG N l0 from1 to2).getD (0,false)).1
def rQ N l0 from1 to2:=((yG N l0 from1 to2).getD (0,false)).2
def XM(N:Nat):bR:=E3 (.sl .u8) (.i .i64) (.i .i64) (λx0 x1 x2=>(uH N x0 x1 x2,yH (pX N x0 x1 x2) (rQ N x0 x1 x2)))
theorem aJM N:aX Tryd.prog 75 (XM N):=aX.e3 (λx0 x1 x2 h=>cS (z:=yG N x0 x1 x2) h (aJP (aJR N)) rfl)
def mC(a0:Int)(a1:(List Int))(a2:Bool):aM:=(.aU [.agg [.e (.i .i64) a0,.e (.sl (.i .i64)) a1],.e .bo a2],[])
def gP(N:Nat):Cx:=⟨Tryd.prog,99999,[(75,XM N)],[]⟩
def zY:Code:=Tryd.f49.body.getD .skip
theorem aO2 N:aK (gP N):=cH (by kernel_rfl) (.cons (by kernel_rfl) (aJM N) .nil) .nil
def KM[aB](N:Nat)(self:Int->O)(k0:Bool->Int->(List Int)->O)(k1:(List aI)->Int->O)(x1_0:(List aI))(x1_1:aI)(x1_3 x1_2:Int):O:=
 br (decide (x1_2<(↑x1_1.length:Int)))
  (gx x1_1 x1_2 λy4=>
  br (decide (y4=63))
   (ck (uH N x1_1 (aA.wrap (x1_2+1)) (↑x1_1.length:Int))<|
   ck (uH N x1_1 (0:Int) x1_2)<|
   k0 (rQ N x1_1 (aA.wrap (x1_2+1)) (↑x1_1.length:Int)&&rQ N x1_1 (0:Int) x1_2) 6 [pX N x1_1 (aA.wrap (x1_2+1)) (↑x1_1.length:Int),pX N x1_1 (0:Int) x1_2])
   (self (aA.wrap (x1_2+1))))
  (k1 x1_0 x1_3)
def Qv:Code:=cE [1,1,1,0,1,0,0] zY
def Zz:Nm:=⟨[0,2,4,5],[],[]⟩
def AB(x:(List aI)×aI×Int×Int):Sg:=⟨[(0,.e (.sl (.sl .u8)) x.1),(2,.ref 0 0),(4,.e (.sl .u8) x.2.1),(5,.e (.i .i64) x.2.2.1)],[(0,.box 24 [.e (.i .i64) x.2.2.2,.bI])],100⟩
def Jw(σ:Sg):(List aI)×aI×Int×Int:=(aC (.sl (.sl .u8)) 0 0 σ,aC (.sl .u8) 4 0 σ,aC (.i .i64) 5 0 σ,bP (.i .i64) 0 0 σ)
theorem aOM:∀x,Jw (AB x)=x:=λ_=>by kernel_rfl
def KK(y:Bool×Int×(List Int)):Exit×Sg:=(.ret,⟨[(2,.ref 0 0),(3,.e .bo y.1)],[(0,.box 24 [.e (.i .i64) y.2.1,.own 1]),(1,.row 3 (.i .i64) y.2.2 true)],100⟩)
def aOG(_:Exit)(σ:Sg):Bool×Int×(List Int):=(aC .bo 3 0 σ,bP (.i .i64) 0 0 σ,c9 (.i .i64) 1 σ)
def KJ(y:(List aI)×Int):Exit×Sg:=((.exit 0),⟨[(0,.e (.sl (.sl .u8)) y.1),(2,.ref 0 0)],[(0,.box 24 [.e (.i .i64) y.2,.bI])],100⟩)
def aOF(_:Exit)(σ:Sg):(List aI)×Int:=(aC (.sl (.sl .u8)) 0 0 σ,bP (.i .i64) 0 0 σ)
def aNy:List (Exit×Nm):=[(.ret,⟨[2,3],[],[]⟩),((.exit 0),⟨[0,2],[],[]⟩)]
def zX[aB](N:Nat):Nat->((List aI)×aI×Int×Int)->((Bool×Int×(List Int))->O)->(((List aI)×Int)->O)->((Unit)->O)->O
 |0,_,_,_,_=>none
 |n+1,x,k0,k1,k2=>KM N (λv0=>zX N n (x.1,x.2.1,v0,x.2.2.2) k0 k1 k2) (λy0 y1 y2=>k0 (y0,y1,y2)) (λy0 y1=>k1 (y0,y1)) x.1 x.2.1 x.2.2.2 x.2.2.1
def Qp[aB] N a0 a1 a2 a3 (k0:Bool->Int->(List Int)->O) (k1:(List aI)->Int->O):=zX N N (a0,a1,a2,a3) (λy=>k0 y.1 y.2.1 y.2.2) (λy=>k1 y.1 y.2) (λ_=>none)
def Zw[aB] N a0 a1 a2 a3 (k0:Bool->Int->(List Int)->O) (k1:(List aI)->Int->O):=aP AB Jw (zX N N) (AB (a0,a1,a2,a3)) (λy=>k0 y.1 y.2.1 y.2.2) (λy=>k1 y.1 y.2) (λ_=>none)
theorem aO1[aB] N:Zw N=Qp N:=funext λ_=>funext λ_=>funext λ_=>funext λ_=>funext λ_=>funext λ_=>cL aOM _ _ _ _
theorem aOR[aB](N:Nat)(self:Sg->O)(K:Exit->Sg->O)(x:(List aI)×aI×Int×Int):KM N (λv0=>self (AB (x.1,x.2.1,v0,x.2.2.2))) (λy0 y1 y2=>K (KK (y0,y1,y2)).1 (KK (y0,y1,y2)).2) (λy0 y1=>K (KJ (y0,y1)).1 (KJ (y0,y1)).2) x.1 x.2.1 x.2.2.2 x.2.2.1=exec (gP N) Tryd.f49.ntmps .d Qv (AB x) (cZ Zz aNy self K):=by kernel_rfl
theorem aO8 N (hc:aK (gP N)):cF (gP N) Tryd.f49.ntmps (.loop Qv) KK KJ (aN 2) (aP AB Jw (zX N N)):=
 dD hc (cX Qv) (jA aOG aOF .ret (.exit 0) (λ_=>by kernel_rfl) (λ_=>by kernel_rfl) (λ_=>rfl) (λ_=>rfl) (by kernel_rfl)) (n:=N) (λx K=>dE (zX N) (λ_ _ _ _=>rfl) (λn K ih x=>by
  refine dK ?_ (aOR N _ K x);simp only[<-ih];rfl) N x K)
def KL[aB](_:Nat)(k0:(List aI)->Int->Int->Int->Int->O)(x186_0:(List aI))(x186_1 x186_2:Int)(x186_3 x186_4:Int):O:=
 gx x186_0 x186_1 λy191=>
 gx y191 0 λy192=>
 br (decide (y192=44))
  (k0 x186_0 x186_1 3 x186_3 x186_4)
  (br (decide (y192=36))
   (k0 x186_0 x186_1 4 x186_3 x186_4)
   (br (decide (y192=33))
    (k0 x186_0 x186_1 5 0 x186_4)
    (k0 x186_0 x186_1 x186_2 x186_3 x186_4)))
def Qu:Code:=cE [1,1,1,1,0,1,0,0,1,0,0,1,1,1,0] zY
def aOV:Nm:=⟨[0,2,10,11,12],[],[]⟩
def CT(x:(List aI)×Int×Int×Int×Int):Sg:=⟨[(0,.e (.sl (.sl .u8)) x.1),(2,.ref 0 0),(10,.e (.i .i64) x.2.1),(11,.e (.i .i64) x.2.2.1),(12,.e (.i .i64) x.2.2.2.1)],[(0,.box 24 [.e (.i .i64) x.2.2.2.2,.bI])],100⟩
def Jv(σ:Sg):(List aI)×Int×Int×Int×Int:=(aC (.sl (.sl .u8)) 0 0 σ,aC (.i .i64) 10 0 σ,aC (.i .i64) 11 0 σ,aC (.i .i64) 12 0 σ,bP (.i .i64) 0 0 σ)
theorem aOL:∀x,Jv (CT x)=x:=λ_=>by kernel_rfl
def KI(y:(List aI)×Int×Int×Int×Int):Exit×Sg:=(.normal,⟨[(0,.e (.sl (.sl .u8)) y.1),(2,.ref 0 0),(10,.e (.i .i64) y.2.1),(11,.e (.i .i64) y.2.2.1),(12,.e (.i .i64) y.2.2.2.1)],[(0,.box 24 [.e (.i .i64) y.2.2.2.2,.bI])],100⟩)
def aOE(_:Exit)(σ:Sg):(List aI)×Int×Int×Int×Int:=(aC (.sl (.sl .u8)) 0 0 σ,aC (.i .i64) 10 0 σ,aC (.i .i64) 11 0 σ,aC (.i .i64) 12 0 σ,bP (.i .i64) 0 0 σ)
def aNx:List (Exit×Nm):=[(.normal,⟨[0,2,10,11,12],[],[]⟩)]
def KB[aB](N:Nat)(_:Nat)(x:(List aI)×Int×Int×Int×Int)(k0:((List aI)×Int×Int×Int×Int)->O)(_:(Unit)->O)(_:(Unit)->O):O:=KL N (λy0 y1 y2 y3 y4=>k0 (y0,y1,y2,y3,y4)) x.1 x.2.1 x.2.2.1 x.2.2.2.1 x.2.2.2.2
def Jz[aB] N a0 a1 a2 a3 a4 (k0:(List aI)->Int->Int->Int->Int->O):=KB N N (a0,a1,a2,a3,a4) (λy=>k0 y.1 y.2.1 y.2.2.1 y.2.2.2.1 y.2.2.2.2) (λ_=>none) (λ_=>none)
def Qm[aB] N a0 a1 a2 a3 a4 (k0:(List aI)->Int->Int->Int->Int->O):=aP CT Jv (KB N N) (CT (a0,a1,a2,a3,a4)) (λy=>k0 y.1 y.2.1 y.2.2.1 y.2.2.2.1 y.2.2.2.2) (λ_=>none) (λ_=>none)
theorem aAE[aB] N:Qm N=Jz N:=funext λ_=>funext λ_=>funext λ_=>funext λ_=>funext λ_=>funext λ_=>cL aOL _ _ _ _
theorem aOQ[aB](N:Nat)(K:Exit->Sg->O)(x:(List aI)×Int×Int×Int×Int):KL N (λy0 y1 y2 y3 y4=>K (KI (y0,y1,y2,y3,y4)).1 (KI (y0,y1,y2,y3,y4)).2) x.1 x.2.1 x.2.2.1 x.2.2.2.1 x.2.2.2.2=exec (gP N) Tryd.f49.ntmps .d Qu (CT x) (kR aNx K):=by kernel_rfl
theorem aO7 N (hc:aK (gP N)):cF (gP N) Tryd.f49.ntmps Qu KI (aN 1) (aN 2) (aP CT Jv (KB N N)):=
 mG hc (cX Qu) (eC aOE .normal (λ_=>by kernel_rfl) (λ_=>rfl) (by kernel_rfl)) (λx K=>by
  exact aOQ N K x)
def CU[aB](_:Nat)(k0:(List aI)->Int->Int->Int->Int->Int->(List Int)->O)(x228_0:(List aI))(x228_1 x228_2:Int)(x228_3 x228_4 x228_5:Int)(x228_6:(List Int)):O:=
 br (decide (x228_2=x228_1))
  (k0 x228_0 x228_1 x228_2 1 x228_4 x228_5 x228_6)
  (k0 x228_0 x228_1 x228_2 x228_3 x228_4 x228_5 x228_6)
def Qt:Code:=cE [1,1,1,1,0,1,0,0,1,0,0,1,1,1,1,1,1,0,1,0,0,1,0,0,1,0] zY
def aOU:Nm:=⟨[0,2,10,13,14,15],[],[]⟩
def CS(x:(List aI)×Int×Int×Int×Int×Int×(List Int)):Sg:=⟨[(0,.e (.sl (.sl .u8)) x.1),(2,.ref 0 0),(10,.e (.i .i64) x.2.1),(13,.ref 1 0),(14,.e (.i .i64) x.2.2.1),(15,.e (.i .i64) x.2.2.2.1)],[(0,.box 24 [.e (.i .i64) x.2.2.2.2.1,.bI]),(1,.box 24 [.e (.i .i64) x.2.2.2.2.2.1,.own 2]),(2,.row 3 (.i .i64) x.2.2.2.2.2.2 true)],100⟩
def Ju(σ:Sg):(List aI)×Int×Int×Int×Int×Int×(List Int):=(aC (.sl (.sl .u8)) 0 0 σ,aC (.i .i64) 10 0 σ,aC (.i .i64) 14 0 σ,aC (.i .i64) 15 0 σ,bP (.i .i64) 0 0 σ,bP (.i .i64) 1 0 σ,c9 (.i .i64) 2 σ)
theorem aOK:∀x,Ju (CS x)=x:=λ_=>by kernel_rfl
def KH(y:(List aI)×Int×Int×Int×Int×Int×(List Int)):Exit×Sg:=(.normal,⟨[(0,.e (.sl (.sl .u8)) y.1),(2,.ref 0 0),(10,.e (.i .i64) y.2.1),(13,.ref 1 0),(14,.e (.i .i64) y.2.2.1),(15,.e (.i .i64) y.2.2.2.1)],[(0,.box 24 [.e (.i .i64) y.2.2.2.2.1,.bI]),(1,.box 24 [.e (.i .i64) y.2.2.2.2.2.1,.own 2]),(2,.row 3 (.i .i64) y.2.2.2.2.2.2 true)],100⟩)
def aOD(_:Exit)(σ:Sg):(List aI)×Int×Int×Int×Int×Int×(List Int):=(aC (.sl (.sl .u8)) 0 0 σ,aC (.i .i64) 10 0 σ,aC (.i .i64) 14 0 σ,aC (.i .i64) 15 0 σ,bP (.i .i64) 0 0 σ,bP (.i .i64) 1 0 σ,c9 (.i .i64) 2 σ)
def aNw:List (Exit×Nm):=[(.normal,⟨[0,2,10,13,14,15],[],[]⟩)]
def KA[aB](N:Nat)(_:Nat)(x:(List aI)×Int×Int×Int×Int×Int×(List Int))(k0:((List aI)×Int×Int×Int×Int×Int×(List Int))->O)(_:(Unit)->O)(_:(Unit)->O):O:=CU N (λy0 y1 y2 y3 y4 y5 y6=>k0 (y0,y1,y2,y3,y4,y5,y6)) x.1 x.2.1 x.2.2.1 x.2.2.2.1 x.2.2.2.2.1 x.2.2.2.2.2.1 x.2.2.2.2.2.2
def CR[aB] N a0 a1 a2 a3 a4 a5 a6 (k0:(List aI)->Int->Int->Int->Int->Int->(List Int)->O):=KA N N (a0,a1,a2,a3,a4,a5,a6) (λy=>k0 y.1 y.2.1 y.2.2.1 y.2.2.2.1 y.2.2.2.2.1 y.2.2.2.2.2.1 y.2.2.2.2.2.2) (λ_=>none) (λ_=>none)
def Jx[aB] N a0 a1 a2 a3 a4 a5 a6 (k0:(List aI)->Int->Int->Int->Int->Int->(List Int)->O):=aP CS Ju (KA N N) (CS (a0,a1,a2,a3,a4,a5,a6)) (λy=>k0 y.1 y.2.1 y.2.2.1 y.2.2.2.1 y.2.2.2.2.1 y.2.2.2.2.2.1 y.2.2.2.2.2.2) (λ_=>none) (λ_=>none)
theorem Qq[aB] N:Jx N=CR N:=funext λ_=>funext λ_=>funext λ_=>funext λ_=>funext λ_=>funext λ_=>funext λ_=>funext λ_=>cL aOK _ _ _ _
theorem aOP[aB](N:Nat)(K:Exit->Sg->O)(x:(List aI)×Int×Int×Int×Int×Int×(List Int)):CU N (λy0 y1 y2 y3 y4 y5 y6=>K (KH (y0,y1,y2,y3,y4,y5,y6)).1 (KH (y0,y1,y2,y3,y4,y5,y6)).2) x.1 x.2.1 x.2.2.1 x.2.2.2.1 x.2.2.2.2.1 x.2.2.2.2.2.1 x.2.2.2.2.2.2=exec (gP N) Tryd.f49.ntmps .d Qt (CS x) (kR aNw K):=by kernel_rfl
theorem aO6 N (hc:aK (gP N)):cF (gP N) Tryd.f49.ntmps Qt KH (aN 1) (aN 2) (aP CS Ju (KA N N)):=
 mG hc (cX Qt) (eC aOD .normal (λ_=>by kernel_rfl) (λ_=>rfl) (by kernel_rfl)) (λx K=>by
  exact aOP N K x)
def vB[aB](N:Nat)(in2:(List aI)->Int->Int->Int->Int->Int->(List Int)->((List aI)->Int->Int->Int->Int->Int->(List Int)->O)->O)(self:(List aI)->Int->Int->Int->Int->(List Int)->O)(k0:Bool->Int->O)(k1:Int->Int->(List Int)->O)(x198_0:(List aI))(x198_1 x198_2:Int)(x198_3 x198_4:Int)(x198_5:(List Int)):O:=
 br (decide (x198_2<=x198_1))
  (in2 x198_0 x198_1 x198_2 0 x198_3 x198_4 x198_5
   (λz229 z230 z231 z232 z233 z234 z235=>
    gx z229 z231 λy236=>
    gx z229 z231 λy237=>
    ck (uH N y236 z232 (↑y237.length:Int))<|
    br (!rQ N y236 z232 (↑y237.length:Int))
     (k0 false 0)
     (ck (b9 (z235++[pX N y236 z232 (↑y237.length:Int)]).length (8:Nat))<|
     self z229 z230 (aA.wrap (z231+1)) z233 z234 (z235++[pX N y236 z232 (↑y237.length:Int)]))))
  (k1 x198_3 x198_4 x198_5)
def Qs:Code:=cE [1,1,1,1,0,1,0,0,1,0,0,1,1,1,1,1,1,0,1,0,0] zY
def Zy:Nm:=⟨[0,2,10,13,14],[],[.BB 13 1 (.row 3 (.i .i64) [] true)]⟩
def AA(x:(List aI)×Int×Int×Int×Int×(List Int)):Sg:=⟨[(0,.e (.sl (.sl .u8)) x.1),(2,.ref 0 0),(10,.e (.i .i64) x.2.1),(13,.ref 1 0),(14,.e (.i .i64) x.2.2.1)],[(0,.box 24 [.e (.i .i64) x.2.2.2.1,.bI]),(1,.box 24 [.e (.i .i64) x.2.2.2.2.1,.own 2]),(2,.row 3 (.i .i64) x.2.2.2.2.2 true)],100⟩
def Jt(σ:Sg):(List aI)×Int×Int×Int×Int×(List Int):=(aC (.sl (.sl .u8)) 0 0 σ,aC (.i .i64) 10 0 σ,aC (.i .i64) 14 0 σ,bP (.i .i64) 0 0 σ,bP (.i .i64) 1 0 σ,c9 (.i .i64) 2 σ)
theorem aOJ:∀x,Jt (AA x)=x:=λ_=>by kernel_rfl
def KG(y:Bool×Int):Exit×Sg:=(.ret,⟨[(2,.ref 0 0),(3,.e .bo y.1)],[(0,.box 24 [.e (.i .i64) y.2,.bI])],100⟩)
def aOC(_:Exit)(σ:Sg):Bool×Int:=(aC .bo 3 0 σ,bP (.i .i64) 0 0 σ)
def KF(y:Int×Int×(List Int)):Exit×Sg:=((.exit 5),⟨[(2,.ref 0 0),(13,.ref 1 0)],[(0,.box 24 [.e (.i .i64) y.1,.bI]),(1,.box 24 [.e (.i .i64) y.2.1,.own 2]),(2,.row 3 (.i .i64) y.2.2 true)],100⟩)
def aOB(_:Exit)(σ:Sg):Int×Int×(List Int):=(bP (.i .i64) 0 0 σ,bP (.i .i64) 1 0 σ,c9 (.i .i64) 2 σ)
def aNv:List (Exit×Nm):=[(.ret,⟨[2,3],[],[]⟩),((.exit 5),⟨[2,13],[],[]⟩)]
def zW[aB](N:Nat):Nat->((List aI)×Int×Int×Int×Int×(List Int))->((Bool×Int)->O)->((Int×Int×(List Int))->O)->((Unit)->O)->O
 |0,_,_,_,_=>none
 |n+1,x,k0,k1,k2=>vB N (CR N) (λv0 v1 v2 v3 v4 v5=>zW N n (v0,v1,v2,v3,v4,v5) k0 k1 k2) (λy0 y1=>k0 (y0,y1)) (λy0 y1 y2=>k1 (y0,y1,y2)) x.1 x.2.1 x.2.2.1 x.2.2.2.1 x.2.2.2.2.1 x.2.2.2.2.2
def Jy[aB] N a0 a1 a2 a3 a4 a5 (k0:Bool->Int->O) (k1:Int->Int->(List Int)->O):=zW N N (a0,a1,a2,a3,a4,a5) (λy=>k0 y.1 y.2) (λy=>k1 y.1 y.2.1 y.2.2) (λ_=>none)
def Ql[aB] N a0 a1 a2 a3 a4 a5 (k0:Bool->Int->O) (k1:Int->Int->(List Int)->O):=aP AA Jt (zW N N) (AA (a0,a1,a2,a3,a4,a5)) (λy=>k0 y.1 y.2) (λy=>k1 y.1 y.2.1 y.2.2) (λ_=>none)
theorem aAD[aB] N:Ql N=Jy N:=funext λ_=>funext λ_=>funext λ_=>funext λ_=>funext λ_=>funext λ_=>funext λ_=>funext λ_=>cL aOJ _ _ _ _
def aAB[aB](N:Nat):Hint:=(.seq .d (.seq (.block (.seq .d (.seq (.sub aOU _ _ _ KH (aN 1) (aN 2) (aP CS Ju (KA N N))) .d))) .d))
theorem aOX N (hc:aK (gP N)):bH (gP N) Tryd.f49.ntmps (aAB N) Qs:=bS _ _ (aF trivial (aF (aF trivial (aF (aO6 N hc) trivial)) trivial))
theorem aOO[aB](N:Nat)(self:Sg->O)(K:Exit->Sg->O)(x:(List aI)×Int×Int×Int×Int×(List Int)):vB N (Jx N) (λv0 v1 v2 v3 v4 v5=>self (AA (v0,v1,v2,v3,v4,v5))) (λy0 y1=>K (KG (y0,y1)).1 (KG (y0,y1)).2) (λy0 y1 y2=>K (KF (y0,y1,y2)).1 (KF (y0,y1,y2)).2) x.1 x.2.1 x.2.2.1 x.2.2.2.1 x.2.2.2.2.1 x.2.2.2.2.2=exec (gP N) Tryd.f49.ntmps (aAB N) Qs (AA x) (cZ Zy aNv self K):=by kernel_rfl
theorem aO5 N (hc:aK (gP N)):cF (gP N) Tryd.f49.ntmps (.loop Qs) KG KF (aN 2) (aP AA Jt (zW N N)):=
 dD hc (aOX N hc) (jA aOC aOB .ret (.exit 5) (λ_=>by kernel_rfl) (λ_=>by kernel_rfl) (λ_=>rfl) (λ_=>rfl) (by kernel_rfl)) (n:=N) (λx K=>dE (zW N) (λ_ _ _ _=>rfl) (λn K ih x=>by
  refine dK ?_ (aOO N _ K x);simp only[Qq N,<-ih];rfl) N x K)
def Er[aB](_:Nat)(in1:(List aI)->Int->Int->Int->Int->((List aI)->Int->Int->Int->Int->O)->O)(_in2:(List aI)->Int->Int->Int->Int->Int->(List Int)->((List aI)->Int->Int->Int->Int->Int->(List Int)->O)->O)(in3:(List aI)->Int->Int->Int->Int->(List Int)->(Bool->Int->O)->(Int->Int->(List Int)->O)->O)(self:(List aI)->Int->Int->O)(k0:Bool->Int->(List Int)->O)(k1:Int->O)(x10_0:(List aI))(x10_1 x10_2:Int):O:=
 br (decide (x10_1<(↑x10_0.length:Int)))
  (gx x10_0 x10_1 λy185=>
  br (decide ((↑y185.length:Int)=(0:Int)))
   (self x10_0 (aA.wrap (x10_1+1)) x10_2)
   (in1 x10_0 x10_1 ((-1:Int)) 1 x10_2
    (λz193 z194 z195 z196 z197=>
     br (decide (z195<0))
      (self z193 (aA.wrap (z194+1)) z197)
      (in3 z193 z194 z196 z197 z195 []
       (λz238 z239=>
        k0 z238 z239 [])
       (λ_ z241 z242=>
        k0 true z241 z242)))))
  (k1 x10_2)
def Qr:Code:=cE [1,1,1,1,0,1,0,0] zY
def Zx:Nm:=⟨[0,2,10],[],[]⟩
def zZ(x:(List aI)×Int×Int):Sg:=⟨[(0,.e (.sl (.sl .u8)) x.1),(2,.ref 0 0),(10,.e (.i .i64) x.2.1)],[(0,.box 24 [.e (.i .i64) x.2.2,.bI])],100⟩
def Js(σ:Sg):(List aI)×Int×Int:=(aC (.sl (.sl .u8)) 0 0 σ,aC (.i .i64) 10 0 σ,bP (.i .i64) 0 0 σ)
theorem aOI:∀x,Js (zZ x)=x:=λ_=>by kernel_rfl
def KE(y:Bool×Int×(List Int)):Exit×Sg:=(.ret,⟨[(2,.ref 0 0),(3,.e .bo y.1)],[(0,.box 24 [.e (.i .i64) y.2.1,.own 1]),(1,.row 3 (.i .i64) y.2.2 true)],100⟩)
def aOA(_:Exit)(σ:Sg):Bool×Int×(List Int):=(aC .bo 3 0 σ,bP (.i .i64) 0 0 σ,c9 (.i .i64) 1 σ)
def KD(y:Int):Exit×Sg:=((.exit 2),⟨[(2,.ref 0 0)],[(0,.box 24 [.e (.i .i64) y,.bI])],100⟩)
def aNz(_:Exit)(σ:Sg):Int:=bP (.i .i64) 0 0 σ
def aNu:List (Exit×Nm):=[(.ret,⟨[2,3],[],[.BB 2 1 (.row 3 (.i .i64) [] true)]⟩),((.exit 2),⟨[2],[],[]⟩)]
def vA[aB](N:Nat):Nat->((List aI)×Int×Int)->((Bool×Int×(List Int))->O)->((Int)->O)->((Unit)->O)->O
 |0,_,_,_,_=>none
 |n+1,x,k0,k1,k2=>Er N (Jz N) (CR N) (Jy N) (λv0 v1 v2=>vA N n (v0,v1,v2) k0 k1 k2) (λy0 y1 y2=>k0 (y0,y1,y2)) (λy0=>k1 y0) x.1 x.2.1 x.2.2
def Qo[aB] N a0 a1 a2 (k0:Bool->Int->(List Int)->O) (k1:Int->O):=vA N N (a0,a1,a2) (λy=>k0 y.1 y.2.1 y.2.2) (λy=>k1 y) (λ_=>none)
def Zv[aB] N a0 a1 a2 (k0:Bool->Int->(List Int)->O) (k1:Int->O):=aP zZ Js (vA N N) (zZ (a0,a1,a2)) (λy=>k0 y.1 y.2.1 y.2.2) (λy=>k1 y) (λ_=>none)
theorem aO0[aB] N:Zv N=Qo N:=funext λ_=>funext λ_=>funext λ_=>funext λ_=>funext λ_=>cL aOI _ _ _ _
def aAA[aB](N:Nat):Hint:=(.seq .d (.seq (.block (.seq .d (.seq .d (.seq .d (.seq (.sub aOV _ _ _ KI (aN 1) (aN 2) (aP CT Jv (KB N N))) (.seq .d (.seq .d (.seq (.seq .d (.block (.sub Zy _ _ _ KG KF (aN 2) (aP AA Jt (zW N N))))) .d)))))))) .d))
theorem aOW N (hc:aK (gP N)):bH (gP N) Tryd.f49.ntmps (aAA N) Qr:=bS _ _ (aF trivial (aF (aF trivial (aF trivial (aF trivial (aF (aO7 N hc) (aF trivial (aF trivial (aF (aF trivial (aO5 N hc)) trivial))))))) trivial))
theorem aON[aB](N:Nat)(self:Sg->O)(K:Exit->Sg->O)(x:(List aI)×Int×Int):Er N (Qm N) (Jx N) (Ql N) (λv0 v1 v2=>self (zZ (v0,v1,v2))) (λy0 y1 y2=>K (KE (y0,y1,y2)).1 (KE (y0,y1,y2)).2) (λy0=>K (KD y0).1 (KD y0).2) x.1 x.2.1 x.2.2=exec (gP N) Tryd.f49.ntmps (aAA N) Qr (zZ x) (cZ Zx aNu self K):=by kernel_rfl
theorem aO4 N (hc:aK (gP N)):cF (gP N) Tryd.f49.ntmps (.loop Qr) KE KD (aN 2) (aP zZ Js (vA N N)):=
 dD hc (aOW N hc) (jA aOA aNz .ret (.exit 2) (λ_=>by kernel_rfl) (λ_=>by kernel_rfl) (λ_=>rfl) (λ_=>rfl) (by kernel_rfl)) (n:=N) (λx K=>dE (vA N) (λ_ _ _ _=>rfl) (λn K ih x=>by
  refine dK ?_ (aON N _ K x);simp only[aAE N,Qq N,aAD N,<-ih];rfl) N x K)
def Qw[aB](_:Nat)(in0:(List aI)->aI->Int->Int->(Bool->Int->(List Int)->O)->((List aI)->Int->O)->O)(_in1:(List aI)->Int->Int->Int->Int->((List aI)->Int->Int->Int->Int->O)->O)(_in2:(List aI)->Int->Int->Int->Int->Int->(List Int)->((List aI)->Int->Int->Int->Int->Int->(List Int)->O)->O)(_in3:(List aI)->Int->Int->Int->Int->(List Int)->(Bool->Int->O)->(Int->Int->(List Int)->O)->O)(in4:(List aI)->Int->Int->(Bool->Int->(List Int)->O)->(Int->O)->O)(p0:(List aI)):O:=
 br (decide ((↑p0.length:Int)<(2:Int)))
  (some (mC 0 [] false))
  (gx p0 1 λy0=>
  in0 p0 y0 0 0
   (λz5 z6 z7=>
    some (mC z6 z7 z5))
   (λz8 z9=>
    in4 z8 0 z9
     (λz243 z244 z245=>
      some (mC z244 z245 z243))
     (λ_=>
      some (mC 0 [] false))))
def w49[aB] N p0:=Qw N (Qp N) (Jz N) (CR N) (Jy N) (Qo N) p0
def aAC[aB](N:Nat):Hint:=(.seq .d (.seq .d (.seq .d (.seq (.seq .d (.block (.sub Zz _ _ _ KK KJ (aN 2) (aP AB Jw (zX N N))))) (.seq (.seq .d (.block (.sub Zx _ _ _ KE KD (aN 2) (aP zZ Js (vA N N))))) .d)))))
theorem aOY N (hc:aK (gP N)):bH (gP N) Tryd.f49.ntmps (aAC N) zY:=bS _ _ (aF trivial (aF trivial (aF trivial (aF (aF trivial (aO8 N hc)) (aF (aF trivial (aO4 N hc)) trivial)))))
theorem aOS[aB] N p0:Qw N (Zw N) (Qm N) (Jx N) (Ql N) (Zv N) p0=exec (gP N) Tryd.f49.ntmps (aAC N) zY ⟨cA 0 [.e (.sl (.sl .u8)) p0],[],100⟩ (cD (gP N) Tryd.f49 false):=by kernel_rfl
def zV(r:aM):Option (Int×(List Int)×Bool):=match r with
 |(.aU [.agg [x0,x1],x2],[])=>(match ue (.i .i64) x0,ue (.sl (.i .i64)) x1,ue .bo x2 with|some a0,some a1,some a2=>some (a0,a1,a2)|_,_,_=>none)
 |_=>none
theorem aOH{r d}(h:zV r=some d):r=mC d.1 d.2.1 d.2.2:=by
 unfold zV at h;split at h
 .split at h
  .rename_i h0 h1 h2;cases h;rw[bG h0,bG h1,bG h2];rfl
  .cases h
 .cases h
def u9 N p0:=(w49 N p0).bind zV
theorem aOZ{N}(hc:aK (gP N)){p0 d}(hd:u9 N p0=some d):cI Tryd.prog 49 [.e (.sl (.sl .u8)) p0] [] (mC d.1 d.2.1 d.2.2):=
 cJ hc (by kernel_rfl) (by kernel_rfl) (aOY N hc) (by kernel_rfl) aOH (λhr=>(aOS N p0).symm.trans (by rw[aO1 N,aAE N,Qq N,aAD N,aO0 N];exact hr)) hd
def Qn N p0:=(u9 N p0).isSome
def qB N p0:=((u9 N p0).getD (0,[],false)).1
def qA N p0:=((u9 N p0).getD (0,[],false)).2.1
def Ep N p0:=((u9 N p0).getD (0,[],false)).2.2
def aAF(N:Nat):bR:=E1 (.sl (.sl .u8)) (λx0=>(Qn N x0,mC (qB N x0) (qA N x0) (Ep N x0)))
theorem aOT N:aX Tryd.prog 49 (aAF N):=aX.e1 (λx0 h=>cS (z:=u9 N x0) h (aOZ (aO2 N)) rfl)
def Bs(a0:UInt8):aM:=(.e .u8 a0,[])
def EV(_:Nat):Cx:=⟨Tryd.prog,99999,[],[]⟩
def XA:Code:=Tryd.f76.body.getD .skip
theorem aJA N:aK (EV N):=cH (by kernel_rfl) .nil .nil
def PF[aB](_:Nat)(p0:(List aI))(line1 at2:Int):O:=
 br (decide (line1<0)||decide ((↑p0.length:Int)<=line1)||decide (at2<0))
  (some (Bs 0))
  (gx p0 line1 λy0=>
  br (decide ((↑y0.length:Int)<=at2))
   (some (Bs 0))
   (gx y0 at2 λy1=>
   some (Bs y1)))
def XE[aB] N p0 line1 at2:=PF N p0 line1 at2
def Wy[aB](_:Nat):Hint:=.d
theorem aIy N:bH (EV N) Tryd.f76.ntmps (Wy N) XA:=bS _ _ trivial
theorem aIw[aB] N p0 line1 at2:PF N p0 line1 at2=exec (EV N) Tryd.f76.ntmps (Wy N) XA ⟨cA 0 [.e (.sl (.sl .u8)) p0,.e (.i .i64) line1,.e (.i .i64) at2],[],100⟩ (cD (EV N) Tryd.f76 false):=by kernel_rfl
def PE(r:aM):Option (UInt8):=match r with
 |(x0,[])=>(match ue .u8 x0 with|some a0=>some a0|_=>none)
 |_=>none
theorem aIv{r d}(h:PE r=some d):r=Bs (d):=by
 unfold PE at h;split at h
 .split at h
  .rename_i h0;cases h;rw[bG h0];rfl
  .cases h
 .cases h
def Br N p0 line1 at2:=(XE N p0 line1 at2).bind PE
theorem aIz{N}(hc:aK (EV N)){p0 line1 at2 d}(hd:Br N p0 line1 at2=some d):cI Tryd.prog 76 [.e (.sl (.sl .u8)) p0,.e (.i .i64) line1,.e (.i .i64) at2] [] (Bs (d)):=
 cJ hc (by kernel_rfl) (by kernel_rfl) (aIy N) (by kernel_rfl) aIv (aIw N p0 line1 at2).symm.trans hd
def Ht N p0 line1 at2:=(Br N p0 line1 at2).isSome
def EU N p0 line1 at2:=((Br N p0 line1 at2).getD 0)
def Wz(N:Nat):bR:=E3 (.sl (.sl .u8)) (.i .i64) (.i .i64) (λx0 x1 x2=>(Ht N x0 x1 x2,Bs (EU N x0 x1 x2)))
theorem aIx N:aX Tryd.prog 76 (Wz N):=aX.e3 (λx0 x1 x2 h=>cS (z:=Br N x0 x1 x2) h (aIz (aJA N)) rfl)
def zS(a0:Bool):aM:=(.e .bo a0,[])
def iW(N:Nat):Cx:=⟨Tryd.prog,99999,[(76,Wz N)],[]⟩
def CM:Code:=Tryd.f50.body.getD .skip
theorem aNo N:aK (iW N):=cH (by kernel_rfl) (.cons (by kernel_rfl) (aIx N) .nil) .nil
def CQ[aB](_:Nat)(k0:(List aI)->(List aI)->Bool->Int->Int->O)(x49_0 x49_1:(List aI))(x49_2:Bool)(x49_3 x49_4:Int):O:=
 br (decide (x49_3<(↑x49_0.length:Int)))
  (gx x49_0 x49_3 λy52=>
  k0 x49_0 x49_1 x49_2 x49_3 ((↑y52.length:Int)))
  (k0 x49_0 x49_1 x49_2 x49_3 x49_4)
def Qj:Code:=cE [1,0,1,0,0,1,0,0,1,0] CM
def aNj:Nm:=⟨[0,1,4,5,6],[],[]⟩
def CO(x:(List aI)×(List aI)×Bool×Int×Int):Sg:=⟨[(0,.e (.sl (.sl .u8)) x.1),(1,.e (.sl (.sl .u8)) x.2.1),(4,.e .bo x.2.2.1),(5,.e (.i .i64) x.2.2.2.1),(6,.e (.i .i64) x.2.2.2.2)],[],100⟩
def Jh(σ:Sg):(List aI)×(List aI)×Bool×Int×Int:=(aC (.sl (.sl .u8)) 0 0 σ,aC (.sl (.sl .u8)) 1 0 σ,aC .bo 4 0 σ,aC (.i .i64) 5 0 σ,aC (.i .i64) 6 0 σ)
theorem aNb:∀x,Jh (CO x)=x:=λ_=>by kernel_rfl
def Jr(y:(List aI)×(List aI)×Bool×Int×Int):Exit×Sg:=(.normal,⟨[(0,.e (.sl (.sl .u8)) y.1),(1,.e (.sl (.sl .u8)) y.2.1),(4,.e .bo y.2.2.1),(5,.e (.i .i64) y.2.2.2.1),(6,.e (.i .i64) y.2.2.2.2)],[],100⟩)
def aN6(_:Exit)(σ:Sg):(List aI)×(List aI)×Bool×Int×Int:=(aC (.sl (.sl .u8)) 0 0 σ,aC (.sl (.sl .u8)) 1 0 σ,aC .bo 4 0 σ,aC (.i .i64) 5 0 σ,aC (.i .i64) 6 0 σ)
def aN0:List (Exit×Nm):=[(.normal,⟨[0,1,4,5,6],[],[]⟩)]
def Jl[aB](N:Nat)(_:Nat)(x:(List aI)×(List aI)×Bool×Int×Int)(k0:((List aI)×(List aI)×Bool×Int×Int)->O)(_:(Unit)->O)(_:(Unit)->O):O:=CQ N (λy0 y1 y2 y3 y4=>k0 (y0,y1,y2,y3,y4)) x.1 x.2.1 x.2.2.1 x.2.2.2.1 x.2.2.2.2
def Jj[aB] N a0 a1 a2 a3 a4 (k0:(List aI)->(List aI)->Bool->Int->Int->O):=Jl N N (a0,a1,a2,a3,a4) (λy=>k0 y.1 y.2.1 y.2.2.1 y.2.2.2.1 y.2.2.2.2) (λ_=>none) (λ_=>none)
def Qd[aB] N a0 a1 a2 a3 a4 (k0:(List aI)->(List aI)->Bool->Int->Int->O):=aP CO Jh (Jl N N) (CO (a0,a1,a2,a3,a4)) (λy=>k0 y.1 y.2.1 y.2.2.1 y.2.2.2.1 y.2.2.2.2) (λ_=>none) (λ_=>none)
theorem Zq[aB] N:Qd N=Jj N:=funext λ_=>funext λ_=>funext λ_=>funext λ_=>funext λ_=>funext λ_=>cL aNb _ _ _ _
theorem aNf[aB](N:Nat)(K:Exit->Sg->O)(x:(List aI)×(List aI)×Bool×Int×Int):CQ N (λy0 y1 y2 y3 y4=>K (Jr (y0,y1,y2,y3,y4)).1 (Jr (y0,y1,y2,y3,y4)).2) x.1 x.2.1 x.2.2.1 x.2.2.2.1 x.2.2.2.2=exec (iW N) Tryd.f50.ntmps .d Qj (CO x) (kR aN0 K):=by kernel_rfl
theorem aNt N (hc:aK (iW N)):cF (iW N) Tryd.f50.ntmps Qj Jr (aN 1) (aN 2) (aP CO Jh (Jl N N)):=
 mG hc (cX Qj) (eC aN6 .normal (λ_=>by kernel_rfl) (λ_=>rfl) (by kernel_rfl)) (λx K=>by
  exact aNf N K x)
def CP[aB](_:Nat)(k0:(List aI)->(List aI)->Bool->Int->Int->O)(x58_0 x58_1:(List aI))(x58_2:Bool)(x58_3 x58_4:Int):O:=
 br (decide (x58_3<(↑x58_1.length:Int)))
  (gx x58_1 x58_3 λy61=>
  k0 x58_0 x58_1 x58_2 x58_3 (max x58_4 (↑y61.length:Int)))
  (k0 x58_0 x58_1 x58_2 x58_3 x58_4)
def Qi:Code:=cE [1,0,1,0,0,1,0,0,1,1,0] CM
def aNi:Nm:=⟨[0,1,4,5,6],[],[]⟩
def CN(x:(List aI)×(List aI)×Bool×Int×Int):Sg:=⟨[(0,.e (.sl (.sl .u8)) x.1),(1,.e (.sl (.sl .u8)) x.2.1),(4,.e .bo x.2.2.1),(5,.e (.i .i64) x.2.2.2.1),(6,.e (.i .i64) x.2.2.2.2)],[],100⟩
def Jg(σ:Sg):(List aI)×(List aI)×Bool×Int×Int:=(aC (.sl (.sl .u8)) 0 0 σ,aC (.sl (.sl .u8)) 1 0 σ,aC .bo 4 0 σ,aC (.i .i64) 5 0 σ,aC (.i .i64) 6 0 σ)
theorem aNa:∀x,Jg (CN x)=x:=λ_=>by kernel_rfl
def Jq(y:(List aI)×(List aI)×Bool×Int×Int):Exit×Sg:=(.normal,⟨[(0,.e (.sl (.sl .u8)) y.1),(1,.e (.sl (.sl .u8)) y.2.1),(4,.e .bo y.2.2.1),(5,.e (.i .i64) y.2.2.2.1),(6,.e (.i .i64) y.2.2.2.2)],[],100⟩)
def aN5(_:Exit)(σ:Sg):(List aI)×(List aI)×Bool×Int×Int:=(aC (.sl (.sl .u8)) 0 0 σ,aC (.sl (.sl .u8)) 1 0 σ,aC .bo 4 0 σ,aC (.i .i64) 5 0 σ,aC (.i .i64) 6 0 σ)
def aNZ:List (Exit×Nm):=[(.normal,⟨[0,1,4,5,6],[],[]⟩)]
def Jk[aB](N:Nat)(_:Nat)(x:(List aI)×(List aI)×Bool×Int×Int)(k0:((List aI)×(List aI)×Bool×Int×Int)->O)(_:(Unit)->O)(_:(Unit)->O):O:=CP N (λy0 y1 y2 y3 y4=>k0 (y0,y1,y2,y3,y4)) x.1 x.2.1 x.2.2.1 x.2.2.2.1 x.2.2.2.2
def Ji[aB] N a0 a1 a2 a3 a4 (k0:(List aI)->(List aI)->Bool->Int->Int->O):=Jk N N (a0,a1,a2,a3,a4) (λy=>k0 y.1 y.2.1 y.2.2.1 y.2.2.2.1 y.2.2.2.2) (λ_=>none) (λ_=>none)
def Qc[aB] N a0 a1 a2 a3 a4 (k0:(List aI)->(List aI)->Bool->Int->Int->O):=aP CN Jg (Jk N N) (CN (a0,a1,a2,a3,a4)) (λy=>k0 y.1 y.2.1 y.2.2.1 y.2.2.2.1 y.2.2.2.2) (λ_=>none) (λ_=>none)
theorem Zp[aB] N:Qc N=Ji N:=funext λ_=>funext λ_=>funext λ_=>funext λ_=>funext λ_=>funext λ_=>cL aNa _ _ _ _
theorem aNe[aB](N:Nat)(K:Exit->Sg->O)(x:(List aI)×(List aI)×Bool×Int×Int):CP N (λy0 y1 y2 y3 y4=>K (Jq (y0,y1,y2,y3,y4)).1 (Jq (y0,y1,y2,y3,y4)).2) x.1 x.2.1 x.2.2.1 x.2.2.2.1 x.2.2.2.2=exec (iW N) Tryd.f50.ntmps .d Qi (CN x) (kR aNZ K):=by kernel_rfl
theorem aNs N (hc:aK (iW N)):cF (iW N) Tryd.f50.ntmps Qi Jq (aN 1) (aN 2) (aP CN Jg (Jk N N)):=
 mG hc (cX Qi) (eC aN5 .normal (λ_=>by kernel_rfl) (λ_=>rfl) (by kernel_rfl)) (λx K=>by
  exact aNe N K x)
def Eo[aB](N:Nat)(self:Int->O)(k0:Bool->O)(k1:(List aI)->(List aI)->Bool->Int->O)(x67_0 x67_1:(List aI))(x67_2:Bool)(x67_3 x67_4 x67_5:Int):O:=
 br (decide (x67_5<x67_4))
  (ck (Ht N x67_0 x67_3 x67_5)<|
  ck (Ht N x67_1 x67_3 x67_5)<|
  br (decide (EU N x67_0 x67_3 x67_5≠EU N x67_1 x67_3 x67_5))
   (k0 false)
   (self (aA.wrap (x67_5+1))))
  (k1 x67_0 x67_1 x67_2 x67_3)
def Qh:Code:=cE [1,0,1,0,0,1,0,0,1,1,1,1,0,0] CM
def Zl:Nm:=⟨[0,1,4,5,6,7],[],[]⟩
def zU(x:(List aI)×(List aI)×Bool×Int×Int×Int):Sg:=⟨[(0,.e (.sl (.sl .u8)) x.1),(1,.e (.sl (.sl .u8)) x.2.1),(4,.e .bo x.2.2.1),(5,.e (.i .i64) x.2.2.2.1),(6,.e (.i .i64) x.2.2.2.2.1),(7,.e (.i .i64) x.2.2.2.2.2)],[],100⟩
def Jf(σ:Sg):(List aI)×(List aI)×Bool×Int×Int×Int:=(aC (.sl (.sl .u8)) 0 0 σ,aC (.sl (.sl .u8)) 1 0 σ,aC .bo 4 0 σ,aC (.i .i64) 5 0 σ,aC (.i .i64) 6 0 σ,aC (.i .i64) 7 0 σ)
theorem aN9:∀x,Jf (zU x)=x:=λ_=>by kernel_rfl
def Jp(y:Bool):Exit×Sg:=(.ret,⟨[(4,.e .bo y)],[],100⟩)
def aN4(_:Exit)(σ:Sg):Bool:=aC .bo 4 0 σ
def Jo(y:(List aI)×(List aI)×Bool×Int):Exit×Sg:=((.exit 2),⟨[(0,.e (.sl (.sl .u8)) y.1),(1,.e (.sl (.sl .u8)) y.2.1),(4,.e .bo y.2.2.1),(5,.e (.i .i64) y.2.2.2)],[],100⟩)
def aN3(_:Exit)(σ:Sg):(List aI)×(List aI)×Bool×Int:=(aC (.sl (.sl .u8)) 0 0 σ,aC (.sl (.sl .u8)) 1 0 σ,aC .bo 4 0 σ,aC (.i .i64) 5 0 σ)
def aNY:List (Exit×Nm):=[(.ret,⟨[4],[],[]⟩),((.exit 2),⟨[0,1,4,5],[],[]⟩)]
def u7[aB](N:Nat):Nat->((List aI)×(List aI)×Bool×Int×Int×Int)->((Bool)->O)->(((List aI)×(List aI)×Bool×Int)->O)->((Unit)->O)->O
 |0,_,_,_,_=>none
 |n+1,x,k0,k1,k2=>Eo N (λv0=>u7 N n (x.1,x.2.1,x.2.2.1,x.2.2.2.1,x.2.2.2.2.1,v0) k0 k1 k2) (λy0=>k0 y0) (λy0 y1 y2 y3=>k1 (y0,y1,y2,y3)) x.1 x.2.1 x.2.2.1 x.2.2.2.1 x.2.2.2.2.1 x.2.2.2.2.2
def Em[aB] N a0 a1 a2 a3 a4 a5 (k0:Bool->O) (k1:(List aI)->(List aI)->Bool->Int->O):=u7 N N (a0,a1,a2,a3,a4,a5) (λy=>k0 y) (λy=>k1 y.1 y.2.1 y.2.2.1 y.2.2.2) (λ_=>none)
def Qb[aB] N a0 a1 a2 a3 a4 a5 (k0:Bool->O) (k1:(List aI)->(List aI)->Bool->Int->O):=aP zU Jf (u7 N N) (zU (a0,a1,a2,a3,a4,a5)) (λy=>k0 y) (λy=>k1 y.1 y.2.1 y.2.2.1 y.2.2.2) (λ_=>none)
theorem Zo[aB] N:Qb N=Em N:=funext λ_=>funext λ_=>funext λ_=>funext λ_=>funext λ_=>funext λ_=>funext λ_=>funext λ_=>cL aN9 _ _ _ _
theorem aNd[aB](N:Nat)(self:Sg->O)(K:Exit->Sg->O)(x:(List aI)×(List aI)×Bool×Int×Int×Int):Eo N (λv0=>self (zU (x.1,x.2.1,x.2.2.1,x.2.2.2.1,x.2.2.2.2.1,v0))) (λy0=>K (Jp y0).1 (Jp y0).2) (λy0 y1 y2 y3=>K (Jo (y0,y1,y2,y3)).1 (Jo (y0,y1,y2,y3)).2) x.1 x.2.1 x.2.2.1 x.2.2.2.1 x.2.2.2.2.1 x.2.2.2.2.2=exec (iW N) Tryd.f50.ntmps .d Qh (zU x) (cZ Zl aNY self K):=by kernel_rfl
theorem aNr N (hc:aK (iW N)):cF (iW N) Tryd.f50.ntmps (.loop Qh) Jp Jo (aN 2) (aP zU Jf (u7 N N)):=
 dD hc (cX Qh) (jA aN4 aN3 .ret (.exit 2) (λ_=>by kernel_rfl) (λ_=>by kernel_rfl) (λ_=>rfl) (λ_=>rfl) (by kernel_rfl)) (n:=N) (λx K=>dE (u7 N) (λ_ _ _ _=>rfl) (λn K ih x=>by
  refine dK ?_ (aNd N _ K x);simp only[<-ih];rfl) N x K)
def En[aB](_:Nat)(in0:(List aI)->(List aI)->Bool->Int->Int->((List aI)->(List aI)->Bool->Int->Int->O)->O)(in1:(List aI)->(List aI)->Bool->Int->Int->((List aI)->(List aI)->Bool->Int->Int->O)->O)(in2:(List aI)->(List aI)->Bool->Int->Int->Int->(Bool->O)->((List aI)->(List aI)->Bool->Int->O)->O)(self:(List aI)->(List aI)->Bool->Int->O)(k0:Bool->O)(k1:Unit->O)(x0_0 x0_1:(List aI))(x0_2:Bool)(x0_3:Int):O:=
 br (decide (x0_3<(↑x0_0.length:Int))||decide (x0_3<(↑x0_1.length:Int)))
  (in0 x0_0 x0_1 x0_2 x0_3 0
   (λz53 z54 z55 z56 z57=>
    in1 z53 z54 z55 z56 z57
     (λz62 z63 z64 z65 z66=>
      in2 z62 z63 z64 z65 z66 0
       (λz68=>
        k0 z68)
       (λz69 z70 z71 z72=>
        self z69 z70 z71 (aA.wrap (z72+1))))))
  (k1 ())
def Qg:Code:=cE [1,0,1,0,0] CM
def Zk:Nm:=⟨[0,1,4,5],[],[]⟩
def zT(x:(List aI)×(List aI)×Bool×Int):Sg:=⟨[(0,.e (.sl (.sl .u8)) x.1),(1,.e (.sl (.sl .u8)) x.2.1),(4,.e .bo x.2.2.1),(5,.e (.i .i64) x.2.2.2)],[],100⟩
def Je(σ:Sg):(List aI)×(List aI)×Bool×Int:=(aC (.sl (.sl .u8)) 0 0 σ,aC (.sl (.sl .u8)) 1 0 σ,aC .bo 4 0 σ,aC (.i .i64) 5 0 σ)
theorem aN8:∀x,Je (zT x)=x:=λ_=>by kernel_rfl
def Jn(y:Bool):Exit×Sg:=(.ret,⟨[(4,.e .bo y)],[],100⟩)
def aN2(_:Exit)(σ:Sg):Bool:=aC .bo 4 0 σ
def Jm(_:Unit):Exit×Sg:=((.exit 0),⟨[],[],100⟩)
def aN1(_:Exit)(_:Sg):Unit:=()
def aNX:List (Exit×Nm):=[(.ret,⟨[4],[],[]⟩),((.exit 0),⟨[],[],[]⟩)]
def nO[aB](N:Nat):Nat->((List aI)×(List aI)×Bool×Int)->((Bool)->O)->((Unit)->O)->((Unit)->O)->O
 |0,_,_,_,_=>none
 |n+1,x,k0,k1,k2=>En N (Jj N) (Ji N) (Em N) (λv0 v1 v2 v3=>nO N n (v0,v1,v2,v3) k0 k1 k2) (λy0=>k0 y0) (λ(_:Unit)=>k1 ()) x.1 x.2.1 x.2.2.1 x.2.2.2
def Qf[aB] N a0 a1 a2 a3 (k0:Bool->O) (k1:Unit->O):=nO N N (a0,a1,a2,a3) (λy=>k0 y) (λy=>k1 y) (λ_=>none)
def Zj[aB] N a0 a1 a2 a3 (k0:Bool->O) (k1:Unit->O):=aP zT Je (nO N N) (zT (a0,a1,a2,a3)) (λy=>k0 y) (λy=>k1 y) (λ_=>none)
theorem aNn[aB] N:Zj N=Qf N:=funext λ_=>funext λ_=>funext λ_=>funext λ_=>funext λ_=>funext λ_=>cL aN8 _ _ _ _
def Zm[aB](N:Nat):Hint:=(.seq .d (.seq (.block (.seq .d (.seq (.sub aNj _ _ _ Jr (aN 1) (aN 2) (aP CO Jh (Jl N N))) (.seq (.sub aNi _ _ _ Jq (aN 1) (aN 2) (aP CN Jg (Jk N N))) (.seq .d (.block (.sub Zl _ _ _ Jp Jo (aN 2) (aP zU Jf (u7 N N))))))))) .d))
theorem aNk N (hc:aK (iW N)):bH (iW N) Tryd.f50.ntmps (Zm N) Qg:=bS _ _ (aF trivial (aF (aF trivial (aF (aNt N hc) (aF (aNs N hc) (aF trivial (aNr N hc))))) trivial))
theorem aNc[aB](N:Nat)(self:Sg->O)(K:Exit->Sg->O)(x:(List aI)×(List aI)×Bool×Int):En N (Qd N) (Qc N) (Qb N) (λv0 v1 v2 v3=>self (zT (v0,v1,v2,v3))) (λy0=>K (Jn y0).1 (Jn y0).2) (λ(_:Unit)=>K (Jm ()).1 (Jm ()).2) x.1 x.2.1 x.2.2.1 x.2.2.2=exec (iW N) Tryd.f50.ntmps (Zm N) Qg (zT x) (cZ Zk aNX self K):=by kernel_rfl
theorem aNq N (hc:aK (iW N)):cF (iW N) Tryd.f50.ntmps (.loop Qg) Jn Jm (aN 2) (aP zT Je (nO N N)):=
 dD hc (aNk N hc) (jA aN2 aN1 .ret (.exit 0) (λ_=>by kernel_rfl) (λ_=>by kernel_rfl) (λ_=>rfl) (λ_=>rfl) (by kernel_rfl)) (n:=N) (λx K=>dE (nO N) (λ_ _ _ _=>rfl) (λn K ih x=>by
  refine dK ?_ (aNc N _ K x);simp only[Zq N,Zp N,Zo N,<-ih];rfl) N x K)
def Qk[aB](_:Nat)(_in0:(List aI)->(List aI)->Bool->Int->Int->((List aI)->(List aI)->Bool->Int->Int->O)->O)(_in1:(List aI)->(List aI)->Bool->Int->Int->((List aI)->(List aI)->Bool->Int->Int->O)->O)(_in2:(List aI)->(List aI)->Bool->Int->Int->Int->(Bool->O)->((List aI)->(List aI)->Bool->Int->O)->O)(in3:(List aI)->(List aI)->Bool->Int->(Bool->O)->(Unit->O)->O)(a0 b1:(List aI)):O:=
 in3 a0 b1 false 0
  (λz73=>
   some (zS z73))
  (λ(_:Unit)=>
   some (zS true))
def Zu[aB] N a0 b1:=Qk N (Jj N) (Ji N) (Em N) (Qf N) a0 b1
def Zn[aB](N:Nat):Hint:=(.seq .d (.seq (.seq .d (.block (.sub Zk _ _ _ Jn Jm (aN 2) (aP zT Je (nO N N))))) .d))
theorem aNl N (hc:aK (iW N)):bH (iW N) Tryd.f50.ntmps (Zn N) CM:=bS _ _ (aF trivial (aF (aF trivial (aNq N hc)) trivial))
theorem aNg[aB] N a0 b1:Qk N (Qd N) (Qc N) (Qb N) (Zj N) a0 b1=exec (iW N) Tryd.f50.ntmps (Zn N) CM ⟨cA 0 [.e (.sl (.sl .u8)) a0,.e (.sl (.sl .u8)) b1],[],100⟩ (cD (iW N) Tryd.f50 false):=by kernel_rfl
def El(r:aM):Option (Bool):=match r with
 |(x0,[])=>(match ue .bo x0 with|some a0=>some a0|_=>none)
 |_=>none
theorem aN7{r d}(h:El r=some d):r=zS (d):=by
 unfold El at h;split at h
 .split at h
  .rename_i h0;cases h;rw[bG h0];rfl
  .cases h
 .cases h
def CL N a0 b1:=(Zu N a0 b1).bind El
theorem aNm{N}(hc:aK (iW N)){a0 b1 d}(hd:CL N a0 b1=some d):cI Tryd.prog 50 [.e (.sl (.sl .u8)) a0,.e (.sl (.sl .u8)) b1] [] (zS (d)):=
 cJ hc (by kernel_rfl) (by kernel_rfl) (aNl N hc) (by kernel_rfl) aN7 (λhr=>(aNg N a0 b1).symm.trans (by rw[Zq N,Zp N,Zo N,aNn N];exact hr)) hd
def Qe N a0 b1:=(CL N a0 b1).isSome
def Jd N a0 b1:=((CL N a0 b1).getD false)
def Zr(N:Nat):bR:=E2 (.sl (.sl .u8)) (.sl (.sl .u8)) (λx0 x1=>(Qe N x0 x1,zS (Jd N x0 x1)))
theorem aNh N:aX Tryd.prog 50 (Zr N):=aX.e2 (λx0 x1 h=>cS (z:=CL N x0 x1) h (aNm (aNo N)) rfl)
def A2(a0:Int)(a1:(List Int))(a2:Int):aM:=(.aU [.agg [.e (.i .i64) a0,.e (.sl (.i .i64)) a1],.e (.i .i64) a2],[])
def FY(N:Nat):Cx:=⟨Tryd.prog,99999,[(49,aAF N),(18,Lx N),(46,RG N),(45,K6 N),(50,Zr N)],[]⟩
def aCK:Code:=Tryd.f29.body.getD .skip
theorem aSN N:aK (FY N):=cH (by kernel_rfl) (.cons (by kernel_rfl) (aOT N) (.cons (by kernel_rfl) (SU N) (.cons (by kernel_rfl) (aA3 N) (.cons (by kernel_rfl) (RK N) (.cons (by kernel_rfl) (aNh N) .nil))))) .nil
def Rr[aB](N:Nat)(p0:(List aI)):O:=
 ck (Qn N p0)<|
 ck (!!!Ep N p0||Cg N (qB N p0) (qA N p0))<|
 br (!Ep N p0||decide (wA N (qB N p0) (qA N p0)≠(0:Int)))
  (some (A2 0 [] 2))
  (ck (Et N (qB N p0) (qA N p0))<|
  ck (CY N (vD N (qB N p0) (qA N p0)))<|
  ck (Qe N (vF N (vD N (qB N p0) (qA N p0))) p0)<|
  br (!Jd N (vF N (vD N (qB N p0) (qA N p0))) p0)
   (some (A2 0 [] 2))
   (some (A2 (qB N p0) (qA N p0) 0)))
def w29[aB] N p0:=Rr N p0
def aCI[aB](_:Nat):Hint:=.d
theorem aSL N:bH (FY N) Tryd.f29.ntmps (aCI N) aCK:=bS _ _ trivial
theorem aSJ[aB] N p0:Rr N p0=exec (FY N) Tryd.f29.ntmps (aCI N) aCK ⟨cA 0 [.e (.sl (.sl .u8)) p0],[],100⟩ (cD (FY N) Tryd.f29 false):=by kernel_rfl
def LZ(r:aM):Option (Int×(List Int)×Int):=match r with
 |(.aU [.agg [x0,x1],x2],[])=>(match ue (.i .i64) x0,ue (.sl (.i .i64)) x1,ue (.i .i64) x2 with|some a0,some a1,some a2=>some (a0,a1,a2)|_,_,_=>none)
 |_=>none
theorem aSI{r d}(h:LZ r=some d):r=A2 d.1 d.2.1 d.2.2:=by
 unfold LZ at h;split at h
 .split at h
  .rename_i h0 h1 h2;cases h;rw[bG h0,bG h1,bG h2];rfl
  .cases h
 .cases h
def vS N p0:=(w29 N p0).bind LZ
theorem aSM{N}(hc:aK (FY N)){p0 d}(hd:vS N p0=some d):cI Tryd.prog 29 [.e (.sl (.sl .u8)) p0] [] (A2 d.1 d.2.1 d.2.2):=
 cJ hc (by kernel_rfl) (by kernel_rfl) (aSL N) (by kernel_rfl) aSI (aSJ N p0).symm.trans hd
def Rp N p0:=(vS N p0).isSome
def FX N p0:=((vS N p0).getD (0,[],0)).1
def FW N p0:=((vS N p0).getD (0,[],0)).2.1
def FU N p0:=((vS N p0).getD (0,[],0)).2.2
def aCJ(N:Nat):bR:=E1 (.sl (.sl .u8)) (λx0=>(Rp N x0,A2 (FX N x0) (FW N x0) (FU N x0)))
theorem aSK N:aX Tryd.prog 29 (aCJ N):=aX.e1 (λx0 h=>cS (z:=vS N x0) h (aSM (aSN N)) rfl)
def qJ(a0:(List aI)):aM:=(.e (.sl (.sl .u8)) a0,[])
def k7(N:Nat):Cx:=⟨Tryd.prog,99999,[(999999,lue N),(34,Rh N)],[]⟩
def L7:Code:=Tryd.f27.body.getD .skip
theorem aSc N:aK (k7 N):=cH (by kernel_rfl) (.cons (by kernel_rfl) (aY3 N) (.cons (by kernel_rfl) (aBt N) .nil)) .nil
def Lb[aB](N:Nat)(self:Int->aI->O)(k0:(List Int)->Int->Int->(List (aI×Unit))->aI->O)(x18_0:(List Int))(x18_1 x18_2 x18_3:Int)(x18_5:(List (aI×Unit)))(x18_4:Int)(x18_6:aI):O:=
 br (decide (x18_4<x18_3))
  (ck (kN N x18_0 (aA.wrap (aA.wrap ((6:Int)+aA.wrap ((9:Int)*x18_2))+x18_4)) (80:Int))<|
  br (decide ((64:Int)<=fE N x18_0 (aA.wrap (aA.wrap ((6:Int)+aA.wrap ((9:Int)*x18_2))+x18_4)) (80:Int)))
   (ck (b9 (x18_6++[(0:UInt8)]).length (1:Nat))<|
   self (aA.wrap (x18_4+1)) (x18_6++[(0:UInt8)]))
   (ck (b9 (x18_6++[gH (fE N x18_0 (aA.wrap (aA.wrap ((6:Int)+aA.wrap ((9:Int)*x18_2))+x18_4)) (80:Int))]).length (1:Nat))<|
   self (aA.wrap (x18_4+1)) (x18_6++[gH (fE N x18_0 (aA.wrap (aA.wrap ((6:Int)+aA.wrap ((9:Int)*x18_2))+x18_4)) (80:Int))])))
  (k0 x18_0 x18_1 x18_2 x18_5 x18_6)
def Rz:Code:=cE [1,1,1,0,1,0,0,1,0,0,1,1,0,1,0,0] L7
def aCS:Nm:=⟨[0,3,4,5,6,7,8],[],[.mL 6 (.row 5 .u8 [] false)]⟩
def A6(x:(List Int)×Int×Int×Int×Int×(List (aI×Unit))×aI):Sg:=⟨[(0,.e (.sl (.i .i64)) x.1),(3,.own 0),(4,.e (.i .i64) x.2.1),(5,.e (.i .i64) x.2.2.1),(6,.own 1),(7,.e (.i .i64) x.2.2.2.1),(8,.e (.i .i64) x.2.2.2.2.1)],[(0,.bE 42 5 .u8 .un x.2.2.2.2.2.1 none),(1,.row 5 .u8 x.2.2.2.2.2.2 false)],100⟩
def L5(σ:Sg):(List Int)×Int×Int×Int×Int×(List (aI×Unit))×aI:=(aC (.sl (.i .i64)) 0 0 σ,aC (.i .i64) 4 0 σ,aC (.i .i64) 5 0 σ,aC (.i .i64) 7 0 σ,aC (.i .i64) 8 0 σ,N1 .u8 .un 0 σ,c9 .u8 1 σ)
theorem aS2:∀x,L5 (A6 x)=x:=λ_=>by kernel_rfl
def L9(y:(List Int)×Int×Int×(List (aI×Unit))×aI):Exit×Sg:=((.exit 2),⟨[(0,.e (.sl (.i .i64)) y.1),(3,.own 0),(4,.e (.i .i64) y.2.1),(5,.e (.i .i64) y.2.2.1),(6,.own 1)],[(0,.bE 42 5 .u8 .un y.2.2.2.1 none),(1,.row 5 .u8 y.2.2.2.2 false)],100⟩)
def aSZ(_:Exit)(σ:Sg):(List Int)×Int×Int×(List (aI×Unit))×aI:=(aC (.sl (.i .i64)) 0 0 σ,aC (.i .i64) 4 0 σ,aC (.i .i64) 5 0 σ,N1 .u8 .un 0 σ,c9 .u8 1 σ)
def aSX:List (Exit×Nm):=[((.exit 2),⟨[0,3,4,5,6],[],[]⟩)]
def vW[aB](N:Nat):Nat->((List Int)×Int×Int×Int×Int×(List (aI×Unit))×aI)->(((List Int)×Int×Int×(List (aI×Unit))×aI)->O)->((Unit)->O)->((Unit)->O)->O
 |0,_,_,_,_=>none
 |n+1,x,k0,k1,k2=>Lb N (λv0 v1=>vW N n (x.1,x.2.1,x.2.2.1,x.2.2.2.1,v0,x.2.2.2.2.2.1,v1) k0 k1 k2) (λy0 y1 y2 y3 y4=>k0 (y0,y1,y2,y3,y4)) x.1 x.2.1 x.2.2.1 x.2.2.2.1 x.2.2.2.2.2.1 x.2.2.2.2.1 x.2.2.2.2.2.2
def L6[aB] N a0 a1 a2 a3 a4 a5 a6 (k0:(List Int)->Int->Int->(List (aI×Unit))->aI->O):=vW N N (a0,a1,a2,a3,a4,a5,a6) (λy=>k0 y.1 y.2.1 y.2.2.1 y.2.2.2.1 y.2.2.2.2) (λ_=>none) (λ_=>none)
def Ru[aB] N a0 a1 a2 a3 a4 a5 a6 (k0:(List Int)->Int->Int->(List (aI×Unit))->aI->O):=aP A6 L5 (vW N N) (A6 (a0,a1,a2,a3,a4,a5,a6)) (λy=>k0 y.1 y.2.1 y.2.2.1 y.2.2.2.1 y.2.2.2.2) (λ_=>none) (λ_=>none)
theorem aCW[aB] N:Ru N=L6 N:=funext λ_=>funext λ_=>funext λ_=>funext λ_=>funext λ_=>funext λ_=>funext λ_=>funext λ_=>cL aS2 _ _ _ _
def aCU[aB](_:Nat):Hint:=(.seq .d (.seq (.block (.seq .d (.seq .d (.fT [3,4] [] [])))) .d))
theorem aS8 N:bH (k7 N) Tryd.f27.ntmps (aCU N) Rz:=bS _ _ (aF trivial (aF (aF trivial (aF trivial trivial)) trivial))
theorem aS4[aB](N:Nat)(self:Sg->O)(K:Exit->Sg->O)(x:(List Int)×Int×Int×Int×Int×(List (aI×Unit))×aI):Lb N (λv0 v1=>self (A6 (x.1,x.2.1,x.2.2.1,x.2.2.2.1,v0,x.2.2.2.2.2.1,v1))) (λy0 y1 y2 y3 y4=>K (L9 (y0,y1,y2,y3,y4)).1 (L9 (y0,y1,y2,y3,y4)).2) x.1 x.2.1 x.2.2.1 x.2.2.2.1 x.2.2.2.2.2.1 x.2.2.2.2.1 x.2.2.2.2.2.2=exec (k7 N) Tryd.f27.ntmps (aCU N) Rz (A6 x) (cZ aCS aSX self K):=by kernel_rfl
theorem aSf N (hc:aK (k7 N)):cF (k7 N) Tryd.f27.ntmps (.loop Rz) L9 (aN 1) (aN 2) (aP A6 L5 (vW N N)):=
 dD hc (aS8 N) (eC aSZ (.exit 2) (λ_=>by kernel_rfl) (λ_=>rfl) (by kernel_rfl)) (n:=N) (λx K=>dE (vW N) (λ_ _ _ _=>rfl) (λn K ih x=>by
  refine dK ?_ (aS4 N _ K x);simp only[<-ih];rfl) N x K)
def La[aB](N:Nat)(in0:(List Int)->Int->Int->Int->Int->(List (aI×Unit))->aI->((List Int)->Int->Int->(List (aI×Unit))->aI->O)->O)(self:(List Int)->Int->Int->(List (aI×Unit))->O)(k0:(List Int)->Int->(List (aI×Unit))->O)(x0_0:(List Int))(x0_1 x0_2:Int)(x0_3:(List (aI×Unit))):O:=
 br (decide (x0_2<x0_1))
  (ck (kN N x0_0 (aA.wrap ((1:Int)+x0_2)) (10:Int))<|
  in0 x0_0 x0_1 x0_2 (fE N x0_0 (aA.wrap ((1:Int)+x0_2)) (10:Int)) 0 x0_3 []
   (λz19 z20 z21 z22 z23=>
    ck (b9 (z22.length+[(z23,())].length) (24:Nat))<|
    self z19 z20 (aA.wrap (z21+1)) (z22++[(z23,())])))
  (k0 x0_0 x0_1 x0_3)
def Ry:Code:=cE [1,1,1,0,1,0,0] L7
def aCR:Nm:=⟨[0,3,4,5],[],[.mL 3 (.bE 42 5 .u8 .un [] none)]⟩
def A5(x:(List Int)×Int×Int×(List (aI×Unit))):Sg:=⟨[(0,.e (.sl (.i .i64)) x.1),(3,.own 0),(4,.e (.i .i64) x.2.1),(5,.e (.i .i64) x.2.2.1)],[(0,.bE 42 5 .u8 .un x.2.2.2 none)],100⟩
def L4(σ:Sg):(List Int)×Int×Int×(List (aI×Unit)):=(aC (.sl (.i .i64)) 0 0 σ,aC (.i .i64) 4 0 σ,aC (.i .i64) 5 0 σ,N1 .u8 .un 0 σ)
theorem aS1:∀x,L4 (A5 x)=x:=λ_=>by kernel_rfl
def L8(y:(List Int)×Int×(List (aI×Unit))):Exit×Sg:=((.exit 0),⟨[(0,.e (.sl (.i .i64)) y.1),(3,.own 0),(4,.e (.i .i64) y.2.1)],[(0,.bE 42 5 .u8 .un y.2.2 none)],100⟩)
def aSY(_:Exit)(σ:Sg):(List Int)×Int×(List (aI×Unit)):=(aC (.sl (.i .i64)) 0 0 σ,aC (.i .i64) 4 0 σ,N1 .u8 .un 0 σ)
def aSW:List (Exit×Nm):=[((.exit 0),⟨[0,3,4],[],[]⟩)]
def vV[aB](N:Nat):Nat->((List Int)×Int×Int×(List (aI×Unit)))->(((List Int)×Int×(List (aI×Unit)))->O)->((Unit)->O)->((Unit)->O)->O
 |0,_,_,_,_=>none
 |n+1,x,k0,k1,k2=>La N (L6 N) (λv0 v1 v2 v3=>vV N n (v0,v1,v2,v3) k0 k1 k2) (λy0 y1 y2=>k0 (y0,y1,y2)) x.1 x.2.1 x.2.2.1 x.2.2.2
def Rw[aB] N a0 a1 a2 a3 (k0:(List Int)->Int->(List (aI×Unit))->O):=vV N N (a0,a1,a2,a3) (λy=>k0 y.1 y.2.1 y.2.2) (λ_=>none) (λ_=>none)
def aCQ[aB] N a0 a1 a2 a3 (k0:(List Int)->Int->(List (aI×Unit))->O):=aP A5 L4 (vV N N) (A5 (a0,a1,a2,a3)) (λy=>k0 y.1 y.2.1 y.2.2) (λ_=>none) (λ_=>none)
theorem aSb[aB] N:aCQ N=Rw N:=funext λ_=>funext λ_=>funext λ_=>funext λ_=>funext λ_=>cL aS1 _ _ _ _
def aCT[aB](N:Nat):Hint:=(.seq .d (.seq (.block (.seq .d (.seq .d (.seq (.seq .d (.block (.sub aCS _ _ _ L9 (aN 1) (aN 2) (aP A6 L5 (vW N N))))) .d)))) .d))
theorem aS7 N (hc:aK (k7 N)):bH (k7 N) Tryd.f27.ntmps (aCT N) Ry:=bS _ _ (aF trivial (aF (aF trivial (aF trivial (aF (aF trivial (aSf N hc)) trivial))) trivial))
theorem aS3[aB](N:Nat)(self:Sg->O)(K:Exit->Sg->O)(x:(List Int)×Int×Int×(List (aI×Unit))):La N (Ru N) (λv0 v1 v2 v3=>self (A5 (v0,v1,v2,v3))) (λy0 y1 y2=>K (L8 (y0,y1,y2)).1 (L8 (y0,y1,y2)).2) x.1 x.2.1 x.2.2.1 x.2.2.2=exec (k7 N) Tryd.f27.ntmps (aCT N) Ry (A5 x) (cZ aCR aSW self K):=by kernel_rfl
theorem aSe N (hc:aK (k7 N)):cF (k7 N) Tryd.f27.ntmps (.loop Ry) L8 (aN 1) (aN 2) (aP A5 L4 (vV N N)):=
 dD hc (aS7 N hc) (eC aSY (.exit 0) (λ_=>by kernel_rfl) (λ_=>rfl) (by kernel_rfl)) (n:=N) (λx K=>dE (vV N) (λ_ _ _ _=>rfl) (λn K ih x=>by
  refine dK ?_ (aS3 N _ K x);simp only[aCW N,<-ih];rfl) N x K)
def SA[aB](N:Nat)(_in0:(List Int)->Int->Int->Int->Int->(List (aI×Unit))->aI->((List Int)->Int->Int->(List (aI×Unit))->aI->O)->O)(in1:(List Int)->Int->Int->(List (aI×Unit))->((List Int)->Int->(List (aI×Unit))->O)->O)(l0:(List Int)):O:=
 ck (kN N l0 (0:Int) (6:Int))<|
 in1 l0 (fE N l0 (0:Int) (6:Int)) 0 []
  (λz24 z25 z26=>
   ck (kN N z24 (51:Int) (12:Int))<|
   br (decide (fE N z24 (51:Int) (12:Int)=(0:Int))&&decide (0<z25))
    (gx z26 (kE (1004:Nat) z25) λy27=>
    ck (decide ((0:Int)<=aA.wrap (z25-1)/\aA.wrap (z25-1)<(↑z26.length:Int)))<|
    ck (decide ((aA.wrap (z25-1)).toNat=(kE (1004:Nat) z25).toNat))<|
    gn z26 ((aA.wrap (z25-1)).toNat) λ_=>
    ck (kN N z24 (52:Int) (192:Int))<|
    ck (b9 (y27.1++[gH (aA.wrap ((64:Int)+fE N z24 (52:Int) (192:Int)))]).length (1:Nat))<|
    ck (decide ((0:Int)<=aA.wrap (z25-1)/\aA.wrap (z25-1)<(↑z26.length:Int)))<|
    ck (decide ((aA.wrap (z25-1)).toNat=(kE (1004:Nat) z25).toNat))<|
    gn z26 ((aA.wrap (z25-1)).toNat) λ_=>
    gx z26 (kE (1004:Nat) z25) λy30=>
    some (qJ (List.map (λx=>x.fst) (z26.set (kE (1004:Nat) z25).toNat (y27.1++[gH (aA.wrap ((64:Int)+fE N z24 (52:Int) (192:Int)))],y30.2)))))
    (some (qJ (List.map (λx=>x.fst) z26))))
def w27[aB] N l0:=SA N (L6 N) (Rw N) l0
def aCV[aB](N:Nat):Hint:=(.seq .d (.seq .d (.seq .d (.seq (.seq .d (.block (.sub aCR _ _ _ L8 (aN 1) (aN 2) (aP A5 L4 (vV N N))))) (.seq (.seq .d (.cond (.fT [] [.aF0 3 1004] [[],[],[],[],[],[],[],[],[],[],[],[],[],[268,156],[],[0]]) .d)) (.seq (.fT [] [.bk 3] []) .d))))))
theorem aS9 N (hc:aK (k7 N)):bH (k7 N) Tryd.f27.ntmps (aCV N) L7:=bS _ _ (aF trivial (aF trivial (aF trivial (aF (aF trivial (aSe N hc)) (aF (aF trivial (aF trivial trivial)) (aF trivial trivial))))))
theorem aS5[aB] N l0:SA N (Ru N) (aCQ N) l0=exec (k7 N) Tryd.f27.ntmps (aCV N) L7 ⟨cA 0 [.e (.sl (.i .i64)) l0],[],100⟩ (cD (k7 N) Tryd.f27 false):=by kernel_rfl
def A4(r:aM):Option ((List aI)):=match r with
 |(x0,[])=>(match ue (.sl (.sl .u8)) x0 with|some a0=>some a0|_=>none)
 |_=>none
theorem aS0{r d}(h:A4 r=some d):r=qJ (d):=by
 unfold A4 at h;split at h
 .split at h
  .rename_i h0;cases h;rw[bG h0];rfl
  .cases h
 .cases h
def C8 N l0:=(w27 N l0).bind A4
theorem aSa{N}(hc:aK (k7 N)){l0 d}(hd:C8 N l0=some d):cI Tryd.prog 27 [.e (.sl (.i .i64)) l0] [] (qJ (d)):=
 cJ hc (by kernel_rfl) (by kernel_rfl) (aS9 N hc) (by kernel_rfl) aS0 (λhr=>(aS5 N l0).symm.trans (by rw[aCW N,aSb N];exact hr)) hd
def Rv N l0:=(C8 N l0).isSome
def L3 N l0:=((C8 N l0).getD [])
def aCX(N:Nat):bR:=E1 (.sl (.i .i64)) (λx0=>(Rv N x0,qJ (L3 N x0)))
theorem aS6 N:aX Tryd.prog 27 (aCX N):=aX.e1 (λx0 h=>cS (z:=C8 N x0) h (aSa (aSc N)) rfl)
def sQ(a0:(List aI)):aM:=(.e (.sl (.sl .u8)) a0,[])
def qK(N:Nat):Cx:=⟨Tryd.prog,99999,[(25,F0 N),(31,FO N)],[]⟩
def SC:Code:=Tryd.f26.body.getD .skip
theorem aSq N:aK (qK N):=cH (by kernel_rfl) (.cons (by kernel_rfl) (Lj N) (.cons (by kernel_rfl) (LW N) .nil)) .nil
def Lg[aB](_:Nat)(self:Int->(List aI)->O)(k0:Int->Int->Int->(List aI)->O)(x0_0:(List aI))(x0_1 x0_2:Int)(x0_3 x0_4:Int)(x0_5:(List aI)):O:=
 br (decide (x0_4<(↑x0_0.length:Int)))
  (gx x0_0 x0_4 λy4=>
  ck (b9 ([]++y4).length (1:Nat))<|
  ck (b9 (x0_5++[[]++y4]).length (24:Nat))<|
  self (aA.wrap (x0_4+1)) (x0_5++[[]++y4]))
  (k0 x0_1 x0_2 x0_3 x0_5)
def SB:Code:=cE [1,1,0,1,0,0] SC
def aC4:Nm:=⟨[0,1,2,3,9,10],[],[.mL 9 (.row 42 (.sl .u8) [] false)]⟩
def A8(x:(List aI)×Int×Int×Int×Int×(List aI)):Sg:=⟨[(0,.e (.sl (.sl .u8)) x.1),(1,.e (.i .i64) x.2.1),(2,.e (.i .i64) x.2.2.1),(3,.e (.i .i64) x.2.2.2.1),(9,.own 0),(10,.e (.i .i64) x.2.2.2.2.1)],[(0,.row 42 (.sl .u8) x.2.2.2.2.2 false)],100⟩
def Ld(σ:Sg):(List aI)×Int×Int×Int×Int×(List aI):=(aC (.sl (.sl .u8)) 0 0 σ,aC (.i .i64) 1 0 σ,aC (.i .i64) 2 0 σ,aC (.i .i64) 3 0 σ,aC (.i .i64) 10 0 σ,c9 (.sl .u8) 0 σ)
theorem aSj:∀x,Ld (A8 x)=x:=λ_=>by kernel_rfl
def Le(y:Int×Int×Int×(List aI)):Exit×Sg:=((.exit 0),⟨[(1,.e (.i .i64) y.1),(2,.e (.i .i64) y.2.1),(3,.e (.i .i64) y.2.2.1),(9,.own 0)],[(0,.row 42 (.sl .u8) y.2.2.2 false)],100⟩)
def aSh(_:Exit)(σ:Sg):Int×Int×Int×(List aI):=(aC (.i .i64) 1 0 σ,aC (.i .i64) 2 0 σ,aC (.i .i64) 3 0 σ,c9 (.sl .u8) 0 σ)
def aSg:List (Exit×Nm):=[((.exit 0),⟨[1,2,3,9],[],[]⟩)]
def A7[aB](N:Nat):Nat->((List aI)×Int×Int×Int×Int×(List aI))->((Int×Int×Int×(List aI))->O)->((Unit)->O)->((Unit)->O)->O
 |0,_,_,_,_=>none
 |n+1,x,k0,k1,k2=>Lg N (λv0 v1=>A7 N n (x.1,x.2.1,x.2.2.1,x.2.2.2.1,v0,v1) k0 k1 k2) (λy0 y1 y2 y3=>k0 (y0,y1,y2,y3)) x.1 x.2.1 x.2.2.1 x.2.2.2.1 x.2.2.2.2.1 x.2.2.2.2.2
def aC3[aB] N a0 a1 a2 a3 a4 a5 (k0:Int->Int->Int->(List aI)->O):=A7 N N (a0,a1,a2,a3,a4,a5) (λy=>k0 y.1 y.2.1 y.2.2.1 y.2.2.2) (λ_=>none) (λ_=>none)
def aC2[aB] N a0 a1 a2 a3 a4 a5 (k0:Int->Int->Int->(List aI)->O):=aP A8 Ld (A7 N N) (A8 (a0,a1,a2,a3,a4,a5)) (λy=>k0 y.1 y.2.1 y.2.2.1 y.2.2.2) (λ_=>none) (λ_=>none)
theorem aSp[aB] N:aC2 N=aC3 N:=funext λ_=>funext λ_=>funext λ_=>funext λ_=>funext λ_=>funext λ_=>funext λ_=>cL aSj _ _ _ _
def aC5[aB](_:Nat):Hint:=(.seq .d (.seq (.block (.fT [7,8] [] [])) .d))
theorem aSm N:bH (qK N) Tryd.f26.ntmps (aC5 N) SB:=bS _ _ (aF trivial (aF trivial trivial))
theorem aSk[aB](N:Nat)(self:Sg->O)(K:Exit->Sg->O)(x:(List aI)×Int×Int×Int×Int×(List aI)):Lg N (λv0 v1=>self (A8 (x.1,x.2.1,x.2.2.1,x.2.2.2.1,v0,v1))) (λy0 y1 y2 y3=>K (Le (y0,y1,y2,y3)).1 (Le (y0,y1,y2,y3)).2) x.1 x.2.1 x.2.2.1 x.2.2.2.1 x.2.2.2.2.1 x.2.2.2.2.2=exec (qK N) Tryd.f26.ntmps (aC5 N) SB (A8 x) (cZ aC4 aSg self K):=by kernel_rfl
theorem aSs N (hc:aK (qK N)):cF (qK N) Tryd.f26.ntmps (.loop SB) Le (aN 1) (aN 2) (aP A8 Ld (A7 N N)):=
 dD hc (aSm N) (eC aSh (.exit 0) (λ_=>by kernel_rfl) (λ_=>rfl) (by kernel_rfl)) (n:=N) (λx K=>dE (A7 N) (λ_ _ _ _=>rfl) (λn K ih x=>by
  refine dK ?_ (aSk N _ K x);simp only[<-ih];rfl) N x K)
def Lf[aB](N:Nat)(in0:(List aI)->Int->Int->Int->Int->(List aI)->(Int->Int->Int->(List aI)->O)->O)(p0:(List aI))(at1 how2 by3:Int):O:=
 in0 p0 at1 how2 by3 0 []
  (λz5 z6 z7 z8=>
   br (decide ((↑z8.length:Int)=(0:Int)))
    (some (sQ z8))
    (ck (j8 N z5 (↑z8.length:Int))<|
    ck true <|
    ck (decide ((0:Int)<=bK N z5 (↑z8.length:Int)/\bK N z5 (↑z8.length:Int)<(↑z8.length:Int)))<|
    gn z8 ((bK N z5 (↑z8.length:Int)).toNat) λy9=>
    ck (j8 N (aA.wrap (z5.tdiv (16:Int))) (max (↑y9.length:Int) (1:Int)))<|
    ck (j8 N z6 (6:Int))<|
    br (decide (bK N z6 (6:Int)=(0:Int)))
     (ck (dX z8.length none (some (bK N z5 (↑z8.length:Int))))<|
     ck (dX z8.length (some (aA.wrap (bK N z5 (↑z8.length:Int)+(1:Int)))) none)<|
     ck (decide (jX z8.length (some (bK N z5 (↑z8.length:Int)))-(0:Nat)<=z8.length))<|
     ck (decide (jV (some (aA.wrap (bK N z5 (↑z8.length:Int)+(1:Int))))+(jX z8.length none-jV (some (aA.wrap (bK N z5 (↑z8.length:Int)+(1:Int)))))<=z8.length))<|
     ck (b9 (jX z8.length (some (bK N z5 (↑z8.length:Int)))-(0:Nat)+(tT (jX z8.length none-jV (some (aA.wrap (bK N z5 (↑z8.length:Int)+(1:Int))))) (List.drop (jV (some (aA.wrap (bK N z5 (↑z8.length:Int)+(1:Int))))) z8)).length) (24:Nat))<|
     some (sQ (tT (jX z8.length (some (bK N z5 (↑z8.length:Int)))-(0:Nat)) z8++tT (jX z8.length none-jV (some (aA.wrap (bK N z5 (↑z8.length:Int)+(1:Int))))) (List.drop (jV (some (aA.wrap (bK N z5 (↑z8.length:Int)+(1:Int))))) z8))))
     (br (decide (bK N z6 (6:Int)=(1:Int)))
      (ck (decide ((0:Int)<=bK N z5 (↑z8.length:Int)/\bK N z5 (↑z8.length:Int)<(↑z8.length:Int)))<|
      gn z8 ((bK N z5 (↑z8.length:Int)).toNat) λy10=>
      ck (b9 (z8++[y10]).length (24:Nat))<|
      some (sQ (z8++[y10])))
      (br (decide (bK N z6 (6:Int)=(2:Int)))
       (ck (decide ((0:Int)<=bK N z5 (↑z8.length:Int)/\bK N z5 (↑z8.length:Int)<(↑z8.length:Int)))<|
       gn z8 ((bK N z5 (↑z8.length:Int)).toNat) λy11=>
       ck (decide ((0:Int)<=bK N z5 (↑z8.length:Int)/\bK N z5 (↑z8.length:Int)<(↑z8.length:Int)))<|
       gn z8 ((bK N z5 (↑z8.length:Int)).toNat) λy12=>
       ck (dX y11.length none (some (min (bK N (aA.wrap (z5.tdiv (16:Int))) (max (↑y9.length:Int) (1:Int))) (↑y12.length:Int))))<|
       ck (decide ((0:Int)<=bK N z5 (↑z8.length:Int)/\bK N z5 (↑z8.length:Int)<(↑z8.length:Int)))<|
       gn z8 ((bK N z5 (↑z8.length:Int)).toNat) λ_=>
       some (sQ (z8.set (bK N z5 (↑z8.length:Int)).toNat (bW y11 none (some (min (bK N (aA.wrap (z5.tdiv (16:Int))) (max (↑y9.length:Int) (1:Int))) (↑y12.length:Int)))))))
       (br (decide (bK N z6 (6:Int)=(3:Int)))
        (ck (decide ((0:Int)<=bK N z5 (↑z8.length:Int)/\bK N z5 (↑z8.length:Int)<(↑z8.length:Int)))<|
        gn z8 ((bK N z5 (↑z8.length:Int)).toNat) λy14=>
        ck (b9 ([(0:UInt8)]++y14).length (1:Nat))<|
        ck (decide ((0:Int)<=bK N z5 (↑z8.length:Int)/\bK N z5 (↑z8.length:Int)<(↑z8.length:Int)))<|
        gn z8 ((bK N z5 (↑z8.length:Int)).toNat) λ_=>
        some (sQ (z8.set (bK N z5 (↑z8.length:Int)).toNat ([(0:UInt8)]++y14))))
        (ck (decide ((0:Int)<=bK N z5 (↑z8.length:Int)/\bK N z5 (↑z8.length:Int)<(↑z8.length:Int)))<|
        gn z8 ((bK N z5 (↑z8.length:Int)).toNat) λy16=>
        br (decide (bK N (aA.wrap (z5.tdiv (16:Int))) (max (↑y9.length:Int) (1:Int))<(↑y16.length:Int)))
         (ck (decide ((0:Int)<=bK N z5 (↑z8.length:Int)/\bK N z5 (↑z8.length:Int)<(↑z8.length:Int)))<|
         gn z8 ((bK N z5 (↑z8.length:Int)).toNat) λy17=>
         ck (j8 N z7 (16:Int))<|
         gx aF6 (bK N z7 (16:Int)) λy18=>
         ck (qI N y18)<|
         gx y17 (bK N (aA.wrap (z5.tdiv (16:Int))) (max (↑y9.length:Int) (1:Int))) λ_=>
         none)
         (some (sQ z8))))))))
def w26[aB] N p0 at1 how2 by3:=Lf N (aC3 N) p0 at1 how2 by3
def aC6[aB](N:Nat):Hint:=(.seq .d (.seq .d (.seq (.seq .d (.block (.sub aC4 _ _ _ Le (aN 1) (aN 2) (aP A8 Ld (A7 N N))))) (.seq .d (.seq .d (.seq .d (.seq (.seq .d (.block (.seq .d (.cond (.fT [] [] [[],[],[],[],[],[],[],[332,0],[]]) (.seq .d (.cond .d (.seq .d (.cond (.fT [] [] [[],[],[],[],[],[],[],[],[],[],[],[],[],[],[],[0]]) .d)))))))) .d)))))))
theorem aSn N (hc:aK (qK N)):bH (qK N) Tryd.f26.ntmps (aC6 N) SC:=bS _ _ (aF trivial (aF trivial (aF (aF trivial (aSs N hc)) (aF trivial (aF trivial (aF trivial (aF (aF trivial (aF trivial (aF trivial (aF trivial (aF trivial (aF trivial (aF trivial trivial))))))) trivial)))))))
theorem aSl[aB] N p0 at1 how2 by3:Lf N (aC2 N) p0 at1 how2 by3=exec (qK N) Tryd.f26.ntmps (aC6 N) SC ⟨cA 0 [.e (.sl (.sl .u8)) p0,.e (.i .i64) at1,.e (.i .i64) how2,.e (.i .i64) by3],[],100⟩ (cD (qK N) Tryd.f26 false):=by kernel_rfl
def Ca(r:aM):Option ((List aI)):=match r with
 |(x0,[])=>(match ue (.sl (.sl .u8)) x0 with|some a0=>some a0|_=>none)
 |_=>none
theorem aSi{r d}(h:Ca r=some d):r=sQ (d):=by
 unfold Ca at h;split at h
 .split at h
  .rename_i h0;cases h;rw[bG h0];rfl
  .cases h
 .cases h
def C9 N p0 at1 how2 by3:=(w26 N p0 at1 how2 by3).bind Ca
theorem aSo{N}(hc:aK (qK N)){p0 at1 how2 by3 d}(hd:C9 N p0 at1 how2 by3=some d):cI Tryd.prog 26 [.e (.sl (.sl .u8)) p0,.e (.i .i64) at1,.e (.i .i64) how2,.e (.i .i64) by3] [] (sQ (d)):=
 cJ hc (by kernel_rfl) (by kernel_rfl) (aSn N hc) (by kernel_rfl) aSi (λhr=>(aSl N p0 at1 how2 by3).symm.trans (by rw[aSp N];exact hr)) hd
def vX N p0 at1 how2 by3:=(C9 N p0 at1 how2 by3).isSome
def Lc N p0 at1 how2 by3:=((C9 N p0 at1 how2 by3).getD [])
def Cq(a0:(List aI)):aM:=(.e (.sl (.sl .u8)) a0,[])
def aVv(N:Nat):List (Nat×bR):=[(25,F0 N),(31,FO N)]
def lR(N:Nat):Cx:=⟨Tryd.prog,99999,aVv N,[]⟩
def Mb:Code:=Tryd.f26.body.getD .skip
theorem aVr N:aK (lR N):=cH (by kernel_rfl) (.cons (by kernel_rfl) (Lj N) (.cons (by kernel_rfl) (LW N) .nil)) .nil
def Cs[aB](_:Nat)(self:Int->(List aI)->O)(k0:Int->Int->Int->(List aI)->O)(x0_0:(List aI))(x0_1 x0_2:Int)(x0_3 x0_4:Int)(x0_5:(List aI)):O:=
 br (decide (x0_4<(↑x0_0.length:Int)))
  (gx x0_0 x0_4 λy4=>
  ck (b9 ([]++y4).length (1:Nat))<|
  ck (b9 (x0_5.length+[[]++y4].length) (24:Nat))<|
  self (aA.wrap (x0_4+(1:Int))) (x0_5++[[]++y4]))
  (k0 x0_1 x0_2 x0_3 x0_5)
def Cr:Code:=cE [1,1,0,1,0,0] Mb
def Fj:Nm:=⟨[0,1,2,3,9,10],[],[.mL 9 (.nest 42 5 .u8 [])]⟩
def s8(x:(List aI)×Int×Int×Int×Int×(List aI)):Sg:=⟨[(0,.e (.sl (.sl .u8)) x.1),(1,.e (.i .i64) x.2.1),(2,.e (.i .i64) x.2.2.1),(3,.e (.i .i64) x.2.2.2.1),(9,.own 0),(10,.e (.i .i64) x.2.2.2.2.1)],[(0,.nest 42 5 .u8 x.2.2.2.2.2)],100⟩
def Ma(σ:Sg):(List aI)×Int×Int×Int×Int×(List aI):=(aC (.sl (.sl .u8)) 0 0 σ,aC (.i .i64) 1 0 σ,aC (.i .i64) 2 0 σ,aC (.i .i64) 3 0 σ,aC (.i .i64) 10 0 σ,n4 .u8 0 σ)
theorem aVi:∀x,Ma (s8 x)=x:=λ_=>by kernel_rfl
def mE(y:Int×Int×Int×(List aI)):Exit×Sg:=((.exit 0),⟨[(1,.e (.i .i64) y.1),(2,.e (.i .i64) y.2.1),(3,.e (.i .i64) y.2.2.1),(9,.own 0)],[(0,.nest 42 5 .u8 y.2.2.2)],100⟩)
def aVg(_:Exit)(σ:Sg):Int×Int×Int×(List aI):=(aC (.i .i64) 1 0 σ,aC (.i .i64) 2 0 σ,aC (.i .i64) 3 0 σ,n4 .u8 0 σ)
def M9:List (Exit×Nm):=[((.exit 0),⟨[1,2,3,9],[],[]⟩)]
theorem aVl:xM aVg (λ_ _=>()) (λ_ _=>()) mE (aN 1) (aN 2) (gD (.exit 0)) (gD (.goto 1)) (gD (.goto 2)):=⟨λ_=>by kernel_rfl,λ_=>by kernel_rfl,λ_=>by kernel_rfl,λ_=>by kernel_rfl,λ_=>by kernel_rfl,λ_=>by kernel_rfl,tF (by kernel_rfl),tF (by kernel_rfl),tF (by kernel_rfl)⟩
def s7[aB](N:Nat):Nat->((List aI)×Int×Int×Int×Int×(List aI))->((Int×Int×Int×(List aI))->O)->((Unit)->O)->((Unit)->O)->O
 |0,_,_,_,_=>none
 |n+1,x,k0,k1,k2=>Cs N (λv0 v1=>s7 N n (x.1,x.2.1,x.2.2.1,x.2.2.2.1,v0,v1) k0 k1 k2) (λy0 y1 y2 y3=>k0 (y0,y1,y2,y3)) x.1 x.2.1 x.2.2.1 x.2.2.2.1 x.2.2.2.2.1 x.2.2.2.2.2
def aDm[aB] N a0 a1 a2 a3 a4 a5 (k0:Int->Int->Int->(List aI)->O):=s7 N N (a0,a1,a2,a3,a4,a5) (λy=>k0 y.1 y.2.1 y.2.2.1 y.2.2.2) (λ_=>none) (λ_=>none)
def aDl[aB] N a0 a1 a2 a3 a4 a5 (k0:Int->Int->Int->(List aI)->O):=aP s8 Ma (s7 N N) (s8 (a0,a1,a2,a3,a4,a5)) (λy=>k0 y.1 y.2.1 y.2.2.1 y.2.2.2) (λ_=>none) (λ_=>none)
theorem aVp[aB] N:aDl N=aDm N:=funext λ_=>funext λ_=>funext λ_=>funext λ_=>funext λ_=>funext λ_=>funext λ_=>cL aVi _ _ _ _
def Fk[aB](_:Nat):Hint:=(.seq .d (.seq (.block (.fT [1,6,7,8] [] [])) .d))
theorem aVm N:bH (lR N) Tryd.f26.ntmps (Fk N) Cr:=bS _ _ (aF trivial (aF trivial trivial))
theorem aVj[aB](N:Nat)(self:Sg->O)(K:Exit->Sg->O)(x:(List aI)×Int×Int×Int×Int×(List aI)):Cs N (λv0 v1=>self (s8 (x.1,x.2.1,x.2.2.1,x.2.2.2.1,v0,v1))) (λy0 y1 y2 y3=>K (mE (y0,y1,y2,y3)).1 (mE (y0,y1,y2,y3)).2) x.1 x.2.1 x.2.2.1 x.2.2.2.1 x.2.2.2.2.1 x.2.2.2.2.2=exec (lR N) Tryd.f26.ntmps (Fk N) Cr (s8 x) (cZ Fj M9 self K):=by kernel_rfl
theorem aVu N (hc:aK (lR N)):cF (lR N) Tryd.f26.ntmps (.loop Cr) mE (aN 1) (aN 2) (aP s8 Ma (s7 N N)):=
 dD hc (aVm N) aVl (n:=N) (λx K=>dE (s7 N) (λ_ _ _ _=>rfl) (λn K ih x=>by
  have h:Cs N (λv0 v1=>s7 N n (x.1,x.2.1,x.2.2.1,x.2.2.2.1,v0,v1) (λy=>K (mE y).1 (mE y).2) (λy=>K ((aN 1) y).1 ((aN 1) y).2) (λy=>K ((aN 2) y).1 ((aN 2) y).2)) (λy0 y1 y2 y3=>K (mE (y0,y1,y2,y3)).1 (mE (y0,y1,y2,y3)).2) x.1 x.2.1 x.2.2.1 x.2.2.2.1 x.2.2.2.2.1 x.2.2.2.2.2=Cs N (λv0 v1=>n5 (lR N) Tryd.f26.ntmps (Fk N) Cr Fj M9 n (s8 (x.1,x.2.1,x.2.2.1,x.2.2.2.1,v0,v1)) K) (λy0 y1 y2 y3=>K (mE (y0,y1,y2,y3)).1 (mE (y0,y1,y2,y3)).2) x.1 x.2.1 x.2.2.1 x.2.2.2.1 x.2.2.2.2.1 x.2.2.2.2.2:=by rw[ show(λv0 v1=>s7 N n (x.1,x.2.1,x.2.2.1,x.2.2.2.1,v0,v1) (λy=>K (mE y).1 (mE y).2) (λy=>K ((aN 1) y).1 ((aN 1) y).2) (λy=>K ((aN 2) y).1 ((aN 2) y).2))=(λv0 v1=>n5 (lR N) Tryd.f26.ntmps (Fk N) Cr Fj M9 n (s8 (x.1,x.2.1,x.2.2.1,x.2.2.2.1,v0,v1)) K)from funext λ_=>funext λ_=>ih _]
  exact h.trans (aVj N (λσ=>n5 (lR N) Tryd.f26.ntmps (Fk N) Cr Fj M9 n σ K) K x)) N x K)
def Mc[aB](N:Nat)(in0:(List aI)->Int->Int->Int->Int->(List aI)->(Int->Int->Int->(List aI)->O)->O)(p0:(List aI))(at1 how2 by3:Int):O:=
 in0 p0 at1 how2 by3 ((0:Int)) []
  (λz5 z6 z7 z8=>
   br (decide ((↑z8.length:Int)=(0:Int)))
    (some (Cq z8))
    (ck (j8 N z5 (↑z8.length:Int))<|
    ck true <|
    ck (decide ((0:Int)<=bK N z5 (↑z8.length:Int)/\bK N z5 (↑z8.length:Int)<(↑z8.length:Int)))<|
    gn z8 ((bK N z5 (↑z8.length:Int)).toNat) λ_=>
    gn z8 ((bK N z5 (↑z8.length:Int)).toNat) λy10=>
    ck (j8 N (aA.wrap (z5.tdiv (16:Int))) (max (↑y10.length:Int) (1:Int)))<|
    ck (j8 N z6 (6:Int))<|
    br (decide (bK N z6 (6:Int)=(0:Int)))
     (none)
     (br (decide (bK N z6 (6:Int)=(1:Int)))
      (ck (decide ((0:Int)<=bK N z5 (↑z8.length:Int)/\bK N z5 (↑z8.length:Int)<(↑z8.length:Int)))<|
      gn z8 ((bK N z5 (↑z8.length:Int)).toNat) λ_=>
      none)
      (br (decide (bK N z6 (6:Int)=(2:Int)))
       (ck (decide ((0:Int)<=bK N z5 (↑z8.length:Int)/\bK N z5 (↑z8.length:Int)<(↑z8.length:Int)))<|
       gn z8 ((bK N z5 (↑z8.length:Int)).toNat) λ_=>
       ck (decide ((0:Int)<=bK N z5 (↑z8.length:Int)/\bK N z5 (↑z8.length:Int)<(↑z8.length:Int)))<|
       gn z8 ((bK N z5 (↑z8.length:Int)).toNat) λ_=>
       gn z8 ((bK N z5 (↑z8.length:Int)).toNat) λ_=>
       none)
       (br (decide (bK N z6 (6:Int)=(3:Int)))
        (ck (decide ((0:Int)<=bK N z5 (↑z8.length:Int)/\bK N z5 (↑z8.length:Int)<(↑z8.length:Int)))<|
        gn z8 ((bK N z5 (↑z8.length:Int)).toNat) λ_=>
        none)
        (ck (decide ((0:Int)<=bK N z5 (↑z8.length:Int)/\bK N z5 (↑z8.length:Int)<(↑z8.length:Int)))<|
        gn z8 ((bK N z5 (↑z8.length:Int)).toNat) λ_=>
        gn z8 ((bK N z5 (↑z8.length:Int)).toNat) λy17=>
        br (decide (bK N (aA.wrap (z5.tdiv (16:Int))) (max (↑y10.length:Int) (1:Int))<(↑y17.length:Int)))
         (ck (decide ((0:Int)<=bK N z5 (↑z8.length:Int)/\bK N z5 (↑z8.length:Int)<(↑z8.length:Int)))<|
         gn z8 ((bK N z5 (↑z8.length:Int)).toNat) λ_=>
         ck (j8 N z7 (16:Int))<|
         gx aF6 (bK N z7 (16:Int)) λy19=>
         ck (qI N y19)<|
         gn z8 ((bK N z5 (↑z8.length:Int)).toNat) λy20=>
         ck (decide ((0:Int)<=bK N (aA.wrap (z5.tdiv (16:Int))) (max (↑y10.length:Int) (1:Int))/\bK N (aA.wrap (z5.tdiv (16:Int))) (max (↑y10.length:Int) (1:Int))<(↑y20.length:Int)))<|
         gn z8 ((bK N z5 (↑z8.length:Int)).toNat) λy21=>
         gn y21 ((bK N (aA.wrap (z5.tdiv (16:Int))) (max (↑y10.length:Int) (1:Int))).toNat) λ_=>
         some (Cq (z8.set (bK N z5 (↑z8.length:Int)).toNat (y21.set (bK N (aA.wrap (z5.tdiv (16:Int))) (max (↑y10.length:Int) (1:Int))).toNat (dZ N y19)))))
         (some (Cq z8))))))))
def v26[aB] N p0 at1 how2 by3:=Mc N (aDm N) p0 at1 how2 by3
def aDn[aB](N:Nat):Hint:=(.seq .d (.seq .d (.seq (.seq .d (.block (.sub Fj _ _ _ mE (aN 1) (aN 2) (aP s8 Ma (s7 N N))))) (.seq .d (.seq .d (.seq .d (.seq (.seq .d (.block (.seq .d (.cond (.fT [7] [] []) (.seq .d (.cond (.fT [5,6] [] []) (.seq .d (.cond .d (.seq .d (.cond (.fT [2,7] [] []) (.seq .d (.cond (.fT [] [] [[],[],[],[],[],[],[],[],[],[],[0]]) .d)))))))))))) .d)))))))
theorem aVn N (hc:aK (lR N)):bH (lR N) Tryd.f26.ntmps (aDn N) Mb:=bS _ _ (aF trivial (aF trivial (aF (aF trivial (aVu N hc)) (aF trivial (aF trivial (aF trivial (aF (aF trivial (aF trivial (aF trivial (aF trivial (aF trivial (aF trivial (aF trivial (aF trivial (aF trivial (aF trivial (aF trivial trivial))))))))))) trivial)))))))
theorem aVk[aB] N p0 at1 how2 by3:Mc N (aDl N) p0 at1 how2 by3=exec (lR N) Tryd.f26.ntmps (aDn N) Mb ⟨cA 0 [.e (.sl (.sl .u8)) p0,.e (.i .i64) at1,.e (.i .i64) how2,.e (.i .i64) by3],[],100⟩ (cD (lR N) Tryd.f26 false):=by kernel_rfl
theorem aVq{N:Nat}(hc:aK (lR N)){p0:(List aI)}{at1 how2 by3:Int}{r:aM}(h:v26 N p0 at1 how2 by3=some r):tW Tryd.prog 26 (([.e (.sl (.sl .u8)) p0,.e (.i .i64) at1,.e (.i .i64) how2,.e (.i .i64) by3]:List X).map X.D) (HA []) r:=
 aFm hc (f:=26) (fn:=Tryd.f26) (code:=Mb) (by kernel_rfl) (by kernel_rfl) (aVn N hc) (Nat.le_of_ble_eq_true (by kernel_rfl)) (ow:=false) ((aVk N p0 at1 how2 by3).symm.trans (by rw[aVp N];exact h))
def Cp(r:aM):Option ((List aI)):=match r with
 |(x0,[])=>(match ue (.sl (.sl .u8)) x0 with|some a0=>some a0|_=>none)
 |_=>none
theorem aVh{r d}(h:Cp r=some d):r=Cq (d):=by
 unfold Cp at h;split at h
 .split at h
  .rename_i h0;cases h;rw[bG h0];rfl
  .cases h
 .cases h
def Fh N p0 at1 how2 by3:=(v26 N p0 at1 how2 by3).bind Cp
theorem aVo{N}(hc:aK (lR N)){p0 at1 how2 by3 d}(hd:Fh N p0 at1 how2 by3=some d):cI Tryd.prog 26 [.e (.sl (.sl .u8)) p0,.e (.i .i64) at1,.e (.i .i64) how2,.e (.i .i64) by3] [] (Cq (d)):=by
 obtain⟨r,hr,hu⟩:=Option.bind_eq_some_iff.1 hd;have:=aVq hc hr;rw[aVh hu]at this;exact this
def Fi N p0 at1 how2 by3:=(Fh N p0 at1 how2 by3).isSome
def M8 N p0 at1 how2 by3:=((Fh N p0 at1 how2 by3).getD [])
end
end Go.Proofs
