/- What functions do; the examples hold. Conditions are in the theorems. -/
import Derived.Test.YtpmhkjnnolpknaaDoorE7
import Derived.Test.YtpmhkjnnolpknaaDoorF0
import Derived.Test.YtpmhkjnnolpknaaDoorProg
import Derived.KernelRfl
import Derived.Test.YtpmhkjnnolpknaaDoorF1
open And renaming intro->aF
open Eq renaming trans->dK
open Go.IntKind renaming i64->aA
/- What functions do. -/
namespace Go.Proofs
noncomputable section
open Go.Ax Go.Ax.aB Go.RowKit Go.Ab
open Go
abbrev aE:=List UInt8
abbrev w5:List UInt8:=[(95:UInt8),(95:UInt8),(95:UInt8),(95:UInt8),(49:UInt8),(51:UInt8)]
abbrev w4:List UInt8:=[(49:UInt8),(50:UInt8),(91:UInt8),(49:UInt8),(53:UInt8),(55:UInt8)]
abbrev wU:List UInt8:=[(95:UInt8),(95:UInt8),(95:UInt8),(49:UInt8),(50:UInt8),(95:UInt8)]
abbrev wT:List UInt8:=[(95:UInt8),(95:UInt8),(95:UInt8),(95:UInt8),(51:UInt8),(55:UInt8)]
abbrev wS:List UInt8:=[(95:UInt8),(95:UInt8),(95:UInt8),(95:UInt8),(51:UInt8),(54:UInt8)]
abbrev wR:List UInt8:=[(95:UInt8),(95:UInt8),(95:UInt8),(95:UInt8),(95:UInt8),(49:UInt8)]
abbrev wQ:List UInt8:=[(95:UInt8),(49:UInt8),(49:UInt8),(95:UInt8)]
abbrev wP:List UInt8:=[(95:UInt8),(95:UInt8),(53:UInt8),(56:UInt8)]
abbrev wO:List UInt8:=[(43:UInt8),(95:UInt8),(54:UInt8),(55:UInt8)]
abbrev gZ:List UInt8:=[(61:UInt8),(61:UInt8),(61:UInt8),(61:UInt8)]
abbrev w3:List UInt8:=[(95:UInt8),(49:UInt8),(50:UInt8),(53:UInt8)]
abbrev wZ:List UInt8:=[(95:UInt8),(95:UInt8),(50:UInt8),(51:UInt8)]
abbrev wY:List UInt8:=[(42:UInt8),(95:UInt8),(49:UInt8),(52:UInt8)]
abbrev wX:List UInt8:=[(95:UInt8),(95:UInt8),(57:UInt8),(50:UInt8)]
abbrev wW:List UInt8:=[(95:UInt8),(50:UInt8),(51:UInt8),(95:UInt8)]
abbrev wV:List UInt8:=[(95:UInt8),(51:UInt8),(50:UInt8),(50:UInt8)]
abbrev DY:List UInt8:=[(95:UInt8),(49:UInt8),(95:UInt8)]
abbrev DX:List UInt8:=[(95:UInt8),(53:UInt8),(50:UInt8)]
abbrev DW:List UInt8:=[(45:UInt8),(49:UInt8),(55:UInt8)]
abbrev n7:List UInt8:=[(61:UInt8),(61:UInt8),(61:UInt8)]
abbrev DV:List UInt8:=[(95:UInt8),(51:UInt8),(53:UInt8)]
abbrev DU:List UInt8:=[(95:UInt8),(95:UInt8),(55:UInt8)]
abbrev DT:List UInt8:=[(42:UInt8),(95:UInt8),(56:UInt8)]
abbrev DS:List UInt8:=[(95:UInt8),(53:UInt8),(54:UInt8)]
abbrev n6:List UInt8:=[(95:UInt8),(95:UInt8),(48:UInt8)]
abbrev DQ:List UInt8:=[(53:UInt8),(91:UInt8),(51:UInt8)]
abbrev DP:List UInt8:=[(95:UInt8),(95:UInt8),(51:UInt8)]
def AO(a0:(List aE)):aM:=(.e (.sl (.sl .u8)) a0,[])
def nR(N:Nat):Cx:=⟨Tryd.prog,99999,[(57,Ef N),(62,QE N),(36,Ra N),(63,Is N),(64,Ip N),(65,Pn N),(66,Pe N)],[]⟩
def Ks:Code:=Tryd.f42.body.getD .skip
theorem aQ1 N:aK (nR N):=cH (by kernel_rfl) (.cons (by kernel_rfl) (JT N) (.cons (by kernel_rfl) (Yb N) (.cons (by kernel_rfl) (aBf N) (.cons (by kernel_rfl) (Pt N) (.cons (by kernel_rfl) (Pq N) (.cons (by kernel_rfl) (YR N) (.cons (by kernel_rfl) (YN N) .nil))))))) .nil
def Kw[aB](N:Nat)(self:Int->Int->(List aE)->O)(k0:Int->Int->(List Int)->Int->(List aE)->O)(x1_0:Int)(x1_1:(List Int))(x1_2 x1_4:Int)(x1_5:(List Int))(x1_3 x1_6:Int)(x1_7:(List aE)):O:=
 br (decide (x1_3<x1_2))
  (gx x1_1 x1_3 λy4=>
  br (decide (0<y4))
   (ck (CE N y4 (aA.wrap (x1_3+1)) x1_6 x1_7)<|
   self (aA.wrap (x1_3+1)) (CD N y4 (aA.wrap (x1_3+1)) x1_6 x1_7) (p8 N y4 (aA.wrap (x1_3+1)) x1_6 x1_7))
   (self (aA.wrap (x1_3+1)) x1_6 x1_7))
  (k0 x1_0 x1_4 x1_5 x1_6 x1_7)
def RY:Code:=cE [1,1,1,0,1,0,0] Ks
def aBK:Nm:=⟨[1,2,4,5,24,25,26],[],[]⟩
def AS(x:Int×(List Int)×Int×Int×Int×(List Int)×Int×(List aE)):Sg:=⟨[(1,.e (.i .i64) x.1),(2,.ref 0 0),(4,.bI),(5,.ref 1 0),(24,.e (.sl (.i .i64)) x.2.1),(25,.e (.i .i64) x.2.2.1),(26,.e (.i .i64) x.2.2.2.1)],[(0,.box 24 [.e (.i .i64) x.2.2.2.2.1,.e (.sl (.i .i64)) x.2.2.2.2.2.1]),(1,.box 82 [.own 2,.e (.i .i64) x.2.2.2.2.2.2.1]),(2,.nest 42 5 .u8 x.2.2.2.2.2.2.2)],100⟩
def Kr(σ:Sg):Int×(List Int)×Int×Int×Int×(List Int)×Int×(List aE):=(aC (.i .i64) 1 0 σ,aC (.sl (.i .i64)) 24 0 σ,aC (.i .i64) 25 0 σ,aC (.i .i64) 26 0 σ,bP (.i .i64) 0 0 σ,bP (.sl (.i .i64)) 0 1 σ,bP (.i .i64) 1 1 σ,n4 .u8 2 σ)
theorem aQS:∀x,Kr (AS x)=x:=λ_=>by kernel_rfl
def Ku(y:Int×Int×(List Int)×Int×(List aE)):Exit×Sg:=((.exit 0),⟨[(1,.e (.i .i64) y.1),(2,.ref 0 0),(4,.bI),(5,.ref 1 0)],[(0,.box 24 [.e (.i .i64) y.2.1,.e (.sl (.i .i64)) y.2.2.1]),(1,.box 82 [.own 2,.e (.i .i64) y.2.2.2.1]),(2,.nest 42 5 .u8 y.2.2.2.2)],100⟩)
def aQP(_:Exit)(σ:Sg):Int×Int×(List Int)×Int×(List aE):=(aC (.i .i64) 1 0 σ,bP (.i .i64) 0 0 σ,bP (.sl (.i .i64)) 0 1 σ,bP (.i .i64) 1 1 σ,n4 .u8 2 σ)
def aQN:List (Exit×Nm):=[((.exit 0),⟨[1,2,4,5],[],[]⟩)]
def AQ[aB](N:Nat):Nat->(Int×(List Int)×Int×Int×Int×(List Int)×Int×(List aE))->((Int×Int×(List Int)×Int×(List aE))->O)->((Unit)->O)->((Unit)->O)->O
 |0,_,_,_,_=>none
 |n+1,x,k0,k1,k2=>Kw N (λv0 v1 v2=>AQ N n (x.1,x.2.1,x.2.2.1,v0,x.2.2.2.2.1,x.2.2.2.2.2.1,v1,v2) k0 k1 k2) (λy0 y1 y2 y3 y4=>k0 (y0,y1,y2,y3,y4)) x.1 x.2.1 x.2.2.1 x.2.2.2.2.1 x.2.2.2.2.2.1 x.2.2.2.1 x.2.2.2.2.2.2.1 x.2.2.2.2.2.2.2
def RW[aB] N a0 a1 a2 a3 a4 a5 a6 a7 (k0:Int->Int->(List Int)->Int->(List aE)->O):=AQ N N (a0,a1,a2,a3,a4,a5,a6,a7) (λy=>k0 y.1 y.2.1 y.2.2.1 y.2.2.2.1 y.2.2.2.2) (λ_=>none) (λ_=>none)
def aBH[aB] N a0 a1 a2 a3 a4 a5 a6 a7 (k0:Int->Int->(List Int)->Int->(List aE)->O):=aP AS Kr (AQ N N) (AS (a0,a1,a2,a3,a4,a5,a6,a7)) (λy=>k0 y.1 y.2.1 y.2.2.1 y.2.2.2.1 y.2.2.2.2) (λ_=>none) (λ_=>none)
theorem aQ0[aB] N:aBH N=RW N:=funext λ_=>funext λ_=>funext λ_=>funext λ_=>funext λ_=>funext λ_=>funext λ_=>funext λ_=>funext λ_=>cL aQS _ _ _ _
theorem aQU[aB](N:Nat)(self:Sg->O)(K:Exit->Sg->O)(x:Int×(List Int)×Int×Int×Int×(List Int)×Int×(List aE)):Kw N (λv0 v1 v2=>self (AS (x.1,x.2.1,x.2.2.1,v0,x.2.2.2.2.1,x.2.2.2.2.2.1,v1,v2))) (λy0 y1 y2 y3 y4=>K (Ku (y0,y1,y2,y3,y4)).1 (Ku (y0,y1,y2,y3,y4)).2) x.1 x.2.1 x.2.2.1 x.2.2.2.2.1 x.2.2.2.2.2.1 x.2.2.2.1 x.2.2.2.2.2.2.1 x.2.2.2.2.2.2.2=exec (nR N) Tryd.f42.ntmps .d RY (AS x) (cZ aBK aQN self K):=by kernel_rfl
theorem aQ5 N (hc:aK (nR N)):cF (nR N) Tryd.f42.ntmps (.loop RY) Ku (aN 1) (aN 2) (aP AS Kr (AQ N N)):=
 dD hc (cX RY) (eC aQP (.exit 0) (λ_=>by kernel_rfl) (λ_=>rfl) (by kernel_rfl)) (n:=N) (λx K=>dE (AQ N) (λ_ _ _ _=>rfl) (λn K ih x=>by
  refine dK ?_ (aQU N _ K x);simp only[<-ih];rfl) N x K)
def Kv[aB](N:Nat)(self:Int->Int->(List aE)->O)(k0:Int->Int->(List Int)->Int->(List aE)->O)(x10_0:Int)(x10_1:(List Int))(x10_2 x10_4:Int)(x10_5:(List Int))(x10_3 x10_6:Int)(x10_7:(List aE)):O:=
 br (decide (x10_3<x10_2))
  (gx x10_1 x10_3 λy13=>
  ck (kM N y13 (0:Int) x10_6 x10_7)<|
  self (aA.wrap (x10_3+1)) (cU N y13 (0:Int) x10_6 x10_7) (cO N y13 (0:Int) x10_6 x10_7))
  (k0 x10_0 x10_4 x10_5 x10_6 x10_7)
def RX:Code:=cE [1,1,1,1,0,1,0,0] Ks
def aBJ:Nm:=⟨[1,2,4,5,40,41,42],[],[]⟩
def AR(x:Int×(List Int)×Int×Int×Int×(List Int)×Int×(List aE)):Sg:=⟨[(1,.e (.i .i64) x.1),(2,.ref 0 0),(4,.bI),(5,.ref 1 0),(40,.e (.sl (.i .i64)) x.2.1),(41,.e (.i .i64) x.2.2.1),(42,.e (.i .i64) x.2.2.2.1)],[(0,.box 24 [.e (.i .i64) x.2.2.2.2.1,.e (.sl (.i .i64)) x.2.2.2.2.2.1]),(1,.box 82 [.own 2,.e (.i .i64) x.2.2.2.2.2.2.1]),(2,.nest 42 5 .u8 x.2.2.2.2.2.2.2)],100⟩
def Kq(σ:Sg):Int×(List Int)×Int×Int×Int×(List Int)×Int×(List aE):=(aC (.i .i64) 1 0 σ,aC (.sl (.i .i64)) 40 0 σ,aC (.i .i64) 41 0 σ,aC (.i .i64) 42 0 σ,bP (.i .i64) 0 0 σ,bP (.sl (.i .i64)) 0 1 σ,bP (.i .i64) 1 1 σ,n4 .u8 2 σ)
theorem aQR:∀x,Kq (AR x)=x:=λ_=>by kernel_rfl
def Kt(y:Int×Int×(List Int)×Int×(List aE)):Exit×Sg:=((.exit 2),⟨[(1,.e (.i .i64) y.1),(2,.ref 0 0),(4,.bI),(5,.ref 1 0)],[(0,.box 24 [.e (.i .i64) y.2.1,.e (.sl (.i .i64)) y.2.2.1]),(1,.box 82 [.own 2,.e (.i .i64) y.2.2.2.1]),(2,.nest 42 5 .u8 y.2.2.2.2)],100⟩)
def aQO(_:Exit)(σ:Sg):Int×Int×(List Int)×Int×(List aE):=(aC (.i .i64) 1 0 σ,bP (.i .i64) 0 0 σ,bP (.sl (.i .i64)) 0 1 σ,bP (.i .i64) 1 1 σ,n4 .u8 2 σ)
def aQM:List (Exit×Nm):=[((.exit 2),⟨[1,2,4,5],[],[]⟩)]
def AP[aB](N:Nat):Nat->(Int×(List Int)×Int×Int×Int×(List Int)×Int×(List aE))->((Int×Int×(List Int)×Int×(List aE))->O)->((Unit)->O)->((Unit)->O)->O
 |0,_,_,_,_=>none
 |n+1,x,k0,k1,k2=>Kv N (λv0 v1 v2=>AP N n (x.1,x.2.1,x.2.2.1,v0,x.2.2.2.2.1,x.2.2.2.2.2.1,v1,v2) k0 k1 k2) (λy0 y1 y2 y3 y4=>k0 (y0,y1,y2,y3,y4)) x.1 x.2.1 x.2.2.1 x.2.2.2.2.1 x.2.2.2.2.2.1 x.2.2.2.1 x.2.2.2.2.2.2.1 x.2.2.2.2.2.2.2
def aBI[aB] N a0 a1 a2 a3 a4 a5 a6 a7 (k0:Int->Int->(List Int)->Int->(List aE)->O):=AP N N (a0,a1,a2,a3,a4,a5,a6,a7) (λy=>k0 y.1 y.2.1 y.2.2.1 y.2.2.2.1 y.2.2.2.2) (λ_=>none) (λ_=>none)
def aBG[aB] N a0 a1 a2 a3 a4 a5 a6 a7 (k0:Int->Int->(List Int)->Int->(List aE)->O):=aP AR Kq (AP N N) (AR (a0,a1,a2,a3,a4,a5,a6,a7)) (λy=>k0 y.1 y.2.1 y.2.2.1 y.2.2.2.1 y.2.2.2.2) (λ_=>none) (λ_=>none)
theorem aQZ[aB] N:aBG N=aBI N:=funext λ_=>funext λ_=>funext λ_=>funext λ_=>funext λ_=>funext λ_=>funext λ_=>funext λ_=>funext λ_=>cL aQR _ _ _ _
theorem aQT[aB](N:Nat)(self:Sg->O)(K:Exit->Sg->O)(x:Int×(List Int)×Int×Int×Int×(List Int)×Int×(List aE)):Kv N (λv0 v1 v2=>self (AR (x.1,x.2.1,x.2.2.1,v0,x.2.2.2.2.1,x.2.2.2.2.2.1,v1,v2))) (λy0 y1 y2 y3 y4=>K (Kt (y0,y1,y2,y3,y4)).1 (Kt (y0,y1,y2,y3,y4)).2) x.1 x.2.1 x.2.2.1 x.2.2.2.2.1 x.2.2.2.2.2.1 x.2.2.2.1 x.2.2.2.2.2.2.1 x.2.2.2.2.2.2.2=exec (nR N) Tryd.f42.ntmps .d RX (AR x) (cZ aBJ aQM self K):=by kernel_rfl
theorem aQ4 N (hc:aK (nR N)):cF (nR N) Tryd.f42.ntmps (.loop RX) Kt (aN 1) (aN 2) (aP AR Kq (AP N N)):=
 dD hc (cX RX) (eC aQO (.exit 2) (λ_=>by kernel_rfl) (λ_=>rfl) (by kernel_rfl)) (n:=N) (λx K=>dE (AP N) (λ_ _ _ _=>rfl) (λn K ih x=>by
  refine dK ?_ (aQT N _ K x);simp only[<-ih];rfl) N x K)
def RZ[aB](N:Nat)(in0:Int->(List Int)->Int->Int->Int->(List Int)->Int->(List aE)->(Int->Int->(List Int)->Int->(List aE)->O)->O)(in1:Int->(List Int)->Int->Int->Int->(List Int)->Int->(List aE)->(Int->Int->(List Int)->Int->(List aE)->O)->O)(s0_0:Int)(s0_1:(List Int))(result1:Int):O:=
 ck (nN N result1)<|
 gx s0_1 0 λy0=>
 ck (nN N y0)<|
 ck (E9 N (aA.wrap ((1:Int)+max (bO N result1) (bO N y0))) [])<|
 ck (C4 N s0_0 s0_1)<|
 in0 result1 (vN N s0_0 s0_1) ((↑(vN N s0_0 s0_1).length:Int)) 0 s0_0 s0_1 (zB N (aA.wrap ((1:Int)+max (bO N result1) (bO N y0))) []) (zA N (aA.wrap ((1:Int)+max (bO N result1) (bO N y0))) [])
  (λz5 z6 z7 z8 z9=>
   in1 z5 z7 ((↑z7.length:Int)) 0 z6 z7 z8 z9
    (λz14 z15 _ z17 z18=>
     br (decide (z15=3))
      (ck (yX N (44:UInt8) z17 z18)<|
      ck (uP N (iN N (44:UInt8) z17 z18) (iM N (44:UInt8) z17 z18))<|
      ck (kM N z14 (0:Int) (nK N (iN N (44:UInt8) z17 z18) (iM N (44:UInt8) z17 z18)) (nJ N (iN N (44:UInt8) z17 z18) (iM N (44:UInt8) z17 z18)))<|
      some (AO (cO N z14 (0:Int) (nK N (iN N (44:UInt8) z17 z18) (iM N (44:UInt8) z17 z18)) (nJ N (iN N (44:UInt8) z17 z18) (iM N (44:UInt8) z17 z18)))))
      (ck (yX N (36:UInt8) z17 z18)<|
      ck (uP N (iN N (36:UInt8) z17 z18) (iM N (36:UInt8) z17 z18))<|
      ck (kM N z14 (0:Int) (nK N (iN N (36:UInt8) z17 z18) (iM N (36:UInt8) z17 z18)) (nJ N (iN N (36:UInt8) z17 z18) (iM N (36:UInt8) z17 z18)))<|
      some (AO (cO N z14 (0:Int) (nK N (iN N (36:UInt8) z17 z18) (iM N (36:UInt8) z17 z18)) (nJ N (iN N (36:UInt8) z17 z18) (iM N (36:UInt8) z17 z18)))))))
def w42[aB] N s0_0 s0_1 result1:=RZ N (RW N) (aBI N) s0_0 s0_1 result1
def aBL[aB](N:Nat):Hint:=(.seq .d (.seq .d (.seq (.fT [] [.BB 5 0 (.nest 42 5 .u8 [])] []) (.seq (.seq .d (.block (.sub aBK _ _ _ Ku (aN 1) (aN 2) (aP AS Kr (AQ N N))))) (.seq (.seq .d (.block (.sub aBJ _ _ _ Kt (aN 1) (aN 2) (aP AR Kq (AP N N))))) .d)))))
theorem aQX N (hc:aK (nR N)):bH (nR N) Tryd.f42.ntmps (aBL N) Ks:=bS _ _ (aF trivial (aF trivial (aF trivial (aF (aF trivial (aQ5 N hc)) (aF (aF trivial (aQ4 N hc)) trivial)))))
theorem aQV[aB] N s0_0 s0_1 result1:RZ N (aBH N) (aBG N) s0_0 s0_1 result1=exec (nR N) Tryd.f42.ntmps (aBL N) Ks ⟨cA 0 [.agg [.e (.i .i64) s0_0,.e (.sl (.i .i64)) s0_1],.e (.i .i64) result1],[],100⟩ (cD (nR N) Tryd.f42 false):=by kernel_rfl
def qD(r:aM):Option ((List aE)):=match r with
 |(x0,[])=>(match ue (.sl (.sl .u8)) x0 with|some a0=>some a0|_=>none)
 |_=>none
theorem aQQ{r d}(h:qD r=some d):r=AO (d):=by
 unfold qD at h;split at h
 .split at h
  .rename_i h0;cases h;rw[bG h0];rfl
  .cases h
 .cases h
def sP N s0_0 s0_1 result1:=(w42 N s0_0 s0_1 result1).bind qD
theorem aQY{N}(hc:aK (nR N)){s0_0 s0_1 result1 d}(hd:sP N s0_0 s0_1 result1=some d):cI Tryd.prog 42 [.agg [.e (.i .i64) s0_0,.e (.sl (.i .i64)) s0_1],.e (.i .i64) result1] [] (AO (d)):=
 cJ hc (by kernel_rfl) (by kernel_rfl) (aQX N hc) (by kernel_rfl) aQQ (λhr=>(aQV N s0_0 s0_1 result1).symm.trans (by rw[aQ0 N,aQZ N];exact hr)) hd
def FA N s0_0 s0_1 result1:=(sP N s0_0 s0_1 result1).isSome
def Ez N s0_0 s0_1 result1:=((sP N s0_0 s0_1 result1).getD [])
def aBM(N:Nat):bR:=E2 (.pr (.i .i64) (.sl (.i .i64))) (.i .i64) (λx0 x1=>(FA N x0.1 x0.2 x1,AO (Ez N x0.1 x0.2 x1)))
theorem aQW N:aX Tryd.prog 42 (aBM N):=aX.e2 (λx0 x1 h=>cS (z:=sP N x0.1 x0.2 x1) h (aQY (aQ1 N)) rfl)
def C0(a0:(List aE)):aM:=(.e (.sl (.sl .u8)) a0,[])
def nQ(N:Nat):Cx:=⟨Tryd.prog,99999,[(57,Ef N),(64,Ip N),(65,Pn N),(66,Pe N)],[]⟩
def Kl:Code:=Tryd.f43.body.getD .skip
theorem aQE N:aK (nQ N):=cH (by kernel_rfl) (.cons (by kernel_rfl) (JT N) (.cons (by kernel_rfl) (Pq N) (.cons (by kernel_rfl) (YR N) (.cons (by kernel_rfl) (YN N) .nil)))) .nil
def Kp[aB](N:Nat)(self:Int->Int->Int->(List Int)->O)(k0:Int->Int->Int->Int->(List Int)->O)(x2_0 x2_1:Int)(x2_2 x2_3:Int)(x2_4 x2_5:Int)(x2_6:(List Int)):O:=
 br (decide (x2_4=0)||decide (0<x2_5))
  (ck true <|
  ck (b9 (x2_6++[aA.wrap (x2_1*x2_5.tmod (10:Int))]).length (8:Nat))<|
  ck true <|
  ck (nN N (aA.wrap (x2_1*x2_5.tmod (10:Int))))<|
  ck true <|
  self (max x2_3 (aA.wrap (bO N (aA.wrap (x2_1*x2_5.tmod (10:Int)))+x2_4))) (aA.wrap (x2_4+1)) (aA.wrap (x2_5.tdiv (10:Int))) (x2_6++[aA.wrap (x2_1*x2_5.tmod (10:Int))]))
  (k0 x2_0 x2_1 x2_2 x2_3 x2_6)
def RT:Code:=cE [1,1,1,1,0,1,0,0] Kl
def aAz:Nm:=⟨[1,4,5,6,7,8,9,10],[],[.mL 8 (.row 3 (.i .i64) [] true)]⟩
def AN(x:Int×Int×Int×Int×Int×Int×(List Int)):Sg:=⟨[(1,.e (.i .i64) x.1),(4,.bI),(5,.e (.i .i64) x.2.1),(6,.e (.i .i64) x.2.2.1),(7,.e (.i .i64) x.2.2.2.1),(8,.own 0),(9,.e (.i .i64) x.2.2.2.2.1),(10,.e (.i .i64) x.2.2.2.2.2.1)],[(0,.row 3 (.i .i64) x.2.2.2.2.2.2 true)],100⟩
def Kj(σ:Sg):Int×Int×Int×Int×Int×Int×(List Int):=(aC (.i .i64) 1 0 σ,aC (.i .i64) 5 0 σ,aC (.i .i64) 6 0 σ,aC (.i .i64) 7 0 σ,aC (.i .i64) 9 0 σ,aC (.i .i64) 10 0 σ,c9 (.i .i64) 0 σ)
theorem aPv:∀x,Kj (AN x)=x:=λ_=>by kernel_rfl
def Kn(y:Int×Int×Int×Int×(List Int)):Exit×Sg:=((.exit 0),⟨[(1,.e (.i .i64) y.1),(4,.bI),(5,.e (.i .i64) y.2.1),(6,.e (.i .i64) y.2.2.1),(7,.e (.i .i64) y.2.2.2.1),(8,.own 0)],[(0,.row 3 (.i .i64) y.2.2.2.2 true)],100⟩)
def aPs(_:Exit)(σ:Sg):Int×Int×Int×Int×(List Int):=(aC (.i .i64) 1 0 σ,aC (.i .i64) 5 0 σ,aC (.i .i64) 6 0 σ,aC (.i .i64) 7 0 σ,c9 (.i .i64) 0 σ)
def aPq:List (Exit×Nm):=[((.exit 0),⟨[1,4,5,6,7,8],[],[]⟩)]
def vK[aB](N:Nat):Nat->(Int×Int×Int×Int×Int×Int×(List Int))->((Int×Int×Int×Int×(List Int))->O)->((Unit)->O)->((Unit)->O)->O
 |0,_,_,_,_=>none
 |n+1,x,k0,k1,k2=>Kp N (λv0 v1 v2 v3=>vK N n (x.1,x.2.1,x.2.2.1,v0,v1,v2,v3) k0 k1 k2) (λy0 y1 y2 y3 y4=>k0 (y0,y1,y2,y3,y4)) x.1 x.2.1 x.2.2.1 x.2.2.2.1 x.2.2.2.2.1 x.2.2.2.2.2.1 x.2.2.2.2.2.2
def aAx[aB] N a0 a1 a2 a3 a4 a5 a6 (k0:Int->Int->Int->Int->(List Int)->O):=vK N N (a0,a1,a2,a3,a4,a5,a6) (λy=>k0 y.1 y.2.1 y.2.2.1 y.2.2.2.1 y.2.2.2.2) (λ_=>none) (λ_=>none)
def aAv[aB] N a0 a1 a2 a3 a4 a5 a6 (k0:Int->Int->Int->Int->(List Int)->O):=aP AN Kj (vK N N) (AN (a0,a1,a2,a3,a4,a5,a6)) (λy=>k0 y.1 y.2.1 y.2.2.1 y.2.2.2.1 y.2.2.2.2) (λ_=>none) (λ_=>none)
theorem aQD[aB] N:aAv N=aAx N:=funext λ_=>funext λ_=>funext λ_=>funext λ_=>funext λ_=>funext λ_=>funext λ_=>funext λ_=>cL aPv _ _ _ _
theorem aPx[aB](N:Nat)(self:Sg->O)(K:Exit->Sg->O)(x:Int×Int×Int×Int×Int×Int×(List Int)):Kp N (λv0 v1 v2 v3=>self (AN (x.1,x.2.1,x.2.2.1,v0,v1,v2,v3))) (λy0 y1 y2 y3 y4=>K (Kn (y0,y1,y2,y3,y4)).1 (Kn (y0,y1,y2,y3,y4)).2) x.1 x.2.1 x.2.2.1 x.2.2.2.1 x.2.2.2.2.1 x.2.2.2.2.2.1 x.2.2.2.2.2.2=exec (nQ N) Tryd.f43.ntmps .d RT (AN x) (cZ aAz aPq self K):=by kernel_rfl
theorem aQL N (hc:aK (nQ N)):cF (nQ N) Tryd.f43.ntmps (.loop RT) Kn (aN 1) (aN 2) (aP AN Kj (vK N N)):=
 dD hc (cX RT) (eC aPs (.exit 0) (λ_=>by kernel_rfl) (λ_=>rfl) (by kernel_rfl)) (n:=N) (λx K=>dE (vK N) (λ_ _ _ _=>rfl) (λn K ih x=>by
  refine dK ?_ (aPx N _ K x);simp only[<-ih];rfl) N x K)
def Ko[aB](N:Nat)(self:Int->Int->(List aE)->O)(k0:Int->(List Int)->Int->(List aE)->O)(x8_0 x8_1:Int)(x8_3:(List Int))(x8_2 x8_4:Int)(x8_5:(List aE)):O:=
 br (decide (x8_2<x8_1))
  (gx x8_3 x8_2 λy11=>
  ck (kM N y11 x8_2 x8_4 x8_5)<|
  self (aA.wrap (x8_2+1)) (cU N y11 x8_2 x8_4 x8_5) (cO N y11 x8_2 x8_4 x8_5))
  (k0 x8_0 x8_3 x8_4 x8_5)
def RS:Code:=cE [1,1,1,1,1,1,1,1,1,1,0,1,0,0] Kl
def aAy:Nm:=⟨[1,4,8,11,70,71,72],[],[]⟩
def AM(x:Int×Int×Int×(List Int)×Int×(List aE)):Sg:=⟨[(1,.e (.i .i64) x.1),(4,.bI),(8,.own 0),(11,.ref 1 0),(70,.own 0),(71,.e (.i .i64) x.2.1),(72,.e (.i .i64) x.2.2.1)],[(0,.row 3 (.i .i64) x.2.2.2.1 true),(1,.box 82 [.own 2,.e (.i .i64) x.2.2.2.2.1]),(2,.nest 42 5 .u8 x.2.2.2.2.2)],100⟩
def Ki(σ:Sg):Int×Int×Int×(List Int)×Int×(List aE):=(aC (.i .i64) 1 0 σ,aC (.i .i64) 71 0 σ,aC (.i .i64) 72 0 σ,c9 (.i .i64) 0 σ,bP (.i .i64) 1 1 σ,n4 .u8 2 σ)
theorem aPu:∀x,Ki (AM x)=x:=λ_=>by kernel_rfl
def Km(y:Int×(List Int)×Int×(List aE)):Exit×Sg:=((.exit 2),⟨[(1,.e (.i .i64) y.1),(4,.bI),(8,.own 0),(11,.ref 1 0)],[(0,.row 3 (.i .i64) y.2.1 true),(1,.box 82 [.own 2,.e (.i .i64) y.2.2.1]),(2,.nest 42 5 .u8 y.2.2.2)],100⟩)
def aPr(_:Exit)(σ:Sg):Int×(List Int)×Int×(List aE):=(aC (.i .i64) 1 0 σ,c9 (.i .i64) 0 σ,bP (.i .i64) 1 1 σ,n4 .u8 2 σ)
def aPp:List (Exit×Nm):=[((.exit 2),⟨[1,4,8,11],[],[]⟩)]
def vJ[aB](N:Nat):Nat->(Int×Int×Int×(List Int)×Int×(List aE))->((Int×(List Int)×Int×(List aE))->O)->((Unit)->O)->((Unit)->O)->O
 |0,_,_,_,_=>none
 |n+1,x,k0,k1,k2=>Ko N (λv0 v1 v2=>vJ N n (x.1,x.2.1,v0,x.2.2.2.1,v1,v2) k0 k1 k2) (λy0 y1 y2 y3=>k0 (y0,y1,y2,y3)) x.1 x.2.1 x.2.2.2.1 x.2.2.1 x.2.2.2.2.1 x.2.2.2.2.2
def aAw[aB] N a0 a1 a2 a3 a4 a5 (k0:Int->(List Int)->Int->(List aE)->O):=vJ N N (a0,a1,a2,a3,a4,a5) (λy=>k0 y.1 y.2.1 y.2.2.1 y.2.2.2) (λ_=>none) (λ_=>none)
def aAu[aB] N a0 a1 a2 a3 a4 a5 (k0:Int->(List Int)->Int->(List aE)->O):=aP AM Ki (vJ N N) (AM (a0,a1,a2,a3,a4,a5)) (λy=>k0 y.1 y.2.1 y.2.2.1 y.2.2.2) (λ_=>none) (λ_=>none)
theorem aQC[aB] N:aAu N=aAw N:=funext λ_=>funext λ_=>funext λ_=>funext λ_=>funext λ_=>funext λ_=>funext λ_=>cL aPu _ _ _ _
theorem aPw[aB](N:Nat)(self:Sg->O)(K:Exit->Sg->O)(x:Int×Int×Int×(List Int)×Int×(List aE)):Ko N (λv0 v1 v2=>self (AM (x.1,x.2.1,v0,x.2.2.2.1,v1,v2))) (λy0 y1 y2 y3=>K (Km (y0,y1,y2,y3)).1 (Km (y0,y1,y2,y3)).2) x.1 x.2.1 x.2.2.2.1 x.2.2.1 x.2.2.2.2.1 x.2.2.2.2.2=exec (nQ N) Tryd.f43.ntmps .d RS (AM x) (cZ aAy aPp self K):=by kernel_rfl
theorem aQK N (hc:aK (nQ N)):cF (nQ N) Tryd.f43.ntmps (.loop RS) Km (aN 1) (aN 2) (aP AM Ki (vJ N N)):=
 dD hc (cX RS) (eC aPr (.exit 2) (λ_=>by kernel_rfl) (λ_=>rfl) (by kernel_rfl)) (n:=N) (λx K=>dE (vJ N) (λ_ _ _ _=>rfl) (λn K ih x=>by
  refine dK ?_ (aPw N _ K x);simp only[<-ih];rfl) N x K)
def RU[aB](N:Nat)(in0:Int->Int->Int->Int->Int->Int->(List Int)->(Int->Int->Int->Int->(List Int)->O)->O)(in1:Int->Int->Int->(List Int)->Int->(List aE)->(Int->(List Int)->Int->(List aE)->O)->O)(_s0_0:Int)(s0_1:(List Int))(result1:Int):O:=
 gx s0_1 0 λy0=>
 gx s0_1 1 λy1=>
 ck (nN N y0)<|
 ck (nN N y1)<|
 ck (nN N result1)<|
 in0 result1 y0 y1 (max (max (bO N y0) (bO N y1)) (bO N result1)) 0 y1 []
  (λz3 z4 z5 z6 z7=>
   ck (kM N z4 (0:Int) (aA.wrap ((1:Int)+z6)) [])<|
   ck (kM N z5 (0:Int) (cU N z4 (0:Int) (aA.wrap ((1:Int)+z6)) []) (cO N z4 (0:Int) (aA.wrap ((1:Int)+z6)) []))<|
   ck (yX N (33:UInt8) (cU N z5 (0:Int) (cU N z4 (0:Int) (aA.wrap ((1:Int)+z6)) []) (cO N z4 (0:Int) (aA.wrap ((1:Int)+z6)) [])) (cO N z5 (0:Int) (cU N z4 (0:Int) (aA.wrap ((1:Int)+z6)) []) (cO N z4 (0:Int) (aA.wrap ((1:Int)+z6)) [])))<|
   ck (uP N (iN N (33:UInt8) (cU N z5 (0:Int) (cU N z4 (0:Int) (aA.wrap ((1:Int)+z6)) []) (cO N z4 (0:Int) (aA.wrap ((1:Int)+z6)) [])) (cO N z5 (0:Int) (cU N z4 (0:Int) (aA.wrap ((1:Int)+z6)) []) (cO N z4 (0:Int) (aA.wrap ((1:Int)+z6)) []))) (iM N (33:UInt8) (cU N z5 (0:Int) (cU N z4 (0:Int) (aA.wrap ((1:Int)+z6)) []) (cO N z4 (0:Int) (aA.wrap ((1:Int)+z6)) [])) (cO N z5 (0:Int) (cU N z4 (0:Int) (aA.wrap ((1:Int)+z6)) []) (cO N z4 (0:Int) (aA.wrap ((1:Int)+z6)) []))))<|
   in1 z3 ((↑z7.length:Int)) 0 z7 (nK N (iN N (33:UInt8) (cU N z5 (0:Int) (cU N z4 (0:Int) (aA.wrap ((1:Int)+z6)) []) (cO N z4 (0:Int) (aA.wrap ((1:Int)+z6)) [])) (cO N z5 (0:Int) (cU N z4 (0:Int) (aA.wrap ((1:Int)+z6)) []) (cO N z4 (0:Int) (aA.wrap ((1:Int)+z6)) []))) (iM N (33:UInt8) (cU N z5 (0:Int) (cU N z4 (0:Int) (aA.wrap ((1:Int)+z6)) []) (cO N z4 (0:Int) (aA.wrap ((1:Int)+z6)) [])) (cO N z5 (0:Int) (cU N z4 (0:Int) (aA.wrap ((1:Int)+z6)) []) (cO N z4 (0:Int) (aA.wrap ((1:Int)+z6)) [])))) (nJ N (iN N (33:UInt8) (cU N z5 (0:Int) (cU N z4 (0:Int) (aA.wrap ((1:Int)+z6)) []) (cO N z4 (0:Int) (aA.wrap ((1:Int)+z6)) [])) (cO N z5 (0:Int) (cU N z4 (0:Int) (aA.wrap ((1:Int)+z6)) []) (cO N z4 (0:Int) (aA.wrap ((1:Int)+z6)) []))) (iM N (33:UInt8) (cU N z5 (0:Int) (cU N z4 (0:Int) (aA.wrap ((1:Int)+z6)) []) (cO N z4 (0:Int) (aA.wrap ((1:Int)+z6)) [])) (cO N z5 (0:Int) (cU N z4 (0:Int) (aA.wrap ((1:Int)+z6)) []) (cO N z4 (0:Int) (aA.wrap ((1:Int)+z6)) []))))
    (λz12 z13 z14 z15=>
     br (decide ((1:Int)<(↑z13.length:Int)))
      (ck (uP N z14 z15)<|
      ck (kM N z12 (0:Int) (nK N z14 z15) (nJ N z14 z15))<|
      some (C0 (cO N z12 (0:Int) (nK N z14 z15) (nJ N z14 z15))))
      (some (C0 z15))))
def w43[aB] N s0_0 s0_1 result1:=RU N (aAx N) (aAw N) s0_0 s0_1 result1
def aBA[aB](N:Nat):Hint:=(.seq .d (.seq .d (.seq .d (.seq .d (.seq (.seq .d (.block (.sub aAz _ _ _ Kn (aN 1) (aN 2) (aP AN Kj (vK N N))))) (.seq .d (.seq (.fT [] [.BB 11 0 (.nest 42 5 .u8 [])] []) (.seq .d (.seq .d (.seq .d (.seq (.seq .d (.block (.sub aAy _ _ _ Km (aN 1) (aN 2) (aP AM Ki (vJ N N))))) .d)))))))))))
theorem aQA N (hc:aK (nQ N)):bH (nQ N) Tryd.f43.ntmps (aBA N) Kl:=bS _ _ (aF trivial (aF trivial (aF trivial (aF trivial (aF (aF trivial (aQL N hc)) (aF trivial (aF trivial (aF trivial (aF trivial (aF trivial (aF (aF trivial (aQK N hc)) trivial)))))))))))
theorem aPy[aB] N s0_0 s0_1 result1:RU N (aAv N) (aAu N) s0_0 s0_1 result1=exec (nQ N) Tryd.f43.ntmps (aBA N) Kl ⟨cA 0 [.agg [.e (.i .i64) s0_0,.e (.sl (.i .i64)) s0_1],.e (.i .i64) result1],[],100⟩ (cD (nQ N) Tryd.f43 false):=by kernel_rfl
def CZ(r:aM):Option ((List aE)):=match r with
 |(x0,[])=>(match ue (.sl (.sl .u8)) x0 with|some a0=>some a0|_=>none)
 |_=>none
theorem aPt{r d}(h:CZ r=some d):r=C0 (d):=by
 unfold CZ at h;split at h
 .split at h
  .rename_i h0;cases h;rw[bG h0];rfl
  .cases h
 .cases h
def vI N s0_0 s0_1 result1:=(w43 N s0_0 s0_1 result1).bind CZ
theorem aQB{N}(hc:aK (nQ N)){s0_0 s0_1 result1 d}(hd:vI N s0_0 s0_1 result1=some d):cI Tryd.prog 43 [.agg [.e (.i .i64) s0_0,.e (.sl (.i .i64)) s0_1],.e (.i .i64) result1] [] (C0 (d)):=
 cJ hc (by kernel_rfl) (by kernel_rfl) (aQA N hc) (by kernel_rfl) aPt (λhr=>(aPy N s0_0 s0_1 result1).symm.trans (by rw[aQD N,aQC N];exact hr)) hd
def Kk N s0_0 s0_1 result1:=(vI N s0_0 s0_1 result1).isSome
def Kh N s0_0 s0_1 result1:=((vI N s0_0 s0_1 result1).getD [])
def aBB(N:Nat):bR:=E2 (.pr (.i .i64) (.sl (.i .i64))) (.i .i64) (λx0 x1=>(Kk N x0.1 x0.2 x1,C0 (Kh N x0.1 x0.2 x1)))
theorem aPz N:aX Tryd.prog 43 (aBB N):=aX.e2 (λx0 x1 h=>cS (z:=vI N x0.1 x0.2 x1) h (aQB (aQE N)) rfl)
def Ey(a0:(List aE)):aM:=(.e (.sl (.sl .u8)) a0,[])
def sO(N:Nat):Cx:=⟨Tryd.prog,99999,[(57,Ef N),(64,Ip N),(63,Is N),(67,Pa N),(68,YL N)],[]⟩
def RQ:Code:=Tryd.f44.body.getD .skip
theorem aPi N:aK (sO N):=cH (by kernel_rfl) (.cons (by kernel_rfl) (JT N) (.cons (by kernel_rfl) (Pq N) (.cons (by kernel_rfl) (Pt N) (.cons (by kernel_rfl) (YM N) (.cons (by kernel_rfl) (aKq N) .nil))))) .nil
def Kg[aB](N:Nat)(self:Int->Int->Int->(List aE)->O)(k0:Int->(List aE)->O)(x6_0 x6_1:Int)(x6_2 x6_3:aE)(x6_5 x6_4:Int)(x6_6 x6_7:Int)(x6_8:(List aE)):O:=
 br (decide (x6_6<x6_5))
  (gx x6_3 x6_6 λy11=>
  ck (kM N (aA.wrap (x6_0*aA.wrap (↑(y11-(48:UInt8)).toNat:Int))) (aA.wrap (aA.wrap ((↑x6_3.length:Int)-(1:Int))-x6_6)) x6_7 x6_8)<|
  br (decide ((0:Int)<aA.wrap (aA.wrap ((↑x6_3.length:Int)-(1:Int))-x6_6)))
   (gx x6_2 (aA.wrap (x6_1-aA.wrap (aA.wrap ((↑x6_3.length:Int)-(1:Int))-x6_6))) λy12=>
   ck (kM N (aA.wrap (aA.wrap ((10:Int)*aA.wrap (x6_4-aA.wrap (x6_0*aA.wrap (↑(y11-(48:UInt8)).toNat:Int))))+aA.wrap (↑(y12-(48:UInt8)).toNat:Int))) (aA.wrap (aA.wrap (aA.wrap ((↑x6_3.length:Int)-(1:Int))-x6_6)-(1:Int))) (cU N (aA.wrap (x6_0*aA.wrap (↑(y11-(48:UInt8)).toNat:Int))) (aA.wrap (aA.wrap ((↑x6_3.length:Int)-(1:Int))-x6_6)) x6_7 x6_8) (cO N (aA.wrap (x6_0*aA.wrap (↑(y11-(48:UInt8)).toNat:Int))) (aA.wrap (aA.wrap ((↑x6_3.length:Int)-(1:Int))-x6_6)) x6_7 x6_8))<|
   self (aA.wrap (aA.wrap ((10:Int)*aA.wrap (x6_4-aA.wrap (x6_0*aA.wrap (↑(y11-(48:UInt8)).toNat:Int))))+aA.wrap (↑(y12-(48:UInt8)).toNat:Int))) (aA.wrap (x6_6+1)) (cU N (aA.wrap (aA.wrap ((10:Int)*aA.wrap (x6_4-aA.wrap (x6_0*aA.wrap (↑(y11-(48:UInt8)).toNat:Int))))+aA.wrap (↑(y12-(48:UInt8)).toNat:Int))) (aA.wrap (aA.wrap (aA.wrap ((↑x6_3.length:Int)-(1:Int))-x6_6)-(1:Int))) (cU N (aA.wrap (x6_0*aA.wrap (↑(y11-(48:UInt8)).toNat:Int))) (aA.wrap (aA.wrap ((↑x6_3.length:Int)-(1:Int))-x6_6)) x6_7 x6_8) (cO N (aA.wrap (x6_0*aA.wrap (↑(y11-(48:UInt8)).toNat:Int))) (aA.wrap (aA.wrap ((↑x6_3.length:Int)-(1:Int))-x6_6)) x6_7 x6_8)) (cO N (aA.wrap (aA.wrap ((10:Int)*aA.wrap (x6_4-aA.wrap (x6_0*aA.wrap (↑(y11-(48:UInt8)).toNat:Int))))+aA.wrap (↑(y12-(48:UInt8)).toNat:Int))) (aA.wrap (aA.wrap (aA.wrap ((↑x6_3.length:Int)-(1:Int))-x6_6)-(1:Int))) (cU N (aA.wrap (x6_0*aA.wrap (↑(y11-(48:UInt8)).toNat:Int))) (aA.wrap (aA.wrap ((↑x6_3.length:Int)-(1:Int))-x6_6)) x6_7 x6_8) (cO N (aA.wrap (x6_0*aA.wrap (↑(y11-(48:UInt8)).toNat:Int))) (aA.wrap (aA.wrap ((↑x6_3.length:Int)-(1:Int))-x6_6)) x6_7 x6_8)))
   (ck (kM N (aA.wrap (x6_4-aA.wrap (x6_0*aA.wrap (↑(y11-(48:UInt8)).toNat:Int)))) (aA.wrap (aA.wrap ((↑x6_3.length:Int)-(1:Int))-x6_6)) (cU N (aA.wrap (x6_0*aA.wrap (↑(y11-(48:UInt8)).toNat:Int))) (aA.wrap (aA.wrap ((↑x6_3.length:Int)-(1:Int))-x6_6)) x6_7 x6_8) (cO N (aA.wrap (x6_0*aA.wrap (↑(y11-(48:UInt8)).toNat:Int))) (aA.wrap (aA.wrap ((↑x6_3.length:Int)-(1:Int))-x6_6)) x6_7 x6_8))<|
   self (aA.wrap (x6_4-aA.wrap (x6_0*aA.wrap (↑(y11-(48:UInt8)).toNat:Int)))) (aA.wrap (x6_6+1)) (cU N (aA.wrap (x6_4-aA.wrap (x6_0*aA.wrap (↑(y11-(48:UInt8)).toNat:Int)))) (aA.wrap (aA.wrap ((↑x6_3.length:Int)-(1:Int))-x6_6)) (cU N (aA.wrap (x6_0*aA.wrap (↑(y11-(48:UInt8)).toNat:Int))) (aA.wrap (aA.wrap ((↑x6_3.length:Int)-(1:Int))-x6_6)) x6_7 x6_8) (cO N (aA.wrap (x6_0*aA.wrap (↑(y11-(48:UInt8)).toNat:Int))) (aA.wrap (aA.wrap ((↑x6_3.length:Int)-(1:Int))-x6_6)) x6_7 x6_8)) (cO N (aA.wrap (x6_4-aA.wrap (x6_0*aA.wrap (↑(y11-(48:UInt8)).toNat:Int)))) (aA.wrap (aA.wrap ((↑x6_3.length:Int)-(1:Int))-x6_6)) (cU N (aA.wrap (x6_0*aA.wrap (↑(y11-(48:UInt8)).toNat:Int))) (aA.wrap (aA.wrap ((↑x6_3.length:Int)-(1:Int))-x6_6)) x6_7 x6_8) (cO N (aA.wrap (x6_0*aA.wrap (↑(y11-(48:UInt8)).toNat:Int))) (aA.wrap (aA.wrap ((↑x6_3.length:Int)-(1:Int))-x6_6)) x6_7 x6_8))))
  (k0 x6_7 x6_8)
def RP:Code:=cE [1,1,1,1,1,1,1,1,1,1,0,1,0,0] RQ
def aAp:Nm:=⟨[4,6,7,9,10,11,12,70,71],[],[]⟩
def AL(x:Int×Int×aE×aE×Int×Int×Int×Int×(List aE)):Sg:=⟨[(4,.bI),(6,.e (.i .i64) x.1),(7,.e (.i .i64) x.2.1),(9,.ref 0 0),(10,.e .tx x.2.2.1),(11,.e .tx x.2.2.2.1),(12,.e (.i .i64) x.2.2.2.2.1),(70,.e (.i .i64) x.2.2.2.2.2.1),(71,.e (.i .i64) x.2.2.2.2.2.2.1)],[(0,.box 82 [.own 1,.e (.i .i64) x.2.2.2.2.2.2.2.1]),(1,.nest 42 5 .u8 x.2.2.2.2.2.2.2.2)],100⟩
def Kd(σ:Sg):Int×Int×aE×aE×Int×Int×Int×Int×(List aE):=(aC (.i .i64) 6 0 σ,aC (.i .i64) 7 0 σ,aC .tx 10 0 σ,aC .tx 11 0 σ,aC (.i .i64) 12 0 σ,aC (.i .i64) 70 0 σ,aC (.i .i64) 71 0 σ,bP (.i .i64) 0 1 σ,n4 .u8 1 σ)
theorem aPb:∀x,Kd (AL x)=x:=λ_=>by kernel_rfl
def Kf(y:Int×(List aE)):Exit×Sg:=((.exit 0),⟨[(4,.bI),(9,.ref 0 0)],[(0,.box 82 [.own 1,.e (.i .i64) y.1]),(1,.nest 42 5 .u8 y.2)],100⟩)
def aP9(_:Exit)(σ:Sg):Int×(List aE):=(bP (.i .i64) 0 1 σ,n4 .u8 1 σ)
def aP8:List (Exit×Nm):=[((.exit 0),⟨[4,9],[],[]⟩)]
def vH[aB](N:Nat):Nat->(Int×Int×aE×aE×Int×Int×Int×Int×(List aE))->((Int×(List aE))->O)->((Unit)->O)->((Unit)->O)->O
 |0,_,_,_,_=>none
 |n+1,x,k0,k1,k2=>Kg N (λv0 v1 v2 v3=>vH N n (x.1,x.2.1,x.2.2.1,x.2.2.2.1,v0,x.2.2.2.2.2.1,v1,v2,v3) k0 k1 k2) (λy0 y1=>k0 (y0,y1)) x.1 x.2.1 x.2.2.1 x.2.2.2.1 x.2.2.2.2.2.1 x.2.2.2.2.1 x.2.2.2.2.2.2.1 x.2.2.2.2.2.2.2.1 x.2.2.2.2.2.2.2.2
def aAo[aB] N a0 a1 a2 a3 a4 a5 a6 a7 a8 (k0:Int->(List aE)->O):=vH N N (a0,a1,a2,a3,a4,a5,a6,a7,a8) (λy=>k0 y.1 y.2) (λ_=>none) (λ_=>none)
def aAn[aB] N a0 a1 a2 a3 a4 a5 a6 a7 a8 (k0:Int->(List aE)->O):=aP AL Kd (vH N N) (AL (a0,a1,a2,a3,a4,a5,a6,a7,a8)) (λy=>k0 y.1 y.2) (λ_=>none) (λ_=>none)
theorem aPh[aB] N:aAn N=aAo N:=funext λ_=>funext λ_=>funext λ_=>funext λ_=>funext λ_=>funext λ_=>funext λ_=>funext λ_=>funext λ_=>funext λ_=>cL aPb _ _ _ _
theorem aPc[aB](N:Nat)(self:Sg->O)(K:Exit->Sg->O)(x:Int×Int×aE×aE×Int×Int×Int×Int×(List aE)):Kg N (λv0 v1 v2 v3=>self (AL (x.1,x.2.1,x.2.2.1,x.2.2.2.1,v0,x.2.2.2.2.2.1,v1,v2,v3))) (λy0 y1=>K (Kf (y0,y1)).1 (Kf (y0,y1)).2) x.1 x.2.1 x.2.2.1 x.2.2.2.1 x.2.2.2.2.2.1 x.2.2.2.2.1 x.2.2.2.2.2.2.1 x.2.2.2.2.2.2.2.1 x.2.2.2.2.2.2.2.2=exec (sO N) Tryd.f44.ntmps .d RP (AL x) (cZ aAp aP8 self K):=by kernel_rfl
theorem aPo N (hc:aK (sO N)):cF (sO N) Tryd.f44.ntmps (.loop RP) Kf (aN 1) (aN 2) (aP AL Kd (vH N N)):=
 dD hc (cX RP) (eC aP9 (.exit 0) (λ_=>by kernel_rfl) (λ_=>rfl) (by kernel_rfl)) (n:=N) (λx K=>dE (vH N) (λ_ _ _ _=>rfl) (λn K ih x=>by
  refine dK ?_ (aPc N _ K x);simp only[<-ih];rfl) N x K)
def RR[aB](N:Nat)(in0:Int->Int->aE->aE->Int->Int->Int->Int->(List aE)->(Int->(List aE)->O)->O)(_s0_0:Int)(s0_1:(List Int))(quotient1:Int):O:=
 gx s0_1 0 λy0=>
 gx s0_1 1 λy1=>
 ck (nN N y0)<|
 ck (nN N y1)<|
 ck (kM N quotient1 (0:Int) (aA.wrap (aA.wrap (bO N y0+(1:Int))+bO N y1)) [])<|
 ck (kM N y0 (0:Int) (cU N quotient1 (0:Int) (aA.wrap (aA.wrap (bO N y0+(1:Int))+bO N y1)) []) (cO N quotient1 (0:Int) (aA.wrap (aA.wrap (bO N y0+(1:Int))+bO N y1)) []))<|
 ck (CE N y1 (aA.wrap (bO N y0+(1:Int))) (cU N y0 (0:Int) (cU N quotient1 (0:Int) (aA.wrap (aA.wrap (bO N y0+(1:Int))+bO N y1)) []) (cO N quotient1 (0:Int) (aA.wrap (aA.wrap (bO N y0+(1:Int))+bO N y1)) [])) (cO N y0 (0:Int) (cU N quotient1 (0:Int) (aA.wrap (aA.wrap (bO N y0+(1:Int))+bO N y1)) []) (cO N quotient1 (0:Int) (aA.wrap (aA.wrap (bO N y0+(1:Int))+bO N y1)) [])))<|
 ck (decide ((0:Int)<=(1:Int)/\(1:Int)<(↑(p8 N y1 (aA.wrap (bO N y0+(1:Int))) (cU N y0 (0:Int) (cU N quotient1 (0:Int) (aA.wrap (aA.wrap (bO N y0+(1:Int))+bO N y1)) []) (cO N quotient1 (0:Int) (aA.wrap (aA.wrap (bO N y0+(1:Int))+bO N y1)) [])) (cO N y0 (0:Int) (cU N quotient1 (0:Int) (aA.wrap (aA.wrap (bO N y0+(1:Int))+bO N y1)) []) (cO N quotient1 (0:Int) (aA.wrap (aA.wrap (bO N y0+(1:Int))+bO N y1)) []))).length:Int)))<|
 gn (p8 N y1 (aA.wrap (bO N y0+(1:Int))) (cU N y0 (0:Int) (cU N quotient1 (0:Int) (aA.wrap (aA.wrap (bO N y0+(1:Int))+bO N y1)) []) (cO N quotient1 (0:Int) (aA.wrap (aA.wrap (bO N y0+(1:Int))+bO N y1)) [])) (cO N y0 (0:Int) (cU N quotient1 (0:Int) (aA.wrap (aA.wrap (bO N y0+(1:Int))+bO N y1)) []) (cO N quotient1 (0:Int) (aA.wrap (aA.wrap (bO N y0+(1:Int))+bO N y1)) []))) 1 λ_=>
 gn (p8 N y1 (aA.wrap (bO N y0+(1:Int))) (cU N y0 (0:Int) (cU N quotient1 (0:Int) (aA.wrap (aA.wrap (bO N y0+(1:Int))+bO N y1)) []) (cO N quotient1 (0:Int) (aA.wrap (aA.wrap (bO N y0+(1:Int))+bO N y1)) [])) (cO N y0 (0:Int) (cU N quotient1 (0:Int) (aA.wrap (aA.wrap (bO N y0+(1:Int))+bO N y1)) []) (cO N quotient1 (0:Int) (aA.wrap (aA.wrap (bO N y0+(1:Int))+bO N y1)) []))) 1 λy3=>
 ck (decide ((0:Int)<=bO N y1/\bO N y1<(↑y3.length:Int)))<|
 gn (p8 N y1 (aA.wrap (bO N y0+(1:Int))) (cU N y0 (0:Int) (cU N quotient1 (0:Int) (aA.wrap (aA.wrap (bO N y0+(1:Int))+bO N y1)) []) (cO N quotient1 (0:Int) (aA.wrap (aA.wrap (bO N y0+(1:Int))+bO N y1)) [])) (cO N y0 (0:Int) (cU N quotient1 (0:Int) (aA.wrap (aA.wrap (bO N y0+(1:Int))+bO N y1)) []) (cO N quotient1 (0:Int) (aA.wrap (aA.wrap (bO N y0+(1:Int))+bO N y1)) []))) 1 λy4=>
 gn y4 ((bO N y1).toNat) λ_=>
 ck (CC N y0)<|
 ck (CC N quotient1)<|
 ck (dX (nI N y0).length none (some (aA.wrap (aA.wrap (bO N y0-(↑(nI N quotient1).length:Int))+(1:Int)))))<|
 ck (CB N (bW (nI N y0) none (some (aA.wrap (aA.wrap (bO N y0-(↑(nI N quotient1).length:Int))+(1:Int))))))<|
 in0 y1 (bO N y0) (nI N y0) (nI N quotient1) (Ik N (bW (nI N y0) none (some (aA.wrap (aA.wrap (bO N y0-(↑(nI N quotient1).length:Int))+(1:Int)))))) ((↑(nI N quotient1).length:Int)) 0 (CD N y1 (aA.wrap (bO N y0+(1:Int))) (cU N y0 (0:Int) (cU N quotient1 (0:Int) (aA.wrap (aA.wrap (bO N y0+(1:Int))+bO N y1)) []) (cO N quotient1 (0:Int) (aA.wrap (aA.wrap (bO N y0+(1:Int))+bO N y1)) [])) (cO N y0 (0:Int) (cU N quotient1 (0:Int) (aA.wrap (aA.wrap (bO N y0+(1:Int))+bO N y1)) []) (cO N quotient1 (0:Int) (aA.wrap (aA.wrap (bO N y0+(1:Int))+bO N y1)) []))) ((p8 N y1 (aA.wrap (bO N y0+(1:Int))) (cU N y0 (0:Int) (cU N quotient1 (0:Int) (aA.wrap (aA.wrap (bO N y0+(1:Int))+bO N y1)) []) (cO N quotient1 (0:Int) (aA.wrap (aA.wrap (bO N y0+(1:Int))+bO N y1)) [])) (cO N y0 (0:Int) (cU N quotient1 (0:Int) (aA.wrap (aA.wrap (bO N y0+(1:Int))+bO N y1)) []) (cO N quotient1 (0:Int) (aA.wrap (aA.wrap (bO N y0+(1:Int))+bO N y1)) []))).set (1:Nat) (y4.set (bO N y1).toNat (63:UInt8)))
  (λ_ z14=>
   some (Ey z14))
def w44[aB] N s0_0 s0_1 quotient1:=RR N (aAo N) s0_0 s0_1 quotient1
def aAq[aB](N:Nat):Hint:=(.seq .d (.seq .d (.seq .d (.seq .d (.seq (.fT [] [.BB 9 0 (.nest 42 5 .u8 [])] []) (.seq .d (.seq .d (.seq .d (.seq .d (.seq .d (.seq (.seq .d (.block (.sub aAp _ _ _ Kf (aN 1) (aN 2) (aP AL Kd (vH N N))))) .d)))))))))))
theorem aPf N (hc:aK (sO N)):bH (sO N) Tryd.f44.ntmps (aAq N) RQ:=bS _ _ (aF trivial (aF trivial (aF trivial (aF trivial (aF trivial (aF trivial (aF trivial (aF trivial (aF trivial (aF trivial (aF (aF trivial (aPo N hc)) trivial)))))))))))
theorem aPd[aB] N s0_0 s0_1 quotient1:RR N (aAn N) s0_0 s0_1 quotient1=exec (sO N) Tryd.f44.ntmps (aAq N) RQ ⟨cA 0 [.agg [.e (.i .i64) s0_0,.e (.sl (.i .i64)) s0_1],.e (.i .i64) quotient1],[],100⟩ (cD (sO N) Tryd.f44 false):=by kernel_rfl
def Ew(r:aM):Option ((List aE)):=match r with
 |(x0,[])=>(match ue (.sl (.sl .u8)) x0 with|some a0=>some a0|_=>none)
 |_=>none
theorem aPa{r d}(h:Ew r=some d):r=Ey (d):=by
 unfold Ew at h;split at h
 .split at h
  .rename_i h0;cases h;rw[bG h0];rfl
  .cases h
 .cases h
def vG N s0_0 s0_1 quotient1:=(w44 N s0_0 s0_1 quotient1).bind Ew
theorem aPg{N}(hc:aK (sO N)){s0_0 s0_1 quotient1 d}(hd:vG N s0_0 s0_1 quotient1=some d):cI Tryd.prog 44 [.agg [.e (.i .i64) s0_0,.e (.sl (.i .i64)) s0_1],.e (.i .i64) quotient1] [] (Ey (d)):=
 cJ hc (by kernel_rfl) (by kernel_rfl) (aPf N hc) (by kernel_rfl) aPa (λhr=>(aPd N s0_0 s0_1 quotient1).symm.trans (by rw[aPh N];exact hr)) hd
def Ke N s0_0 s0_1 quotient1:=(vG N s0_0 s0_1 quotient1).isSome
def Kc N s0_0 s0_1 quotient1:=((vG N s0_0 s0_1 quotient1).getD [])
def aAr(N:Nat):bR:=E2 (.pr (.i .i64) (.sl (.i .i64))) (.i .i64) (λx0 x1=>(Ke N x0.1 x0.2 x1,Ey (Kc N x0.1 x0.2 x1)))
theorem aPe N:aX Tryd.prog 44 (aAr N):=aX.e2 (λx0 x1 h=>cS (z:=vG N x0.1 x0.2 x1) h (aPg (aPi N)) rfl)
def sS(a0:(List aE))(a1:Int):aM:=(.aU [.e (.sl (.sl .u8)) a0,.e (.i .i64) a1],[])
def F3(N:Nat):Cx:=⟨Tryd.prog,99999,[(13,aD8 N),(42,aBM N),(43,aBB N),(44,aAr N)],[]⟩
def aCt:Code:=Tryd.f21.body.getD .skip
theorem aTZ N:aK (F3 N):=cH (by kernel_rfl) (.cons (by kernel_rfl) (aUu N) (.cons (by kernel_rfl) (aQW N) (.cons (by kernel_rfl) (aPz N) (.cons (by kernel_rfl) (aPe N) .nil)))) .nil
def SL[aB](N:Nat)(s0_0:Int)(s0_1:(List Int)):O:=
 ck (MT N s0_0 s0_1)<|
 br (decide (Fb N s0_0 s0_1≠(0:Int)))
  (some (sS [] (Fb N s0_0 s0_1)))
  (ck true <|
  ck true <|
  ck true <|
  ck true <|
  br (decide (3=s0_0))
   (gx (wD N s0_0 s0_1) 0 λy0=>
   ck (FA N s0_0 s0_1 y0)<|
   some (sS (Ez N s0_0 s0_1 y0) 0))
   (br (decide (4=s0_0))
    (gx (wD N s0_0 s0_1) 0 λy1=>
    ck (FA N s0_0 s0_1 y1)<|
    some (sS (Ez N s0_0 s0_1 y1) 0))
    (br (decide (5=s0_0))
     (gx (wD N s0_0 s0_1) 0 λy2=>
     ck (Kk N s0_0 s0_1 y2)<|
     some (sS (Kh N s0_0 s0_1 y2) 0))
     (br (decide (6=s0_0))
      (gx (wD N s0_0 s0_1) 0 λy3=>
      ck (Ke N s0_0 s0_1 y3)<|
      some (sS (Kc N s0_0 s0_1 y3) 0))
      (gx (wD N s0_0 s0_1) 0 λ_=>
      none)))))
def w21[aB] N s0_0 s0_1:=SL N s0_0 s0_1
def aCs[aB](_:Nat):Hint:=.d
theorem aTX N:bH (F3 N) Tryd.f21.ntmps (aCs N) aCt:=bS _ _ trivial
theorem aTW[aB] N s0_0 s0_1:SL N s0_0 s0_1=exec (F3 N) Tryd.f21.ntmps (aCs N) aCt ⟨cA 0 [.agg [.e (.i .i64) s0_0,.e (.sl (.i .i64)) s0_1]],[],100⟩ (cD (F3 N) Tryd.f21 false):=by kernel_rfl
def Lq(r:aM):Option ((List aE)×Int):=match r with
 |(.aU [x0,x1],[])=>(match ue (.sl (.sl .u8)) x0,ue (.i .i64) x1 with|some a0,some a1=>some (a0,a1)|_,_=>none)
 |_=>none
theorem aTV{r d}(h:Lq r=some d):r=sS d.1 d.2:=by
 unfold Lq at h;split at h
 .split at h
  .rename_i h0 h1;cases h;rw[bG h0,bG h1];rfl
  .cases h
 .cases h
def qL N s0_0 s0_1:=(w21 N s0_0 s0_1).bind Lq
theorem aTY{N}(hc:aK (F3 N)){s0_0 s0_1 d}(hd:qL N s0_0 s0_1=some d):cI Tryd.prog 21 [.agg [.e (.i .i64) s0_0,.e (.sl (.i .i64)) s0_1]] [] (sS d.1 d.2):=
 cJ hc (by kernel_rfl) (by kernel_rfl) (aTX N) (by kernel_rfl) aTV (aTW N s0_0 s0_1).symm.trans hd
def Ad N s0_0 s0_1:=(qL N s0_0 s0_1).isSome
def jM N s0_0 s0_1:=((qL N s0_0 s0_1).getD ([],0)).1
def nS N s0_0 s0_1:=((qL N s0_0 s0_1).getD ([],0)).2
def SK(N:Nat):bR:=E1 (.pr (.i .i64) (.sl (.i .i64))) (λx0=>(Ad N x0.1 x0.2,sS (jM N x0.1 x0.2) (nS N x0.1 x0.2)))
theorem aCr N:aX Tryd.prog 21 (SK N):=aX.e1 (λx0 h=>cS (z:=qL N x0.1 x0.2) h (aTY (aTZ N)) rfl)
def qH(a0:UInt8):aM:=(.e .u8 a0,[])
def FP(_:Nat):Cx:=⟨Tryd.prog,99999,[],[]⟩
def aCC:Code:=Tryd.f31.body.getD .skip
theorem aRx N:aK (FP N):=cH (by kernel_rfl) .nil .nil
def aCD[aB](_:Nat)(c0:UInt8):O:=
 br (decide (48<=c0)&&decide (c0<=57))
  (gx [(26:UInt8),(1:UInt8),(3:UInt8),(9:UInt8),(25:UInt8),(17:UInt8),(11:UInt8),(27:UInt8),(19:UInt8),(10:UInt8)] ((↑(c0-(48:UInt8)).toNat:Int)) λy0=>
  some (qH y0))
  (br (decide (c0=43))
   (some (qH 44))
   (br (decide (c0=45))
    (some (qH 36))
    (br (decide (c0=42))
     (some (qH 33))
     (br (decide (c0=61))
      (some (qH 18))
      (br (decide (c0=91))
       (some (qH 63))
       (some (qH 0)))))))
def w31[aB] N c0:=aCD N c0
def aCB[aB](_:Nat):Hint:=.d
theorem aRv N:bH (FP N) Tryd.f31.ntmps (aCB N) aCC:=bS _ _ trivial
theorem aRu[aB] N c0:aCD N c0=exec (FP N) Tryd.f31.ntmps (aCB N) aCC ⟨cA 0 [.e .u8 c0],[],100⟩ (cD (FP N) Tryd.f31 false):=by kernel_rfl
def Rk(r:aM):Option (UInt8):=match r with
 |(x0,[])=>(match ue .u8 x0 with|some a0=>some a0|_=>none)
 |_=>none
theorem aRt{r d}(h:Rk r=some d):r=qH (d):=by
 unfold Rk at h;split at h
 .split at h
  .rename_i h0;cases h;rw[bG h0];rfl
  .cases h
 .cases h
def vR N c0:=(w31 N c0).bind Rk
theorem aRw{N}(hc:aK (FP N)){c0 d}(hd:vR N c0=some d):cI Tryd.prog 31 [.e .u8 c0] [] (qH (d)):=
 cJ hc (by kernel_rfl) (by kernel_rfl) (aRv N) (by kernel_rfl) aRt (aRu N c0).symm.trans hd
def qI N c0:=(vR N c0).isSome
def dZ N c0:=((vR N c0).getD 0)
def FO(N:Nat):bR:=E1 .u8 (λx0=>(qI N x0,qH (dZ N x0)))
theorem LW N:aX Tryd.prog 31 (FO N):=aX.e1 (λx0 h=>cS (z:=vR N x0) h (aRw (aRx N)) rfl)
def Ev(a0:(List aE)):aM:=(.e (.sl (.sl .u8)) a0,[])
def lL(N:Nat):Cx:=⟨Tryd.prog,99999,[(31,FO N)],[]⟩
def K7:Code:=Tryd.f45.body.getD .skip
theorem aP5 N:aK (lL N):=cH (by kernel_rfl) (.cons (by kernel_rfl) (LW N) .nil) .nil
def Kb[aB](N:Nat)(self:Int->aE->O)(k0:(List aE)->Int->Int->(List aE)->Int->Bool->Int->Int->(List aE)->Int->aE->aE->Int->Bool->(List aE)->aE->O)(x87_0:(List aE))(x87_1 x87_2:Int)(x87_3:(List aE))(x87_4:Int)(x87_5:Bool)(x87_7:(List aE))(x87_6:Int)(x87_8:aE):O:=
 gx x87_0 x87_1 λy97=>
 br (decide (x87_6<(↑y97.length:Int)))
  (gx x87_0 x87_1 λy98=>
  gx y98 x87_6 λy99=>
  ck (qI N y99)<|
  ck (b9 (x87_8++[dZ N y99]).length (1:Nat))<|
  self (aA.wrap (x87_6+1)) (x87_8++[dZ N y99]))
  (k0 x87_0 x87_1 x87_2 x87_3 x87_4 x87_5 x87_6 x87_6 x87_0 x87_1 y97 y97 ((↑y97.length:Int)) (decide (x87_6<(↑y97.length:Int))) x87_7 x87_8)
def RN:Code:=cE [1,1,0,1,0,0,1,0,0,1,0,1,0,0] K7
def aAd:Nm:=⟨[0,2,3,4,7,8,9,10,5,6],[],[.mL 5 (.row 5 .u8 [] true)]⟩
def AK(x:(List aE)×Int×Int×(List aE)×Int×Bool×Int×(List aE)×aE):Sg:=⟨[(0,.e (.sl .tx) x.1),(2,.bI),(3,.own 0),(4,.e (.i .i64) x.2.1),(7,.e (.i .i64) x.2.2.1),(8,.e (.sl .tx) x.2.2.2.1),(9,.e (.i .i64) x.2.2.2.2.1),(10,.e .bo x.2.2.2.2.2.1),(5,.own 1),(6,.e (.i .i64) x.2.2.2.2.2.2.1)],[(0,.row 42 (.sl .u8) x.2.2.2.2.2.2.2.1 true),(1,.row 5 .u8 x.2.2.2.2.2.2.2.2 true)],100⟩
def K5(σ:Sg):(List aE)×Int×Int×(List aE)×Int×Bool×Int×(List aE)×aE:=(aC (.sl .tx) 0 0 σ,aC (.i .i64) 4 0 σ,aC (.i .i64) 7 0 σ,aC (.sl .tx) 8 0 σ,aC (.i .i64) 9 0 σ,aC .bo 10 0 σ,aC (.i .i64) 6 0 σ,c9 (.sl .u8) 0 σ,c9 .u8 1 σ)
theorem aPX:∀x,K5 (AK x)=x:=λ_=>by kernel_rfl
def K9(y:(List aE)×Int×Int×(List aE)×Int×Bool×Int×Int×(List aE)×Int×aE×aE×Int×Bool×(List aE)×aE):Exit×Sg:=((.exit 2),⟨[(0,.e (.sl .tx) y.1),(2,.bI),(3,.own 0),(4,.e (.i .i64) y.2.1),(7,.e (.i .i64) y.2.2.1),(8,.e (.sl .tx) y.2.2.2.1),(9,.e (.i .i64) y.2.2.2.2.1),(10,.e .bo y.2.2.2.2.2.1),(5,.own 1),(6,.e (.i .i64) y.2.2.2.2.2.2.1),(13,.e (.i .i64) y.2.2.2.2.2.2.2.1),(14,.e (.sl .tx) y.2.2.2.2.2.2.2.2.1),(15,.e (.i .i64) y.2.2.2.2.2.2.2.2.2.1),(16,.pt .tx y.2.2.2.2.2.2.2.2.2.2.1 0),(17,.e .tx y.2.2.2.2.2.2.2.2.2.2.2.1),(18,.e (.i .i64) y.2.2.2.2.2.2.2.2.2.2.2.2.1),(19,.e .bo y.2.2.2.2.2.2.2.2.2.2.2.2.2.1)],[(0,.row 42 (.sl .u8) y.2.2.2.2.2.2.2.2.2.2.2.2.2.2.1 true),(1,.row 5 .u8 y.2.2.2.2.2.2.2.2.2.2.2.2.2.2.2 true)],100⟩)
def aPU(_:Exit)(σ:Sg):(List aE)×Int×Int×(List aE)×Int×Bool×Int×Int×(List aE)×Int×aE×aE×Int×Bool×(List aE)×aE:=(aC (.sl .tx) 0 0 σ,aC (.i .i64) 4 0 σ,aC (.i .i64) 7 0 σ,aC (.sl .tx) 8 0 σ,aC (.i .i64) 9 0 σ,aC .bo 10 0 σ,aC (.i .i64) 6 0 σ,aC (.i .i64) 13 0 σ,aC (.sl .tx) 14 0 σ,aC (.i .i64) 15 0 σ,aC .tx 16 0 σ,aC .tx 17 0 σ,aC (.i .i64) 18 0 σ,aC .bo 19 0 σ,c9 (.sl .u8) 0 σ,c9 .u8 1 σ)
def aPS:List (Exit×Nm):=[((.exit 2),⟨[0,2,3,4,7,8,9,10,5,6,13,14,15,16,17,18,19],[],[]⟩)]
def AI[aB](N:Nat):Nat->((List aE)×Int×Int×(List aE)×Int×Bool×Int×(List aE)×aE)->(((List aE)×Int×Int×(List aE)×Int×Bool×Int×Int×(List aE)×Int×aE×aE×Int×Bool×(List aE)×aE)->O)->((Unit)->O)->((Unit)->O)->O
 |0,_,_,_,_=>none
 |n+1,x,k0,k1,k2=>Kb N (λv0 v1=>AI N n (x.1,x.2.1,x.2.2.1,x.2.2.2.1,x.2.2.2.2.1,x.2.2.2.2.2.1,v0,x.2.2.2.2.2.2.2.1,v1) k0 k1 k2) (λy0 y1 y2 y3 y4 y5 y6 y7 y8 y9 y10 y11 y12 y13 y14 y15=>k0 (y0,y1,y2,y3,y4,y5,y6,y7,y8,y9,y10,y11,y12,y13,y14,y15)) x.1 x.2.1 x.2.2.1 x.2.2.2.1 x.2.2.2.2.1 x.2.2.2.2.2.1 x.2.2.2.2.2.2.2.1 x.2.2.2.2.2.2.1 x.2.2.2.2.2.2.2.2
def RL[aB] N a0 a1 a2 a3 a4 a5 a6 a7 a8 (k0:(List aE)->Int->Int->(List aE)->Int->Bool->Int->Int->(List aE)->Int->aE->aE->Int->Bool->(List aE)->aE->O):=AI N N (a0,a1,a2,a3,a4,a5,a6,a7,a8) (λy=>k0 y.1 y.2.1 y.2.2.1 y.2.2.2.1 y.2.2.2.2.1 y.2.2.2.2.2.1 y.2.2.2.2.2.2.1 y.2.2.2.2.2.2.2.1 y.2.2.2.2.2.2.2.2.1 y.2.2.2.2.2.2.2.2.2.1 y.2.2.2.2.2.2.2.2.2.2.1 y.2.2.2.2.2.2.2.2.2.2.2.1 y.2.2.2.2.2.2.2.2.2.2.2.2.1 y.2.2.2.2.2.2.2.2.2.2.2.2.2.1 y.2.2.2.2.2.2.2.2.2.2.2.2.2.2.1 y.2.2.2.2.2.2.2.2.2.2.2.2.2.2.2) (λ_=>none) (λ_=>none)
def RJ[aB] N a0 a1 a2 a3 a4 a5 a6 a7 a8 (k0:(List aE)->Int->Int->(List aE)->Int->Bool->Int->Int->(List aE)->Int->aE->aE->Int->Bool->(List aE)->aE->O):=aP AK K5 (AI N N) (AK (a0,a1,a2,a3,a4,a5,a6,a7,a8)) (λy=>k0 y.1 y.2.1 y.2.2.1 y.2.2.2.1 y.2.2.2.2.1 y.2.2.2.2.2.1 y.2.2.2.2.2.2.1 y.2.2.2.2.2.2.2.1 y.2.2.2.2.2.2.2.2.1 y.2.2.2.2.2.2.2.2.2.1 y.2.2.2.2.2.2.2.2.2.2.1 y.2.2.2.2.2.2.2.2.2.2.2.1 y.2.2.2.2.2.2.2.2.2.2.2.2.1 y.2.2.2.2.2.2.2.2.2.2.2.2.2.1 y.2.2.2.2.2.2.2.2.2.2.2.2.2.2.1 y.2.2.2.2.2.2.2.2.2.2.2.2.2.2.2) (λ_=>none) (λ_=>none)
theorem aAg[aB] N:RJ N=RL N:=funext λ_=>funext λ_=>funext λ_=>funext λ_=>funext λ_=>funext λ_=>funext λ_=>funext λ_=>funext λ_=>funext λ_=>cL aPX _ _ _ _
theorem aPZ[aB](N:Nat)(self:Sg->O)(K:Exit->Sg->O)(x:(List aE)×Int×Int×(List aE)×Int×Bool×Int×(List aE)×aE):Kb N (λv0 v1=>self (AK (x.1,x.2.1,x.2.2.1,x.2.2.2.1,x.2.2.2.2.1,x.2.2.2.2.2.1,v0,x.2.2.2.2.2.2.2.1,v1))) (λy0 y1 y2 y3 y4 y5 y6 y7 y8 y9 y10 y11 y12 y13 y14 y15=>K (K9 (y0,y1,y2,y3,y4,y5,y6,y7,y8,y9,y10,y11,y12,y13,y14,y15)).1 (K9 (y0,y1,y2,y3,y4,y5,y6,y7,y8,y9,y10,y11,y12,y13,y14,y15)).2) x.1 x.2.1 x.2.2.1 x.2.2.2.1 x.2.2.2.2.1 x.2.2.2.2.2.1 x.2.2.2.2.2.2.2.1 x.2.2.2.2.2.2.1 x.2.2.2.2.2.2.2.2=exec (lL N) Tryd.f45.ntmps .d RN (AK x) (cZ aAd aPS self K):=by kernel_rfl
theorem aP7 N (hc:aK (lL N)):cF (lL N) Tryd.f45.ntmps (.loop RN) K9 (aN 1) (aN 2) (aP AK K5 (AI N N)):=
 dD hc (cX RN) (eC aPU (.exit 2) (λ_=>by kernel_rfl) (λ_=>rfl) (by kernel_rfl)) (n:=N) (λx K=>dE (AI N) (λ_ _ _ _=>rfl) (λn K ih x=>by
  refine dK ?_ (aPZ N _ K x);simp only[<-ih];rfl) N x K)
def Ka[aB](_:Nat)(in0:(List aE)->Int->Int->(List aE)->Int->Bool->Int->(List aE)->aE->((List aE)->Int->Int->(List aE)->Int->Bool->Int->Int->(List aE)->Int->aE->aE->Int->Bool->(List aE)->aE->O)->O)(self:(List aE)->Int->(List aE)->O)(k0:(List aE)->O)(x0_0:(List aE))(x0_1:Int)(x0_2:(List aE)):O:=
 br (decide (x0_1<(↑x0_0.length:Int)))
  (in0 x0_0 x0_1 x0_1 x0_0 ((↑x0_0.length:Int)) (decide (x0_1<(↑x0_0.length:Int))) 0 x0_2 []
   (λz100 z101 _ _ _ _ _ _ _ _ _ _ _ _ z114 z115=>
    ck (b9 (z114++[z115]).length (24:Nat))<|
    self z100 (aA.wrap (z101+1)) (z114++[z115])))
  (k0 x0_2)
def RM:Code:=cE [1,1,0,1,0,0] K7
def aAc:Nm:=⟨[0,2,3,4],[],[.mL 3 (.row 42 (.sl .u8) [] true)]⟩
def AJ(x:(List aE)×Int×(List aE)):Sg:=⟨[(0,.e (.sl .tx) x.1),(2,.bI),(3,.own 0),(4,.e (.i .i64) x.2.1)],[(0,.row 42 (.sl .u8) x.2.2 true)],100⟩
def K4(σ:Sg):(List aE)×Int×(List aE):=(aC (.sl .tx) 0 0 σ,aC (.i .i64) 4 0 σ,c9 (.sl .u8) 0 σ)
theorem aPW:∀x,K4 (AJ x)=x:=λ_=>by kernel_rfl
def K8(y:(List aE)):Exit×Sg:=((.exit 0),⟨[(2,.bI),(3,.own 0)],[(0,.row 42 (.sl .u8) y true)],100⟩)
def aPT(_:Exit)(σ:Sg):(List aE):=c9 (.sl .u8) 0 σ
def aPR:List (Exit×Nm):=[((.exit 0),⟨[2,3],[],[]⟩)]
def AH[aB](N:Nat):Nat->((List aE)×Int×(List aE))->(((List aE))->O)->((Unit)->O)->((Unit)->O)->O
 |0,_,_,_,_=>none
 |n+1,x,k0,k1,k2=>Ka N (RL N) (λv0 v1 v2=>AH N n (v0,v1,v2) k0 k1 k2) (λy0=>k0 y0) x.1 x.2.1 x.2.2
def aAb[aB] N a0 a1 a2 (k0:(List aE)->O):=AH N N (a0,a1,a2) (λy=>k0 y) (λ_=>none) (λ_=>none)
def aAa[aB] N a0 a1 a2 (k0:(List aE)->O):=aP AJ K4 (AH N N) (AJ (a0,a1,a2)) (λy=>k0 y) (λ_=>none) (λ_=>none)
theorem aP4[aB] N:aAa N=aAb N:=funext λ_=>funext λ_=>funext λ_=>funext λ_=>cL aPW _ _ _ _
def aAe[aB](N:Nat):Hint:=(.seq .d (.seq (.block (.seq .d (.seq (.seq .d (.block (.sub aAd _ _ _ K9 (aN 1) (aN 2) (aP AK K5 (AI N N))))) .d))) .d))
theorem aP1 N (hc:aK (lL N)):bH (lL N) Tryd.f45.ntmps (aAe N) RM:=bS _ _ (aF trivial (aF (aF trivial (aF (aF trivial (aP7 N hc)) trivial)) trivial))
theorem aPY[aB](N:Nat)(self:Sg->O)(K:Exit->Sg->O)(x:(List aE)×Int×(List aE)):Ka N (RJ N) (λv0 v1 v2=>self (AJ (v0,v1,v2))) (λy0=>K (K8 y0).1 (K8 y0).2) x.1 x.2.1 x.2.2=exec (lL N) Tryd.f45.ntmps (aAe N) RM (AJ x) (cZ aAc aPR self K):=by kernel_rfl
theorem aP6 N (hc:aK (lL N)):cF (lL N) Tryd.f45.ntmps (.loop RM) K8 (aN 1) (aN 2) (aP AJ K4 (AH N N)):=
 dD hc (aP1 N hc) (eC aPT (.exit 0) (λ_=>by kernel_rfl) (λ_=>rfl) (by kernel_rfl)) (n:=N) (λx K=>dE (AH N) (λ_ _ _ _=>rfl) (λn K ih x=>by
  refine dK ?_ (aPY N _ K x);simp only[aAg N,<-ih];rfl) N x K)
def RO[aB](_:Nat)(_in0:(List aE)->Int->Int->(List aE)->Int->Bool->Int->(List aE)->aE->((List aE)->Int->Int->(List aE)->Int->Bool->Int->Int->(List aE)->Int->aE->aE->Int->Bool->(List aE)->aE->O)->O)(in1:(List aE)->Int->(List aE)->((List aE)->O)->O)(lines0:(List aE)):O:=
 in1 lines0 0 []
  (λz116=>
   some (Ev z116))
def w45[aB] N lines0:=RO N (RL N) (aAb N) lines0
def aAf[aB](N:Nat):Hint:=(.seq .d (.seq .d (.seq (.seq .d (.block (.sub aAc _ _ _ K8 (aN 1) (aN 2) (aP AJ K4 (AH N N))))) .d)))
theorem aP2 N (hc:aK (lL N)):bH (lL N) Tryd.f45.ntmps (aAf N) K7:=bS _ _ (aF trivial (aF trivial (aF (aF trivial (aP6 N hc)) trivial)))
theorem aP0[aB] N lines0:RO N (RJ N) (aAa N) lines0=exec (lL N) Tryd.f45.ntmps (aAf N) K7 ⟨cA 0 [.e (.sl .tx) lines0],[],100⟩ (cD (lL N) Tryd.f45 false):=by kernel_rfl
def K3(r:aM):Option ((List aE)):=match r with
 |(x0,[])=>(match ue (.sl (.sl .u8)) x0 with|some a0=>some a0|_=>none)
 |_=>none
theorem aPV{r d}(h:K3 r=some d):r=Ev (d):=by
 unfold K3 at h;split at h
 .split at h
  .rename_i h0;cases h;rw[bG h0];rfl
  .cases h
 .cases h
def vE N lines0:=(w45 N lines0).bind K3
theorem aP3{N}(hc:aK (lL N)){lines0 d}(hd:vE N lines0=some d):cI Tryd.prog 45 [.e (.sl .tx) lines0] [] (Ev (d)):=
 cJ hc (by kernel_rfl) (by kernel_rfl) (aP2 N hc) (by kernel_rfl) aPV (λhr=>(aP0 N lines0).symm.trans (by rw[aAg N,aP4 N];exact hr)) hd
def CY N lines0:=(vE N lines0).isSome
def vF N lines0:=((vE N lines0).getD [])
def K6(N:Nat):bR:=E1 (.sl .tx) (λx0=>(CY N x0,Ev (vF N x0)))
theorem RK N:aX Tryd.prog 45 (K6 N):=aX.e1 (λx0 h=>cS (z:=vE N x0) h (aP3 (aP5 N)) rfl)
def CW(a0:Bool):aM:=(.e .bo a0,[])
def sN(_:Nat):Cx:=⟨Tryd.prog,99999,[],[]⟩
def RF:Code:=Tryd.f47.body.getD .skip
theorem aPJ N:aK (sN N):=cH (by kernel_rfl) .nil .nil
def aA2[aB](_:Nat)(self:Int->O)(k0:Bool->O)(k1:Bool->O)(x0_0 x0_1:aE)(x0_2:Bool)(x0_3:Int):O:=
 br (decide (x0_3<(↑x0_0.length:Int)))
  (gx x0_0 x0_3 λy5=>
  gx x0_1 x0_3 λy6=>
  br (decide (y5≠y6))
   (k0 false)
   (self (aA.wrap (x0_3+1))))
  (k1 x0_2)
def RE:Code:=cE [1,1,0,1,0,0] RF
def aAY:Nm:=⟨[0,1,4,5],[],[]⟩
def AF(x:aE×aE×Bool×Int):Sg:=⟨[(0,.e (.sl .u8) x.1),(1,.e (.sl .u8) x.2.1),(4,.e .bo x.2.2.1),(5,.e (.i .i64) x.2.2.2)],[],100⟩
def KZ(σ:Sg):aE×aE×Bool×Int:=(aC (.sl .u8) 0 0 σ,aC (.sl .u8) 1 0 σ,aC .bo 4 0 σ,aC (.i .i64) 5 0 σ)
theorem aPC:∀x,KZ (AF x)=x:=λ_=>by kernel_rfl
def K1(y:Bool):Exit×Sg:=(.ret,⟨[(4,.e .bo y)],[],100⟩)
def aPA(_:Exit)(σ:Sg):Bool:=aC .bo 4 0 σ
def K0(y:Bool):Exit×Sg:=((.exit 0),⟨[(4,.e .bo y)],[],100⟩)
def aOz(_:Exit)(σ:Sg):Bool:=aC .bo 4 0 σ
def aOy:List (Exit×Nm):=[(.ret,⟨[4],[],[]⟩),((.exit 0),⟨[4],[],[]⟩)]
def CX[aB](N:Nat):Nat->(aE×aE×Bool×Int)->((Bool)->O)->((Bool)->O)->((Unit)->O)->O
 |0,_,_,_,_=>none
 |n+1,x,k0,k1,k2=>aA2 N (λv0=>CX N n (x.1,x.2.1,x.2.2.1,v0) k0 k1 k2) (λy0=>k0 y0) (λy0=>k1 y0) x.1 x.2.1 x.2.2.1 x.2.2.2
def aAX[aB] N a0 a1 a2 a3 (k0:Bool->O) (k1:Bool->O):=CX N N (a0,a1,a2,a3) (λy=>k0 y) (λy=>k1 y) (λ_=>none)
def aAV[aB] N a0 a1 a2 a3 (k0:Bool->O) (k1:Bool->O):=aP AF KZ (CX N N) (AF (a0,a1,a2,a3)) (λy=>k0 y) (λy=>k1 y) (λ_=>none)
theorem aPI[aB] N:aAV N=aAX N:=funext λ_=>funext λ_=>funext λ_=>funext λ_=>funext λ_=>funext λ_=>cL aPC _ _ _ _
theorem aPD[aB](N:Nat)(self:Sg->O)(K:Exit->Sg->O)(x:aE×aE×Bool×Int):aA2 N (λv0=>self (AF (x.1,x.2.1,x.2.2.1,v0))) (λy0=>K (K1 y0).1 (K1 y0).2) (λy0=>K (K0 y0).1 (K0 y0).2) x.1 x.2.1 x.2.2.1 x.2.2.2=exec (sN N) Tryd.f47.ntmps .d RE (AF x) (cZ aAY aOy self K):=by kernel_rfl
theorem aPK N (hc:aK (sN N)):cF (sN N) Tryd.f47.ntmps (.loop RE) K1 K0 (aN 2) (aP AF KZ (CX N N)):=
 dD hc (cX RE) (jA aPA aOz .ret (.exit 0) (λ_=>by kernel_rfl) (λ_=>by kernel_rfl) (λ_=>rfl) (λ_=>rfl) (by kernel_rfl)) (n:=N) (λx K=>dE (CX N) (λ_ _ _ _=>rfl) (λn K ih x=>by
  refine dK ?_ (aPD N _ K x);simp only[<-ih];rfl) N x K)
def aA1[aB](_:Nat)(in0:aE->aE->Bool->Int->(Bool->O)->(Bool->O)->O)(a0 b1:aE):O:=
 br (decide ((↑a0.length:Int)≠(↑b1.length:Int)))
  (some (CW false))
  (in0 a0 b1 false 0
   (λz7=>
    some (CW z7))
   (λ_=>
    some (CW true)))
def w47[aB] N a0 b1:=aA1 N (aAX N) a0 b1
def aAZ[aB](N:Nat):Hint:=(.seq .d (.seq .d (.seq (.seq .d (.block (.sub aAY _ _ _ K1 K0 (aN 2) (aP AF KZ (CX N N))))) .d)))
theorem aPG N (hc:aK (sN N)):bH (sN N) Tryd.f47.ntmps (aAZ N) RF:=bS _ _ (aF trivial (aF trivial (aF (aF trivial (aPK N hc)) trivial)))
theorem aPE[aB] N a0 b1:aA1 N (aAV N) a0 b1=exec (sN N) Tryd.f47.ntmps (aAZ N) RF ⟨cA 0 [.e (.sl .u8) a0,.e (.sl .u8) b1],[],100⟩ (cD (sN N) Tryd.f47 false):=by kernel_rfl
def RD(r:aM):Option (Bool):=match r with
 |(x0,[])=>(match ue .bo x0 with|some a0=>some a0|_=>none)
 |_=>none
theorem aPB{r d}(h:RD r=some d):r=CW (d):=by
 unfold RD at h;split at h
 .split at h
  .rename_i h0;cases h;rw[bG h0];rfl
  .cases h
 .cases h
def KY N a0 b1:=(w47 N a0 b1).bind RD
theorem aPH{N}(hc:aK (sN N)){a0 b1 d}(hd:KY N a0 b1=some d):cI Tryd.prog 47 [.e (.sl .u8) a0,.e (.sl .u8) b1] [] (CW (d)):=
 cJ hc (by kernel_rfl) (by kernel_rfl) (aPG N hc) (by kernel_rfl) aPB (λhr=>(aPE N a0 b1).symm.trans (by rw[aPI N];exact hr)) hd
def aAW N a0 b1:=(KY N a0 b1).isSome
def aAU N a0 b1:=((KY N a0 b1).getD false)
def aA0(N:Nat):bR:=E2 (.sl .u8) (.sl .u8) (λx0 x1=>(aAW N x0 x1,CW (aAU N x0 x1)))
theorem aPF N:aX Tryd.prog 47 (aA0 N):=aX.e2 (λx0 x1 h=>cS (z:=KY N x0 x1) h (aPH (aPJ N)) rfl)
def Cc(a0:Bool):aM:=(.e .bo a0,[])
def sR(N:Nat):Cx:=⟨Tryd.prog,99999,[(47,aA0 N)],[]⟩
def SH:Code:=Tryd.f23.body.getD .skip
theorem aTK N:aK (sR N):=cH (by kernel_rfl) (.cons (by kernel_rfl) (aPF N) .nil) .nil
def aCl[aB](N:Nat)(self:Int->O)(k0:Bool->O)(k1:Bool->O)(x0_0 x0_1:(List aE))(x0_2:Bool)(x0_3:Int):O:=
 br (decide (x0_3<(↑x0_0.length:Int)))
  (gx x0_0 x0_3 λy5=>
  gx x0_1 x0_3 λy6=>
  ck (aAW N y5 y6)<|
  br (!aAU N y5 y6)
   (k0 false)
   (self (aA.wrap (x0_3+1))))
  (k1 x0_2)
def SG:Code:=cE [1,1,0,1,0,0] SH
def aCh:Nm:=⟨[0,1,4,5],[],[]⟩
def Aa(x:(List aE)×(List aE)×Bool×Int):Sg:=⟨[(0,.e (.sl (.sl .u8)) x.1),(1,.e (.sl (.sl .u8)) x.2.1),(4,.e .bo x.2.2.1),(5,.e (.i .i64) x.2.2.2)],[],100⟩
def Lm(σ:Sg):(List aE)×(List aE)×Bool×Int:=(aC (.sl (.sl .u8)) 0 0 σ,aC (.sl (.sl .u8)) 1 0 σ,aC .bo 4 0 σ,aC (.i .i64) 5 0 σ)
theorem aTD:∀x,Lm (Aa x)=x:=λ_=>by kernel_rfl
def Lo(y:Bool):Exit×Sg:=(.ret,⟨[(4,.e .bo y)],[],100⟩)
def aTB(_:Exit)(σ:Sg):Bool:=aC .bo 4 0 σ
def Ln(y:Bool):Exit×Sg:=((.exit 0),⟨[(4,.e .bo y)],[],100⟩)
def aTA(_:Exit)(σ:Sg):Bool:=aC .bo 4 0 σ
def aSz:List (Exit×Nm):=[(.ret,⟨[4],[],[]⟩),((.exit 0),⟨[4],[],[]⟩)]
def Cd[aB](N:Nat):Nat->((List aE)×(List aE)×Bool×Int)->((Bool)->O)->((Bool)->O)->((Unit)->O)->O
 |0,_,_,_,_=>none
 |n+1,x,k0,k1,k2=>aCl N (λv0=>Cd N n (x.1,x.2.1,x.2.2.1,v0) k0 k1 k2) (λy0=>k0 y0) (λy0=>k1 y0) x.1 x.2.1 x.2.2.1 x.2.2.2
def aCg[aB] N a0 a1 a2 a3 (k0:Bool->O) (k1:Bool->O):=Cd N N (a0,a1,a2,a3) (λy=>k0 y) (λy=>k1 y) (λ_=>none)
def aCe[aB] N a0 a1 a2 a3 (k0:Bool->O) (k1:Bool->O):=aP Aa Lm (Cd N N) (Aa (a0,a1,a2,a3)) (λy=>k0 y) (λy=>k1 y) (λ_=>none)
theorem aTJ[aB] N:aCe N=aCg N:=funext λ_=>funext λ_=>funext λ_=>funext λ_=>funext λ_=>funext λ_=>cL aTD _ _ _ _
theorem aTE[aB](N:Nat)(self:Sg->O)(K:Exit->Sg->O)(x:(List aE)×(List aE)×Bool×Int):aCl N (λv0=>self (Aa (x.1,x.2.1,x.2.2.1,v0))) (λy0=>K (Lo y0).1 (Lo y0).2) (λy0=>K (Ln y0).1 (Ln y0).2) x.1 x.2.1 x.2.2.1 x.2.2.2=exec (sR N) Tryd.f23.ntmps .d SG (Aa x) (cZ aCh aSz self K):=by kernel_rfl
theorem aTL N (hc:aK (sR N)):cF (sR N) Tryd.f23.ntmps (.loop SG) Lo Ln (aN 2) (aP Aa Lm (Cd N N)):=
 dD hc (cX SG) (jA aTB aTA .ret (.exit 0) (λ_=>by kernel_rfl) (λ_=>by kernel_rfl) (λ_=>rfl) (λ_=>rfl) (by kernel_rfl)) (n:=N) (λx K=>dE (Cd N) (λ_ _ _ _=>rfl) (λn K ih x=>by
  refine dK ?_ (aTE N _ K x);simp only[<-ih];rfl) N x K)
def aCk[aB](_:Nat)(in0:(List aE)->(List aE)->Bool->Int->(Bool->O)->(Bool->O)->O)(a0 b1:(List aE)):O:=
 br (decide ((↑a0.length:Int)≠(↑b1.length:Int)))
  (some (Cc false))
  (in0 a0 b1 false 0
   (λz7=>
    some (Cc z7))
   (λ_=>
    some (Cc true)))
def w23[aB] N a0 b1:=aCk N (aCg N) a0 b1
def aCi[aB](N:Nat):Hint:=(.seq .d (.seq .d (.seq (.seq .d (.block (.sub aCh _ _ _ Lo Ln (aN 2) (aP Aa Lm (Cd N N))))) .d)))
theorem aTH N (hc:aK (sR N)):bH (sR N) Tryd.f23.ntmps (aCi N) SH:=bS _ _ (aF trivial (aF trivial (aF (aF trivial (aTL N hc)) trivial)))
theorem aTF[aB] N a0 b1:aCk N (aCe N) a0 b1=exec (sR N) Tryd.f23.ntmps (aCi N) SH ⟨cA 0 [.e (.sl (.sl .u8)) a0,.e (.sl (.sl .u8)) b1],[],100⟩ (cD (sR N) Tryd.f23 false):=by kernel_rfl
def SF(r:aM):Option (Bool):=match r with
 |(x0,[])=>(match ue .bo x0 with|some a0=>some a0|_=>none)
 |_=>none
theorem aTC{r d}(h:SF r=some d):r=Cc (d):=by
 unfold SF at h;split at h
 .split at h
  .rename_i h0;cases h;rw[bG h0];rfl
  .cases h
 .cases h
def Ll N a0 b1:=(w23 N a0 b1).bind SF
theorem aTI{N}(hc:aK (sR N)){a0 b1 d}(hd:Ll N a0 b1=some d):cI Tryd.prog 23 [.e (.sl (.sl .u8)) a0,.e (.sl (.sl .u8)) b1] [] (Cc (d)):=
 cJ hc (by kernel_rfl) (by kernel_rfl) (aTH N hc) (by kernel_rfl) aTC (λhr=>(aTF N a0 b1).symm.trans (by rw[aTJ N];exact hr)) hd
def aCf N a0 b1:=(Ll N a0 b1).isSome
def aCd N a0 b1:=((Ll N a0 b1).getD false)
def aCj(N:Nat):bR:=E2 (.sl (.sl .u8)) (.sl (.sl .u8)) (λx0 x1=>(aCf N x0 x1,Cc (aCd N x0 x1)))
theorem aTG N:aX Tryd.prog 23 (aCj N):=aX.e2 (λx0 x1 h=>cS (z:=Ll N x0 x1) h (aTI (aTK N)) rfl)
def Ky(a0:Bool):aM:=(.e .bo a0,[])
def FB(N:Nat):Cx:=⟨Tryd.prog,99999,[(21,SK N),(45,K6 N),(23,aCj N)],[]⟩
def aBU:Code:=Tryd.f41.body.getD .skip
theorem aQb N:aK (FB N):=cH (by kernel_rfl) (.cons (by kernel_rfl) (aCr N) (.cons (by kernel_rfl) (RK N) (.cons (by kernel_rfl) (aTG N) .nil))) .nil
def aBV[aB](N:Nat)(op0 a1 b2:Int)(lines3:(List aE)):O:=
 ck (Ad N op0 [a1,b2])<|
 ck (!decide (nS N op0 [a1,b2]=(0:Int))||CY N lines3)<|
 ck (!decide (nS N op0 [a1,b2]=(0:Int))||aCf N (jM N op0 [a1,b2]) (vF N lines3))<|
 some (Ky (decide (nS N op0 [a1,b2]=(0:Int))&&aCd N (jM N op0 [a1,b2]) (vF N lines3)))
def w41[aB] N op0 a1 b2 lines3:=aBV N op0 a1 b2 lines3
def aBS[aB](_:Nat):Hint:=.d
theorem aQ9 N:bH (FB N) Tryd.f41.ntmps (aBS N) aBU:=bS _ _ trivial
theorem aQ7[aB] N op0 a1 b2 lines3:aBV N op0 a1 b2 lines3=exec (FB N) Tryd.f41.ntmps (aBS N) aBU ⟨cA 0 [.e (.i .i64) op0,.e (.i .i64) a1,.e (.i .i64) b2,.e (.sl .tx) lines3],[],100⟩ (cD (FB N) Tryd.f41 false):=by kernel_rfl
def R0(r:aM):Option (Bool):=match r with
 |(x0,[])=>(match ue .bo x0 with|some a0=>some a0|_=>none)
 |_=>none
theorem aQ6{r d}(h:R0 r=some d):r=Ky (d):=by
 unfold R0 at h;split at h
 .split at h
  .rename_i h0;cases h;rw[bG h0];rfl
  .cases h
 .cases h
def Kx N op0 a1 b2 lines3:=(w41 N op0 a1 b2 lines3).bind R0
theorem aQa{N}(hc:aK (FB N)){op0 a1 b2 lines3 d}(hd:Kx N op0 a1 b2 lines3=some d):cI Tryd.prog 41 [.e (.i .i64) op0,.e (.i .i64) a1,.e (.i .i64) b2,.e (.sl .tx) lines3] [] (Ky (d)):=
 cJ hc (by kernel_rfl) (by kernel_rfl) (aQ9 N) (by kernel_rfl) aQ6 (aQ7 N op0 a1 b2 lines3).symm.trans hd
def AU N op0 a1 b2 lines3:=(Kx N op0 a1 b2 lines3).isSome
def eT N op0 a1 b2 lines3:=((Kx N op0 a1 b2 lines3).getD false)
def aBT(N:Nat):bR:=E4 (.i .i64) (.i .i64) (.i .i64) (.sl .tx) (λx0 x1 x2 x3=>(AU N x0 x1 x2 x3,Ky (eT N x0 x1 x2 x3)))
theorem aQ8 N:aX Tryd.prog 41 (aBT N):=aX.e4 (λx0 x1 x2 x3 h=>cS (z:=Kx N x0 x1 x2 x3) h (aQa (aQb N)) rfl)
def SN(a0:Bool):aM:=(.e .bo a0,[])
def F5(N:Nat):Cx:=⟨Tryd.prog,99999,[(41,aBT N),(15,aDU N),(19,SO N)],[]⟩
def aCx:Code:=Tryd.f20.body.getD .skip
theorem aT8 N:aK (F5 N):=cH (by kernel_rfl) (.cons (by kernel_rfl) (aQ8 N) (.cons (by kernel_rfl) (aU2 N) (.cons (by kernel_rfl) (aDA N) .nil))) .nil
def aCy[aB](N:Nat):O:=
 ck (AU N (3:Int) (58:Int) (67:Int) [wQ,wP,wO,gZ,w3])<|
 br (eT N (3:Int) (58:Int) (67:Int) [wQ,wP,wO,gZ,w3])
  (ck (!eT N (3:Int) (58:Int) (67:Int) [wQ,wP,wO,gZ,w3]||AU N (4:Int) (52:Int) (17:Int) [DY,DX,DW,n7,DV])<|
  ck (AU N (5:Int) (23:Int) (14:Int) [wZ,wY,gZ,wX,wW,gZ,wV])<|
  br (eT N (5:Int) (23:Int) (14:Int) [wZ,wY,gZ,wX,wW,gZ,wV])
   (ck (!eT N (5:Int) (23:Int) (14:Int) [wZ,wY,gZ,wX,wW,gZ,wV]||AU N (5:Int) (7:Int) (8:Int) [DU,DT,n7,DS])<|
   ck (AU N (6:Int) (157:Int) (12:Int) [w5,w4,wU,wT,wS,wR])<|
   br (eT N (6:Int) (157:Int) (12:Int) [w5,w4,wU,wT,wS,wR])
    (ck (!eT N (6:Int) (157:Int) (12:Int) [w5,w4,wU,wT,wS,wR]||AU N (6:Int) (3:Int) (5:Int) [n6,DQ,n6,DP])<|
    ck (S8 N (3:Int) [(58:Int),(67:Int)])<|
    ck (S8 N (4:Int) [(52:Int),(17:Int)])<|
    br (eT N (3:Int) (58:Int) (67:Int) [wQ,wP,wO,gZ,w3]&&eT N (4:Int) (52:Int) (17:Int) [DY,DX,DW,n7,DV]&&(eT N (5:Int) (23:Int) (14:Int) [wZ,wY,gZ,wX,wW,gZ,wV]&&eT N (5:Int) (7:Int) (8:Int) [DU,DT,n7,DS])&&(eT N (6:Int) (157:Int) (12:Int) [w5,w4,wU,wT,wS,wR]&&eT N (6:Int) (3:Int) (5:Int) [n6,DQ,n6,DP])&&decide (oO N (3:Int) [(58:Int),(67:Int)]=(0:Int))&&decide (oO N (4:Int) [(52:Int),(17:Int)]=(0:Int)))
     (ck (!(eT N (3:Int) (58:Int) (67:Int) [wQ,wP,wO,gZ,w3]&&eT N (4:Int) (52:Int) (17:Int) [DY,DX,DW,n7,DV]&&(eT N (5:Int) (23:Int) (14:Int) [wZ,wY,gZ,wX,wW,gZ,wV]&&eT N (5:Int) (7:Int) (8:Int) [DU,DT,n7,DS])&&(eT N (6:Int) (157:Int) (12:Int) [w5,w4,wU,wT,wS,wR]&&eT N (6:Int) (3:Int) (5:Int) [n6,DQ,n6,DP])&&decide (oO N (3:Int) [(58:Int),(67:Int)]=(0:Int))&&decide (oO N (4:Int) [(52:Int),(17:Int)]=(0:Int)))||Cf N (Ai N (3:Int) [(58:Int),(67:Int)]) [(1:Int),(1:Int)])<|
     br (eT N (3:Int) (58:Int) (67:Int) [wQ,wP,wO,gZ,w3]&&eT N (4:Int) (52:Int) (17:Int) [DY,DX,DW,n7,DV]&&(eT N (5:Int) (23:Int) (14:Int) [wZ,wY,gZ,wX,wW,gZ,wV]&&eT N (5:Int) (7:Int) (8:Int) [DU,DT,n7,DS])&&(eT N (6:Int) (157:Int) (12:Int) [w5,w4,wU,wT,wS,wR]&&eT N (6:Int) (3:Int) (5:Int) [n6,DQ,n6,DP])&&decide (oO N (3:Int) [(58:Int),(67:Int)]=(0:Int))&&decide (oO N (4:Int) [(52:Int),(17:Int)]=(0:Int))&&v7 N (Ai N (3:Int) [(58:Int),(67:Int)]) [(1:Int),(1:Int)])
      (ck (!(eT N (3:Int) (58:Int) (67:Int) [wQ,wP,wO,gZ,w3]&&eT N (4:Int) (52:Int) (17:Int) [DY,DX,DW,n7,DV]&&(eT N (5:Int) (23:Int) (14:Int) [wZ,wY,gZ,wX,wW,gZ,wV]&&eT N (5:Int) (7:Int) (8:Int) [DU,DT,n7,DS])&&(eT N (6:Int) (157:Int) (12:Int) [w5,w4,wU,wT,wS,wR]&&eT N (6:Int) (3:Int) (5:Int) [n6,DQ,n6,DP])&&decide (oO N (3:Int) [(58:Int),(67:Int)]=(0:Int))&&decide (oO N (4:Int) [(52:Int),(17:Int)]=(0:Int))&&v7 N (Ai N (3:Int) [(58:Int),(67:Int)]) [(1:Int),(1:Int)])||Cf N (Ai N (4:Int) [(52:Int),(17:Int)]) [(1:Int),(0:Int)])<|
      some (SN (eT N (3:Int) (58:Int) (67:Int) [wQ,wP,wO,gZ,w3]&&eT N (4:Int) (52:Int) (17:Int) [DY,DX,DW,n7,DV]&&(eT N (5:Int) (23:Int) (14:Int) [wZ,wY,gZ,wX,wW,gZ,wV]&&eT N (5:Int) (7:Int) (8:Int) [DU,DT,n7,DS])&&(eT N (6:Int) (157:Int) (12:Int) [w5,w4,wU,wT,wS,wR]&&eT N (6:Int) (3:Int) (5:Int) [n6,DQ,n6,DP])&&decide (oO N (3:Int) [(58:Int),(67:Int)]=(0:Int))&&decide (oO N (4:Int) [(52:Int),(17:Int)]=(0:Int))&&v7 N (Ai N (3:Int) [(58:Int),(67:Int)]) [(1:Int),(1:Int)]&&v7 N (Ai N (4:Int) [(52:Int),(17:Int)]) [(1:Int),(0:Int)])))
      (none))
     (none))
    (none))
   (none))
  (none)
def w20[aB](N:Nat):O:=aCy N  
def aCw[aB](_:Nat):Hint:=.d
theorem aT6 N:bH (F5 N) Tryd.f20.ntmps (aCw N) aCx:=bS _ _ trivial
theorem aT5[aB] N:aCy N=exec (F5 N) Tryd.f20.ntmps (aCw N) aCx ⟨cA 0 [],[],100⟩ (cD (F5 N) Tryd.f20 false):=by kernel_rfl
def SM(r:aM):Option (Bool):=match r with
 |(x0,[])=>(match ue .bo x0 with|some a0=>some a0|_=>none)
 |_=>none
theorem aT4{r d}(h:SM r=some d):r=SN (d):=by
 unfold SM at h;split at h
 .split at h
  .rename_i h0;cases h;rw[bG h0];rfl
  .cases h
 .cases h
def aCv(N:Nat):Option (Bool):=(w20 N ).bind SM
theorem aT7{N}(hc:aK (F5 N)){d}(hd:aCv N=some d):cI Tryd.prog 20 [] [] (SN (d)):=
 cJ hc (by kernel_rfl) (by kernel_rfl) (aT6 N) (by kernel_rfl) aT4 (aT5 N).symm.trans hd
def EH(a0:aE):aM:=(.e .tx a0,[])
def rO(_:Nat):Cx:=⟨Tryd.prog,99999,[],[]⟩
def Ob:Code:=Tryd.f88.body.getD .skip
theorem aHh N:aK (rO N):=cH (by kernel_rfl) .nil .nil
def H5[aB](_:Nat)(self:Int->aE->O)(k0:aE->aE->O)(x0_0:UInt8)(x0_1:Int)(x0_2:aE)(x0_3:Int)(x0_4:aE):O:=
 br (decide (x0_3<x0_1))
  (ck (b9 (x0_4++[x0_0]).length (1:Nat))<|
  self (aA.wrap (x0_3+1)) (x0_4++[x0_0]))
  (k0 x0_2 x0_4)
def Oa:Code:=cE [1,1,0,1,0,0] Ob
def WE:Nm:=⟨[0,1,4,5,6],[],[.mL 5 (.row 5 .u8 [] true)]⟩
def yA(x:UInt8×Int×aE×Int×aE):Sg:=⟨[(0,.e .u8 x.1),(1,.e (.i .i64) x.2.1),(4,.e .tx x.2.2.1),(5,.own 0),(6,.e (.i .i64) x.2.2.2.1)],[(0,.row 5 .u8 x.2.2.2.2 true)],100⟩
def HY(σ:Sg):UInt8×Int×aE×Int×aE:=(aC .u8 0 0 σ,aC (.i .i64) 1 0 σ,aC .tx 4 0 σ,aC (.i .i64) 6 0 σ,c9 .u8 0 σ)
theorem aHb:∀x,HY (yA x)=x:=λ_=>by kernel_rfl
def H4(y:aE×aE):Exit×Sg:=((.exit 0),⟨[(4,.e .tx y.1),(5,.own 0)],[(0,.row 5 .u8 y.2 true)],100⟩)
def aH9(_:Exit)(σ:Sg):aE×aE:=(aC .tx 4 0 σ,c9 .u8 0 σ)
def aH8:List (Exit×Nm):=[((.exit 0),⟨[4,5],[],[]⟩)]
def xZ[aB](N:Nat):Nat->(UInt8×Int×aE×Int×aE)->((aE×aE)->O)->((Unit)->O)->((Unit)->O)->O
 |0,_,_,_,_=>none
 |n+1,x,k0,k1,k2=>H5 N (λv0 v1=>xZ N n (x.1,x.2.1,x.2.2.1,v0,v1) k0 k1 k2) (λy0 y1=>k0 (y0,y1)) x.1 x.2.1 x.2.2.1 x.2.2.2.1 x.2.2.2.2
def WD[aB] N a0 a1 a2 a3 a4 (k0:aE->aE->O):=xZ N N (a0,a1,a2,a3,a4) (λy=>k0 y.1 y.2) (λ_=>none) (λ_=>none)
def WC[aB] N a0 a1 a2 a3 a4 (k0:aE->aE->O):=aP yA HY (xZ N N) (yA (a0,a1,a2,a3,a4)) (λy=>k0 y.1 y.2) (λ_=>none) (λ_=>none)
theorem aHg[aB] N:WC N=WD N:=funext λ_=>funext λ_=>funext λ_=>funext λ_=>funext λ_=>funext λ_=>cL aHb _ _ _ _
theorem aHc[aB](N:Nat)(self:Sg->O)(K:Exit->Sg->O)(x:UInt8×Int×aE×Int×aE):H5 N (λv0 v1=>self (yA (x.1,x.2.1,x.2.2.1,v0,v1))) (λy0 y1=>K (H4 (y0,y1)).1 (H4 (y0,y1)).2) x.1 x.2.1 x.2.2.1 x.2.2.2.1 x.2.2.2.2=exec (rO N) Tryd.f88.ntmps .d Oa (yA x) (cZ WE aH8 self K):=by kernel_rfl
theorem aHi N (hc:aK (rO N)):cF (rO N) Tryd.f88.ntmps (.loop Oa) H4 (aN 1) (aN 2) (aP yA HY (xZ N N)):=
 dD hc (cX Oa) (eC aH9 (.exit 0) (λ_=>by kernel_rfl) (λ_=>rfl) (by kernel_rfl)) (n:=N) (λx K=>dE (xZ N) (λ_ _ _ _=>rfl) (λn K ih x=>by
  refine dK ?_ (aHc N _ K x);simp only[<-ih];rfl) N x K)
def Oc[aB](_:Nat)(in0:UInt8->Int->aE->Int->aE->(aE->aE->O)->O)(c0:UInt8)(n1:Int):O:=
 in0 c0 n1 [] 0 []
  (λ_ z2=>
   some (EH z2))
def WI[aB] N c0 n1:=Oc N (WD N) c0 n1
def WG[aB](N:Nat):Hint:=(.seq .d (.seq .d (.seq (.seq .d (.block (.sub WE _ _ _ H4 (aN 1) (aN 2) (aP yA HY (xZ N N))))) .d)))
theorem aHe N (hc:aK (rO N)):bH (rO N) Tryd.f88.ntmps (WG N) Ob:=bS _ _ (aF trivial (aF trivial (aF (aF trivial (aHi N hc)) trivial)))
theorem aHd[aB] N c0 n1:Oc N (WC N) c0 n1=exec (rO N) Tryd.f88.ntmps (WG N) Ob ⟨cA 0 [.e .u8 c0,.e (.i .i64) n1],[],100⟩ (cD (rO N) Tryd.f88 false):=by kernel_rfl
def HX(r:aM):Option (aE):=match r with
 |(x0,[])=>(match ue .tx x0 with|some a0=>some a0|_=>none)
 |_=>none
theorem aHa{r d}(h:HX r=some d):r=EH (d):=by
 unfold HX at h;split at h
 .split at h
  .rename_i h0;cases h;rw[bG h0];rfl
  .cases h
 .cases h
def uC N c0 n1:=(WI N c0 n1).bind HX
theorem aHf{N}(hc:aK (rO N)){c0 n1 d}(hd:uC N c0 n1=some d):cI Tryd.prog 88 [.e .u8 c0,.e (.i .i64) n1] [] (EH (d)):=
 cJ hc (by kernel_rfl) (by kernel_rfl) (aHe N hc) (by kernel_rfl) aHa (λhr=>(aHd N c0 n1).symm.trans (by rw[aHg N];exact hr)) hd
def uD N c0 n1:=(uC N c0 n1).isSome
def mA N c0 n1:=((uC N c0 n1).getD [])
def HZ(N:Nat):bR:=E2 .u8 (.i .i64) (λx0 x1=>(uD N x0 x1,EH (mA N x0 x1)))
theorem O9 N:aX Tryd.prog 88 (HZ N):=aX.e2 (λx0 x1 h=>cS (z:=uC N x0 x1) h (aHf (aHh N)) rfl)
def H7(a0:aE):aM:=(.e .tx a0,[])
def EL(N:Nat):Cx:=⟨Tryd.prog,99999,[(88,HZ N)],[]⟩
def WO:Code:=Tryd.f86.body.getD .skip
theorem aHs N:aK (EL N):=cH (by kernel_rfl) (.cons (by kernel_rfl) (O9 N) .nil) .nil
def Om[aB](N:Nat)(s0:aE)(width1 left2:Int):O:=
 ck (uD N (95:UInt8) (aA.wrap (aA.wrap (width1-left2)-(↑s0.length:Int))))<|
 ck (decide ((↑(mA N (95:UInt8) (aA.wrap (aA.wrap (width1-left2)-(↑s0.length:Int)))).length:Int)+(↑s0.length:Int)<=(9223372036854775807:Int)))<|
 ck (uD N (95:UInt8) left2)<|
 ck (decide ((↑(mA N (95:UInt8) (aA.wrap (aA.wrap (width1-left2)-(↑s0.length:Int)))++s0).length:Int)+(↑(mA N (95:UInt8) left2).length:Int)<=(9223372036854775807:Int)))<|
 some (H7 (mA N (95:UInt8) (aA.wrap (aA.wrap (width1-left2)-(↑s0.length:Int)))++s0++mA N (95:UInt8) left2))
def WQ[aB] N s0 width1 left2:=Om N s0 width1 left2
def WN[aB](_:Nat):Hint:=.d
theorem aHq N:bH (EL N) Tryd.f86.ntmps (WN N) WO:=bS _ _ trivial
theorem aHp[aB] N s0 width1 left2:Om N s0 width1 left2=exec (EL N) Tryd.f86.ntmps (WN N) WO ⟨cA 0 [.e .tx s0,.e (.i .i64) width1,.e (.i .i64) left2],[],100⟩ (cD (EL N) Tryd.f86 false):=by kernel_rfl
def Oj(r:aM):Option (aE):=match r with
 |(x0,[])=>(match ue .tx x0 with|some a0=>some a0|_=>none)
 |_=>none
theorem aHo{r d}(h:Oj r=some d):r=H7 (d):=by
 unfold Oj at h;split at h
 .split at h
  .rename_i h0;cases h;rw[bG h0];rfl
  .cases h
 .cases h
def uF N s0 width1 left2:=(WQ N s0 width1 left2).bind Oj
theorem aHr{N}(hc:aK (EL N)){s0 width1 left2 d}(hd:uF N s0 width1 left2=some d):cI Tryd.prog 86 [.e .tx s0,.e (.i .i64) width1,.e (.i .i64) left2] [] (H7 (d)):=
 cJ hc (by kernel_rfl) (by kernel_rfl) (aHq N) (by kernel_rfl) aHo (aHp N s0 width1 left2).symm.trans hd
def mB N s0 width1 left2:=(uF N s0 width1 left2).isSome
def gX N s0 width1 left2:=((uF N s0 width1 left2).getD [])
def H8(N:Nat):bR:=E3 .tx (.i .i64) (.i .i64) (λx0 x1 x2=>(mB N x0 x1 x2,H7 (gX N x0 x1 x2)))
theorem Ol N:aX Tryd.prog 86 (H8 N):=aX.e3 (λx0 x1 x2 h=>cS (z:=uF N x0 x1 x2) h (aHr (aHs N)) rfl)
def H6(a0:aE):aM:=(.e .tx a0,[])
def EK(_:Nat):Cx:=⟨Tryd.prog,99999,[],[]⟩
def WL:Code:=Tryd.f87.body.getD .skip
theorem aHn N:aK (EK N):=cH (by kernel_rfl) .nil .nil
def Oi[aB](_:Nat)(line0 sign1:aE):O:=
 ck (dX line0.length (some (min (1:Int) (↑line0.length:Int))) none)<|
 ck (decide ((↑sign1.length:Int)+(↑(bW line0 (some (min (1:Int) (↑line0.length:Int))) none).length:Int)<=(9223372036854775807:Int)))<|
 some (H6 (sign1++bW line0 (some (min (1:Int) (↑line0.length:Int))) none))
def WM[aB] N line0 sign1:=Oi N line0 sign1
def WK[aB](_:Nat):Hint:=.d
theorem aHl N:bH (EK N) Tryd.f87.ntmps (WK N) WL:=bS _ _ trivial
theorem aHk[aB] N line0 sign1:Oi N line0 sign1=exec (EK N) Tryd.f87.ntmps (WK N) WL ⟨cA 0 [.e .tx line0,.e .tx sign1],[],100⟩ (cD (EK N) Tryd.f87 false):=by kernel_rfl
def Od(r:aM):Option (aE):=match r with
 |(x0,[])=>(match ue .tx x0 with|some a0=>some a0|_=>none)
 |_=>none
theorem aHj{r d}(h:Od r=some d):r=H6 (d):=by
 unfold Od at h;split at h
 .split at h
  .rename_i h0;cases h;rw[bG h0];rfl
  .cases h
 .cases h
def uE N line0 sign1:=(WM N line0 sign1).bind Od
theorem aHm{N}(hc:aK (EK N)){line0 sign1 d}(hd:uE N line0 sign1=some d):cI Tryd.prog 87 [.e .tx line0,.e .tx sign1] [] (H6 (d)):=
 cJ hc (by kernel_rfl) (by kernel_rfl) (aHl N) (by kernel_rfl) aHj (aHk N line0 sign1).symm.trans hd
def Bd N line0 sign1:=(uE N line0 sign1).isSome
def yB N line0 sign1:=((uE N line0 sign1).getD [])
def Oe(N:Nat):bR:=E2 .tx .tx (λx0 x1=>(Bd N x0 x1,H6 (yB N x0 x1)))
theorem WJ N:aX Tryd.prog 87 (Oe N):=aX.e2 (λx0 x1 h=>cS (z:=uE N x0 x1) h (aHm (aHn N)) rfl)
def CA(a0:(List aE)):aM:=(.e (.sl .tx) a0,[])
def nH(N:Nat):Cx:=⟨Tryd.prog,99999,[(59,JH N),(60,JD N),(86,H8 N),(87,Oe N),(88,HZ N)],[]⟩
def If:Code:=Tryd.f69.body.getD .skip
theorem aKj N:aK (nH N):=cH (by kernel_rfl) (.cons (by kernel_rfl) (QO N) (.cons (by kernel_rfl) (QJ N) (.cons (by kernel_rfl) (Ol N) (.cons (by kernel_rfl) (WJ N) (.cons (by kernel_rfl) (O9 N) .nil))))) .nil
def Ij[aB](N:Nat)(self:Int->Int->O)(k0:Int->Int->Int->Int->O)(x0_0 x0_1:Int)(x0_2 x0_3 x0_4:Int):O:=
 br (decide (x0_4<x0_2))
  (ck (oM N x0_1 x0_4)<|
  ck (iB N (aA.wrap (x0_0*dP N x0_1 x0_4)))<|
  self (max x0_3 (aA.wrap ((↑(cV N (aA.wrap (x0_0*dP N x0_1 x0_4))).length:Int)+x0_4))) (aA.wrap (x0_4+1)))
  (k0 x0_0 x0_1 x0_2 x0_3)
def P8:Code:=cE [1,1,1,0,1,0,0] If
def YE:Nm:=⟨[0,1,4,5,6,7],[],[]⟩
def yW(x:Int×Int×Int×Int×Int):Sg:=⟨[(0,.e (.i .i64) x.1),(1,.e (.i .i64) x.2.1),(4,.bI),(5,.e (.i .i64) x.2.2.1),(6,.e (.i .i64) x.2.2.2.1),(7,.e (.i .i64) x.2.2.2.2)],[],100⟩
def Ic(σ:Sg):Int×Int×Int×Int×Int:=(aC (.i .i64) 0 0 σ,aC (.i .i64) 1 0 σ,aC (.i .i64) 5 0 σ,aC (.i .i64) 6 0 σ,aC (.i .i64) 7 0 σ)
theorem aKa:∀x,Ic (yW x)=x:=λ_=>by kernel_rfl
def Ih(y:Int×Int×Int×Int):Exit×Sg:=((.exit 0),⟨[(0,.e (.i .i64) y.1),(1,.e (.i .i64) y.2.1),(4,.bI),(5,.e (.i .i64) y.2.2.1),(6,.e (.i .i64) y.2.2.2)],[],100⟩)
def aK7(_:Exit)(σ:Sg):Int×Int×Int×Int:=(aC (.i .i64) 0 0 σ,aC (.i .i64) 1 0 σ,aC (.i .i64) 5 0 σ,aC (.i .i64) 6 0 σ)
def aK5:List (Exit×Nm):=[((.exit 0),⟨[0,1,4,5,6],[],[]⟩)]
def yU[aB](N:Nat):Nat->(Int×Int×Int×Int×Int)->((Int×Int×Int×Int)->O)->((Unit)->O)->((Unit)->O)->O
 |0,_,_,_,_=>none
 |n+1,x,k0,k1,k2=>Ij N (λv0 v1=>yU N n (x.1,x.2.1,x.2.2.1,v0,v1) k0 k1 k2) (λy0 y1 y2 y3=>k0 (y0,y1,y2,y3)) x.1 x.2.1 x.2.2.1 x.2.2.2.1 x.2.2.2.2
def YC[aB] N a0 a1 a2 a3 a4 (k0:Int->Int->Int->Int->O):=yU N N (a0,a1,a2,a3,a4) (λy=>k0 y.1 y.2.1 y.2.2.1 y.2.2.2) (λ_=>none) (λ_=>none)
def YA[aB] N a0 a1 a2 a3 a4 (k0:Int->Int->Int->Int->O):=aP yW Ic (yU N N) (yW (a0,a1,a2,a3,a4)) (λy=>k0 y.1 y.2.1 y.2.2.1 y.2.2.2) (λ_=>none) (λ_=>none)
theorem aKi[aB] N:YA N=YC N:=funext λ_=>funext λ_=>funext λ_=>funext λ_=>funext λ_=>funext λ_=>cL aKa _ _ _ _
theorem aKc[aB](N:Nat)(self:Sg->O)(K:Exit->Sg->O)(x:Int×Int×Int×Int×Int):Ij N (λv0 v1=>self (yW (x.1,x.2.1,x.2.2.1,v0,v1))) (λy0 y1 y2 y3=>K (Ih (y0,y1,y2,y3)).1 (Ih (y0,y1,y2,y3)).2) x.1 x.2.1 x.2.2.1 x.2.2.2.1 x.2.2.2.2=exec (nH N) Tryd.f69.ntmps .d P8 (yW x) (cZ YE aK5 self K):=by kernel_rfl
theorem aKp N (hc:aK (nH N)):cF (nH N) Tryd.f69.ntmps (.loop P8) Ih (aN 1) (aN 2) (aP yW Ic (yU N N)):=
 dD hc (cX P8) (eC aK7 (.exit 0) (λ_=>by kernel_rfl) (λ_=>rfl) (by kernel_rfl)) (n:=N) (λx K=>dE (yU N) (λ_ _ _ _=>rfl) (λn K ih x=>by
  refine dK ?_ (aKc N _ K x);simp only[<-ih];rfl) N x K)
def Ii[aB](N:Nat)(self:Int->(List aE)->O)(k0:Int->Int->Int->Int->(List aE)->O)(x5_0 x5_1:Int)(x5_2 x5_3 x5_4:Int)(x5_5:(List aE)):O:=
 br (decide (x5_4<x5_2))
  (ck (oM N x5_1 x5_4)<|
  ck (iB N (aA.wrap (x5_0*dP N x5_1 x5_4)))<|
  ck (mB N (cV N (aA.wrap (x5_0*dP N x5_1 x5_4))) x5_3 x5_4)<|
  ck (b9 (x5_5++[gX N (cV N (aA.wrap (x5_0*dP N x5_1 x5_4))) x5_3 x5_4]).length (16:Nat))<|
  self (aA.wrap (x5_4+1)) (x5_5++[gX N (cV N (aA.wrap (x5_0*dP N x5_1 x5_4))) x5_3 x5_4]))
  (k0 x5_0 x5_1 x5_2 x5_3 x5_5)
def P7:Code:=cE [1,1,1,1,1,1,0,1,0,0] If
def YD:Nm:=⟨[0,1,4,5,6,8,9],[],[]⟩
def yV(x:Int×Int×Int×Int×Int×(List aE)):Sg:=⟨[(0,.e (.i .i64) x.1),(1,.e (.i .i64) x.2.1),(4,.bI),(5,.e (.i .i64) x.2.2.1),(6,.e (.i .i64) x.2.2.2.1),(8,.own 0),(9,.e (.i .i64) x.2.2.2.2.1)],[(0,.row 9 .tx x.2.2.2.2.2 true)],100⟩
def Ib(σ:Sg):Int×Int×Int×Int×Int×(List aE):=(aC (.i .i64) 0 0 σ,aC (.i .i64) 1 0 σ,aC (.i .i64) 5 0 σ,aC (.i .i64) 6 0 σ,aC (.i .i64) 9 0 σ,c9 .tx 0 σ)
theorem aK9:∀x,Ib (yV x)=x:=λ_=>by kernel_rfl
def Ig(y:Int×Int×Int×Int×(List aE)):Exit×Sg:=((.exit 2),⟨[(0,.e (.i .i64) y.1),(1,.e (.i .i64) y.2.1),(4,.bI),(5,.e (.i .i64) y.2.2.1),(6,.e (.i .i64) y.2.2.2.1),(8,.own 0)],[(0,.row 9 .tx y.2.2.2.2 true)],100⟩)
def aK6(_:Exit)(σ:Sg):Int×Int×Int×Int×(List aE):=(aC (.i .i64) 0 0 σ,aC (.i .i64) 1 0 σ,aC (.i .i64) 5 0 σ,aC (.i .i64) 6 0 σ,c9 .tx 0 σ)
def aK4:List (Exit×Nm):=[((.exit 2),⟨[0,1,4,5,6,8],[],[]⟩)]
def uO[aB](N:Nat):Nat->(Int×Int×Int×Int×Int×(List aE))->((Int×Int×Int×Int×(List aE))->O)->((Unit)->O)->((Unit)->O)->O
 |0,_,_,_,_=>none
 |n+1,x,k0,k1,k2=>Ii N (λv0 v1=>uO N n (x.1,x.2.1,x.2.2.1,x.2.2.2.1,v0,v1) k0 k1 k2) (λy0 y1 y2 y3 y4=>k0 (y0,y1,y2,y3,y4)) x.1 x.2.1 x.2.2.1 x.2.2.2.1 x.2.2.2.2.1 x.2.2.2.2.2
def YB[aB] N a0 a1 a2 a3 a4 a5 (k0:Int->Int->Int->Int->(List aE)->O):=uO N N (a0,a1,a2,a3,a4,a5) (λy=>k0 y.1 y.2.1 y.2.2.1 y.2.2.2.1 y.2.2.2.2) (λ_=>none) (λ_=>none)
def Xz[aB] N a0 a1 a2 a3 a4 a5 (k0:Int->Int->Int->Int->(List aE)->O):=aP yV Ib (uO N N) (yV (a0,a1,a2,a3,a4,a5)) (λy=>k0 y.1 y.2.1 y.2.2.1 y.2.2.2.1 y.2.2.2.2) (λ_=>none) (λ_=>none)
theorem aKh[aB] N:Xz N=YB N:=funext λ_=>funext λ_=>funext λ_=>funext λ_=>funext λ_=>funext λ_=>funext λ_=>cL aK9 _ _ _ _
theorem aKb[aB](N:Nat)(self:Sg->O)(K:Exit->Sg->O)(x:Int×Int×Int×Int×Int×(List aE)):Ii N (λv0 v1=>self (yV (x.1,x.2.1,x.2.2.1,x.2.2.2.1,v0,v1))) (λy0 y1 y2 y3 y4=>K (Ig (y0,y1,y2,y3,y4)).1 (Ig (y0,y1,y2,y3,y4)).2) x.1 x.2.1 x.2.2.1 x.2.2.2.1 x.2.2.2.2.1 x.2.2.2.2.2=exec (nH N) Tryd.f69.ntmps .d P7 (yV x) (cZ YD aK4 self K):=by kernel_rfl
theorem aKo N (hc:aK (nH N)):cF (nH N) Tryd.f69.ntmps (.loop P7) Ig (aN 1) (aN 2) (aP yV Ib (uO N N)):=
 dD hc (cX P7) (eC aK6 (.exit 2) (λ_=>by kernel_rfl) (λ_=>rfl) (by kernel_rfl)) (n:=N) (λx K=>dE (uO N) (λ_ _ _ _=>rfl) (λn K ih x=>by
  refine dK ?_ (aKb N _ K x);simp only[<-ih];rfl) N x K)
def P9[aB](N:Nat)(in0:Int->Int->Int->Int->Int->(Int->Int->Int->Int->O)->O)(in1:Int->Int->Int->Int->Int->(List aE)->(Int->Int->Int->Int->(List aE)->O)->O)(a0 b1:Int):O:=
 ck (iB N b1)<|
 ck (iB N a0)<|
 ck (iB N (aA.wrap (a0*b1)))<|
 in0 a0 b1 ((↑(cV N b1).length:Int)) (max (max (↑(cV N a0).length:Int) (↑(cV N b1).length:Int)) (↑(cV N (aA.wrap (a0*b1))).length:Int)) 0
  (λz1 z2 z3 z4=>
   ck (iB N z1)<|
   ck (mB N (cV N z1) (aA.wrap (z4+1)) (0:Int))<|
   ck (iB N z2)<|
   ck (mB N (cV N z2) (aA.wrap (z4+1)) (0:Int))<|
   ck (Bd N (gX N (cV N z2) (aA.wrap (z4+1)) (0:Int)) [(42:UInt8)])<|
   ck (uD N (61:UInt8) (aA.wrap (z4+1)))<|
   in1 z1 z2 z3 (aA.wrap (z4+1)) 0 [gX N (cV N z1) (aA.wrap (z4+1)) (0:Int),yB N (gX N (cV N z2) (aA.wrap (z4+1)) (0:Int)) [(42:UInt8)],mA N (61:UInt8) (aA.wrap (z4+1))]
    (λz6 z7 z8 z9 z10=>
     br (decide (1<z8))
      (ck (uD N (61:UInt8) z9)<|
      ck (iB N (aA.wrap (z6*z7)))<|
      ck (mB N (cV N (aA.wrap (z6*z7))) z9 (0:Int))<|
      ck (b9 (z10++[mA N (61:UInt8) z9,gX N (cV N (aA.wrap (z6*z7))) z9 (0:Int)]).length (16:Nat))<|
      some (CA (z10++[mA N (61:UInt8) z9,gX N (cV N (aA.wrap (z6*z7))) z9 (0:Int)])))
      (some (CA z10))))
def YK[aB] N a0 b1:=P9 N (YC N) (YB N) a0 b1
def YF[aB](N:Nat):Hint:=(.seq .d (.seq .d (.seq .d (.seq (.seq .d (.block (.sub YE _ _ _ Ih (aN 1) (aN 2) (aP yW Ic (yU N N))))) (.seq .d (.seq .d (.seq (.seq .d (.block (.sub YD _ _ _ Ig (aN 1) (aN 2) (aP yV Ib (uO N N))))) .d)))))))
theorem aKf N (hc:aK (nH N)):bH (nH N) Tryd.f69.ntmps (YF N) If:=bS _ _ (aF trivial (aF trivial (aF trivial (aF (aF trivial (aKp N hc)) (aF trivial (aF trivial (aF (aF trivial (aKo N hc)) trivial)))))))
theorem aKd[aB] N a0 b1:P9 N (YA N) (Xz N) a0 b1=exec (nH N) Tryd.f69.ntmps (YF N) If ⟨cA 0 [.e (.i .i64) a0,.e (.i .i64) b1],[],100⟩ (cD (nH N) Tryd.f69 false):=by kernel_rfl
def Bz(r:aM):Option ((List aE)):=match r with
 |(x0,[])=>(match ue (.sl .tx) x0 with|some a0=>some a0|_=>none)
 |_=>none
theorem aK8{r d}(h:Bz r=some d):r=CA (d):=by
 unfold Bz at h;split at h
 .split at h
  .rename_i h0;cases h;rw[bG h0];rfl
  .cases h
 .cases h
def uN N a0 b1:=(YK N a0 b1).bind Bz
theorem aKg{N}(hc:aK (nH N)){a0 b1 d}(hd:uN N a0 b1=some d):cI Tryd.prog 69 [.e (.i .i64) a0,.e (.i .i64) b1] [] (CA (d)):=
 cJ hc (by kernel_rfl) (by kernel_rfl) (aKf N hc) (by kernel_rfl) aK8 (λhr=>(aKd N a0 b1).symm.trans (by rw[aKi N,aKh N];exact hr)) hd
def Ie N a0 b1:=(uN N a0 b1).isSome
def Ia N a0 b1:=((uN N a0 b1).getD [])
def YG(N:Nat):bR:=E2 (.i .i64) (.i .i64) (λx0 x1=>(Ie N x0 x1,CA (Ia N x0 x1)))
theorem aKe N:aX Tryd.prog 69 (YG N):=aX.e2 (λx0 x1 h=>cS (z:=uN N x0 x1) h (aKg (aKj N)) rfl)
def Bx(a0:(List aE)):aM:=(.e (.sl .tx) a0,[])
def r7(N:Nat):Cx:=⟨Tryd.prog,99999,[(59,JH N),(86,H8 N),(60,JD N)],[]⟩
def P5:Code:=Tryd.f70.body.getD .skip
theorem aKY N:aK (r7 N):=cH (by kernel_rfl) (.cons (by kernel_rfl) (QO N) (.cons (by kernel_rfl) (Ol N) (.cons (by kernel_rfl) (QJ N) .nil))) .nil
def By[aB](N:Nat)(self:Int->Int->(List aE)->O)(k0:(List aE)->O)(x0_0 x0_1 x0_2:Int)(x0_3:aE)(x0_4 x0_5:Int)(x0_6:(List aE)):O:=
 br (decide (0<=x0_5))
  (ck (oM N x0_0 x0_5)<|
  br (decide ((↑x0_3.length:Int)<=x0_5))
   (self (aA.wrap (aA.wrap ((10:Int)*x0_4)+dP N x0_0 x0_5)) (aA.wrap (x0_5-1)) x0_6)
   (ck (decide (x0_1≠0))<|
   ck (oM N (aA.wrap (x0_0.tdiv x0_1)) x0_5)<|
   ck (iB N (aA.wrap (x0_1*dP N (aA.wrap (x0_0.tdiv x0_1)) x0_5)))<|
   ck (mB N (cV N (aA.wrap (x0_1*dP N (aA.wrap (x0_0.tdiv x0_1)) x0_5))) x0_2 x0_5)<|
   ck (b9 (x0_6++[gX N (cV N (aA.wrap (x0_1*dP N (aA.wrap (x0_0.tdiv x0_1)) x0_5))) x0_2 x0_5]).length (16:Nat))<|
   br (decide (0<x0_5))
    (ck (oM N x0_0 (aA.wrap (x0_5-1)))<|
    ck (iB N (aA.wrap (aA.wrap ((10:Int)*aA.wrap (aA.wrap (aA.wrap ((10:Int)*x0_4)+dP N x0_0 x0_5)-aA.wrap (x0_1*dP N (aA.wrap (x0_0.tdiv x0_1)) x0_5)))+dP N x0_0 (aA.wrap (x0_5-1)))))<|
    ck (mB N (cV N (aA.wrap (aA.wrap ((10:Int)*aA.wrap (aA.wrap (aA.wrap ((10:Int)*x0_4)+dP N x0_0 x0_5)-aA.wrap (x0_1*dP N (aA.wrap (x0_0.tdiv x0_1)) x0_5)))+dP N x0_0 (aA.wrap (x0_5-1))))) x0_2 (aA.wrap (x0_5-1)))<|
    ck (b9 (x0_6++[gX N (cV N (aA.wrap (x0_1*dP N (aA.wrap (x0_0.tdiv x0_1)) x0_5))) x0_2 x0_5]++[gX N (cV N (aA.wrap (aA.wrap ((10:Int)*aA.wrap (aA.wrap (aA.wrap ((10:Int)*x0_4)+dP N x0_0 x0_5)-aA.wrap (x0_1*dP N (aA.wrap (x0_0.tdiv x0_1)) x0_5)))+dP N x0_0 (aA.wrap (x0_5-1))))) x0_2 (aA.wrap (x0_5-1))]).length (16:Nat))<|
    self (aA.wrap (aA.wrap (aA.wrap ((10:Int)*x0_4)+dP N x0_0 x0_5)-aA.wrap (x0_1*dP N (aA.wrap (x0_0.tdiv x0_1)) x0_5))) (aA.wrap (x0_5-1)) (x0_6++[gX N (cV N (aA.wrap (x0_1*dP N (aA.wrap (x0_0.tdiv x0_1)) x0_5))) x0_2 x0_5]++[gX N (cV N (aA.wrap (aA.wrap ((10:Int)*aA.wrap (aA.wrap (aA.wrap ((10:Int)*x0_4)+dP N x0_0 x0_5)-aA.wrap (x0_1*dP N (aA.wrap (x0_0.tdiv x0_1)) x0_5)))+dP N x0_0 (aA.wrap (x0_5-1))))) x0_2 (aA.wrap (x0_5-1))]))
    (ck (iB N (aA.wrap (aA.wrap (aA.wrap ((10:Int)*x0_4)+dP N x0_0 x0_5)-aA.wrap (x0_1*dP N (aA.wrap (x0_0.tdiv x0_1)) x0_5))))<|
    ck (mB N (cV N (aA.wrap (aA.wrap (aA.wrap ((10:Int)*x0_4)+dP N x0_0 x0_5)-aA.wrap (x0_1*dP N (aA.wrap (x0_0.tdiv x0_1)) x0_5)))) x0_2 (0:Int))<|
    ck (b9 (x0_6++[gX N (cV N (aA.wrap (x0_1*dP N (aA.wrap (x0_0.tdiv x0_1)) x0_5))) x0_2 x0_5]++[gX N (cV N (aA.wrap (aA.wrap (aA.wrap ((10:Int)*x0_4)+dP N x0_0 x0_5)-aA.wrap (x0_1*dP N (aA.wrap (x0_0.tdiv x0_1)) x0_5)))) x0_2 (0:Int)]).length (16:Nat))<|
    self (aA.wrap (aA.wrap (aA.wrap ((10:Int)*x0_4)+dP N x0_0 x0_5)-aA.wrap (x0_1*dP N (aA.wrap (x0_0.tdiv x0_1)) x0_5))) (aA.wrap (x0_5-1)) (x0_6++[gX N (cV N (aA.wrap (x0_1*dP N (aA.wrap (x0_0.tdiv x0_1)) x0_5))) x0_2 x0_5]++[gX N (cV N (aA.wrap (aA.wrap (aA.wrap ((10:Int)*x0_4)+dP N x0_0 x0_5)-aA.wrap (x0_1*dP N (aA.wrap (x0_0.tdiv x0_1)) x0_5)))) x0_2 (0:Int)]))))
  (k0 x0_6)
def P4:Code:=cE [1,1,1,1,1,1,0,1,0,0] P5
def Xu:Nm:=⟨[0,1,4,6,7,8,9,10],[],[]⟩
def yT(x:Int×Int×Int×aE×Int×Int×(List aE)):Sg:=⟨[(0,.e (.i .i64) x.1),(1,.e (.i .i64) x.2.1),(4,.bI),(6,.e (.i .i64) x.2.2.1),(7,.e .tx x.2.2.2.1),(8,.own 0),(9,.e (.i .i64) x.2.2.2.2.1),(10,.e (.i .i64) x.2.2.2.2.2.1)],[(0,.row 9 .tx x.2.2.2.2.2.2 true)],100⟩
def I7(σ:Sg):Int×Int×Int×aE×Int×Int×(List aE):=(aC (.i .i64) 0 0 σ,aC (.i .i64) 1 0 σ,aC (.i .i64) 6 0 σ,aC .tx 7 0 σ,aC (.i .i64) 9 0 σ,aC (.i .i64) 10 0 σ,c9 .tx 0 σ)
theorem aKR:∀x,I7 (yT x)=x:=λ_=>by kernel_rfl
def I9(y:(List aE)):Exit×Sg:=((.exit 0),⟨[(4,.bI),(8,.own 0)],[(0,.row 9 .tx y true)],100⟩)
def aKP(_:Exit)(σ:Sg):(List aE):=c9 .tx 0 σ
def aKO:List (Exit×Nm):=[((.exit 0),⟨[4,8],[],[]⟩)]
def yS[aB](N:Nat):Nat->(Int×Int×Int×aE×Int×Int×(List aE))->(((List aE))->O)->((Unit)->O)->((Unit)->O)->O
 |0,_,_,_,_=>none
 |n+1,x,k0,k1,k2=>By N (λv0 v1 v2=>yS N n (x.1,x.2.1,x.2.2.1,x.2.2.2.1,v0,v1,v2) k0 k1 k2) (λy0=>k0 y0) x.1 x.2.1 x.2.2.1 x.2.2.2.1 x.2.2.2.2.1 x.2.2.2.2.2.1 x.2.2.2.2.2.2
def Xt[aB] N a0 a1 a2 a3 a4 a5 a6 (k0:(List aE)->O):=yS N N (a0,a1,a2,a3,a4,a5,a6) (λy=>k0 y) (λ_=>none) (λ_=>none)
def Xs[aB] N a0 a1 a2 a3 a4 a5 a6 (k0:(List aE)->O):=aP yT I7 (yS N N) (yT (a0,a1,a2,a3,a4,a5,a6)) (λy=>k0 y) (λ_=>none) (λ_=>none)
theorem aKX[aB] N:Xs N=Xt N:=funext λ_=>funext λ_=>funext λ_=>funext λ_=>funext λ_=>funext λ_=>funext λ_=>funext λ_=>cL aKR _ _ _ _
theorem aKS[aB](N:Nat)(self:Sg->O)(K:Exit->Sg->O)(x:Int×Int×Int×aE×Int×Int×(List aE)):By N (λv0 v1 v2=>self (yT (x.1,x.2.1,x.2.2.1,x.2.2.2.1,v0,v1,v2))) (λy0=>K (I9 y0).1 (I9 y0).2) x.1 x.2.1 x.2.2.1 x.2.2.2.1 x.2.2.2.2.1 x.2.2.2.2.2.1 x.2.2.2.2.2.2=exec (r7 N) Tryd.f70.ntmps .d P4 (yT x) (cZ Xu aKO self K):=by kernel_rfl
theorem aK3 N (hc:aK (r7 N)):cF (r7 N) Tryd.f70.ntmps (.loop P4) I9 (aN 1) (aN 2) (aP yT I7 (yS N N)):=
 dD hc (cX P4) (eC aKP (.exit 0) (λ_=>by kernel_rfl) (λ_=>rfl) (by kernel_rfl)) (n:=N) (λx K=>dE (yS N) (λ_ _ _ _=>rfl) (λn K ih x=>by
  refine dK ?_ (aKS N _ K x);simp only[<-ih];rfl) N x K)
def P6[aB](N:Nat)(in0:Int->Int->Int->aE->Int->Int->(List aE)->((List aE)->O)->O)(a0 b1:Int):O:=
 ck (iB N a0)<|
 ck (iB N b1)<|
 ck (decide (b1≠0))<|
 ck (iB N (aA.wrap (a0.tdiv b1)))<|
 ck (mB N (cV N (aA.wrap (a0.tdiv b1))) (aA.wrap (aA.wrap ((↑(cV N b1).length:Int)+(1:Int))+(↑(cV N a0).length:Int))) (0:Int))<|
 ck (iB N b1)<|
 ck (decide ((↑(cV N b1).length:Int)+(1:Int)<=(9223372036854775807:Int)))<|
 ck (iB N a0)<|
 ck (decide ((↑(cV N b1++[(91:UInt8)]).length:Int)+(↑(cV N a0).length:Int)<=(9223372036854775807:Int)))<|
 in0 a0 b1 (aA.wrap (aA.wrap ((↑(cV N b1).length:Int)+(1:Int))+(↑(cV N a0).length:Int))) (cV N (aA.wrap (a0.tdiv b1))) 0 (aA.wrap ((↑(cV N a0).length:Int)-(1:Int))) ([gX N (cV N (aA.wrap (a0.tdiv b1))) (aA.wrap (aA.wrap ((↑(cV N b1).length:Int)+(1:Int))+(↑(cV N a0).length:Int))) (0:Int),cV N b1++[(91:UInt8)]++cV N a0])
  (λz1=>
   some (Bx z1))
def Xy[aB] N a0 b1:=P6 N (Xt N) a0 b1
def Xv[aB](N:Nat):Hint:=(.seq .d (.seq .d (.seq .d (.seq .d (.seq .d (.seq .d (.seq (.seq .d (.block (.sub Xu _ _ _ I9 (aN 1) (aN 2) (aP yT I7 (yS N N))))) .d)))))))
theorem aKV N (hc:aK (r7 N)):bH (r7 N) Tryd.f70.ntmps (Xv N) P5:=bS _ _ (aF trivial (aF trivial (aF trivial (aF trivial (aF trivial (aF trivial (aF (aF trivial (aK3 N hc)) trivial)))))))
theorem aKT[aB] N a0 b1:P6 N (Xs N) a0 b1=exec (r7 N) Tryd.f70.ntmps (Xv N) P5 ⟨cA 0 [.e (.i .i64) a0,.e (.i .i64) b1],[],100⟩ (cD (r7 N) Tryd.f70 false):=by kernel_rfl
def EZ(r:aM):Option ((List aE)):=match r with
 |(x0,[])=>(match ue (.sl .tx) x0 with|some a0=>some a0|_=>none)
 |_=>none
theorem aKQ{r d}(h:EZ r=some d):r=Bx (d):=by
 unfold EZ at h;split at h
 .split at h
  .rename_i h0;cases h;rw[bG h0];rfl
  .cases h
 .cases h
def uM N a0 b1:=(Xy N a0 b1).bind EZ
theorem aKW{N}(hc:aK (r7 N)){a0 b1 d}(hd:uM N a0 b1=some d):cI Tryd.prog 70 [.e (.i .i64) a0,.e (.i .i64) b1] [] (Bx (d)):=
 cJ hc (by kernel_rfl) (by kernel_rfl) (aKV N hc) (by kernel_rfl) aKQ (λhr=>(aKT N a0 b1).symm.trans (by rw[aKX N];exact hr)) hd
def I8 N a0 b1:=(uM N a0 b1).isSome
def I6 N a0 b1:=((uM N a0 b1).getD [])
def Xw(N:Nat):bR:=E2 (.i .i64) (.i .i64) (λx0 x1=>(I8 N x0 x1,Bx (I6 N x0 x1)))
theorem aKU N:aX Tryd.prog 70 (Xw N):=aX.e2 (λx0 x1 h=>cS (z:=uM N x0 x1) h (aKW (aKY N)) rfl)
def EX(a0:(List aE)):aM:=(.e (.sl .tx) a0,[])
def j6(N:Nat):Cx:=⟨Tryd.prog,99999,[(59,JH N),(38,aBa N),(86,H8 N),(87,Oe N),(88,HZ N)],[]⟩
def EY:Code:=Tryd.f71.body.getD .skip
theorem aKG N:aK (j6 N):=cH (by kernel_rfl) (.cons (by kernel_rfl) (QO N) (.cons (by kernel_rfl) (aRA N) (.cons (by kernel_rfl) (Ol N) (.cons (by kernel_rfl) (WJ N) (.cons (by kernel_rfl) (O9 N) .nil))))) .nil
def I5[aB](N:Nat)(self:Int->aE->O)(k0:Int->Int->Int->(List Int)->aE->O)(x1_0 x1_1 x1_3:Int)(x1_4:(List Int))(x1_2:Int)(x1_5:aE):O:=
 br (decide (0<=x1_2))
  (ck (LG N x1_3 x1_4 (aA.wrap (x1_2-1)))<|
  br (decide ((0:Int)<C3 N x1_3 x1_4 (aA.wrap (x1_2-1))))
   (ck (b9 (x1_5++[gH (aA.wrap ((48:Int)+C3 N x1_3 x1_4 (aA.wrap (x1_2-1))))]).length (1:Nat))<|
   self (aA.wrap (x1_2-1)) (x1_5++[gH (aA.wrap ((48:Int)+C3 N x1_3 x1_4 (aA.wrap (x1_2-1))))]))
   (ck (b9 (x1_5++[(95:UInt8)]).length (1:Nat))<|
   self (aA.wrap (x1_2-1)) (x1_5++[(95:UInt8)])))
  (k0 x1_0 x1_1 x1_3 x1_4 x1_5)
def PZ:Code:=cE [1,1,1,0,1,0,0] EY
def Xk:Nm:=⟨[1,2,4,5,6,7],[],[.mL 6 (.row 5 .u8 [] true)]⟩
def yR(x:Int×Int×Int×Int×(List Int)×aE):Sg:=⟨[(1,.e (.i .i64) x.1),(2,.ref 0 0),(4,.bI),(5,.e (.i .i64) x.2.1),(6,.own 1),(7,.e (.i .i64) x.2.2.1)],[(0,.box 24 [.e (.i .i64) x.2.2.2.1,.e (.sl (.i .i64)) x.2.2.2.2.1]),(1,.row 5 .u8 x.2.2.2.2.2 true)],100⟩
def IU(σ:Sg):Int×Int×Int×Int×(List Int)×aE:=(aC (.i .i64) 1 0 σ,aC (.i .i64) 5 0 σ,aC (.i .i64) 7 0 σ,bP (.i .i64) 0 0 σ,bP (.sl (.i .i64)) 0 1 σ,c9 .u8 1 σ)
theorem aJt:∀x,IU (yR x)=x:=λ_=>by kernel_rfl
def I0(y:Int×Int×Int×(List Int)×aE):Exit×Sg:=((.exit 0),⟨[(1,.e (.i .i64) y.1),(2,.ref 0 0),(4,.bI),(5,.e (.i .i64) y.2.1),(6,.own 1)],[(0,.box 24 [.e (.i .i64) y.2.2.1,.e (.sl (.i .i64)) y.2.2.2.1]),(1,.row 5 .u8 y.2.2.2.2 true)],100⟩)
def aJp(_:Exit)(σ:Sg):Int×Int×Int×(List Int)×aE:=(aC (.i .i64) 1 0 σ,aC (.i .i64) 5 0 σ,bP (.i .i64) 0 0 σ,bP (.sl (.i .i64)) 0 1 σ,c9 .u8 1 σ)
def aJm:List (Exit×Nm):=[((.exit 0),⟨[1,2,4,5,6],[],[]⟩)]
def yP[aB](N:Nat):Nat->(Int×Int×Int×Int×(List Int)×aE)->((Int×Int×Int×(List Int)×aE)->O)->((Unit)->O)->((Unit)->O)->O
 |0,_,_,_,_=>none
 |n+1,x,k0,k1,k2=>I5 N (λv0 v1=>yP N n (x.1,x.2.1,v0,x.2.2.2.1,x.2.2.2.2.1,v1) k0 k1 k2) (λy0 y1 y2 y3 y4=>k0 (y0,y1,y2,y3,y4)) x.1 x.2.1 x.2.2.2.1 x.2.2.2.2.1 x.2.2.1 x.2.2.2.2.2
def Xi[aB] N a0 a1 a2 a3 a4 a5 (k0:Int->Int->Int->(List Int)->aE->O):=yP N N (a0,a1,a2,a3,a4,a5) (λy=>k0 y.1 y.2.1 y.2.2.1 y.2.2.2.1 y.2.2.2.2) (λ_=>none) (λ_=>none)
def Xg[aB] N a0 a1 a2 a3 a4 a5 (k0:Int->Int->Int->(List Int)->aE->O):=aP yR IU (yP N N) (yR (a0,a1,a2,a3,a4,a5)) (λy=>k0 y.1 y.2.1 y.2.2.1 y.2.2.2.1 y.2.2.2.2) (λ_=>none) (λ_=>none)
theorem aKF[aB] N:Xg N=Xi N:=funext λ_=>funext λ_=>funext λ_=>funext λ_=>funext λ_=>funext λ_=>funext λ_=>cL aJt _ _ _ _
theorem aJw[aB](N:Nat)(self:Sg->O)(K:Exit->Sg->O)(x:Int×Int×Int×Int×(List Int)×aE):I5 N (λv0 v1=>self (yR (x.1,x.2.1,v0,x.2.2.2.1,x.2.2.2.2.1,v1))) (λy0 y1 y2 y3 y4=>K (I0 (y0,y1,y2,y3,y4)).1 (I0 (y0,y1,y2,y3,y4)).2) x.1 x.2.1 x.2.2.2.1 x.2.2.2.2.1 x.2.2.1 x.2.2.2.2.2=exec (j6 N) Tryd.f71.ntmps .d PZ (yR x) (cZ Xk aJm self K):=by kernel_rfl
theorem aKN N (hc:aK (j6 N)):cF (j6 N) Tryd.f71.ntmps (.loop PZ) I0 (aN 1) (aN 2) (aP yR IU (yP N N)):=
 dD hc (cX PZ) (eC aJp (.exit 0) (λ_=>by kernel_rfl) (λ_=>rfl) (by kernel_rfl)) (n:=N) (λx K=>dE (yP N) (λ_ _ _ _=>rfl) (λn K ih x=>by
  refine dK ?_ (aJw N _ K x);simp only[<-ih];rfl) N x K)
def I4[aB](N:Nat)(k0:Int->Int->Int->Int->(List Int)->Int->Bool->(List Int)->Int->Int->Int->aE->Int->aE->aE->Int->(List Int)->Int->Int->Bool->Bool->Bool->Int->(List Int)->(List aE)->O)(x63_0 x63_1:Int)(x63_2 x63_3:Int)(x63_4:(List Int))(x63_5:Int)(x63_6:Bool)(x63_7:(List Int))(x63_8 x63_9 x63_10:Int)(x63_11:aE)(x63_12:Int)(x63_13 x63_14:aE)(x63_15:Int)(x63_16:(List Int))(x63_17:(List aE)):O:=
 br (decide (x63_2=aA.wrap ((↑x63_16.length:Int)-(1:Int)))&&decide (x63_15=3))
  (ck (Bd N x63_14 [(43:UInt8)])<|
  k0 x63_0 x63_1 x63_2 x63_3 x63_4 x63_5 x63_6 x63_7 x63_8 x63_9 x63_10 x63_11 x63_12 x63_13 (yB N x63_14 [(43:UInt8)]) x63_2 x63_16 ((↑x63_16.length:Int)) (aA.wrap ((↑x63_16.length:Int)-(1:Int))) (decide (x63_2=aA.wrap ((↑x63_16.length:Int)-(1:Int)))) (decide (x63_2=aA.wrap ((↑x63_16.length:Int)-(1:Int)))) (decide (x63_2=aA.wrap ((↑x63_16.length:Int)-(1:Int)))&&decide (x63_15=3)) x63_15 x63_16 x63_17)
  (k0 x63_0 x63_1 x63_2 x63_3 x63_4 x63_5 x63_6 x63_7 x63_8 x63_9 x63_10 x63_11 x63_12 x63_13 x63_14 x63_2 x63_16 ((↑x63_16.length:Int)) (aA.wrap ((↑x63_16.length:Int)-(1:Int))) (decide (x63_2=aA.wrap ((↑x63_16.length:Int)-(1:Int)))) (decide (x63_2=aA.wrap ((↑x63_16.length:Int)-(1:Int)))) (decide (x63_2=aA.wrap ((↑x63_16.length:Int)-(1:Int)))&&decide (x63_15=3)) x63_15 x63_16 x63_17)
def PY:Code:=cE [1,1,1,1,1,0,1,0,0,1,0,0,1,0] EY
def aKA:Nm:=⟨[1,2,4,5,9,10,47,48,49,50,51,54,55,56,57,58,59,60,61,11],[],[]⟩
def Bv(x:Int×Int×Int×Int×(List Int)×Int×Bool×(List Int)×Int×Int×Int×aE×Int×aE×aE×Int×(List Int)×(List aE)):Sg:=⟨[(1,.e (.i .i64) x.1),(2,.ref 0 0),(4,.bI),(5,.e (.i .i64) x.2.1),(9,.own 1),(10,.e (.i .i64) x.2.2.1),(47,.e (.i .i64) x.2.2.2.1),(48,.ref 0 1),(49,.e (.sl (.i .i64)) x.2.2.2.2.1),(50,.e (.i .i64) x.2.2.2.2.2.1),(51,.e .bo x.2.2.2.2.2.2.1),(54,.ref 0 1),(55,.e (.sl (.i .i64)) x.2.2.2.2.2.2.2.1),(56,.e (.i .i64) x.2.2.2.2.2.2.2.2.1),(57,.pt (.i .i64) x.2.2.2.2.2.2.2.2.2.1 0),(58,.e (.i .i64) x.2.2.2.2.2.2.2.2.2.2.1),(59,.e .tx x.2.2.2.2.2.2.2.2.2.2.2.1),(60,.e (.i .i64) x.2.2.2.2.2.2.2.2.2.2.2.2.1),(61,.e .tx x.2.2.2.2.2.2.2.2.2.2.2.2.2.1),(11,.e .tx x.2.2.2.2.2.2.2.2.2.2.2.2.2.2.1)],[(0,.box 24 [.e (.i .i64) x.2.2.2.2.2.2.2.2.2.2.2.2.2.2.2.1,.e (.sl (.i .i64)) x.2.2.2.2.2.2.2.2.2.2.2.2.2.2.2.2.1]),(1,.row 9 .tx x.2.2.2.2.2.2.2.2.2.2.2.2.2.2.2.2.2 true)],100⟩
def IT(σ:Sg):Int×Int×Int×Int×(List Int)×Int×Bool×(List Int)×Int×Int×Int×aE×Int×aE×aE×Int×(List Int)×(List aE):=(aC (.i .i64) 1 0 σ,aC (.i .i64) 5 0 σ,aC (.i .i64) 10 0 σ,aC (.i .i64) 47 0 σ,aC (.sl (.i .i64)) 49 0 σ,aC (.i .i64) 50 0 σ,aC .bo 51 0 σ,aC (.sl (.i .i64)) 55 0 σ,aC (.i .i64) 56 0 σ,aC (.i .i64) 57 0 σ,aC (.i .i64) 58 0 σ,aC .tx 59 0 σ,aC (.i .i64) 60 0 σ,aC .tx 61 0 σ,aC .tx 11 0 σ,bP (.i .i64) 0 0 σ,bP (.sl (.i .i64)) 0 1 σ,c9 .tx 1 σ)
theorem aJs:∀x,IT (Bv x)=x:=λ_=>by kernel_rfl
def IZ(y:Int×Int×Int×Int×(List Int)×Int×Bool×(List Int)×Int×Int×Int×aE×Int×aE×aE×Int×(List Int)×Int×Int×Bool×Bool×Bool×Int×(List Int)×(List aE)):Exit×Sg:=(.normal,⟨[(1,.e (.i .i64) y.1),(2,.ref 0 0),(4,.bI),(5,.e (.i .i64) y.2.1),(9,.own 1),(10,.e (.i .i64) y.2.2.1),(47,.e (.i .i64) y.2.2.2.1),(48,.ref 0 1),(49,.e (.sl (.i .i64)) y.2.2.2.2.1),(50,.e (.i .i64) y.2.2.2.2.2.1),(51,.e .bo y.2.2.2.2.2.2.1),(54,.ref 0 1),(55,.e (.sl (.i .i64)) y.2.2.2.2.2.2.2.1),(56,.e (.i .i64) y.2.2.2.2.2.2.2.2.1),(57,.pt (.i .i64) y.2.2.2.2.2.2.2.2.2.1 0),(58,.e (.i .i64) y.2.2.2.2.2.2.2.2.2.2.1),(59,.e .tx y.2.2.2.2.2.2.2.2.2.2.2.1),(60,.e (.i .i64) y.2.2.2.2.2.2.2.2.2.2.2.2.1),(61,.e .tx y.2.2.2.2.2.2.2.2.2.2.2.2.2.1),(11,.e .tx y.2.2.2.2.2.2.2.2.2.2.2.2.2.2.1),(62,.e (.i .i64) y.2.2.2.2.2.2.2.2.2.2.2.2.2.2.2.1),(63,.ref 0 1),(64,.e (.sl (.i .i64)) y.2.2.2.2.2.2.2.2.2.2.2.2.2.2.2.2.1),(65,.e (.i .i64) y.2.2.2.2.2.2.2.2.2.2.2.2.2.2.2.2.2.1),(66,.e (.i .i64) y.2.2.2.2.2.2.2.2.2.2.2.2.2.2.2.2.2.2.1),(67,.e .bo y.2.2.2.2.2.2.2.2.2.2.2.2.2.2.2.2.2.2.2.1),(68,.e .bo y.2.2.2.2.2.2.2.2.2.2.2.2.2.2.2.2.2.2.2.2.1),(72,.e .bo y.2.2.2.2.2.2.2.2.2.2.2.2.2.2.2.2.2.2.2.2.2.1)],[(0,.box 24 [.e (.i .i64) y.2.2.2.2.2.2.2.2.2.2.2.2.2.2.2.2.2.2.2.2.2.2.1,.e (.sl (.i .i64)) y.2.2.2.2.2.2.2.2.2.2.2.2.2.2.2.2.2.2.2.2.2.2.2.1]),(1,.row 9 .tx y.2.2.2.2.2.2.2.2.2.2.2.2.2.2.2.2.2.2.2.2.2.2.2.2 true)],100⟩)
def aJo(_:Exit)(σ:Sg):Int×Int×Int×Int×(List Int)×Int×Bool×(List Int)×Int×Int×Int×aE×Int×aE×aE×Int×(List Int)×Int×Int×Bool×Bool×Bool×Int×(List Int)×(List aE):=(aC (.i .i64) 1 0 σ,aC (.i .i64) 5 0 σ,aC (.i .i64) 10 0 σ,aC (.i .i64) 47 0 σ,aC (.sl (.i .i64)) 49 0 σ,aC (.i .i64) 50 0 σ,aC .bo 51 0 σ,aC (.sl (.i .i64)) 55 0 σ,aC (.i .i64) 56 0 σ,aC (.i .i64) 57 0 σ,aC (.i .i64) 58 0 σ,aC .tx 59 0 σ,aC (.i .i64) 60 0 σ,aC .tx 61 0 σ,aC .tx 11 0 σ,aC (.i .i64) 62 0 σ,aC (.sl (.i .i64)) 64 0 σ,aC (.i .i64) 65 0 σ,aC (.i .i64) 66 0 σ,aC .bo 67 0 σ,aC .bo 68 0 σ,aC .bo 72 0 σ,bP (.i .i64) 0 0 σ,bP (.sl (.i .i64)) 0 1 σ,c9 .tx 1 σ)
def aJl:List (Exit×Nm):=[(.normal,⟨[1,2,4,5,9,10,47,48,49,50,51,54,55,56,57,58,59,60,61,11,62,63,64,65,66,67,68,72],[],[]⟩)]
def IX[aB](N:Nat)(_:Nat)(x:Int×Int×Int×Int×(List Int)×Int×Bool×(List Int)×Int×Int×Int×aE×Int×aE×aE×Int×(List Int)×(List aE))(k0:(Int×Int×Int×Int×(List Int)×Int×Bool×(List Int)×Int×Int×Int×aE×Int×aE×aE×Int×(List Int)×Int×Int×Bool×Bool×Bool×Int×(List Int)×(List aE))->O)(_:(Unit)->O)(_:(Unit)->O):O:=I4 N (λy0 y1 y2 y3 y4 y5 y6 y7 y8 y9 y10 y11 y12 y13 y14 y15 y16 y17 y18 y19 y20 y21 y22 y23 y24=>k0 (y0,y1,y2,y3,y4,y5,y6,y7,y8,y9,y10,y11,y12,y13,y14,y15,y16,y17,y18,y19,y20,y21,y22,y23,y24)) x.1 x.2.1 x.2.2.1 x.2.2.2.1 x.2.2.2.2.1 x.2.2.2.2.2.1 x.2.2.2.2.2.2.1 x.2.2.2.2.2.2.2.1 x.2.2.2.2.2.2.2.2.1 x.2.2.2.2.2.2.2.2.2.1 x.2.2.2.2.2.2.2.2.2.2.1 x.2.2.2.2.2.2.2.2.2.2.2.1 x.2.2.2.2.2.2.2.2.2.2.2.2.1 x.2.2.2.2.2.2.2.2.2.2.2.2.2.1 x.2.2.2.2.2.2.2.2.2.2.2.2.2.2.1 x.2.2.2.2.2.2.2.2.2.2.2.2.2.2.2.1 x.2.2.2.2.2.2.2.2.2.2.2.2.2.2.2.2.1 x.2.2.2.2.2.2.2.2.2.2.2.2.2.2.2.2.2
def IW[aB] N a0 a1 a2 a3 a4 a5 a6 a7 a8 a9 a10 a11 a12 a13 a14 a15 a16 a17 (k0:Int->Int->Int->Int->(List Int)->Int->Bool->(List Int)->Int->Int->Int->aE->Int->aE->aE->Int->(List Int)->Int->Int->Bool->Bool->Bool->Int->(List Int)->(List aE)->O):=IX N N (a0,a1,a2,a3,a4,a5,a6,a7,a8,a9,a10,a11,a12,a13,a14,a15,a16,a17) (λy=>k0 y.1 y.2.1 y.2.2.1 y.2.2.2.1 y.2.2.2.2.1 y.2.2.2.2.2.1 y.2.2.2.2.2.2.1 y.2.2.2.2.2.2.2.1 y.2.2.2.2.2.2.2.2.1 y.2.2.2.2.2.2.2.2.2.1 y.2.2.2.2.2.2.2.2.2.2.1 y.2.2.2.2.2.2.2.2.2.2.2.1 y.2.2.2.2.2.2.2.2.2.2.2.2.1 y.2.2.2.2.2.2.2.2.2.2.2.2.2.1 y.2.2.2.2.2.2.2.2.2.2.2.2.2.2.1 y.2.2.2.2.2.2.2.2.2.2.2.2.2.2.2.1 y.2.2.2.2.2.2.2.2.2.2.2.2.2.2.2.2.1 y.2.2.2.2.2.2.2.2.2.2.2.2.2.2.2.2.2.1 y.2.2.2.2.2.2.2.2.2.2.2.2.2.2.2.2.2.2.1 y.2.2.2.2.2.2.2.2.2.2.2.2.2.2.2.2.2.2.2.1 y.2.2.2.2.2.2.2.2.2.2.2.2.2.2.2.2.2.2.2.2.1 y.2.2.2.2.2.2.2.2.2.2.2.2.2.2.2.2.2.2.2.2.2.1 y.2.2.2.2.2.2.2.2.2.2.2.2.2.2.2.2.2.2.2.2.2.2.1 y.2.2.2.2.2.2.2.2.2.2.2.2.2.2.2.2.2.2.2.2.2.2.2.1 y.2.2.2.2.2.2.2.2.2.2.2.2.2.2.2.2.2.2.2.2.2.2.2.2) (λ_=>none) (λ_=>none)
def PW[aB] N a0 a1 a2 a3 a4 a5 a6 a7 a8 a9 a10 a11 a12 a13 a14 a15 a16 a17 (k0:Int->Int->Int->Int->(List Int)->Int->Bool->(List Int)->Int->Int->Int->aE->Int->aE->aE->Int->(List Int)->Int->Int->Bool->Bool->Bool->Int->(List Int)->(List aE)->O):=aP Bv IT (IX N N) (Bv (a0,a1,a2,a3,a4,a5,a6,a7,a8,a9,a10,a11,a12,a13,a14,a15,a16,a17)) (λy=>k0 y.1 y.2.1 y.2.2.1 y.2.2.2.1 y.2.2.2.2.1 y.2.2.2.2.2.1 y.2.2.2.2.2.2.1 y.2.2.2.2.2.2.2.1 y.2.2.2.2.2.2.2.2.1 y.2.2.2.2.2.2.2.2.2.1 y.2.2.2.2.2.2.2.2.2.2.1 y.2.2.2.2.2.2.2.2.2.2.2.1 y.2.2.2.2.2.2.2.2.2.2.2.2.1 y.2.2.2.2.2.2.2.2.2.2.2.2.2.1 y.2.2.2.2.2.2.2.2.2.2.2.2.2.2.1 y.2.2.2.2.2.2.2.2.2.2.2.2.2.2.2.1 y.2.2.2.2.2.2.2.2.2.2.2.2.2.2.2.2.1 y.2.2.2.2.2.2.2.2.2.2.2.2.2.2.2.2.2.1 y.2.2.2.2.2.2.2.2.2.2.2.2.2.2.2.2.2.2.1 y.2.2.2.2.2.2.2.2.2.2.2.2.2.2.2.2.2.2.2.1 y.2.2.2.2.2.2.2.2.2.2.2.2.2.2.2.2.2.2.2.2.1 y.2.2.2.2.2.2.2.2.2.2.2.2.2.2.2.2.2.2.2.2.2.1 y.2.2.2.2.2.2.2.2.2.2.2.2.2.2.2.2.2.2.2.2.2.2.1 y.2.2.2.2.2.2.2.2.2.2.2.2.2.2.2.2.2.2.2.2.2.2.2.1 y.2.2.2.2.2.2.2.2.2.2.2.2.2.2.2.2.2.2.2.2.2.2.2.2) (λ_=>none) (λ_=>none)
theorem Xn[aB] N:PW N=IW N:=funext λ_=>funext λ_=>funext λ_=>funext λ_=>funext λ_=>funext λ_=>funext λ_=>funext λ_=>funext λ_=>funext λ_=>funext λ_=>funext λ_=>funext λ_=>funext λ_=>funext λ_=>funext λ_=>funext λ_=>funext λ_=>funext λ_=>cL aJs _ _ _ _
theorem aJv[aB](N:Nat)(K:Exit->Sg->O)(x:Int×Int×Int×Int×(List Int)×Int×Bool×(List Int)×Int×Int×Int×aE×Int×aE×aE×Int×(List Int)×(List aE)):I4 N (λy0 y1 y2 y3 y4 y5 y6 y7 y8 y9 y10 y11 y12 y13 y14 y15 y16 y17 y18 y19 y20 y21 y22 y23 y24=>K (IZ (y0,y1,y2,y3,y4,y5,y6,y7,y8,y9,y10,y11,y12,y13,y14,y15,y16,y17,y18,y19,y20,y21,y22,y23,y24)).1 (IZ (y0,y1,y2,y3,y4,y5,y6,y7,y8,y9,y10,y11,y12,y13,y14,y15,y16,y17,y18,y19,y20,y21,y22,y23,y24)).2) x.1 x.2.1 x.2.2.1 x.2.2.2.1 x.2.2.2.2.1 x.2.2.2.2.2.1 x.2.2.2.2.2.2.1 x.2.2.2.2.2.2.2.1 x.2.2.2.2.2.2.2.2.1 x.2.2.2.2.2.2.2.2.2.1 x.2.2.2.2.2.2.2.2.2.2.1 x.2.2.2.2.2.2.2.2.2.2.2.1 x.2.2.2.2.2.2.2.2.2.2.2.2.1 x.2.2.2.2.2.2.2.2.2.2.2.2.2.1 x.2.2.2.2.2.2.2.2.2.2.2.2.2.2.1 x.2.2.2.2.2.2.2.2.2.2.2.2.2.2.2.1 x.2.2.2.2.2.2.2.2.2.2.2.2.2.2.2.2.1 x.2.2.2.2.2.2.2.2.2.2.2.2.2.2.2.2.2=exec (j6 N) Tryd.f71.ntmps .d PY (Bv x) (kR aJl K):=by kernel_rfl
theorem aKM N (hc:aK (j6 N)):cF (j6 N) Tryd.f71.ntmps PY IZ (aN 1) (aN 2) (aP Bv IT (IX N N)):=
 mG hc (cX PY) (eC aJo .normal (λ_=>by kernel_rfl) (λ_=>rfl) (by kernel_rfl)) (λx K=>by
  exact aJv N K x)
def Bw[aB](N:Nat)(in1:Int->Int->Int->Int->(List Int)->Int->Bool->(List Int)->Int->Int->Int->aE->Int->aE->aE->Int->(List Int)->(List aE)->(Int->Int->Int->Int->(List Int)->Int->Bool->(List Int)->Int->Int->Int->aE->Int->aE->aE->Int->(List Int)->Int->Int->Bool->Bool->Bool->Int->(List Int)->(List aE)->O)->O)(self:Int->Int->Int->Int->(List Int)->(List aE)->O)(k0:Int->Int->(List aE)->O)(x7_0 x7_1:Int)(x7_2 x7_3:Int)(x7_4:(List Int))(x7_5:(List aE)):O:=
 br (decide (x7_2<(↑x7_4.length:Int)))
  (gx x7_4 x7_2 λy62=>
  ck (iB N y62)<|
  ck (mB N (cV N y62) x7_1 (0:Int))<|
  in1 x7_0 x7_1 x7_2 x7_2 x7_4 ((↑x7_4.length:Int)) (decide (x7_2<(↑x7_4.length:Int))) x7_4 x7_2 y62 y62 (cV N y62) x7_1 (gX N (cV N y62) x7_1 (0:Int)) (gX N (cV N y62) x7_1 (0:Int)) x7_3 x7_4 x7_5
   (λz64 z65 z66 _ _ _ _ _ _ _ _ _ _ _ z78 _ _ _ _ _ _ _ z86 z87 z88=>
    br (decide (z66=aA.wrap ((↑z87.length:Int)-(1:Int)))&&decide (z86=4))
     (ck (Bd N z78 [(45:UInt8)])<|
     ck (b9 (z88++[yB N z78 [(45:UInt8)]]).length (16:Nat))<|
     self z64 z65 (aA.wrap (z66+1)) z86 z87 (z88++[yB N z78 [(45:UInt8)]]))
     (ck (b9 (z88++[z78]).length (16:Nat))<|
     self z64 z65 (aA.wrap (z66+1)) z86 z87 (z88++[z78]))))
  (k0 x7_0 x7_1 x7_5)
def PX:Code:=cE [1,1,1,1,1,0,1,0,0] EY
def Xj:Nm:=⟨[1,2,4,5,9,10],[],[]⟩
def yQ(x:Int×Int×Int×Int×(List Int)×(List aE)):Sg:=⟨[(1,.e (.i .i64) x.1),(2,.ref 0 0),(4,.bI),(5,.e (.i .i64) x.2.1),(9,.own 1),(10,.e (.i .i64) x.2.2.1)],[(0,.box 24 [.e (.i .i64) x.2.2.2.1,.e (.sl (.i .i64)) x.2.2.2.2.1]),(1,.row 9 .tx x.2.2.2.2.2 true)],100⟩
def IS(σ:Sg):Int×Int×Int×Int×(List Int)×(List aE):=(aC (.i .i64) 1 0 σ,aC (.i .i64) 5 0 σ,aC (.i .i64) 10 0 σ,bP (.i .i64) 0 0 σ,bP (.sl (.i .i64)) 0 1 σ,c9 .tx 1 σ)
theorem aJr:∀x,IS (yQ x)=x:=λ_=>by kernel_rfl
def IY(y:Int×Int×(List aE)):Exit×Sg:=((.exit 2),⟨[(1,.e (.i .i64) y.1),(4,.bI),(5,.e (.i .i64) y.2.1),(9,.own 0)],[(0,.row 9 .tx y.2.2 true)],100⟩)
def aJn(_:Exit)(σ:Sg):Int×Int×(List aE):=(aC (.i .i64) 1 0 σ,aC (.i .i64) 5 0 σ,c9 .tx 0 σ)
def aJk:List (Exit×Nm):=[((.exit 2),⟨[1,4,5,9],[],[]⟩)]
def uL[aB](N:Nat):Nat->(Int×Int×Int×Int×(List Int)×(List aE))->((Int×Int×(List aE))->O)->((Unit)->O)->((Unit)->O)->O
 |0,_,_,_,_=>none
 |n+1,x,k0,k1,k2=>Bw N (IW N) (λv0 v1 v2 v3 v4 v5=>uL N n (v0,v1,v2,v3,v4,v5) k0 k1 k2) (λy0 y1 y2=>k0 (y0,y1,y2)) x.1 x.2.1 x.2.2.1 x.2.2.2.1 x.2.2.2.2.1 x.2.2.2.2.2
def Xh[aB] N a0 a1 a2 a3 a4 a5 (k0:Int->Int->(List aE)->O):=uL N N (a0,a1,a2,a3,a4,a5) (λy=>k0 y.1 y.2.1 y.2.2) (λ_=>none) (λ_=>none)
def Xf[aB] N a0 a1 a2 a3 a4 a5 (k0:Int->Int->(List aE)->O):=aP yQ IS (uL N N) (yQ (a0,a1,a2,a3,a4,a5)) (λy=>k0 y.1 y.2.1 y.2.2) (λ_=>none) (λ_=>none)
theorem aKE[aB] N:Xf N=Xh N:=funext λ_=>funext λ_=>funext λ_=>funext λ_=>funext λ_=>funext λ_=>funext λ_=>cL aJr _ _ _ _
def Xl[aB](N:Nat):Hint:=(.seq .d (.seq (.block (.seq .d (.seq (.sub aKA _ _ _ IZ (aN 1) (aN 2) (aP Bv IT (IX N N))) .d))) .d))
theorem aKB N (hc:aK (j6 N)):bH (j6 N) Tryd.f71.ntmps (Xl N) PX:=bS _ _ (aF trivial (aF (aF trivial (aF (aKM N hc) trivial)) trivial))
theorem aJu[aB](N:Nat)(self:Sg->O)(K:Exit->Sg->O)(x:Int×Int×Int×Int×(List Int)×(List aE)):Bw N (PW N) (λv0 v1 v2 v3 v4 v5=>self (yQ (v0,v1,v2,v3,v4,v5))) (λy0 y1 y2=>K (IY (y0,y1,y2)).1 (IY (y0,y1,y2)).2) x.1 x.2.1 x.2.2.1 x.2.2.2.1 x.2.2.2.2.1 x.2.2.2.2.2=exec (j6 N) Tryd.f71.ntmps (Xl N) PX (yQ x) (cZ Xj aJk self K):=by kernel_rfl
theorem aKL N (hc:aK (j6 N)):cF (j6 N) Tryd.f71.ntmps (.loop PX) IY (aN 1) (aN 2) (aP yQ IS (uL N N)):=
 dD hc (aKB N hc) (eC aJn (.exit 2) (λ_=>by kernel_rfl) (λ_=>rfl) (by kernel_rfl)) (n:=N) (λx K=>dE (uL N) (λ_ _ _ _=>rfl) (λn K ih x=>by
  refine dK ?_ (aJu N _ K x);simp only[Xn N,<-ih];rfl) N x K)
def P3[aB](N:Nat)(in0:Int->Int->Int->Int->(List Int)->aE->(Int->Int->Int->(List Int)->aE->O)->O)(_in1:Int->Int->Int->Int->(List Int)->Int->Bool->(List Int)->Int->Int->Int->aE->Int->aE->aE->Int->(List Int)->(List aE)->(Int->Int->Int->Int->(List Int)->Int->Bool->(List Int)->Int->Int->Int->aE->Int->aE->aE->Int->(List Int)->Int->Int->Bool->Bool->Bool->Int->(List Int)->(List aE)->O)->O)(in2:Int->Int->Int->Int->(List Int)->(List aE)->(Int->Int->(List aE)->O)->O)(s0_0:Int)(s0_1:(List Int))(result1:Int):O:=
 ck (iB N result1)<|
 gx s0_1 0 λy0=>
 ck (iB N y0)<|
 in0 result1 (aA.wrap ((1:Int)+max (↑(cV N result1).length:Int) (↑(cV N y0).length:Int))) (aA.wrap (aA.wrap ((1:Int)+max (↑(cV N result1).length:Int) (↑(cV N y0).length:Int))-(1:Int))) s0_0 s0_1 []
  (λz2 z3 z4 z5 z6=>
   in2 z2 z3 0 z4 z5 [z6]
    (λz89 z90 z91=>
     ck (uD N (61:UInt8) z90)<|
     ck (iB N z89)<|
     ck (mB N (cV N z89) z90 (0:Int))<|
     ck (b9 (z91++[mA N (61:UInt8) z90,gX N (cV N z89) z90 (0:Int)]).length (16:Nat))<|
     some (EX (z91++[mA N (61:UInt8) z90,gX N (cV N z89) z90 (0:Int)]))))
def Xr[aB] N s0_0 s0_1 result1:=P3 N (Xi N) (IW N) (Xh N) s0_0 s0_1 result1
def Xm[aB](N:Nat):Hint:=(.seq .d (.seq .d (.seq .d (.seq (.seq .d (.block (.sub Xk _ _ _ I0 (aN 1) (aN 2) (aP yR IU (yP N N))))) (.seq .d (.seq (.seq .d (.block (.sub Xj _ _ _ IY (aN 1) (aN 2) (aP yQ IS (uL N N))))) .d))))))
theorem aKC N (hc:aK (j6 N)):bH (j6 N) Tryd.f71.ntmps (Xm N) EY:=bS _ _ (aF trivial (aF trivial (aF trivial (aF (aF trivial (aKN N hc)) (aF trivial (aF (aF trivial (aKL N hc)) trivial))))))
theorem aJx[aB] N s0_0 s0_1 result1:P3 N (Xg N) (PW N) (Xf N) s0_0 s0_1 result1=exec (j6 N) Tryd.f71.ntmps (Xm N) EY ⟨cA 0 [.agg [.e (.i .i64) s0_0,.e (.sl (.i .i64)) s0_1],.e (.i .i64) result1],[],100⟩ (cD (j6 N) Tryd.f71 false):=by kernel_rfl
def yO(r:aM):Option ((List aE)):=match r with
 |(x0,[])=>(match ue (.sl .tx) x0 with|some a0=>some a0|_=>none)
 |_=>none
theorem aJq{r d}(h:yO r=some d):r=EX (d):=by
 unfold yO at h;split at h
 .split at h
  .rename_i h0;cases h;rw[bG h0];rfl
  .cases h
 .cases h
def rZ N s0_0 s0_1 result1:=(Xr N s0_0 s0_1 result1).bind yO
theorem aKD{N}(hc:aK (j6 N)){s0_0 s0_1 result1 d}(hd:rZ N s0_0 s0_1 result1=some d):cI Tryd.prog 71 [.agg [.e (.i .i64) s0_0,.e (.sl (.i .i64)) s0_1],.e (.i .i64) result1] [] (EX (d)):=
 cJ hc (by kernel_rfl) (by kernel_rfl) (aKC N hc) (by kernel_rfl) aJq (λhr=>(aJx N s0_0 s0_1 result1).symm.trans (by rw[aKF N,Xn N,aKE N];exact hr)) hd
def IV N s0_0 s0_1 result1:=(rZ N s0_0 s0_1 result1).isSome
def IQ N s0_0 s0_1 result1:=((rZ N s0_0 s0_1 result1).getD [])
def Xo(N:Nat):bR:=E2 (.pr (.i .i64) (.sl (.i .i64))) (.i .i64) (λx0 x1=>(IV N x0.1 x0.2 x1,EX (IQ N x0.1 x0.2 x1)))
theorem aJy N:aX Tryd.prog 71 (Xo N):=aX.e2 (λx0 x1 h=>cS (z:=rZ N x0.1 x0.2 x1) h (aKD (aKG N)) rfl)
def AG(a0:(List aE)):aM:=(.e (.sl .tx) a0,[])
def Eu(N:Nat):Cx:=⟨Tryd.prog,99999,[(14,aD1 N),(69,YG N),(70,Xw N),(71,Xo N)],[]⟩
def aA5:Code:=Tryd.f46.body.getD .skip
theorem aPQ N:aK (Eu N):=cH (by kernel_rfl) (.cons (by kernel_rfl) (aUe N) (.cons (by kernel_rfl) (aKe N) (.cons (by kernel_rfl) (aKU N) (.cons (by kernel_rfl) (aJy N) .nil)))) .nil
def RI[aB](N:Nat)(s0_0:Int)(s0_1:(List Int)):O:=
 ck (MP N s0_0 s0_1)<|
 br (decide (s0_0=5))
  (gx s0_1 0 λy0=>
  gx s0_1 1 λy1=>
  ck (Ie N y0 y1)<|
  some (AG (Ia N y0 y1)))
  (br (decide (s0_0=6))
   (gx s0_1 0 λy2=>
   gx s0_1 1 λy3=>
   ck (I8 N y2 y3)<|
   some (AG (I6 N y2 y3)))
   (gx (MM N s0_0 s0_1) 0 λy4=>
   ck (IV N s0_0 s0_1 y4)<|
   some (AG (IQ N s0_0 s0_1 y4))))
def w46[aB] N s0_0 s0_1:=RI N s0_0 s0_1
def aA4[aB](_:Nat):Hint:=.d
theorem aPO N:bH (Eu N) Tryd.f46.ntmps (aA4 N) aA5:=bS _ _ trivial
theorem aPN[aB] N s0_0 s0_1:RI N s0_0 s0_1=exec (Eu N) Tryd.f46.ntmps (aA4 N) aA5 ⟨cA 0 [.agg [.e (.i .i64) s0_0,.e (.sl (.i .i64)) s0_1]],[],100⟩ (cD (Eu N) Tryd.f46 false):=by kernel_rfl
def K2(r:aM):Option ((List aE)):=match r with
 |(x0,[])=>(match ue (.sl .tx) x0 with|some a0=>some a0|_=>none)
 |_=>none
theorem aPM{r d}(h:K2 r=some d):r=AG (d):=by
 unfold K2 at h;split at h
 .split at h
  .rename_i h0;cases h;rw[bG h0];rfl
  .cases h
 .cases h
def vC N s0_0 s0_1:=(w46 N s0_0 s0_1).bind K2
theorem aPP{N}(hc:aK (Eu N)){s0_0 s0_1 d}(hd:vC N s0_0 s0_1=some d):cI Tryd.prog 46 [.agg [.e (.i .i64) s0_0,.e (.sl (.i .i64)) s0_1]] [] (AG (d)):=
 cJ hc (by kernel_rfl) (by kernel_rfl) (aPO N) (by kernel_rfl) aPM (aPN N s0_0 s0_1).symm.trans hd
def Et N s0_0 s0_1:=(vC N s0_0 s0_1).isSome
def vD N s0_0 s0_1:=((vC N s0_0 s0_1).getD [])
def RG(N:Nat):bR:=E1 (.pr (.i .i64) (.sl (.i .i64))) (λx0=>(Et N x0.1 x0.2,AG (vD N x0.1 x0.2)))
theorem aA3 N:aX Tryd.prog 46 (RG N):=aX.e1 (λx0 h=>cS (z:=vC N x0.1 x0.2) h (aPP (aPQ N)) rfl)
def Ce(a0:(List aE))(a1:Int):aM:=(.aU [.e (.sl (.sl .u8)) a0,.e (.i .i64) a1],[])
def F2(N:Nat):Cx:=⟨Tryd.prog,99999,[(18,Lx N),(46,RG N),(45,K6 N)],[]⟩
def aCo:Code:=Tryd.f22.body.getD .skip
theorem aTT N:aK (F2 N):=cH (by kernel_rfl) (.cons (by kernel_rfl) (SU N) (.cons (by kernel_rfl) (aA3 N) (.cons (by kernel_rfl) (RK N) .nil))) .nil
def SJ[aB](N:Nat)(s0_0:Int)(s0_1:(List Int)):O:=
 ck (Cg N s0_0 s0_1)<|
 br (decide (wA N s0_0 s0_1≠(0:Int)))
  (some (Ce [] (wA N s0_0 s0_1)))
  (ck (Et N s0_0 s0_1)<|
  ck (CY N (vD N s0_0 s0_1))<|
  some (Ce (vF N (vD N s0_0 s0_1)) 0))
def w22[aB] N s0_0 s0_1:=SJ N s0_0 s0_1
def aCm[aB](_:Nat):Hint:=.d
theorem aTR N:bH (F2 N) Tryd.f22.ntmps (aCm N) aCo:=bS _ _ trivial
theorem aTP[aB] N s0_0 s0_1:SJ N s0_0 s0_1=exec (F2 N) Tryd.f22.ntmps (aCm N) aCo ⟨cA 0 [.agg [.e (.i .i64) s0_0,.e (.sl (.i .i64)) s0_1]],[],100⟩ (cD (F2 N) Tryd.f22 false):=by kernel_rfl
def Lp(r:aM):Option ((List aE)×Int):=match r with
 |(.aU [x0,x1],[])=>(match ue (.sl (.sl .u8)) x0,ue (.i .i64) x1 with|some a0,some a1=>some (a0,a1)|_,_=>none)
 |_=>none
theorem aTO{r d}(h:Lp r=some d):r=Ce d.1 d.2:=by
 unfold Lp at h;split at h
 .split at h
  .rename_i h0 h1;cases h;rw[bG h0,bG h1];rfl
  .cases h
 .cases h
def Ac N s0_0 s0_1:=(w22 N s0_0 s0_1).bind Lp
theorem aTS{N}(hc:aK (F2 N)){s0_0 s0_1 d}(hd:Ac N s0_0 s0_1=some d):cI Tryd.prog 22 [.agg [.e (.i .i64) s0_0,.e (.sl (.i .i64)) s0_1]] [] (Ce d.1 d.2):=
 cJ hc (by kernel_rfl) (by kernel_rfl) (aTR N) (by kernel_rfl) aTO (aTP N s0_0 s0_1).symm.trans hd
def SI N s0_0 s0_1:=(Ac N s0_0 s0_1).isSome
def oN N s0_0 s0_1:=((Ac N s0_0 s0_1).getD ([],0)).1
def aTN N s0_0 s0_1:=((Ac N s0_0 s0_1).getD ([],0)).2
def aCn(N:Nat):bR:=E1 (.pr (.i .i64) (.sl (.i .i64))) (λx0=>(SI N x0.1 x0.2,Ce (oN N x0.1 x0.2) (aTN N x0.1 x0.2)))
theorem aTQ N:aX Tryd.prog 22 (aCn N):=aX.e1 (λx0 h=>cS (z:=Ac N x0.1 x0.2) h (aTS (aTT N)) rfl)
def FR(a0:Bool):aM:=(.e .bo a0,[])
def FT(N:Nat):Cx:=⟨Tryd.prog,99999,[(19,SO N)],[]⟩
def aCG:Code:=Tryd.f30.body.getD .skip
theorem aSF N:aK (FT N):=cH (by kernel_rfl) (.cons (by kernel_rfl) (aDA N) .nil) .nil
def Ro[aB](N:Nat)(a0_0:Int)(a0_1:(List Int))(b1_0:Int)(b1_1:(List Int)):O:=
 ck (!decide (a0_0=b1_0)||Cf N a0_1 b1_1)<|
 some (FR (decide (a0_0=b1_0)&&v7 N a0_1 b1_1))
def w30[aB] N a0_0 a0_1 b1_0 b1_1:=Ro N a0_0 a0_1 b1_0 b1_1
def aCE[aB](_:Nat):Hint:=.d
theorem aSD N:bH (FT N) Tryd.f30.ntmps (aCE N) aCG:=bS _ _ trivial
theorem aSB[aB] N a0_0 a0_1 b1_0 b1_1:Ro N a0_0 a0_1 b1_0 b1_1=exec (FT N) Tryd.f30.ntmps (aCE N) aCG ⟨cA 0 [.agg [.e (.i .i64) a0_0,.e (.sl (.i .i64)) a0_1],.agg [.e (.i .i64) b1_0,.e (.sl (.i .i64)) b1_1]],[],100⟩ (cD (FT N) Tryd.f30 false):=by kernel_rfl
def LX(r:aM):Option (Bool):=match r with
 |(x0,[])=>(match ue .bo x0 with|some a0=>some a0|_=>none)
 |_=>none
theorem aSA{r d}(h:LX r=some d):r=FR (d):=by
 unfold LX at h;split at h
 .split at h
  .rename_i h0;cases h;rw[bG h0];rfl
  .cases h
 .cases h
def C7 N a0_0 a0_1 b1_0 b1_1:=(w30 N a0_0 a0_1 b1_0 b1_1).bind LX
theorem aSE{N}(hc:aK (FT N)){a0_0 a0_1 b1_0 b1_1 d}(hd:C7 N a0_0 a0_1 b1_0 b1_1=some d):cI Tryd.prog 30 [.agg [.e (.i .i64) a0_0,.e (.sl (.i .i64)) a0_1],.agg [.e (.i .i64) b1_0,.e (.sl (.i .i64)) b1_1]] [] (FR (d)):=
 cJ hc (by kernel_rfl) (by kernel_rfl) (aSD N) (by kernel_rfl) aSA (aSB N a0_0 a0_1 b1_0 b1_1).symm.trans hd
def LY N a0_0 a0_1 b1_0 b1_1:=(C7 N a0_0 a0_1 b1_0 b1_1).isSome
def FQ N a0_0 a0_1 b1_0 b1_1:=((C7 N a0_0 a0_1 b1_0 b1_1).getD false)
def aCF(N:Nat):bR:=E2 (.pr (.i .i64) (.sl (.i .i64))) (.pr (.i .i64) (.sl (.i .i64))) (λx0 x1=>(LY N x0.1 x0.2 x1.1 x1.2,FR (FQ N x0.1 x0.2 x1.1 x1.2)))
theorem aSC N:aX Tryd.prog 30 (aCF N):=aX.e2 (λx0 x1 h=>cS (z:=C7 N x0.1 x0.2 x1.1 x1.2) h (aSE (aSF N)) rfl)
end
end Go.Proofs
/- The examples hold. -/
namespace Go.Proofs
open Go Go.Ax
theorem aYa:aCv 60=some true:=by kernel_rfl
theorem aYp(N:Nat):aX Tryd.prog 20 (aF9 N):=aX.e0 (λ_=>aT7 (aT8 60) aYa)
end Go.Proofs
