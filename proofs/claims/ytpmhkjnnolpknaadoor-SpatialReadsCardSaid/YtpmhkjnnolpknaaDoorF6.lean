/- What the law does. Conditions are in the theorems. -/
import Derived.Test.YtpmhkjnnolpknaaDoorE7
import Derived.Test.YtpmhkjnnolpknaaDoorF0
import Derived.Test.YtpmhkjnnolpknaaDoorProg
import Derived.KernelRfl
import Derived.Test.YtpmhkjnnolpknaaDoorF5
import Derived.Test.YtpmhkjnnolpknaaDoorF4
import Derived.Test.YtpmhkjnnolpknaaDoorGc
open And renaming intro->aF
open Go.IntKind renaming i64->aA
/- What functions do. -/
namespace Go.Proofs
noncomputable section
open Go.Ax Go.Ax.aB Go.RowKit Go.Ab
open Go
def yD(a0:Bool):aM:=(.e .bo a0,[])
def rP(N:Nat):Cx:=⟨Tryd.prog,99999,[(20,aF9 N),(26,aF7 N),(10,aDi N),(22,aCn N),(27,aCX N),(28,aCN N),(29,aCJ N),(30,aCF N)],[]⟩
def PC:Code:=Tryd.f7.body.getD .skip
theorem aIs N:aK (rP N):=cH (by kernel_rfl) (.cons (by kernel_rfl) (aYp N) (.cons (by kernel_rfl) (aYo N) (.cons (by kernel_rfl) (aVT N) (.cons (by kernel_rfl) (aTQ N) (.cons (by kernel_rfl) (aS6 N) (.cons (by kernel_rfl) (aSR N) (.cons (by kernel_rfl) (aSK N) (.cons (by kernel_rfl) (aSC N) .nil)))))))) .nil
def Hs[aB](N:Nat)(self:Int->O)(k0:Bool->O)(k1:Unit->O)(_x0_0:Int)(x0_2:(List (List (List UInt8))))(x0_1:Int):O:=
 br (decide (x0_1<(↑x0_2.length:Int)))
  (gx x0_2 x0_1 λy5=>
  ck (L1 N y5)<|
  gx x0_2 x0_1 λy6=>
  ck (Rp N y6)<|
  ck (!!decide (vU N y5≠FU N y6)||LY N (lO N y5) (lN N y5) (FX N y6) (FW N y6))<|
  br (decide (vU N y5≠FU N y6)||!FQ N (lO N y5) (lN N y5) (FX N y6) (FW N y6))
   (k0 false)
   (self (aA.wrap (x0_1+1))))
  (k1 ())
def PB:Code:=cE [1,1,1,1,0,1,0,0] PC
def Wu:Nm:=⟨[3,14,15],[],[]⟩
def yF(x:Int×Int×(List (List (List UInt8)))):Sg:=⟨[(3,.e (.i .i64) x.1),(14,.own 0),(15,.e (.i .i64) x.2.1)],[(0,.row 37 (.sl (.sl .u8)) x.2.2 true)],100⟩
def Hp(σ:Sg):Int×Int×(List (List (List UInt8))):=(aC (.i .i64) 3 0 σ,aC (.i .i64) 15 0 σ,c9 (.sl (.sl .u8)) 0 σ)
theorem aIm:∀x,Hp (yF x)=x:=λ_=>by kernel_rfl
def Hr(y:Bool):Exit×Sg:=(.ret,⟨[(10,.e .bo y)],[],100⟩)
def aIk(_:Exit)(σ:Sg):Bool:=aC .bo 10 0 σ
def Hq(_:Unit):Exit×Sg:=((.exit 0),⟨[],[],100⟩)
def aIj(_:Exit)(_:Sg):Unit:=()
def aIi:List (Exit×Nm):=[(.ret,⟨[10],[],[]⟩),((.exit 0),⟨[],[],[]⟩)]
def yE[aB](N:Nat):Nat->(Int×Int×(List (List (List UInt8))))->((Bool)->O)->((Unit)->O)->((Unit)->O)->O
 |0,_,_,_,_=>none
 |n+1,x,k0,k1,k2=>Hs N (λv0=>yE N n (x.1,v0,x.2.2) k0 k1 k2) (λy0=>k0 y0) (λ(_:Unit)=>k1 ()) x.1 x.2.2 x.2.1
def PA[aB] N a0 a1 a2 (k0:Bool->O) (k1:Unit->O):=yE N N (a0,a1,a2) (λy=>k0 y) (λy=>k1 y) (λ_=>none)
def Wt[aB] N a0 a1 a2 (k0:Bool->O) (k1:Unit->O):=aP yF Hp (yE N N) (yF (a0,a1,a2)) (λy=>k0 y) (λy=>k1 y) (λ_=>none)
theorem aIr[aB] N:Wt N=PA N:=funext λ_=>funext λ_=>funext λ_=>funext λ_=>funext λ_=>cL aIm _ _ _ _
theorem aIn[aB](N:Nat)(self:Sg->O)(K:Exit->Sg->O)(x:Int×Int×(List (List (List UInt8)))):Hs N (λv0=>self (yF (x.1,v0,x.2.2))) (λy0=>K (Hr y0).1 (Hr y0).2) (λ(_:Unit)=>K (Hq ()).1 (Hq ()).2) x.1 x.2.2 x.2.1=exec (rP N) Tryd.f7.ntmps .d PB (yF x) (cZ Wu aIi self K):=by kernel_rfl
theorem aIu N (hc:aK (rP N)):cF (rP N) Tryd.f7.ntmps (.loop PB) Hr Hq (aN 2) (aP yF Hp (yE N N)):=
 dD hc (cX PB) (jA aIk aIj .ret (.exit 0) (λ_=>by kernel_rfl) (λ_=>by kernel_rfl) (λ_=>rfl) (λ_=>rfl) (by kernel_rfl)) (n:=N) (λx K=>dE (yE N) (λ_ _ _ _=>rfl) (λn K ih x=>by
  refine Eq.trans ?_ (aIn N _ K x);simp only[<-ih];rfl) N x K)
def PD[aB](N:Nat)(in0:Int->Int->(List (List (List UInt8)))->(Bool->O)->(Unit->O)->O)(l0:(List Int))(at1 how2 by3:Int)(k4:(List Int)):O:=
 ck (Fe N l0)<|
 ck (SI N (iD N l0) (iC N l0))<|
 ck (DZ N (oN N (iD N l0) (iC N l0)) at1 how2 by3)<|
 ck true <|
 ck (DZ N (mO N (oN N (iD N l0) (iC N l0)) at1 how2 by3) by3 (aA.wrap (how2.tdiv (6:Int))) at1)<|
 ck (b9 ([]++oN N (iD N l0) (iC N l0)).length (24:Nat))<|
 ck (b9 ([]++oN N (iD N l0) (iC N l0)++[[],[(0:UInt8)]]).length (24:Nat))<|
 ck (Rv N k4)<|
 in0 by3 0 ([oN N (iD N l0) (iC N l0),mO N (oN N (iD N l0) (iC N l0)) at1 how2 by3,mO N (mO N (oN N (iD N l0) (iC N l0)) at1 how2 by3) by3 (aA.wrap (how2.tdiv (6:Int))) at1,[]++oN N (iD N l0) (iC N l0)++[[],[(0:UInt8)]],L3 N k4,[]])
  (λz7=>
   some (yD z7))
  (λ(_:Unit)=>
   ck true <|
   some (yD true))
def w7[aB] N l0 at1 how2 by3 k4:=PD N (PA N) l0 at1 how2 by3 k4
def Wv[aB](N:Nat):Hint:=(.seq .d (.seq .d (.seq .d (.seq .d (.seq (.seq .d (.block (.sub Wu _ _ _ Hr Hq (aN 2) (aP yF Hp (yE N N))))) .d)))))
theorem aIp N (hc:aK (rP N)):bH (rP N) Tryd.f7.ntmps (Wv N) PC:=bS _ _ (aF trivial (aF trivial (aF trivial (aF trivial (aF (aF trivial (aIu N hc)) trivial)))))
theorem w7q[aB] N l0 at1 how2 by3 k4:PD N (Wt N) l0 at1 how2 by3 k4=exec (rP N) Tryd.f7.ntmps (Wv N) PC ⟨cA 0 [.e (.sl (.i .i64)) l0,.e (.i .i64) at1,.e (.i .i64) how2,.e (.i .i64) by3,.e (.sl (.i .i64)) k4],[],100⟩ (cD (rP N) Tryd.f7 false):=by kernel_rfl
def ET(r:aM):Option (Bool):=match r with
 |(x0,[])=>(match ue .bo x0 with|some a0=>some a0|_=>none)
 |_=>none
theorem aIl{r d}(h:ET r=some d):r=yD (d):=by
 unfold ET at h;split at h
 .split at h
  .rename_i h0;cases h;rw[bG h0];rfl
  .cases h
 .cases h
def Oz N l0 at1 how2 by3 k4:=(w7 N l0 at1 how2 by3 k4).bind ET
theorem aIq{N}(hc:aK (rP N)){l0 at1 how2 by3 k4 d}(hd:Oz N l0 at1 how2 by3 k4=some d):cI Tryd.prog 7 [.e (.sl (.i .i64)) l0,.e (.i .i64) at1,.e (.i .i64) how2,.e (.i .i64) by3,.e (.sl (.i .i64)) k4] [] (yD (d)):=
 cJ hc (by kernel_rfl) (by kernel_rfl) (aIp N hc) (by kernel_rfl) aIl (λhr=>(w7q N l0 at1 how2 by3 k4).symm.trans (by rw[aIr N];exact hr)) hd
end
end Go.Proofs
