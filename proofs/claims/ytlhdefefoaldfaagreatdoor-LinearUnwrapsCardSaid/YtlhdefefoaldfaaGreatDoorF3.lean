/- What functions do: the reference. Conditions are in the theorems. -/
import Derived.Test.YtlhdefefoaldfaaGreatDoorE7
import Derived.Test.YtlhdefefoaldfaaGreatDoorProg
import Derived.KernelRfl
import Derived.Test.YtlhdefefoaldfaaGreatDoorF0
open And renaming intro->aG
open Eq renaming trans->fK
open Go.IntKind renaming i64->aC
open Option renaming isSome_iff_exists->s9
/- What functions do. -/
namespace Go.Proofs
noncomputable section
open Go.Ax Go.Ax.aA Go.RowKit Go.Ab
open Go
abbrev lU:=List UInt8
def BT(a0:Int):aE:=(.e (.i .i64) a0,[])
def Hq(_:Nat):Cx:=⟨Tryz.prog,25,[],[]⟩
def aHd:Code:=Tryz.f23.body.getD .skip
theorem a0J N:aF (Hq N):=bY (by kernel_rfl) .nil .nil
def W6[aA](_:Nat)(n0 most1:Int):O:=
 br (decide (n0<0))
  (br (decide (most1<1))
   (some (BT 0))
   (ck (decide (most1≠0))<|
   some (BT ((aC.wrap (-aC.wrap (n0+1))).tmod most1))))
  (br (decide (most1<1))
   (some (BT 0))
   (ck (decide (most1≠0))<|
   some (BT (n0.tmod most1))))
def w23[aA] N n0 most1:=W6 N n0 most1
def aHc[aA](_:Nat):Hint:=.d
theorem a0H N:bJ (Hq N) Tryz.f23.ntmps (aHc N) aHd:=bO _ _ trivial
theorem a0G[aA] N n0 most1:W6 N n0 most1=exec (Hq N) Tryz.f23.ntmps (aHc N) aHd ⟨bU 0 [.e (.i .i64) n0,.e (.i .i64) most1],[],100⟩ (bX (Hq N) Tryz.f23 false):=by kernel_rfl
def W4(r:aE):Option (Int):=match r with
 |(x0,[])=>(match ue (.i .i64) x0 with|some a0=>some a0|_=>none)
 |_=>none
theorem a0F{r d}(h:W4 r=some d):r=BT (d):=by
 unfold W4 at h;split at h
 .split at h
  .rename_i h0;cases h;rw[aH h0];rfl
  .cases h
 .cases h
def EK N n0 most1:=(w23 N n0 most1).bind W4
theorem a0I{N}(hc:aF (Hq N)){n0 most1 d}(hd:EK N n0 most1=some d):cB Tryz.prog 23 [.e (.i .i64) n0,.e (.i .i64) most1] [] (BT (d)):=
 cD hc (by kernel_rfl) (by kernel_rfl) (a0H N) (by kernel_rfl) a0F (a0G N n0 most1).symm.trans hd
def uK N n0 most1:=(EK N n0 most1).isSome
def k8 N n0 most1:=((EK N n0 most1).getD 0)
def PK(N:Nat):bK:=E2 (.i .i64) (.i .i64) (λx0 x1=>(uK N x0 x1,BT (k8 N x0 x1)))
theorem W5 N:aM Tryz.prog 23 (PK N):=aM.e2 (λx0 x1 h=>cY (z:=EK N x0 x1) h (a0I (a0J N)) rfl)
def GJ(a0:Int):aE:=(.e (.i .i64) a0,[])
def GK(N:Nat):Cx:=⟨Tryz.prog,25,[(23,PK N)],[]⟩
def aCM:Code:=Tryz.f85.body.getD .skip
theorem aP2 N:aF (GK N):=bY (by kernel_rfl) (.cons (by kernel_rfl) (W5 N) .nil) .nil
def Ss[aA](N:Nat)(l0:(List Int))(i1 most2:Int):O:=
 br (decide (i1<0)||decide ((↑l0.length:Int)<=i1))
  (some (GJ 0))
  (gx l0 i1 λy0=>
  ck (uK N y0 most2)<|
  some (GJ (k8 N y0 most2)))
def w85[aA] N l0 i1 most2:=Ss N l0 i1 most2
def aCK[aA](_:Nat):Hint:=.d
theorem aP0 N:bJ (GK N) Tryz.f85.ntmps (aCK N) aCM:=bO _ _ trivial
theorem aPY[aA] N l0 i1 most2:Ss N l0 i1 most2=exec (GK N) Tryz.f85.ntmps (aCK N) aCM ⟨bU 0 [.e (.sl (.i .i64)) l0,.e (.i .i64) i1,.e (.i .i64) most2],[],100⟩ (bX (GK N) Tryz.f85 false):=by kernel_rfl
def Sr(r:aE):Option (Int):=match r with
 |(x0,[])=>(match ue (.i .i64) x0 with|some a0=>some a0|_=>none)
 |_=>none
theorem aPX{r d}(h:Sr r=some d):r=GJ (d):=by
 unfold Sr at h;split at h
 .split at h
  .rename_i h0;cases h;rw[aH h0];rfl
  .cases h
 .cases h
def Cc N l0 i1 most2:=(w85 N l0 i1 most2).bind Sr
theorem aP1{N}(hc:aF (GK N)){l0 i1 most2 d}(hd:Cc N l0 i1 most2=some d):cB Tryz.prog 85 [.e (.sl (.i .i64)) l0,.e (.i .i64) i1,.e (.i .i64) most2] [] (GJ (d)):=
 cD hc (by kernel_rfl) (by kernel_rfl) (aP0 N) (by kernel_rfl) aPX (aPY N l0 i1 most2).symm.trans hd
def Ku N l0 i1 most2:=(Cc N l0 i1 most2).isSome
def Kt N l0 i1 most2:=((Cc N l0 i1 most2).getD 0)
def aCL(N:Nat):bK:=E3 (.sl (.i .i64)) (.i .i64) (.i .i64) (λx0 x1 x2=>(Ku N x0 x1 x2,GJ (Kt N x0 x1 x2)))
theorem aPZ N:aM Tryz.prog 85 (aCL N):=aM.e3 (λx0 x1 x2 h=>cY (z:=Cc N x0 x1 x2) h (aP1 (aP2 N)) rfl)
def Mc(a0:Int)(a1:(List Int))(a2:Int):aE:=(.e (.i .i64) a0,[(50,.box 77 [.e (.sl (.i .i64)) a1,.e (.i .i64) a2])])
def HC(N:Nat):Cx:=⟨Tryz.prog,25,[(85,aCL N)],[]⟩
def aEu:Code:=Tryz.f55.body.getD .skip
theorem aUa N:aF (HC N):=bY (by kernel_rfl) (.cons (by kernel_rfl) (aPZ N) .nil) .nil
def Uh[aA](N:Nat)(n1:Int)(g0:(List Int))(g1:Int):O:=
 ck (Ku N g0 (aC.wrap (aC.wrap (g1+1)-(1:Int))) n1)<|
 some (Mc (Kt N g0 (aC.wrap (aC.wrap (g1+1)-(1:Int))) n1) g0 (aC.wrap (g1+1)))
def w55[aA] N n1 g0 g1:=Uh N n1 g0 g1
def aEt[aA](_:Nat):Hint:=.d
theorem aU8 N:bJ (HC N) Tryz.f55.ntmps (aEt N) aEu:=bO _ _ trivial
theorem aU6[aA] N n1 g0 g1:Uh N n1 g0 g1=exec (HC N) Tryz.f55.ntmps (aEt N) aEu ⟨bU 0 [.ref 50 0,.e (.i .i64) n1],[(50,.box 77 [.e (.sl (.i .i64)) g0,.e (.i .i64) g1])],100⟩ (bX (HC N) Tryz.f55 false):=by kernel_rfl
def Ua(r:aE):Option (Int×(List Int)×Int):=match r with
 |(x0,[(50,.box 77 [x1,x2])])=>(match ue (.i .i64) x0,ue (.sl (.i .i64)) x1,ue (.i .i64) x2 with|some a0,some a1,some a2=>some (a0,a1,a2)|_,_,_=>none)
 |_=>none
theorem aU5{r d}(h:Ua r=some d):r=Mc d.1 d.2.1 d.2.2:=by
 unfold Ua at h;split at h
 .split at h
  .rename_i h0 h1 h2;cases h;rw[aH h0,aH h1,aH h2];rfl
  .cases h
 .cases h
def wX N n1 g0 g1:=(w55 N n1 g0 g1).bind Ua
theorem aU9{N}(hc:aF (HC N)){n1 g0 g1 d}(hd:wX N n1 g0 g1=some d):cB Tryz.prog 55 [.ref 50 0,.e (.i .i64) n1] [(50,.box 77 [.e (.sl (.i .i64)) g0,.e (.i .i64) g1])] (Mc d.1 d.2.1 d.2.2):=
 cD hc (by kernel_rfl) (by kernel_rfl) (aU8 N) (by kernel_rfl) aU5 (aU6 N n1 g0 g1).symm.trans hd
def wY N n1 g0 g1:=(wX N n1 g0 g1).isSome
def tS N n1 g0 g1:=((wX N n1 g0 g1).getD (0,[],0)).1
def iN N n1 g0 g1:=((wX N n1 g0 g1).getD (0,[],0)).2.1
def iM N n1 g0 g1:=((wX N n1 g0 g1).getD (0,[],0)).2.2
def Ub(xs:List X)(H:XH):Option (Int×(List Int)×Int):=match xs,H with
 |[.ref 50 0,x0],[(50,.box 77 [x1,x2])]=>(match ue (.i .i64) x0,ue (.sl (.i .i64)) x1,ue (.i .i64) x2 with|some a0,some a1,some a2=>some (a0,a1,a2)|_,_,_=>none)
 |_,_=>none
theorem aU7{xs H d}(h:Ub xs H=some d):xs=[.ref 50 0,.e (.i .i64) d.1]/\H=[(50,.box 77 [.e (.sl (.i .i64)) d.2.1,.e (.i .i64) d.2.2])]:=by
 unfold Ub at h;split at h
 .split at h
  .rename_i h0 h1 h2;cases h;rw[aH h0,aH h1,aH h2];exact⟨rfl,rfl⟩
  .cases h
 .cases h
def Uc(N:Nat):bK:=fD Ub (λd=>wY N d.1 d.2.1 d.2.2) (λd=>Mc (tS N d.1 d.2.1 d.2.2) (iN N d.1 d.2.1 d.2.2) (iM N d.1 d.2.1 d.2.2))
theorem aEs N:aM Tryz.prog 55 (Uc N):=eO aU7 (λd h=>cY (z:=wX N d.1 d.2.1 d.2.2) h (aU9 (aUa N)) rfl)
def nM(a0 a1:Int)(a2:(List Ex))(a3:(List Int))(a4:Int):aE:=(.agg [.e (.i .i64) a0,.e (.i .i64) a1,.e (.sl .ex) a2],[(50,.box 77 [.e (.sl (.i .i64)) a3,.e (.i .i64) a4])])
def M5(xs:List X)(H:XH):Option (Int×(List Int)×Int):=match xs,H with
 |[.ref 50 0,x0],[(50,.box 77 [x1,x2])]=>(match ue (.i .i64) x0,ue (.sl (.i .i64)) x1,ue (.i .i64) x2 with|some a0,some a1,some a2=>some (a0,a1,a2)|_,_,_=>none)
 |_,_=>none
theorem aEh{xs H d}(h:M5 xs H=some d):xs=[.ref 50 0,.e (.i .i64) d.1]/\H=[(50,.box 77 [.e (.sl (.i .i64)) d.2.1,.e (.i .i64) d.2.2])]:=by
 unfold M5 at h;split at h
 .split at h
  .rename_i h0 h1 h2;cases h;rw[aH h0,aH h1,aH h2];exact⟨rfl,rfl⟩
  .cases h
 .cases h
abbrev k5:=Nat×((Int->(List Int)->Int->Option (Int×Int×(List Ex)×(List Int)×Int)))
def U9(N:k5):bK:=fD M5 (λd=>(N.2 d.1 d.2.1 d.2.2).isSome) (λd=>nM (((N.2 d.1 d.2.1 d.2.2).getD (0,0,[],[],0)).1) (((N.2 d.1 d.2.1 d.2.2).getD (0,0,[],[],0)).2.1) (((N.2 d.1 d.2.1 d.2.2).getD (0,0,[],[],0)).2.2.1) (((N.2 d.1 d.2.1 d.2.2).getD (0,0,[],[],0)).2.2.2.1) (((N.2 d.1 d.2.1 d.2.2).getD (0,0,[],[],0)).2.2.2.2))
def jQ(N:k5):Cx:=⟨Tryz.prog,25,[(56,U9 N),(55,Uc N.1)],[]⟩
def DU:Code:=Tryz.f56.body.getD .skip
theorem aU0 N (hw49:aM Tryz.prog 56 (U9 N)):aF (jQ N):=bY (by kernel_rfl) (.cons (by kernel_rfl) hw49 (.cons (by kernel_rfl) (aEs N.1) .nil)) .nil
def U8[aA](_:k5)(k0:Int->Int->(List Int)->Int->Int->Int->O)(x0_0 x0_1:Int)(x0_2:(List Int))(x0_3 x0_4 x0_5:Int):O:=
 br (decide (x0_0<=1)||decide ((↑x0_2.length:Int)<x0_3))
  (ck true <|
  k0 x0_0 (x0_1.tmod (4:Int)) x0_2 x0_3 x0_4 x0_5)
  (k0 x0_0 x0_1 x0_2 x0_3 x0_4 x0_5)
def U6:Code:=cK [1,1,0] DU
def aUU:Nm:=⟨[0,1,4,5],[],[]⟩
def DY(x:Int×Int×(List Int)×Int×Int×Int):Sg:=⟨[(0,.ref 50 0),(1,.e (.i .i64) x.1),(4,.ref 0 0),(5,.e (.i .i64) x.2.1)],[(50,.box 77 [.e (.sl (.i .i64)) x.2.2.1,.e (.i .i64) x.2.2.2.1]),(0,.box 25 [.e (.i .i64) x.2.2.2.2.1,.e (.i .i64) x.2.2.2.2.2,.cC])],100⟩
def M0(σ:Sg):Int×Int×(List Int)×Int×Int×Int:=(aO (.i .i64) 1 0 σ,aO (.i .i64) 5 0 σ,aL (.sl (.i .i64)) 50 0 σ,aL (.i .i64) 50 1 σ,aL (.i .i64) 0 0 σ,aL (.i .i64) 0 1 σ)
theorem aUK:∀x,M0 (DY x)=x:=λ_=>by kernel_rfl
def Mb(y:Int×Int×(List Int)×Int×Int×Int):Exit×Sg:=(.normal,⟨[(0,.ref 50 0),(1,.e (.i .i64) y.1),(4,.ref 0 0),(5,.e (.i .i64) y.2.1)],[(50,.box 77 [.e (.sl (.i .i64)) y.2.2.1,.e (.i .i64) y.2.2.2.1]),(0,.box 25 [.e (.i .i64) y.2.2.2.2.1,.e (.i .i64) y.2.2.2.2.2,.cC])],100⟩)
def aUF(_:Exit)(σ:Sg):Int×Int×(List Int)×Int×Int×Int:=(aO (.i .i64) 1 0 σ,aO (.i .i64) 5 0 σ,aL (.sl (.i .i64)) 50 0 σ,aL (.i .i64) 50 1 σ,aL (.i .i64) 0 0 σ,aL (.i .i64) 0 1 σ)
def aUA:List (Exit×Nm):=[(.normal,⟨[0,1,4,5],[],[]⟩)]
def HB[aA](N:k5)(_:Nat)(x:Int×Int×(List Int)×Int×Int×Int)(k0:(Int×Int×(List Int)×Int×Int×Int)->O)(_:(Unit)->O)(_:(Unit)->O):O:=U8 N (λy0 y1 y2 y3 y4 y5=>k0 (y0,y1,y2,y3,y4,y5)) x.1 x.2.1 x.2.2.1 x.2.2.2.1 x.2.2.2.2.1 x.2.2.2.2.2
def U0[aA] N a0 a1 a2 a3 a4 a5 (k0:Int->Int->(List Int)->Int->Int->Int->O):=HB N N.1 (a0,a1,a2,a3,a4,a5) (λy=>k0 y.1 y.2.1 y.2.2.1 y.2.2.2.1 y.2.2.2.2.1 y.2.2.2.2.2) (λ_=>none) (λ_=>none)
def aEg[aA] N a0 a1 a2 a3 a4 a5 (k0:Int->Int->(List Int)->Int->Int->Int->O):=aY DY M0 (HB N N.1) (DY (a0,a1,a2,a3,a4,a5)) (λy=>k0 y.1 y.2.1 y.2.2.1 y.2.2.2.1 y.2.2.2.2.1 y.2.2.2.2.2) (λ_=>none) (λ_=>none)
theorem aUZ[aA] N:aEg N=U0 N:=funext λ_=>funext λ_=>funext λ_=>funext λ_=>funext λ_=>funext λ_=>funext λ_=>cW aUK _ _ _ _
theorem aUO[aA](N:k5)(K:Exit->Sg->O)(x:Int×Int×(List Int)×Int×Int×Int):U8 N (λy0 y1 y2 y3 y4 y5=>K (Mb (y0,y1,y2,y3,y4,y5)).1 (Mb (y0,y1,y2,y3,y4,y5)).2) x.1 x.2.1 x.2.2.1 x.2.2.2.1 x.2.2.2.2.1 x.2.2.2.2.2=exec (jQ N) Tryz.f56.ntmps .d U6 (DY x) (hY aUA K):=by kernel_rfl
theorem aU4 N (hc:aF (jQ N)):cN (jQ N) Tryz.f56.ntmps U6 Mb (aW 1) (aW 2) (aY DY M0 (HB N N.1)):=
 iV hc (cO U6) (eZ aUF .normal (λ_=>by kernel_rfl) (λ_=>rfl) (by kernel_rfl)) (λx K=>by
  exact aUO N K x)
def aEq[aA](_:k5)(k0:Int->Int->Int->Bool->(List Int)->Int->Int->Int->O)(x74_0 x74_1 x74_2:Int)(x74_3:(List Int))(x74_4 x74_5 x74_6:Int):O:=
 br (decide (x74_2=0))
  (k0 x74_0 x74_1 x74_2 (decide (x74_2=0)) x74_3 x74_4 x74_5 x74_6)
  (k0 x74_0 x74_1 x74_2 (decide (x74_2=1)) x74_3 x74_4 x74_5 x74_6)
def U5:Code:=cK [1,1,1,0,1,0,0] DU
def aUT:Nm:=⟨[0,1,4,5,27],[],[]⟩
def DX(x:Int×Int×Int×(List Int)×Int×Int×Int):Sg:=⟨[(0,.ref 50 0),(1,.e (.i .i64) x.1),(4,.ref 0 0),(5,.e (.i .i64) x.2.1),(27,.e (.i .i64) x.2.2.1)],[(50,.box 77 [.e (.sl (.i .i64)) x.2.2.2.1,.e (.i .i64) x.2.2.2.2.1]),(0,.box 25 [.e (.i .i64) x.2.2.2.2.2.1,.e (.i .i64) x.2.2.2.2.2.2,.cC])],100⟩
def MZ(σ:Sg):Int×Int×Int×(List Int)×Int×Int×Int:=(aO (.i .i64) 1 0 σ,aO (.i .i64) 5 0 σ,aO (.i .i64) 27 0 σ,aL (.sl (.i .i64)) 50 0 σ,aL (.i .i64) 50 1 σ,aL (.i .i64) 0 0 σ,aL (.i .i64) 0 1 σ)
theorem aUJ:∀x,MZ (DX x)=x:=λ_=>by kernel_rfl
def Ma(y:Int×Int×Int×Bool×(List Int)×Int×Int×Int):Exit×Sg:=(.normal,⟨[(0,.ref 50 0),(1,.e (.i .i64) y.1),(4,.ref 0 0),(5,.e (.i .i64) y.2.1),(27,.e (.i .i64) y.2.2.1),(28,.e .bo y.2.2.2.1)],[(50,.box 77 [.e (.sl (.i .i64)) y.2.2.2.2.1,.e (.i .i64) y.2.2.2.2.2.1]),(0,.box 25 [.e (.i .i64) y.2.2.2.2.2.2.1,.e (.i .i64) y.2.2.2.2.2.2.2,.cC])],100⟩)
def aUE(_:Exit)(σ:Sg):Int×Int×Int×Bool×(List Int)×Int×Int×Int:=(aO (.i .i64) 1 0 σ,aO (.i .i64) 5 0 σ,aO (.i .i64) 27 0 σ,aO .bo 28 0 σ,aL (.sl (.i .i64)) 50 0 σ,aL (.i .i64) 50 1 σ,aL (.i .i64) 0 0 σ,aL (.i .i64) 0 1 σ)
def aTz:List (Exit×Nm):=[(.normal,⟨[0,1,4,5,27,28],[],[]⟩)]
def M4[aA](N:k5)(_:Nat)(x:Int×Int×Int×(List Int)×Int×Int×Int)(k0:(Int×Int×Int×Bool×(List Int)×Int×Int×Int)->O)(_:(Unit)->O)(_:(Unit)->O):O:=aEq N (λy0 y1 y2 y3 y4 y5 y6 y7=>k0 (y0,y1,y2,y3,y4,y5,y6,y7)) x.1 x.2.1 x.2.2.1 x.2.2.2.1 x.2.2.2.2.1 x.2.2.2.2.2.1 x.2.2.2.2.2.2
def UZ[aA] N a0 a1 a2 a3 a4 a5 a6 (k0:Int->Int->Int->Bool->(List Int)->Int->Int->Int->O):=M4 N N.1 (a0,a1,a2,a3,a4,a5,a6) (λy=>k0 y.1 y.2.1 y.2.2.1 y.2.2.2.1 y.2.2.2.2.1 y.2.2.2.2.2.1 y.2.2.2.2.2.2.1 y.2.2.2.2.2.2.2) (λ_=>none) (λ_=>none)
def UX[aA] N a0 a1 a2 a3 a4 a5 a6 (k0:Int->Int->Int->Bool->(List Int)->Int->Int->Int->O):=aY DX MZ (M4 N N.1) (DX (a0,a1,a2,a3,a4,a5,a6)) (λy=>k0 y.1 y.2.1 y.2.2.1 y.2.2.2.1 y.2.2.2.2.1 y.2.2.2.2.2.1 y.2.2.2.2.2.2.1 y.2.2.2.2.2.2.2) (λ_=>none) (λ_=>none)
theorem aEm[aA] N:UX N=UZ N:=funext λ_=>funext λ_=>funext λ_=>funext λ_=>funext λ_=>funext λ_=>funext λ_=>funext λ_=>cW aUJ _ _ _ _
theorem aUN[aA](N:k5)(K:Exit->Sg->O)(x:Int×Int×Int×(List Int)×Int×Int×Int):aEq N (λy0 y1 y2 y3 y4 y5 y6 y7=>K (Ma (y0,y1,y2,y3,y4,y5,y6,y7)).1 (Ma (y0,y1,y2,y3,y4,y5,y6,y7)).2) x.1 x.2.1 x.2.2.1 x.2.2.2.1 x.2.2.2.2.1 x.2.2.2.2.2.1 x.2.2.2.2.2.2=exec (jQ N) Tryz.f56.ntmps .d U5 (DX x) (hY aTz K):=by kernel_rfl
theorem aU3 N (hc:aF (jQ N)):cN (jQ N) Tryz.f56.ntmps U5 Ma (aW 1) (aW 2) (aY DX MZ (M4 N N.1)):=
 iV hc (cO U5) (eZ aUE .normal (λ_=>by kernel_rfl) (λ_=>rfl) (by kernel_rfl)) (λx K=>by
  exact aUN N K x)
def aEp[aA](_:k5)(k0:Int->Int->Int->Bool->(List Int)->Int->Int->Int->O)(x84_0 x84_1 x84_2:Int)(x84_3:(List Int))(x84_4 x84_5 x84_6:Int):O:=
 br (decide (x84_2=2))
  (k0 x84_0 x84_1 x84_2 (decide (x84_2=2)) x84_3 x84_4 x84_5 x84_6)
  (k0 x84_0 x84_1 x84_2 (decide (x84_2=3)) x84_3 x84_4 x84_5 x84_6)
def U4:Code:=cK [1,1,1,0,1,0,1,1,0] DU
def aUS:Nm:=⟨[0,1,4,5,27],[],[]⟩
def DW(x:Int×Int×Int×(List Int)×Int×Int×Int):Sg:=⟨[(0,.ref 50 0),(1,.e (.i .i64) x.1),(4,.ref 0 0),(5,.e (.i .i64) x.2.1),(27,.e (.i .i64) x.2.2.1)],[(50,.box 77 [.e (.sl (.i .i64)) x.2.2.2.1,.e (.i .i64) x.2.2.2.2.1]),(0,.box 25 [.e (.i .i64) x.2.2.2.2.2.1,.e (.i .i64) x.2.2.2.2.2.2,.cC])],100⟩
def MY(σ:Sg):Int×Int×Int×(List Int)×Int×Int×Int:=(aO (.i .i64) 1 0 σ,aO (.i .i64) 5 0 σ,aO (.i .i64) 27 0 σ,aL (.sl (.i .i64)) 50 0 σ,aL (.i .i64) 50 1 σ,aL (.i .i64) 0 0 σ,aL (.i .i64) 0 1 σ)
theorem aUI:∀x,MY (DW x)=x:=λ_=>by kernel_rfl
def M9(y:Int×Int×Int×Bool×(List Int)×Int×Int×Int):Exit×Sg:=(.normal,⟨[(0,.ref 50 0),(1,.e (.i .i64) y.1),(4,.ref 0 0),(5,.e (.i .i64) y.2.1),(27,.e (.i .i64) y.2.2.1),(37,.e .bo y.2.2.2.1)],[(50,.box 77 [.e (.sl (.i .i64)) y.2.2.2.2.1,.e (.i .i64) y.2.2.2.2.2.1]),(0,.box 25 [.e (.i .i64) y.2.2.2.2.2.2.1,.e (.i .i64) y.2.2.2.2.2.2.2,.cC])],100⟩)
def aUD(_:Exit)(σ:Sg):Int×Int×Int×Bool×(List Int)×Int×Int×Int:=(aO (.i .i64) 1 0 σ,aO (.i .i64) 5 0 σ,aO (.i .i64) 27 0 σ,aO .bo 37 0 σ,aL (.sl (.i .i64)) 50 0 σ,aL (.i .i64) 50 1 σ,aL (.i .i64) 0 0 σ,aL (.i .i64) 0 1 σ)
def aTy:List (Exit×Nm):=[(.normal,⟨[0,1,4,5,27,37],[],[]⟩)]
def M3[aA](N:k5)(_:Nat)(x:Int×Int×Int×(List Int)×Int×Int×Int)(k0:(Int×Int×Int×Bool×(List Int)×Int×Int×Int)->O)(_:(Unit)->O)(_:(Unit)->O):O:=aEp N (λy0 y1 y2 y3 y4 y5 y6 y7=>k0 (y0,y1,y2,y3,y4,y5,y6,y7)) x.1 x.2.1 x.2.2.1 x.2.2.2.1 x.2.2.2.2.1 x.2.2.2.2.2.1 x.2.2.2.2.2.2
def UY[aA] N a0 a1 a2 a3 a4 a5 a6 (k0:Int->Int->Int->Bool->(List Int)->Int->Int->Int->O):=M3 N N.1 (a0,a1,a2,a3,a4,a5,a6) (λy=>k0 y.1 y.2.1 y.2.2.1 y.2.2.2.1 y.2.2.2.2.1 y.2.2.2.2.2.1 y.2.2.2.2.2.2.1 y.2.2.2.2.2.2.2) (λ_=>none) (λ_=>none)
def UW[aA] N a0 a1 a2 a3 a4 a5 a6 (k0:Int->Int->Int->Bool->(List Int)->Int->Int->Int->O):=aY DW MY (M3 N N.1) (DW (a0,a1,a2,a3,a4,a5,a6)) (λy=>k0 y.1 y.2.1 y.2.2.1 y.2.2.2.1 y.2.2.2.2.1 y.2.2.2.2.2.1 y.2.2.2.2.2.2.1 y.2.2.2.2.2.2.2) (λ_=>none) (λ_=>none)
theorem aEl[aA] N:UW N=UY N:=funext λ_=>funext λ_=>funext λ_=>funext λ_=>funext λ_=>funext λ_=>funext λ_=>funext λ_=>cW aUI _ _ _ _
theorem aUM[aA](N:k5)(K:Exit->Sg->O)(x:Int×Int×Int×(List Int)×Int×Int×Int):aEp N (λy0 y1 y2 y3 y4 y5 y6 y7=>K (M9 (y0,y1,y2,y3,y4,y5,y6,y7)).1 (M9 (y0,y1,y2,y3,y4,y5,y6,y7)).2) x.1 x.2.1 x.2.2.1 x.2.2.2.1 x.2.2.2.2.1 x.2.2.2.2.2.1 x.2.2.2.2.2.2=exec (jQ N) Tryz.f56.ntmps .d U4 (DW x) (hY aTy K):=by kernel_rfl
theorem aU2 N (hc:aF (jQ N)):cN (jQ N) Tryz.f56.ntmps U4 M9 (aW 1) (aW 2) (aY DW MY (M3 N N.1)):=
 iV hc (cO U4) (eZ aUD .normal (λ_=>by kernel_rfl) (λ_=>rfl) (by kernel_rfl)) (λx K=>by
  exact aUM N K x)
def aEo[aA](N:k5)(in1:Int->Int->Int->(List Int)->Int->Int->Int->(Int->Int->Int->Bool->(List Int)->Int->Int->Int->O)->O)(in2:Int->Int->Int->(List Int)->Int->Int->Int->(Int->Int->Int->Bool->(List Int)->Int->Int->Int->O)->O)(k0:(List Int)->Int->Int->Int->(List Ex)->O)(k1:Int->Int->(List Int)->Int->Int->Int->O)(x7_0 x7_1:Int)(x7_2:(List Int))(x7_3 x7_4 x7_5:Int):O:=
 in1 x7_0 x7_1 x7_1 x7_2 x7_3 x7_4 x7_5
  (λz75 z76 z77 z78 z79 z80 z81 z82=>
   br z78
    (ck (wY N.1 (6:Int) z79 z80)<|
    gx [(0:Int),(1:Int),(2:Int),(10:Int),(47:Int),(999999:Int)] (tS N.1 (6:Int) z79 z80) λy83=>
    k0 (iN N.1 (6:Int) z79 z80) (iM N.1 (6:Int) z79 z80) 0 y83 [])
    (in2 z75 z76 z77 z79 z80 z81 z82
     (λz85 z86 z87 z88 z89 z90 z91 z92=>
      br z88
       (ck (wY N.1 (5:Int) z89 z90)<|
       gx [(0:Int),(1:Int),(2:Int),(23:Int),(25:Int)] (tS N.1 (5:Int) z89 z90) λy93=>
       k0 (iN N.1 (5:Int) z89 z90) (iM N.1 (5:Int) z89 z90) 1 y93 [])
       (br (decide (z87=4))
        (br (decide (z87=4))
         (gx [(2:Int),(8:Int)] (aC.wrap (z86-4)) λy94=>
         ck ((N.2 (aC.wrap (z85-1)) z89 z90).isSome)<|
         k0 (((N.2 (aC.wrap (z85-1)) z89 z90).getD ((0:Int),(0:Int),[],[],(0:Int))).2.2.2.1) (((N.2 (aC.wrap (z85-1)) z89 z90).getD ((0:Int),(0:Int),[],[],(0:Int))).2.2.2.2) y94 0 [Ex.mk ((N.2 (aC.wrap (z85-1)) z89 z90).getD ((0:Int),(0:Int),[],[],(0:Int))).1 ((N.2 (aC.wrap (z85-1)) z89 z90).getD ((0:Int),(0:Int),[],[],(0:Int))).2.1 ((N.2 (aC.wrap (z85-1)) z89 z90).getD ((0:Int),(0:Int),[],[],(0:Int))).2.2.1])
         (k1 z85 z86 z89 z90 z91 z92))
        (br (decide (z87=5))
         (gx [(2:Int),(8:Int)] (aC.wrap (z86-4)) λy95=>
         ck ((N.2 (aC.wrap (z85-1)) z89 z90).isSome)<|
         k0 (((N.2 (aC.wrap (z85-1)) z89 z90).getD ((0:Int),(0:Int),[],[],(0:Int))).2.2.2.1) (((N.2 (aC.wrap (z85-1)) z89 z90).getD ((0:Int),(0:Int),[],[],(0:Int))).2.2.2.2) y95 0 [Ex.mk ((N.2 (aC.wrap (z85-1)) z89 z90).getD ((0:Int),(0:Int),[],[],(0:Int))).1 ((N.2 (aC.wrap (z85-1)) z89 z90).getD ((0:Int),(0:Int),[],[],(0:Int))).2.1 ((N.2 (aC.wrap (z85-1)) z89 z90).getD ((0:Int),(0:Int),[],[],(0:Int))).2.2.1])
         (k1 z85 z86 z89 z90 z91 z92))))))
def U3:Code:=cK [1,1,1,0] DU
def aUR:Nm:=⟨[0,1,4,5],[],[]⟩
def DV(x:Int×Int×(List Int)×Int×Int×Int):Sg:=⟨[(0,.ref 50 0),(1,.e (.i .i64) x.1),(4,.ref 0 0),(5,.e (.i .i64) x.2.1)],[(50,.box 77 [.e (.sl (.i .i64)) x.2.2.1,.e (.i .i64) x.2.2.2.1]),(0,.box 25 [.e (.i .i64) x.2.2.2.2.1,.e (.i .i64) x.2.2.2.2.2,.cC])],100⟩
def MX(σ:Sg):Int×Int×(List Int)×Int×Int×Int:=(aO (.i .i64) 1 0 σ,aO (.i .i64) 5 0 σ,aL (.sl (.i .i64)) 50 0 σ,aL (.i .i64) 50 1 σ,aL (.i .i64) 0 0 σ,aL (.i .i64) 0 1 σ)
theorem aUH:∀x,MX (DV x)=x:=λ_=>by kernel_rfl
def M8(y:(List Int)×Int×Int×Int×(List Ex)):Exit×Sg:=(.ret,⟨[(4,.ref 0 0)],[(50,.box 77 [.e (.sl (.i .i64)) y.1,.e (.i .i64) y.2.1]),(0,.box 25 [.e (.i .i64) y.2.2.1,.e (.i .i64) y.2.2.2.1,.own 1]),(1,.row 25 .ex y.2.2.2.2 true)],100⟩)
def aUC(_:Exit)(σ:Sg):(List Int)×Int×Int×Int×(List Ex):=(aL (.sl (.i .i64)) 50 0 σ,aL (.i .i64) 50 1 σ,aL (.i .i64) 0 0 σ,aL (.i .i64) 0 1 σ,dA .ex 1 σ)
def M7(y:Int×Int×(List Int)×Int×Int×Int):Exit×Sg:=(.normal,⟨[(0,.ref 50 0),(1,.e (.i .i64) y.1),(4,.ref 0 0),(5,.e (.i .i64) y.2.1)],[(50,.box 77 [.e (.sl (.i .i64)) y.2.2.1,.e (.i .i64) y.2.2.2.1]),(0,.box 25 [.e (.i .i64) y.2.2.2.2.1,.e (.i .i64) y.2.2.2.2.2,.cC])],100⟩)
def aUB(_:Exit)(σ:Sg):Int×Int×(List Int)×Int×Int×Int:=(aO (.i .i64) 1 0 σ,aO (.i .i64) 5 0 σ,aL (.sl (.i .i64)) 50 0 σ,aL (.i .i64) 50 1 σ,aL (.i .i64) 0 0 σ,aL (.i .i64) 0 1 σ)
def aTx:List (Exit×Nm):=[(.ret,⟨[4],[],[.Qr 4 2 (.row 25 .ex [] true)]⟩),(.normal,⟨[0,1,4,5],[],[]⟩)]
def M1[aA](N:k5)(_:Nat)(x:Int×Int×(List Int)×Int×Int×Int)(k0:((List Int)×Int×Int×Int×(List Ex))->O)(k1:(Int×Int×(List Int)×Int×Int×Int)->O)(_:(Unit)->O):O:=aEo N (UZ N) (UY N) (λy0 y1 y2 y3 y4=>k0 (y0,y1,y2,y3,y4)) (λy0 y1 y2 y3 y4 y5=>k1 (y0,y1,y2,y3,y4,y5)) x.1 x.2.1 x.2.2.1 x.2.2.2.1 x.2.2.2.2.1 x.2.2.2.2.2
def lY[aA] N a0 a1 a2 a3 a4 a5 (k0:(List Int)->Int->Int->Int->(List Ex)->O) (k1:Int->Int->(List Int)->Int->Int->Int->O):=M1 N N.1 (a0,a1,a2,a3,a4,a5) (λy=>k0 y.1 y.2.1 y.2.2.1 y.2.2.2.1 y.2.2.2.2) (λy=>k1 y.1 y.2.1 y.2.2.1 y.2.2.2.1 y.2.2.2.2.1 y.2.2.2.2.2) (λ_=>none)
def aEf[aA] N a0 a1 a2 a3 a4 a5 (k0:(List Int)->Int->Int->Int->(List Ex)->O) (k1:Int->Int->(List Int)->Int->Int->Int->O):=aY DV MX (M1 N N.1) (DV (a0,a1,a2,a3,a4,a5)) (λy=>k0 y.1 y.2.1 y.2.2.1 y.2.2.2.1 y.2.2.2.2) (λy=>k1 y.1 y.2.1 y.2.2.1 y.2.2.2.1 y.2.2.2.2.1 y.2.2.2.2.2) (λ_=>none)
theorem aUY[aA] N:aEf N=lY N:=funext λ_=>funext λ_=>funext λ_=>funext λ_=>funext λ_=>funext λ_=>funext λ_=>funext λ_=>cW aUH _ _ _ _
def aEi[aA](N:k5):Hint:=(.seq .d (.block (.seq (.sub aUT _ _ _ Ma (aW 1) (aW 2) (aY DX MZ (M4 N N.1))) (.cond .d (.seq (.sub aUS _ _ _ M9 (aW 1) (aW 2) (aY DW MY (M3 N N.1))) (.cond .d (.seq .d (.cond (.seq (.gI [] [] [[],[],[],[],[],[],[],[],[50],[],[],[0]]) .d) .d))))))))
theorem aUV N (hc:aF (jQ N)):bJ (jQ N) Tryz.f56.ntmps (aEi N) U3:=bO _ _ (aG trivial (aG (aU3 N hc) (aG trivial (aG (aU2 N hc) (aG trivial (aG trivial (aG (aG trivial trivial) trivial)))))))
theorem aUL[aA](N:k5)(K:Exit->Sg->O)(x:Int×Int×(List Int)×Int×Int×Int):aEo N (UX N) (UW N) (λy0 y1 y2 y3 y4=>K (M8 (y0,y1,y2,y3,y4)).1 (M8 (y0,y1,y2,y3,y4)).2) (λy0 y1 y2 y3 y4 y5=>K (M7 (y0,y1,y2,y3,y4,y5)).1 (M7 (y0,y1,y2,y3,y4,y5)).2) x.1 x.2.1 x.2.2.1 x.2.2.2.1 x.2.2.2.2.1 x.2.2.2.2.2=exec (jQ N) Tryz.f56.ntmps (aEi N) U3 (DV x) (hY aTx K):=by kernel_rfl
theorem aU1 N (hc:aF (jQ N)):cN (jQ N) Tryz.f56.ntmps U3 M8 M7 (aW 2) (aY DV MX (M1 N N.1)):=
 iV hc (aUV N hc) (iS aUC aUB .ret .normal (λ_=>by kernel_rfl) (λ_=>by kernel_rfl) (λ_=>rfl) (λ_=>rfl) (by kernel_rfl)) (λx K=>by
  have q:=aUL N K x;rw[aEm N,aEl N]at q;exact q)
def U7[aA](N:k5)(in0:Int->Int->(List Int)->Int->Int->Int->(Int->Int->(List Int)->Int->Int->Int->O)->O)(_in1:Int->Int->Int->(List Int)->Int->Int->Int->(Int->Int->Int->Bool->(List Int)->Int->Int->Int->O)->O)(_in2:Int->Int->Int->(List Int)->Int->Int->Int->(Int->Int->Int->Bool->(List Int)->Int->Int->Int->O)->O)(in3:Int->Int->(List Int)->Int->Int->Int->((List Int)->Int->Int->Int->(List Ex)->O)->(Int->Int->(List Int)->Int->Int->Int->O)->O)(depth1:Int)(g0:(List Int))(g1:Int):O:=
 ck (wY N.1 (12:Int) g0 g1)<|
 in0 depth1 (tS N.1 (12:Int) g0 g1) (iN N.1 (12:Int) g0 g1) (iM N.1 (12:Int) g0 g1) 0 0
  (λz1 z2 z3 z4 z5 z6=>
   in3 z1 z2 z3 z4 z5 z6
    (λz96 z97 z98 z99 z100=>
     some (nM (z98) (z99) (z100) z96 z97))
    (λz101 z102 z103 z104 _ _=>
     gx [(3:Int),(4:Int),(5:Int),(6:Int),(7:Int),(4:Int)] (aC.wrap (z102-6)) λy107=>
     ck ((N.2 (aC.wrap (z101-1)) z103 z104).isSome)<|
     ck ((N.2 (aC.wrap (z101-1)) ((N.2 (aC.wrap (z101-1)) z103 z104).getD ((0:Int),(0:Int),[],[],(0:Int))).2.2.2.1 ((N.2 (aC.wrap (z101-1)) z103 z104).getD ((0:Int),(0:Int),[],[],(0:Int))).2.2.2.2).isSome)<|
     some (nM (y107) 0 ([Ex.mk ((N.2 (aC.wrap (z101-1)) z103 z104).getD ((0:Int),(0:Int),[],[],(0:Int))).1 ((N.2 (aC.wrap (z101-1)) z103 z104).getD ((0:Int),(0:Int),[],[],(0:Int))).2.1 ((N.2 (aC.wrap (z101-1)) z103 z104).getD ((0:Int),(0:Int),[],[],(0:Int))).2.2.1,Ex.mk ((N.2 (aC.wrap (z101-1)) ((N.2 (aC.wrap (z101-1)) z103 z104).getD ((0:Int),(0:Int),[],[],(0:Int))).2.2.2.1 ((N.2 (aC.wrap (z101-1)) z103 z104).getD ((0:Int),(0:Int),[],[],(0:Int))).2.2.2.2).getD ((0:Int),(0:Int),[],[],(0:Int))).1 ((N.2 (aC.wrap (z101-1)) ((N.2 (aC.wrap (z101-1)) z103 z104).getD ((0:Int),(0:Int),[],[],(0:Int))).2.2.2.1 ((N.2 (aC.wrap (z101-1)) z103 z104).getD ((0:Int),(0:Int),[],[],(0:Int))).2.2.2.2).getD ((0:Int),(0:Int),[],[],(0:Int))).2.1 ((N.2 (aC.wrap (z101-1)) ((N.2 (aC.wrap (z101-1)) z103 z104).getD ((0:Int),(0:Int),[],[],(0:Int))).2.2.2.1 ((N.2 (aC.wrap (z101-1)) z103 z104).getD ((0:Int),(0:Int),[],[],(0:Int))).2.2.2.2).getD ((0:Int),(0:Int),[],[],(0:Int))).2.2.1]) (((N.2 (aC.wrap (z101-1)) ((N.2 (aC.wrap (z101-1)) z103 z104).getD ((0:Int),(0:Int),[],[],(0:Int))).2.2.2.1 ((N.2 (aC.wrap (z101-1)) z103 z104).getD ((0:Int),(0:Int),[],[],(0:Int))).2.2.2.2).getD ((0:Int),(0:Int),[],[],(0:Int))).2.2.2.1) (((N.2 (aC.wrap (z101-1)) ((N.2 (aC.wrap (z101-1)) z103 z104).getD ((0:Int),(0:Int),[],[],(0:Int))).2.2.2.1 ((N.2 (aC.wrap (z101-1)) z103 z104).getD ((0:Int),(0:Int),[],[],(0:Int))).2.2.2.2).getD ((0:Int),(0:Int),[],[],(0:Int))).2.2.2.2))))
def w56[aA] N depth1 g0 g1:=U7 N (U0 N) (UZ N) (UY N) (lY N) depth1 g0 g1
def aEj[aA](N:k5):Hint:=(.seq .d (.seq .d (.seq (.sub aUU _ _ _ Mb (aW 1) (aW 2) (aY DY M0 (HB N N.1))) (.seq (.sub aUR _ _ _ M8 M7 (aW 2) (aY DV MX (M1 N N.1))) .d))))
theorem aUW N (hc:aF (jQ N)):bJ (jQ N) Tryz.f56.ntmps (aEj N) DU:=bO _ _ (aG trivial (aG trivial (aG (aU4 N hc) (aG (aU1 N hc) trivial))))
theorem aUP[aA] N depth1 g0 g1:U7 N (aEg N) (UX N) (UW N) (aEf N) depth1 g0 g1=exec (jQ N) Tryz.f56.ntmps (aEj N) DU ⟨bU 0 [.ref 50 0,.e (.i .i64) depth1],[(50,.box 77 [.e (.sl (.i .i64)) g0,.e (.i .i64) g1])],100⟩ (bX (jQ N) Tryz.f56 false):=by kernel_rfl
def Aa(r:aE):Option (Int×Int×(List Ex)×(List Int)×Int):=match r with
 |(.agg [x0,x1,x2],[(50,.box 77 [x3,x4])])=>(match ue (.i .i64) x0,ue (.i .i64) x1,ue (.sl .ex) x2,ue (.sl (.i .i64)) x3,ue (.i .i64) x4 with|some a0,some a1,some a2,some a3,some a4=>some (a0,a1,a2,a3,a4)|_,_,_,_,_=>none)
 |_=>none
theorem aUG{r d}(h:Aa r=some d):r=nM d.1 d.2.1 d.2.2.1 d.2.2.2.1 d.2.2.2.2:=by
 unfold Aa at h;split at h
 .split at h
  .rename_i h0 h1 h2 h3 h4;cases h;rw[aH h0,aH h1,aH h2,aH h3,aH h4];rfl
  .cases h
 .cases h
def Gz N depth1 g0 g1:=(w56 N depth1 g0 g1).bind Aa
theorem aUX{N}(hc:aF (jQ N)){depth1 g0 g1 d}(hd:Gz N depth1 g0 g1=some d):cB Tryz.prog 56 [.ref 50 0,.e (.i .i64) depth1] [(50,.box 77 [.e (.sl (.i .i64)) g0,.e (.i .i64) g1])] (nM d.1 d.2.1 d.2.2.1 d.2.2.2.1 d.2.2.2.2):=
 cD hc (by kernel_rfl) (by kernel_rfl) (aUW N hc) (by kernel_rfl) aUG (λhr=>(aUP N depth1 g0 g1).symm.trans (by rw[aUZ N,aEm N,aEl N,aUY N];exact hr)) hd
def cT(N:Nat):Nat->(Int->(List Int)->Int->Option (Int×Int×(List Ex)×(List Int)×Int))
 |0=>λ_ _ _=>none
 |n+1=>λdepth1 g0 g1=>Gz (N,cT N n) depth1 g0 g1
theorem aEk(N:Nat):∀n,aM Tryz.prog 56 (U9 (N,cT N n))
 |0=>eO aEh (λ_ h=>by cases h)
 |n+1=>
   have ih:=aEk N n
   eO aEh (λd h=>pM (zz:=Gz (N,cT N n) d.1 d.2.1 d.2.2) (R:=λy=>nM y.1 y.2.1 y.2.2.1 y.2.2.2.1 y.2.2.2.2) (d0:=(0,0,[],[],0)) (λ_ hy=>aUX (aU0 (N,cT N n) ih) hy) h)
def DT N depth1 g0 g1:=((cT N N) depth1 g0 g1).isSome
def DS N depth1 g0 g1:=(((cT N N) depth1 g0 g1).getD (0,0,[],[],0)).1
def DQ N depth1 g0 g1:=(((cT N N) depth1 g0 g1).getD (0,0,[],[],0)).2.1
def DP N depth1 g0 g1:=(((cT N N) depth1 g0 g1).getD (0,0,[],[],0)).2.2.1
def A9 N depth1 g0 g1:=(((cT N N) depth1 g0 g1).getD (0,0,[],[],0)).2.2.2.1
def A8 N depth1 g0 g1:=(((cT N N) depth1 g0 g1).getD (0,0,[],[],0)).2.2.2.2
def aEn(N:Nat):bK:=fD M5 (λd=>DT N d.1 d.2.1 d.2.2) (λd=>nM (DS N d.1 d.2.1 d.2.2) (DQ N d.1 d.2.1 d.2.2) (DP N d.1 d.2.1 d.2.2) (A9 N d.1 d.2.1 d.2.2) (A8 N d.1 d.2.1 d.2.2))
theorem aUQ N:aM Tryz.prog 56 (aEn N):=aEk N N
def Ha(a0 a1:Int)(a2:(List Ex)):aE:=(.agg [.e (.i .i64) a0,.e (.i .i64) a1,.e (.sl .ex) a2],[])
def Hb(N:Nat):Cx:=⟨Tryz.prog,25,[(55,Uc N),(56,aEn N)],[]⟩
def aGo:Code:=Tryz.f33.body.getD .skip
theorem aYZ N:aF (Hb N):=bY (by kernel_rfl) (.cons (by kernel_rfl) (aEs N) (.cons (by kernel_rfl) (aUQ N) .nil)) .nil
def Vq[aA](N:Nat)(l0:(List Int))(depth1:Int):O:=
 ck (wY N (6:Int) l0 (0:Int))<|
 br (decide ((1:Int)<tS N (6:Int) l0 (0:Int))||decide (max (1:Int) (min (5:Int) depth1)<(2:Int)))
  (ck (DT N (max (1:Int) (min (5:Int) depth1)) (iN N (6:Int) l0 (0:Int)) (iM N (6:Int) l0 (0:Int)))<|
  some (Ha ((DS N (max (1:Int) (min (5:Int) depth1)) (iN N (6:Int) l0 (0:Int)) (iM N (6:Int) l0 (0:Int)))) ((DQ N (max (1:Int) (min (5:Int) depth1)) (iN N (6:Int) l0 (0:Int)) (iM N (6:Int) l0 (0:Int)))) ((DP N (max (1:Int) (min (5:Int) depth1)) (iN N (6:Int) l0 (0:Int)) (iM N (6:Int) l0 (0:Int))))))
  (ck (DT N (aC.wrap (max (1:Int) (min (5:Int) depth1)-(1:Int))) (iN N (6:Int) l0 (0:Int)) (iM N (6:Int) l0 (0:Int)))<|
  ck (DT N (aC.wrap (max (1:Int) (min (5:Int) depth1)-(1:Int))) (A9 N (aC.wrap (max (1:Int) (min (5:Int) depth1)-(1:Int))) (iN N (6:Int) l0 (0:Int)) (iM N (6:Int) l0 (0:Int))) (A8 N (aC.wrap (max (1:Int) (min (5:Int) depth1)-(1:Int))) (iN N (6:Int) l0 (0:Int)) (iM N (6:Int) l0 (0:Int))))<|
  some (Ha ((aC.wrap ((9:Int)+tS N (6:Int) l0 (0:Int)))) 0 ([Ex.mk (DS N (aC.wrap (max (1:Int) (min (5:Int) depth1)-(1:Int))) (iN N (6:Int) l0 (0:Int)) (iM N (6:Int) l0 (0:Int))) (DQ N (aC.wrap (max (1:Int) (min (5:Int) depth1)-(1:Int))) (iN N (6:Int) l0 (0:Int)) (iM N (6:Int) l0 (0:Int))) (DP N (aC.wrap (max (1:Int) (min (5:Int) depth1)-(1:Int))) (iN N (6:Int) l0 (0:Int)) (iM N (6:Int) l0 (0:Int))),Ex.mk (DS N (aC.wrap (max (1:Int) (min (5:Int) depth1)-(1:Int))) (A9 N (aC.wrap (max (1:Int) (min (5:Int) depth1)-(1:Int))) (iN N (6:Int) l0 (0:Int)) (iM N (6:Int) l0 (0:Int))) (A8 N (aC.wrap (max (1:Int) (min (5:Int) depth1)-(1:Int))) (iN N (6:Int) l0 (0:Int)) (iM N (6:Int) l0 (0:Int)))) (DQ N (aC.wrap (max (1:Int) (min (5:Int) depth1)-(1:Int))) (A9 N (aC.wrap (max (1:Int) (min (5:Int) depth1)-(1:Int))) (iN N (6:Int) l0 (0:Int)) (iM N (6:Int) l0 (0:Int))) (A8 N (aC.wrap (max (1:Int) (min (5:Int) depth1)-(1:Int))) (iN N (6:Int) l0 (0:Int)) (iM N (6:Int) l0 (0:Int)))) (DP N (aC.wrap (max (1:Int) (min (5:Int) depth1)-(1:Int))) (A9 N (aC.wrap (max (1:Int) (min (5:Int) depth1)-(1:Int))) (iN N (6:Int) l0 (0:Int)) (iM N (6:Int) l0 (0:Int))) (A8 N (aC.wrap (max (1:Int) (min (5:Int) depth1)-(1:Int))) (iN N (6:Int) l0 (0:Int)) (iM N (6:Int) l0 (0:Int))))])))
def w33[aA] N l0 depth1:=Vq N l0 depth1
def aGm[aA](_:Nat):Hint:=.d
theorem aYX N:bJ (Hb N) Tryz.f33.ntmps (aGm N) aGo:=bO _ _ trivial
theorem aYV[aA] N l0 depth1:Vq N l0 depth1=exec (Hb N) Tryz.f33.ntmps (aGm N) aGo ⟨bU 0 [.e (.sl (.i .i64)) l0,.e (.i .i64) depth1],[],100⟩ (bX (Hb N) Tryz.f33 false):=by kernel_rfl
def Vp(r:aE):Option (Int×Int×(List Ex)):=match r with
 |(.agg [x0,x1,x2],[])=>(match ue (.i .i64) x0,ue (.i .i64) x1,ue (.sl .ex) x2 with|some a0,some a1,some a2=>some (a0,a1,a2)|_,_,_=>none)
 |_=>none
theorem aYU{r d}(h:Vp r=some d):r=Ha d.1 d.2.1 d.2.2:=by
 unfold Vp at h;split at h
 .split at h
  .rename_i h0 h1 h2;cases h;rw[aH h0,aH h1,aH h2];rfl
  .cases h
 .cases h
def xH N l0 depth1:=(w33 N l0 depth1).bind Vp
theorem aYY{N}(hc:aF (Hb N)){l0 depth1 d}(hd:xH N l0 depth1=some d):cB Tryz.prog 33 [.e (.sl (.i .i64)) l0,.e (.i .i64) depth1] [] (Ha d.1 d.2.1 d.2.2):=
 cD hc (by kernel_rfl) (by kernel_rfl) (aYX N) (by kernel_rfl) aYU (aYV N l0 depth1).symm.trans hd
def OZ N l0 depth1:=(xH N l0 depth1).isSome
def Dx N l0 depth1:=((xH N l0 depth1).getD (0,0,[])).1
def Dw N l0 depth1:=((xH N l0 depth1).getD (0,0,[])).2.1
def Dv N l0 depth1:=((xH N l0 depth1).getD (0,0,[])).2.2
def aGn(N:Nat):bK:=E2 (.sl (.i .i64)) (.i .i64) (λx0 x1=>(OZ N x0 x1,Ha (Dx N x0 x1) (Dw N x0 x1) (Dv N x0 x1)))
theorem aYW N:aM Tryz.prog 33 (aGn N):=aM.e2 (λx0 x1 h=>cY (z:=xH N x0 x1) h (aYY (aYZ N)) rfl)
abbrev w9T:=Nat×(Int->Int->(List Ex)->Int->Int->Int->Option (Int×Int×(List Ex)))
def nK(a0:Int):aE:=(.e (.i .i64) a0,[])
abbrev oZ:=Nat×(Int->Int->(List Ex)->Option (Int))
def tR(N:oZ):Cx:=⟨Tryz.prog,25,[(62,E1 .ex (λx0=>((N.2 (Ex.op x0) (Ex.num x0) (Ex.kids x0)).isSome,nK (((N.2 (Ex.op x0) (Ex.num x0) (Ex.kids x0)).getD 0)))))],[]⟩
def UM:Code:=Tryz.f62.body.getD .skip
theorem aT0 N (hs:aM Tryz.prog 62 (E1 .ex (λx0=>((N.2 (Ex.op x0) (Ex.num x0) (Ex.kids x0)).isSome,nK (((N.2 (Ex.op x0) (Ex.num x0) (Ex.kids x0)).getD 0)))))):aF (tR N):=bY (by kernel_rfl) (.cons (by kernel_rfl) hs .nil) .nil
def DM[aA](N:oZ)(self:Int->Int->O)(k0:Int->O)(_x0_2 _x0_3:Int)(x0_4:(List Ex))(x0_0 x0_1:Int):O:=
 br (decide (x0_1<(↑x0_4.length:Int)))
  (gx x0_4 x0_1 λy3=>
  ck ((N.2 y3.op y3.num y3.kids).isSome)<|
  self (aC.wrap (x0_0+(N.2 y3.op y3.num y3.kids).getD (0:Int))) (aC.wrap (x0_1+1)))
  (k0 x0_0)
def UL:Code:=cK [1,1,0,1,0,0] UM
def aEQ:Nm:=⟨[1,3,4],[],[]⟩
def A5(x:Int×Int×Int×Int×(List Ex)):Sg:=⟨[(1,.ref 0 0),(3,.e (.i .i64) x.1),(4,.e (.i .i64) x.2.1)],[(0,.box 25 [.e (.i .i64) x.2.2.1,.e (.i .i64) x.2.2.2.1,.e (.sl .ex) x.2.2.2.2])],100⟩
def MK(σ:Sg):Int×Int×Int×Int×(List Ex):=(aO (.i .i64) 3 0 σ,aO (.i .i64) 4 0 σ,aL (.i .i64) 0 0 σ,aL (.i .i64) 0 1 σ,aL (.sl .ex) 0 2 σ)
theorem aTT:∀x,MK (A5 x)=x:=λ_=>by kernel_rfl
def MM(y:Int):Exit×Sg:=((.exit 0),⟨[(3,.e (.i .i64) y)],[],100⟩)
def aTR(_:Exit)(σ:Sg):Int:=aO (.i .i64) 3 0 σ
def aTQ:List (Exit×Nm):=[((.exit 0),⟨[3],[],[]⟩)]
def A4[aA](N:oZ):Nat->(Int×Int×Int×Int×(List Ex))->((Int)->O)->((Unit)->O)->((Unit)->O)->O
 |0,_,_,_,_=>none
 |n+1,x,k0,k1,k2=>DM N (λv0 v1=>A4 N n (v0,v1,x.2.2.1,x.2.2.2.1,x.2.2.2.2) k0 k1 k2) (λy0=>k0 y0) x.2.2.1 x.2.2.2.1 x.2.2.2.2 x.1 x.2.1
def UK[aA] N a0 a1 a2 a3 a4 (k0:Int->O):=A4 N N.1 (a0,a1,a2,a3,a4) (λy=>k0 y) (λ_=>none) (λ_=>none)
def aEP[aA] N a0 a1 a2 a3 a4 (k0:Int->O):=aY A5 MK (A4 N N.1) (A5 (a0,a1,a2,a3,a4)) (λy=>k0 y) (λ_=>none) (λ_=>none)
theorem aTZ[aA] N:aEP N=UK N:=funext λ_=>funext λ_=>funext λ_=>funext λ_=>funext λ_=>funext λ_=>cW aTT _ _ _ _
theorem aTU[aA](N:oZ)(self:Sg->O)(K:Exit->Sg->O)(x:Int×Int×Int×Int×(List Ex)):DM N (λv0 v1=>self (A5 (v0,v1,x.2.2.1,x.2.2.2.1,x.2.2.2.2))) (λy0=>K (MM y0).1 (MM y0).2) x.2.2.1 x.2.2.2.1 x.2.2.2.2 x.1 x.2.1=exec (tR N) Tryz.f62.ntmps .d UL (A5 x) (eN aEQ aTQ self K):=by kernel_rfl
theorem aT3 N (hc:aF (tR N)):cN (tR N) Tryz.f62.ntmps (.loop UL) MM (aW 1) (aW 2) (aY A5 MK (A4 N N.1)):=
 eV hc (cO UL) (eZ aTR (.exit 0) (λ_=>by kernel_rfl) (λ_=>rfl) (by kernel_rfl)) (n:=N.1) (λx K=>eW (A4 N) (λ_ _ _ _=>rfl) (λn K ih x=>by
  refine fK ?_ (aTU N _ K x);simp only[<-ih];rfl) N.1 x K)
def UO[aA](_:oZ)(in0:Int->Int->Int->Int->(List Ex)->(Int->O)->O)(A B:Int)(C:(List Ex)):O:=
 in0 1 0 A B C
  (λz4=>
   some (nK z4))
def w62[aA] N A B C:=UO N (UK N) A B C
def aER[aA](N:oZ):Hint:=(.seq .d (.seq .d (.seq (.seq .d (.block (.sub aEQ _ _ _ MM (aW 1) (aW 2) (aY A5 MK (A4 N N.1))))) .d)))
theorem aTX N (hc:aF (tR N)):bJ (tR N) Tryz.f62.ntmps (aER N) UM:=bO _ _ (aG trivial (aG trivial (aG (aG trivial (aT3 N hc)) trivial)))
theorem aTV[aA] N A B C:UO N (aEP N) A B C=exec (tR N) Tryz.f62.ntmps (aER N) UM ⟨bU 0 [.agg [.e (.i .i64) A,.e (.i .i64) B,.e (.sl .ex) C]],[],100⟩ (bX (tR N) Tryz.f62 false):=by kernel_rfl
def Gq(r:aE):Option (Int):=match r with
 |(x0,[])=>(match ue (.i .i64) x0 with|some a0=>some a0|_=>none)
 |_=>none
theorem aTS{r d}(h:Gq r=some d):r=nK (d):=by
 unfold Gq at h;split at h
 .split at h
  .rename_i h0;cases h;rw[aH h0];rfl
  .cases h
 .cases h
def MJ N A B C:=(w62 N A B C).bind Gq
theorem aTY{N}(hc:aF (tR N)){A B C d}(hd:MJ N A B C=some d):cB Tryz.prog 62 [.agg [.e (.i .i64) A,.e (.i .i64) B,.e (.sl .ex) C]] [] (nK (d)):=
 cD hc (by kernel_rfl) (by kernel_rfl) (aTX N hc) (by kernel_rfl) aTS (λhr=>(aTV N A B C).symm.trans (by rw[aTZ N];exact hr)) hd
def mJ(N:Nat):Nat->Int->Int->(List Ex)->Option (Int)
 |0,_,_,_=>none
 |n+1,A,B,C=>MJ (N,mJ N n) A B C
theorem aEU(N:Nat):∀n,aM Tryz.prog 62 (E1 .ex (λx0=>((mJ N n (Ex.op x0) (Ex.num x0) (Ex.kids x0)).isSome,nK (((mJ N n (Ex.op x0) (Ex.num x0) (Ex.kids x0)).getD 0)))))
 |0=>aM.e1 (λ_ h=>by cases h)
 |n+1=>aM.e1 (λx0 h=>by
   obtain⟨d,hd⟩:=s9.1 h;have hd':mJ N (n+1) (Ex.op x0) (Ex.num x0) (Ex.kids x0)=some d:=hd;have e:nK (((mJ N (n+1) (Ex.op x0) (Ex.num x0) (Ex.kids x0)).getD 0))=nK (d):=by rw[hd'];rfl
   show cR _ _ _ _ (nK (((mJ N (n+1) (Ex.op x0) (Ex.num x0) (Ex.kids x0)).getD 0))).1.D (HA (nK (((mJ N (n+1) (Ex.op x0) (Ex.num x0) (Ex.kids x0)).getD 0))).2);rw[e];exact aTY (N:=(N,mJ N n)) (aT0 (N,mJ N n) (aEU N n)) hd')
def ML N A B C:=(mJ N N A B C).isSome
def Gn N A B C:=((mJ N N A B C).getD 0)
def aES(N:Nat):bK:=E1 .ex (λx0=>(ML N (Ex.op x0) (Ex.num x0) (Ex.kids x0),nK (Gn N (Ex.op x0) (Ex.num x0) (Ex.kids x0))))
theorem aTW N:aM Tryz.prog 62 (aES N):=aEU N N
def nJ(a0:Int):aE:=(.e (.i .i64) a0,[])
def tQ(N:oZ):Cx:=⟨Tryz.prog,25,[(63,E1 .ex (λx0=>((N.2 (Ex.op x0) (Ex.num x0) (Ex.kids x0)).isSome,nJ (((N.2 (Ex.op x0) (Ex.num x0) (Ex.kids x0)).getD 0)))))],[]⟩
def UH:Code:=Tryz.f63.body.getD .skip
theorem aTM N (hs:aM Tryz.prog 63 (E1 .ex (λx0=>((N.2 (Ex.op x0) (Ex.num x0) (Ex.kids x0)).isSome,nJ (((N.2 (Ex.op x0) (Ex.num x0) (Ex.kids x0)).getD 0)))))):aF (tQ N):=bY (by kernel_rfl) (.cons (by kernel_rfl) hs .nil) .nil
def DL[aA](N:oZ)(self:Int->Int->O)(k0:Int->O)(_x0_2 _x0_3:Int)(x0_4:(List Ex))(x0_0 x0_1:Int):O:=
 br (decide (x0_1<(↑x0_4.length:Int)))
  (gx x0_4 x0_1 λy3=>
  ck ((N.2 y3.op y3.num y3.kids).isSome)<|
  self (max x0_0 ((N.2 y3.op y3.num y3.kids).getD (0:Int))) (aC.wrap (x0_1+1)))
  (k0 x0_0)
def UG:Code:=cK [1,1,0,1,0,0] UH
def aEJ:Nm:=⟨[1,3,4],[],[]⟩
def A3(x:Int×Int×Int×Int×(List Ex)):Sg:=⟨[(1,.ref 0 0),(3,.e (.i .i64) x.1),(4,.e (.i .i64) x.2.1)],[(0,.box 25 [.e (.i .i64) x.2.2.1,.e (.i .i64) x.2.2.2.1,.e (.sl .ex) x.2.2.2.2])],100⟩
def MG(σ:Sg):Int×Int×Int×Int×(List Ex):=(aO (.i .i64) 3 0 σ,aO (.i .i64) 4 0 σ,aL (.i .i64) 0 0 σ,aL (.i .i64) 0 1 σ,aL (.sl .ex) 0 2 σ)
theorem aTF:∀x,MG (A3 x)=x:=λ_=>by kernel_rfl
def MI(y:Int):Exit×Sg:=((.exit 0),⟨[(3,.e (.i .i64) y)],[],100⟩)
def aTD(_:Exit)(σ:Sg):Int:=aO (.i .i64) 3 0 σ
def aTC:List (Exit×Nm):=[((.exit 0),⟨[3],[],[]⟩)]
def A2[aA](N:oZ):Nat->(Int×Int×Int×Int×(List Ex))->((Int)->O)->((Unit)->O)->((Unit)->O)->O
 |0,_,_,_,_=>none
 |n+1,x,k0,k1,k2=>DL N (λv0 v1=>A2 N n (v0,v1,x.2.2.1,x.2.2.2.1,x.2.2.2.2) k0 k1 k2) (λy0=>k0 y0) x.2.2.1 x.2.2.2.1 x.2.2.2.2 x.1 x.2.1
def UF[aA] N a0 a1 a2 a3 a4 (k0:Int->O):=A2 N N.1 (a0,a1,a2,a3,a4) (λy=>k0 y) (λ_=>none) (λ_=>none)
def aEI[aA] N a0 a1 a2 a3 a4 (k0:Int->O):=aY A3 MG (A2 N N.1) (A3 (a0,a1,a2,a3,a4)) (λy=>k0 y) (λ_=>none) (λ_=>none)
theorem aTL[aA] N:aEI N=UF N:=funext λ_=>funext λ_=>funext λ_=>funext λ_=>funext λ_=>funext λ_=>cW aTF _ _ _ _
theorem aTG[aA](N:oZ)(self:Sg->O)(K:Exit->Sg->O)(x:Int×Int×Int×Int×(List Ex)):DL N (λv0 v1=>self (A3 (v0,v1,x.2.2.1,x.2.2.2.1,x.2.2.2.2))) (λy0=>K (MI y0).1 (MI y0).2) x.2.2.1 x.2.2.2.1 x.2.2.2.2 x.1 x.2.1=exec (tQ N) Tryz.f63.ntmps .d UG (A3 x) (eN aEJ aTC self K):=by kernel_rfl
theorem aTP N (hc:aF (tQ N)):cN (tQ N) Tryz.f63.ntmps (.loop UG) MI (aW 1) (aW 2) (aY A3 MG (A2 N N.1)):=
 eV hc (cO UG) (eZ aTD (.exit 0) (λ_=>by kernel_rfl) (λ_=>rfl) (by kernel_rfl)) (n:=N.1) (λx K=>eW (A2 N) (λ_ _ _ _=>rfl) (λn K ih x=>by
  refine fK ?_ (aTG N _ K x);simp only[<-ih];rfl) N.1 x K)
def UJ[aA](_:oZ)(in0:Int->Int->Int->Int->(List Ex)->(Int->O)->O)(A B:Int)(C:(List Ex)):O:=
 in0 0 0 A B C
  (λz4=>
   some (nJ (aC.wrap (z4+1))))
def w63[aA] N A B C:=UJ N (UF N) A B C
def aEK[aA](N:oZ):Hint:=(.seq .d (.seq .d (.seq (.seq .d (.block (.sub aEJ _ _ _ MI (aW 1) (aW 2) (aY A3 MG (A2 N N.1))))) .d)))
theorem aTJ N (hc:aF (tQ N)):bJ (tQ N) Tryz.f63.ntmps (aEK N) UH:=bO _ _ (aG trivial (aG trivial (aG (aG trivial (aTP N hc)) trivial)))
theorem aTH[aA] N A B C:UJ N (aEI N) A B C=exec (tQ N) Tryz.f63.ntmps (aEK N) UH ⟨bU 0 [.agg [.e (.i .i64) A,.e (.i .i64) B,.e (.sl .ex) C]],[],100⟩ (bX (tQ N) Tryz.f63 false):=by kernel_rfl
def Gm(r:aE):Option (Int):=match r with
 |(x0,[])=>(match ue (.i .i64) x0 with|some a0=>some a0|_=>none)
 |_=>none
theorem aTE{r d}(h:Gm r=some d):r=nJ (d):=by
 unfold Gm at h;split at h
 .split at h
  .rename_i h0;cases h;rw[aH h0];rfl
  .cases h
 .cases h
def ME N A B C:=(w63 N A B C).bind Gm
theorem aTK{N}(hc:aF (tQ N)){A B C d}(hd:ME N A B C=some d):cB Tryz.prog 63 [.agg [.e (.i .i64) A,.e (.i .i64) B,.e (.sl .ex) C]] [] (nJ (d)):=
 cD hc (by kernel_rfl) (by kernel_rfl) (aTJ N hc) (by kernel_rfl) aTE (λhr=>(aTH N A B C).symm.trans (by rw[aTL N];exact hr)) hd
def mI(N:Nat):Nat->Int->Int->(List Ex)->Option (Int)
 |0,_,_,_=>none
 |n+1,A,B,C=>ME (N,mI N n) A B C
theorem aEN(N:Nat):∀n,aM Tryz.prog 63 (E1 .ex (λx0=>((mI N n (Ex.op x0) (Ex.num x0) (Ex.kids x0)).isSome,nJ (((mI N n (Ex.op x0) (Ex.num x0) (Ex.kids x0)).getD 0)))))
 |0=>aM.e1 (λ_ h=>by cases h)
 |n+1=>aM.e1 (λx0 h=>by
   obtain⟨d,hd⟩:=s9.1 h;have hd':mI N (n+1) (Ex.op x0) (Ex.num x0) (Ex.kids x0)=some d:=hd;have e:nJ (((mI N (n+1) (Ex.op x0) (Ex.num x0) (Ex.kids x0)).getD 0))=nJ (d):=by rw[hd'];rfl
   show cR _ _ _ _ (nJ (((mI N (n+1) (Ex.op x0) (Ex.num x0) (Ex.kids x0)).getD 0))).1.D (HA (nJ (((mI N (n+1) (Ex.op x0) (Ex.num x0) (Ex.kids x0)).getD 0))).2);rw[e];exact aTK (N:=(N,mI N n)) (aTM (N,mI N n) (aEN N n)) hd')
def MH N A B C:=(mI N N A B C).isSome
def MF N A B C:=((mI N N A B C).getD 0)
def aEL(N:Nat):bK:=E1 .ex (λx0=>(MH N (Ex.op x0) (Ex.num x0) (Ex.kids x0),nJ (MF N (Ex.op x0) (Ex.num x0) (Ex.kids x0))))
theorem aTI N:aM Tryz.prog 63 (aEL N):=aEN N N
def AB(a0:Int):aE:=(.e (.i .i64) a0,[])
def jP(_:Nat):Cx:=⟨Tryz.prog,25,[],[]⟩
def C7:Code:=Tryz.f91.body.getD .skip
theorem aOz N:aF (jP N):=bY (by kernel_rfl) .nil .nil
def Sm[aA](_:Nat)(k0:Int->Bool->O)(x17_0:Int):O:=
 br (decide (x17_0=0))
  (k0 x17_0 (decide (x17_0=0)))
  (k0 x17_0 (decide (x17_0=1)))
def Sj:Code:=cK [1,0,1,0,0] C7
def aOu:Nm:=⟨[3],[],[]⟩
def Cb(x:Int):Sg:=⟨[(3,.e (.i .i64) x)],[],100⟩
def K9(σ:Sg):Int:=aO (.i .i64) 3 0 σ
theorem aOk:∀x,K9 (Cb x)=x:=λ_=>by kernel_rfl
def Kh(y:Int×Bool):Exit×Sg:=(.normal,⟨[(3,.e (.i .i64) y.1),(4,.e .bo y.2)],[],100⟩)
def aOf(_:Exit)(σ:Sg):Int×Bool:=(aO (.i .i64) 3 0 σ,aO .bo 4 0 σ)
def aOa:List (Exit×Nm):=[(.normal,⟨[3,4],[],[]⟩)]
def GF[aA](N _:Nat)(x:Int)(k0:(Int×Bool)->O)(_:(Unit)->O)(_:(Unit)->O):O:=Sm N (λy0 y1=>k0 (y0,y1)) x
def GB[aA] N a0 (k0:Int->Bool->O):=GF N N a0 (λy=>k0 y.1 y.2) (λ_=>none) (λ_=>none)
def Se[aA] N a0 (k0:Int->Bool->O):=aY Cb K9 (GF N N) (Cb a0) (λy=>k0 y.1 y.2) (λ_=>none) (λ_=>none)
theorem aCA[aA] N:Se N=GB N:=funext λ_=>funext λ_=>cW aOk _ _ _ _
theorem aOo[aA](N:Nat)(K:Exit->Sg->O)(x:Int):Sm N (λy0 y1=>K (Kh (y0,y1)).1 (Kh (y0,y1)).2) x=exec (jP N) Tryz.f91.ntmps .d Sj (Cb x) (hY aOa K):=by kernel_rfl
theorem aPF N (hc:aF (jP N)):cN (jP N) Tryz.f91.ntmps Sj Kh (aW 1) (aW 2) (aY Cb K9 (GF N N)):=
 iV hc (cO Sj) (eZ aOf .normal (λ_=>by kernel_rfl) (λ_=>rfl) (by kernel_rfl)) (λx K=>by
  exact aOo N K x)
def Sl[aA](_:Nat)(k0:Int->Bool->O)(x20_0:Int):O:=
 br (decide (x20_0=2))
  (k0 x20_0 (decide (x20_0=2)))
  (k0 x20_0 (decide (x20_0=8)))
def Si:Code:=cK [1,0,1,0,1,1,0] C7
def aOt:Nm:=⟨[3],[],[]⟩
def Ca(x:Int):Sg:=⟨[(3,.e (.i .i64) x)],[],100⟩
def K8(σ:Sg):Int:=aO (.i .i64) 3 0 σ
theorem aOj:∀x,K8 (Ca x)=x:=λ_=>by kernel_rfl
def Kg(y:Int×Bool):Exit×Sg:=(.normal,⟨[(3,.e (.i .i64) y.1),(7,.e .bo y.2)],[],100⟩)
def aOe(_:Exit)(σ:Sg):Int×Bool:=(aO (.i .i64) 3 0 σ,aO .bo 7 0 σ)
def aO9:List (Exit×Nm):=[(.normal,⟨[3,7],[],[]⟩)]
def GD[aA](N _:Nat)(x:Int)(k0:(Int×Bool)->O)(_:(Unit)->O)(_:(Unit)->O):O:=Sl N (λy0 y1=>k0 (y0,y1)) x
def GA[aA] N a0 (k0:Int->Bool->O):=GD N N a0 (λy=>k0 y.1 y.2) (λ_=>none) (λ_=>none)
def Sd[aA] N a0 (k0:Int->Bool->O):=aY Ca K8 (GD N N) (Ca a0) (λy=>k0 y.1 y.2) (λ_=>none) (λ_=>none)
theorem aBz[aA] N:Sd N=GA N:=funext λ_=>funext λ_=>cW aOj _ _ _ _
theorem aOn[aA](N:Nat)(K:Exit->Sg->O)(x:Int):Sl N (λy0 y1=>K (Kg (y0,y1)).1 (Kg (y0,y1)).2) x=exec (jP N) Tryz.f91.ntmps .d Si (Ca x) (hY aO9 K):=by kernel_rfl
theorem aPE N (hc:aF (jP N)):cN (jP N) Tryz.f91.ntmps Si Kg (aW 1) (aW 2) (aY Ca K8 (GD N N)):=
 iV hc (cO Si) (eZ aOe .normal (λ_=>by kernel_rfl) (λ_=>rfl) (by kernel_rfl)) (λx K=>by
  exact aOn N K x)
def Sk[aA](_:Nat)(k0:Bool->O)(x23_0:Int):O:=
 br (decide (x23_0=3))
  (k0 (decide (x23_0=3)))
  (br (decide (x23_0=4))
   (k0 (decide (x23_0=4)))
   (br (decide (x23_0=5))
    (k0 (decide (x23_0=5)))
    (br (decide (x23_0=6))
     (k0 (decide (x23_0=6)))
     (br (decide (x23_0=7))
      (k0 (decide (x23_0=7)))
      (br (decide (x23_0=9))
       (k0 (decide (x23_0=9)))
       (k0 (decide (x23_0=10))))))))
def Sh:Code:=cK [1,0,1,0,1,1,1,1,0] C7
def aOs:Nm:=⟨[3],[],[]⟩
def C9(x:Int):Sg:=⟨[(3,.e (.i .i64) x)],[],100⟩
def K7(σ:Sg):Int:=aO (.i .i64) 3 0 σ
theorem aOi:∀x,K7 (C9 x)=x:=λ_=>by kernel_rfl
def Kf(y:Bool):Exit×Sg:=(.normal,⟨[(10,.e .bo y)],[],100⟩)
def aOd(_:Exit)(σ:Sg):Bool:=aO .bo 10 0 σ
def aO8:List (Exit×Nm):=[(.normal,⟨[10],[],[]⟩)]
def GC[aA](N _:Nat)(x:Int)(k0:(Bool)->O)(_:(Unit)->O)(_:(Unit)->O):O:=Sk N (λy0=>k0 y0) x
def Fz[aA] N a0 (k0:Bool->O):=GC N N a0 (λy=>k0 y) (λ_=>none) (λ_=>none)
def Sc[aA] N a0 (k0:Bool->O):=aY C9 K7 (GC N N) (C9 a0) (λy=>k0 y) (λ_=>none) (λ_=>none)
theorem aBy[aA] N:Sc N=Fz N:=funext λ_=>funext λ_=>cW aOi _ _ _ _
theorem aOm[aA](N:Nat)(K:Exit->Sg->O)(x:Int):Sk N (λy0=>K (Kf y0).1 (Kf y0).2) x=exec (jP N) Tryz.f91.ntmps .d Sh (C9 x) (hY aO8 K):=by kernel_rfl
theorem aPD N (hc:aF (jP N)):cN (jP N) Tryz.f91.ntmps Sh Kf (aW 1) (aW 2) (aY C9 K7 (GC N N)):=
 iV hc (cO Sh) (eZ aOd .normal (λ_=>by kernel_rfl) (λ_=>rfl) (by kernel_rfl)) (λx K=>by
  exact aOm N K x)
def Ki[aA](_:Nat)(in0:Int->(Int->Bool->O)->O)(in1:Int->(Int->Bool->O)->O)(in2:Int->(Bool->O)->O)(k0:Int->O)(k1:Unit->O)(x0_0:Int):O:=
 in0 x0_0
  (λz18 z19=>
   br z19
    (k0 0)
    (in1 z18
     (λz21 z22=>
      br z22
       (k0 1)
       (in2 z21
        (λz24=>
         br z24
          (k0 2)
          (k1 ()))))))
def Sf:Code:=cK [1,0] C7
def aOr:Nm:=⟨[0],[],[]⟩
def C8(x:Int):Sg:=⟨[(0,.e (.i .i64) x)],[],100⟩
def K6(σ:Sg):Int:=aO (.i .i64) 0 0 σ
theorem aOh:∀x,K6 (C8 x)=x:=λ_=>by kernel_rfl
def Ke(y:Int):Exit×Sg:=(.ret,⟨[(2,.e (.i .i64) y)],[],100⟩)
def aOc(_:Exit)(σ:Sg):Int:=aO (.i .i64) 2 0 σ
def Kc(_:Unit):Exit×Sg:=(.normal,⟨[],[],100⟩)
def aOb(_:Exit)(_:Sg):Unit:=()
def aO7:List (Exit×Nm):=[(.ret,⟨[2],[],[]⟩),(.normal,⟨[],[],[]⟩)]
def Kb[aA](N _:Nat)(x:Int)(k0:(Int)->O)(k1:(Unit)->O)(_:(Unit)->O):O:=Ki N (GB N) (GA N) (Fz N) (λy0=>k0 y0) (λ(_:Unit)=>k1 ()) x
def aBv[aA] N a0 (k0:Int->O) (k1:Unit->O):=Kb N N a0 (λy=>k0 y) (λy=>k1 y) (λ_=>none)
def aBu[aA] N a0 (k0:Int->O) (k1:Unit->O):=aY C8 K6 (Kb N N) (C8 a0) (λy=>k0 y) (λy=>k1 y) (λ_=>none)
theorem aOy[aA] N:aBu N=aBv N:=funext λ_=>funext λ_=>funext λ_=>cW aOh _ _ _ _
def aBw[aA](N:Nat):Hint:=(.seq .d (.block (.seq (.sub aOu _ _ _ Kh (aW 1) (aW 2) (aY Cb K9 (GF N N))) (.cond .d (.seq (.sub aOt _ _ _ Kg (aW 1) (aW 2) (aY Ca K8 (GD N N))) (.cond .d (.seq (.sub aOs _ _ _ Kf (aW 1) (aW 2) (aY C9 K7 (GC N N))) .d)))))))
theorem aOv N (hc:aF (jP N)):bJ (jP N) Tryz.f91.ntmps (aBw N) Sf:=bO _ _ (aG trivial (aG (aPF N hc) (aG trivial (aG (aPE N hc) (aG trivial (aG (aPD N hc) trivial))))))
theorem aOl[aA](N:Nat)(K:Exit->Sg->O)(x:Int):Ki N (Se N) (Sd N) (Sc N) (λy0=>K (Ke y0).1 (Ke y0).2) (λ(_:Unit)=>K (Kc ()).1 (Kc ()).2) x=exec (jP N) Tryz.f91.ntmps (aBw N) Sf (C8 x) (hY aO7 K):=by kernel_rfl
theorem aPC N (hc:aF (jP N)):cN (jP N) Tryz.f91.ntmps Sf Ke Kc (aW 2) (aY C8 K6 (Kb N N)):=
 iV hc (aOv N hc) (iS aOc aOb .ret .normal (λ_=>by kernel_rfl) (λ_=>by kernel_rfl) (λ_=>rfl) (λ_=>rfl) (by kernel_rfl)) (λx K=>by
  have q:=aOl N K x;rw[aCA N,aBz N,aBy N]at q;exact q)
def aCD[aA](_:Nat)(_in0:Int->(Int->Bool->O)->O)(_in1:Int->(Int->Bool->O)->O)(_in2:Int->(Bool->O)->O)(in3:Int->(Int->O)->(Unit->O)->O)(cX:Int):O:=
 in3 cX
  (λkB=>
   some (AB kB))
  (λ(_:Unit)=>
   some (AB ((-1:Int))))
def w91[aA] N cX:=aCD N (GB N) (GA N) (Fz N) (aBv N) cX
def aBx[aA](N:Nat):Hint:=(.seq .d (.seq (.sub aOr _ _ _ Ke Kc (aW 2) (aY C8 K6 (Kb N N))) .d))
theorem aOw N (hc:aF (jP N)):bJ (jP N) Tryz.f91.ntmps (aBx N) C7:=bO _ _ (aG trivial (aG (aPC N hc) trivial))
theorem aOp[aA] N cX:aCD N (Se N) (Sd N) (Sc N) (aBu N) cX=exec (jP N) Tryz.f91.ntmps (aBx N) C7 ⟨bU 0 [.e (.i .i64) cX],[],100⟩ (bX (jP N) Tryz.f91 false):=by kernel_rfl
def K5(r:aE):Option (Int):=match r with
 |(x0,[])=>(match ue (.i .i64) x0 with|some a0=>some a0|_=>none)
 |_=>none
theorem aOg{r d}(h:K5 r=some d):r=AB (d):=by
 unfold K5 at h;split at h
 .split at h
  .rename_i h0;cases h;rw[aH h0];rfl
  .cases h
 .cases h
def Fy N cX:=(w91 N cX).bind K5
theorem aOx{N}(hc:aF (jP N)){cX d}(hd:Fy N cX=some d):cB Tryz.prog 91 [.e (.i .i64) cX] [] (AB (d)):=
 cD hc (by kernel_rfl) (by kernel_rfl) (aOw N hc) (by kernel_rfl) aOg (λhr=>(aOp N cX).symm.trans (by rw[aCA N,aBz N,aBy N,aOy N];exact hr)) hd
def Ka N cX:=(Fy N cX).isSome
def K4 N cX:=((Fy N cX).getD 0)
def aCB(N:Nat):bK:=E1 (.i .i64) (λx0=>(Ka N x0,AB (K4 N x0)))
theorem aOq N:aM Tryz.prog 91 (aCB N):=aM.e1 (λx0 h=>cY (z:=Fy N x0) h (aOx (aOz N)) rfl)
def kZ(a0:Bool):aE:=(.e .bo a0,[])
abbrev oY:=Nat×(Int->Int->(List Ex)->Bool->Option (Bool))
def lW(N:oY):Cx:=⟨Tryz.prog,25,[(64,E2 .ex .bo (λx0 x1=>((N.2 (Ex.op x0) (Ex.num x0) (Ex.kids x0) x1).isSome,kZ (((N.2 (Ex.op x0) (Ex.num x0) (Ex.kids x0) x1).getD false))))),(91,aCB N.1)],[]⟩
def Gl:Code:=Tryz.f64.body.getD .skip
theorem aSy N (hs:aM Tryz.prog 64 (E2 .ex .bo (λx0 x1=>((N.2 (Ex.op x0) (Ex.num x0) (Ex.kids x0) x1).isSome,kZ (((N.2 (Ex.op x0) (Ex.num x0) (Ex.kids x0) x1).getD false)))))):aF (lW N):=bY (by kernel_rfl) (.cons (by kernel_rfl) hs (.cons (by kernel_rfl) (aOq N.1) .nil)) .nil
def UE[aA](_:oY)(k0:Int->Int->Int->(List Ex)->O)(x0_0 x0_1 x0_2:Int)(x0_3:(List Ex)):O:=
 br (decide (x0_1=0))
  (k0 999999 x0_1 x0_2 x0_3)
  (k0 x0_0 x0_1 x0_2 x0_3)
def UB:Code:=cK [1,1,1,0] Gl
def aSs:Nm:=⟨[2,5],[],[]⟩
def DJ(x:Int×Int×Int×(List Ex)):Sg:=⟨[(2,.ref 0 0),(5,.e (.i .i64) x.1)],[(0,.box 25 [.e (.i .i64) x.2.1,.e (.i .i64) x.2.2.1,.e (.sl .ex) x.2.2.2])],100⟩
def Lx(σ:Sg):Int×Int×Int×(List Ex):=(aO (.i .i64) 5 0 σ,aL (.i .i64) 0 0 σ,aL (.i .i64) 0 1 σ,aL (.sl .ex) 0 2 σ)
theorem aSl:∀x,Lx (DJ x)=x:=λ_=>by kernel_rfl
def MD(y:Int×Int×Int×(List Ex)):Exit×Sg:=(.normal,⟨[(2,.ref 0 0),(5,.e (.i .i64) y.1)],[(0,.box 25 [.e (.i .i64) y.2.1,.e (.i .i64) y.2.2.1,.e (.sl .ex) y.2.2.2])],100⟩)
def aSh(_:Exit)(σ:Sg):Int×Int×Int×(List Ex):=(aO (.i .i64) 5 0 σ,aL (.i .i64) 0 0 σ,aL (.i .i64) 0 1 σ,aL (.sl .ex) 0 2 σ)
def aSd:List (Exit×Nm):=[(.normal,⟨[2,5],[],[]⟩)]
def Gk[aA](N:oY)(_:Nat)(x:Int×Int×Int×(List Ex))(k0:(Int×Int×Int×(List Ex))->O)(_:(Unit)->O)(_:(Unit)->O):O:=UE N (λy0 y1 y2 y3=>k0 (y0,y1,y2,y3)) x.1 x.2.1 x.2.2.1 x.2.2.2
def Tw[aA] N a0 a1 a2 a3 (k0:Int->Int->Int->(List Ex)->O):=Gk N N.1 (a0,a1,a2,a3) (λy=>k0 y.1 y.2.1 y.2.2.1 y.2.2.2) (λ_=>none) (λ_=>none)
def aEA[aA] N a0 a1 a2 a3 (k0:Int->Int->Int->(List Ex)->O):=aY DJ Lx (Gk N N.1) (DJ (a0,a1,a2,a3)) (λy=>k0 y.1 y.2.1 y.2.2.1 y.2.2.2) (λ_=>none) (λ_=>none)
theorem aSx[aA] N:aEA N=Tw N:=funext λ_=>funext λ_=>funext λ_=>funext λ_=>funext λ_=>cW aSl _ _ _ _
theorem aSo[aA](N:oY)(K:Exit->Sg->O)(x:Int×Int×Int×(List Ex)):UE N (λy0 y1 y2 y3=>K (MD (y0,y1,y2,y3)).1 (MD (y0,y1,y2,y3)).2) x.1 x.2.1 x.2.2.1 x.2.2.2=exec (lW N) Tryz.f64.ntmps .d UB (DJ x) (hY aSd K):=by kernel_rfl
theorem aTB N (hc:aF (lW N)):cN (lW N) Tryz.f64.ntmps UB MD (aW 1) (aW 2) (aY DJ Lx (Gk N N.1)):=
 iV hc (cO UB) (eZ aSh .normal (λ_=>by kernel_rfl) (λ_=>rfl) (by kernel_rfl)) (λx K=>by
  exact aSo N K x)
def UD[aA](_:oY)(k0:Int->Int->Int->(List Ex)->O)(x5_0 x5_1 x5_2:Int)(x5_3:(List Ex)):O:=
 br (decide (x5_1=1))
  (k0 25 x5_1 x5_2 x5_3)
  (k0 x5_0 x5_1 x5_2 x5_3)
def UA:Code:=cK [1,1,1,1,0] Gl
def aSr:Nm:=⟨[2,5],[],[]⟩
def DI(x:Int×Int×Int×(List Ex)):Sg:=⟨[(2,.ref 0 0),(5,.e (.i .i64) x.1)],[(0,.box 25 [.e (.i .i64) x.2.1,.e (.i .i64) x.2.2.1,.e (.sl .ex) x.2.2.2])],100⟩
def Lw(σ:Sg):Int×Int×Int×(List Ex):=(aO (.i .i64) 5 0 σ,aL (.i .i64) 0 0 σ,aL (.i .i64) 0 1 σ,aL (.sl .ex) 0 2 σ)
theorem aSk:∀x,Lw (DI x)=x:=λ_=>by kernel_rfl
def MC(y:Int×Int×Int×(List Ex)):Exit×Sg:=(.normal,⟨[(2,.ref 0 0),(5,.e (.i .i64) y.1)],[(0,.box 25 [.e (.i .i64) y.2.1,.e (.i .i64) y.2.2.1,.e (.sl .ex) y.2.2.2])],100⟩)
def aSg(_:Exit)(σ:Sg):Int×Int×Int×(List Ex):=(aO (.i .i64) 5 0 σ,aL (.i .i64) 0 0 σ,aL (.i .i64) 0 1 σ,aL (.sl .ex) 0 2 σ)
def aSc:List (Exit×Nm):=[(.normal,⟨[2,5],[],[]⟩)]
def Gj[aA](N:oY)(_:Nat)(x:Int×Int×Int×(List Ex))(k0:(Int×Int×Int×(List Ex))->O)(_:(Unit)->O)(_:(Unit)->O):O:=UD N (λy0 y1 y2 y3=>k0 (y0,y1,y2,y3)) x.1 x.2.1 x.2.2.1 x.2.2.2
def Tv[aA] N a0 a1 a2 a3 (k0:Int->Int->Int->(List Ex)->O):=Gj N N.1 (a0,a1,a2,a3) (λy=>k0 y.1 y.2.1 y.2.2.1 y.2.2.2) (λ_=>none) (λ_=>none)
def aDz[aA] N a0 a1 a2 a3 (k0:Int->Int->Int->(List Ex)->O):=aY DI Lw (Gj N N.1) (DI (a0,a1,a2,a3)) (λy=>k0 y.1 y.2.1 y.2.2.1 y.2.2.2) (λ_=>none) (λ_=>none)
theorem aSw[aA] N:aDz N=Tv N:=funext λ_=>funext λ_=>funext λ_=>funext λ_=>funext λ_=>cW aSk _ _ _ _
theorem aSn[aA](N:oY)(K:Exit->Sg->O)(x:Int×Int×Int×(List Ex)):UD N (λy0 y1 y2 y3=>K (MC (y0,y1,y2,y3)).1 (MC (y0,y1,y2,y3)).2) x.1 x.2.1 x.2.2.1 x.2.2.2=exec (lW N) Tryz.f64.ntmps .d UA (DI x) (hY aSc K):=by kernel_rfl
theorem aTA N (hc:aF (lW N)):cN (lW N) Tryz.f64.ntmps UA MC (aW 1) (aW 2) (aY DI Lw (Gj N N.1)):=
 iV hc (cO UA) (eZ aSg .normal (λ_=>by kernel_rfl) (λ_=>rfl) (by kernel_rfl)) (λx K=>by
  exact aSn N K x)
def DK[aA](N:oY)(self:Int->O)(k0:Bool->O)(k1:Unit->O)(_x10_1 _x10_2:Int)(x10_3:(List Ex))(x10_0:Int):O:=
 br (decide (x10_0<(↑x10_3.length:Int)))
  (gx x10_3 x10_0 λy13=>
  ck ((N.2 y13.op y13.num y13.kids false).isSome)<|
  br (!(N.2 y13.op y13.num y13.kids false).getD false)
   (k0 false)
   (self (aC.wrap (x10_0+1))))
  (k1 ())
def Tz:Code:=cK [1,1,1,1,1,1,0,1,0,0] Gl
def aEB:Nm:=⟨[2,6],[],[]⟩
def A1(x:Int×Int×Int×(List Ex)):Sg:=⟨[(2,.ref 0 0),(6,.e (.i .i64) x.1)],[(0,.box 25 [.e (.i .i64) x.2.1,.e (.i .i64) x.2.2.1,.e (.sl .ex) x.2.2.2])],100⟩
def Lv(σ:Sg):Int×Int×Int×(List Ex):=(aO (.i .i64) 6 0 σ,aL (.i .i64) 0 0 σ,aL (.i .i64) 0 1 σ,aL (.sl .ex) 0 2 σ)
theorem aSj:∀x,Lv (A1 x)=x:=λ_=>by kernel_rfl
def MB(y:Bool):Exit×Sg:=(.ret,⟨[(4,.e .bo y)],[],100⟩)
def aSf(_:Exit)(σ:Sg):Bool:=aO .bo 4 0 σ
def MA(_:Unit):Exit×Sg:=((.exit 0),⟨[],[],100⟩)
def aSe(_:Exit)(_:Sg):Unit:=()
def aSb:List (Exit×Nm):=[(.ret,⟨[4],[],[]⟩),((.exit 0),⟨[],[],[]⟩)]
def A0[aA](N:oY):Nat->(Int×Int×Int×(List Ex))->((Bool)->O)->((Unit)->O)->((Unit)->O)->O
 |0,_,_,_,_=>none
 |n+1,x,k0,k1,k2=>DK N (λv0=>A0 N n (v0,x.2.1,x.2.2.1,x.2.2.2) k0 k1 k2) (λy0=>k0 y0) (λ(_:Unit)=>k1 ()) x.2.1 x.2.2.1 x.2.2.2 x.1
def Lz[aA] N a0 a1 a2 a3 (k0:Bool->O) (k1:Unit->O):=A0 N N.1 (a0,a1,a2,a3) (λy=>k0 y) (λy=>k1 y) (λ_=>none)
def aDy[aA] N a0 a1 a2 a3 (k0:Bool->O) (k1:Unit->O):=aY A1 Lv (A0 N N.1) (A1 (a0,a1,a2,a3)) (λy=>k0 y) (λy=>k1 y) (λ_=>none)
theorem aSv[aA] N:aDy N=Lz N:=funext λ_=>funext λ_=>funext λ_=>funext λ_=>funext λ_=>funext λ_=>cW aSj _ _ _ _
theorem aSm[aA](N:oY)(self:Sg->O)(K:Exit->Sg->O)(x:Int×Int×Int×(List Ex)):DK N (λv0=>self (A1 (v0,x.2.1,x.2.2.1,x.2.2.2))) (λy0=>K (MB y0).1 (MB y0).2) (λ(_:Unit)=>K (MA ()).1 (MA ()).2) x.2.1 x.2.2.1 x.2.2.2 x.1=exec (lW N) Tryz.f64.ntmps .d Tz (A1 x) (eN aEB aSb self K):=by kernel_rfl
theorem aSz N (hc:aF (lW N)):cN (lW N) Tryz.f64.ntmps (.loop Tz) MB MA (aW 2) (aY A1 Lv (A0 N N.1)):=
 eV hc (cO Tz) (iS aSf aSe .ret (.exit 0) (λ_=>by kernel_rfl) (λ_=>by kernel_rfl) (λ_=>rfl) (λ_=>rfl) (by kernel_rfl)) (n:=N.1) (λx K=>eW (A0 N) (λ_ _ _ _=>rfl) (λn K ih x=>by
  refine fK ?_ (aSm N _ K x);simp only[<-ih];rfl) N.1 x K)
def UC[aA](N:oY)(in0:Int->Int->Int->(List Ex)->(Int->Int->Int->(List Ex)->O)->O)(in1:Int->Int->Int->(List Ex)->(Int->Int->Int->(List Ex)->O)->O)(in2:Int->Int->Int->(List Ex)->(Bool->O)->(Unit->O)->O)(A B:Int)(C:(List Ex))(root1:Bool):O:=
 ck (Ka N.1 A)<|
 br (decide ((↑C.length:Int)≠K4 N.1 A)||!root1&&decide ((9:Int)<=A))
  (some (kZ false))
  (in0 0 A B C
   (λz1 z2 z3 z4=>
    in1 z1 z2 z3 z4
     (λz6 z7 z8 z9=>
      br (decide (z8<0)||decide (z6<z8))
       (some (kZ false))
       (in2 0 z7 z8 z9
        (λz14=>
         some (kZ z14))
        (λ(_:Unit)=>
         some (kZ true))))))
def w64[aA] N A B C root1:=UC N (Tw N) (Tv N) (Lz N) A B C root1
def aEC[aA](N:oY):Hint:=(.seq .d (.seq .d (.seq .d (.seq (.sub aSs _ _ _ MD (aW 1) (aW 2) (aY DJ Lx (Gk N N.1))) (.seq (.sub aSr _ _ _ MC (aW 1) (aW 2) (aY DI Lw (Gj N N.1))) (.seq .d (.seq (.seq .d (.block (.sub aEB _ _ _ MB MA (aW 2) (aY A1 Lv (A0 N N.1))))) .d)))))))
theorem aSt N (hc:aF (lW N)):bJ (lW N) Tryz.f64.ntmps (aEC N) Gl:=bO _ _ (aG trivial (aG trivial (aG trivial (aG (aTB N hc) (aG (aTA N hc) (aG trivial (aG (aG trivial (aSz N hc)) trivial)))))))
theorem aSp[aA] N A B C root1:UC N (aEA N) (aDz N) (aDy N) A B C root1=exec (lW N) Tryz.f64.ntmps (aEC N) Gl ⟨bU 0 [.agg [.e (.i .i64) A,.e (.i .i64) B,.e (.sl .ex) C],.e .bo root1],[],100⟩ (bX (lW N) Tryz.f64 false):=by kernel_rfl
def Gi(r:aE):Option (Bool):=match r with
 |(x0,[])=>(match ue .bo x0 with|some a0=>some a0|_=>none)
 |_=>none
theorem aSi{r d}(h:Gi r=some d):r=kZ (d):=by
 unfold Gi at h;split at h
 .split at h
  .rename_i h0;cases h;rw[aH h0];rfl
  .cases h
 .cases h
def Lt N A B C root1:=(w64 N A B C root1).bind Gi
theorem aSu{N}(hc:aF (lW N)){A B C root1 d}(hd:Lt N A B C root1=some d):cB Tryz.prog 64 [.agg [.e (.i .i64) A,.e (.i .i64) B,.e (.sl .ex) C],.e .bo root1] [] (kZ (d)):=
 cD hc (by kernel_rfl) (by kernel_rfl) (aSt N hc) (by kernel_rfl) aSi (λhr=>(aSp N A B C root1).symm.trans (by rw[aSx N,aSw N,aSv N];exact hr)) hd
def lX(N:Nat):Nat->Int->Int->(List Ex)->Bool->Option (Bool)
 |0,_,_,_,_=>none
 |n+1,A,B,C,root1=>Lt (N,lX N n) A B C root1
theorem aEG(N:Nat):∀n,aM Tryz.prog 64 (E2 .ex .bo (λx0 x1=>((lX N n (Ex.op x0) (Ex.num x0) (Ex.kids x0) x1).isSome,kZ (((lX N n (Ex.op x0) (Ex.num x0) (Ex.kids x0) x1).getD false)))))
 |0=>aM.e2 (λ_ _ h=>by cases h)
 |n+1=>aM.e2 (λx0 x1 h=>by
   obtain⟨d,hd⟩:=s9.1 h;have hd':lX N (n+1) (Ex.op x0) (Ex.num x0) (Ex.kids x0) x1=some d:=hd;have e:kZ (((lX N (n+1) (Ex.op x0) (Ex.num x0) (Ex.kids x0) x1).getD false))=kZ (d):=by rw[hd'];rfl
   show cR _ _ _ _ (kZ (((lX N (n+1) (Ex.op x0) (Ex.num x0) (Ex.kids x0) x1).getD false))).1.D (HA (kZ (((lX N (n+1) (Ex.op x0) (Ex.num x0) (Ex.kids x0) x1).getD false))).2);rw[e];exact aSu (N:=(N,lX N n)) (aSy (N,lX N n) (aEG N n)) hd')
def Ly N A B C root1:=(lX N N A B C root1).isSome
def Lu N A B C root1:=((lX N N A B C root1).getD false)
def aED(N:Nat):bK:=E2 .ex .bo (λx0 x1=>(Ly N (Ex.op x0) (Ex.num x0) (Ex.kids x0) x1,kZ (Lu N (Ex.op x0) (Ex.num x0) (Ex.kids x0) x1)))
theorem aSq N:aM Tryz.prog 64 (aED N):=aEG N N
def Dt(a0:Int):aE:=(.e (.i .i64) a0,[])
def H6(N:Nat):Cx:=⟨Tryz.prog,25,[(62,aES N),(63,aEL N),(64,aED N)],[]⟩
def aG6:Code:=Tryz.f36.body.getD .skip
theorem aYB N:aF (H6 N):=bY (by kernel_rfl) (.cons (by kernel_rfl) (aTW N) (.cons (by kernel_rfl) (aTI N) (.cons (by kernel_rfl) (aSq N) .nil))) .nil
def Vi[aA](N:Nat)(A B:Int)(C:(List Ex)):O:=
 ck (ML N A B C)<|
 ck (!!decide ((256:Int)<Gn N A B C)||MH N A B C)<|
 br (decide ((256:Int)<Gn N A B C)||decide ((16:Int)<MF N A B C))
  (some (Dt 4))
  (ck (Ly N A B C true)<|
  br (!Lu N A B C true)
   (some (Dt 1))
   (some (Dt 0)))
def w36[aA] N A B C:=Vi N A B C
def aG5[aA](_:Nat):Hint:=.d
theorem aXz N:bJ (H6 N) Tryz.f36.ntmps (aG5 N) aG6:=bO _ _ trivial
theorem aXy[aA] N A B C:Vi N A B C=exec (H6 N) Tryz.f36.ntmps (aG5 N) aG6 ⟨bU 0 [.agg [.e (.i .i64) A,.e (.i .i64) B,.e (.sl .ex) C]],[],100⟩ (bX (H6 N) Tryz.f36 false):=by kernel_rfl
def Vh(r:aE):Option (Int):=match r with
 |(x0,[])=>(match ue (.i .i64) x0 with|some a0=>some a0|_=>none)
 |_=>none
theorem aXx{r d}(h:Vh r=some d):r=Dt (d):=by
 unfold Vh at h;split at h
 .split at h
  .rename_i h0;cases h;rw[aH h0];rfl
  .cases h
 .cases h
def H4 N A B C:=(w36 N A B C).bind Vh
theorem aYA{N}(hc:aF (H6 N)){A B C d}(hd:H4 N A B C=some d):cB Tryz.prog 36 [.agg [.e (.i .i64) A,.e (.i .i64) B,.e (.sl .ex) C]] [] (Dt (d)):=
 cD hc (by kernel_rfl) (by kernel_rfl) (aXz N) (by kernel_rfl) aXx (aXy N A B C).symm.trans hd
def xF N A B C:=(H4 N A B C).isSome
def rX N A B C:=((H4 N A B C).getD 0)
def H5(N:Nat):bK:=E1 .ex (λx0=>(xF N (Ex.op x0) (Ex.num x0) (Ex.kids x0),Dt (rX N (Ex.op x0) (Ex.num x0) (Ex.kids x0))))
theorem ON N:aM Tryz.prog 36 (H5 N):=aM.e1 (λ_ h=>cY h (aYA (aYB N)) rfl)
def oT(a0:lU):aE:=(.e .tx a0,[])
abbrev Sb:=Nat×(Int->Option (lU))
def Fx(N:Sb):Cx:=⟨Tryz.prog,25,[(92,E1 (.i .i64) (λx0=>((N.2 x0).isSome,oT (((N.2 x0).getD [])))))],[]⟩
def aBr:Code:=Tryz.f92.body.getD .skip
theorem aO4 N (hs:aM Tryz.prog 92 (E1 (.i .i64) (λx0=>((N.2 x0).isSome,oT (((N.2 x0).getD [])))))):aF (Fx N):=bY (by kernel_rfl) (.cons (by kernel_rfl) hs .nil) .nil
def K3[aA](N:Sb)(n0:Int):O:=
 br (decide (n0<10))
  (some (oT [eD (aC.wrap ((48:Int)+n0))]))
  (ck true <|
  ck ((N.2 (aC.wrap (n0.tdiv (10:Int)))).isSome)<|
  ck true <|
  ck (decide ((↑((N.2 (aC.wrap (n0.tdiv (10:Int)))).getD []).length:Int)+(↑[eD (aC.wrap ((48:Int)+n0.tmod (10:Int)))].length:Int)<=(9223372036854775807:Int)))<|
  some (oT ((N.2 (aC.wrap (n0.tdiv (10:Int)))).getD []++[eD (aC.wrap ((48:Int)+n0.tmod (10:Int)))])))
def w92[aA] N n0:=K3 N n0
def aBp[aA](_:Sb):Hint:=.d
theorem aO2 N:bJ (Fx N) Tryz.f92.ntmps (aBp N) aBr:=bO _ _ trivial
theorem aO0[aA] N n0:K3 N n0=exec (Fx N) Tryz.f92.ntmps (aBp N) aBr ⟨bU 0 [.e (.i .i64) n0],[],100⟩ (bX (Fx N) Tryz.f92 false):=by kernel_rfl
def KY(r:aE):Option (lU):=match r with
 |(x0,[])=>(match ue .tx x0 with|some a0=>some a0|_=>none)
 |_=>none
theorem aOZ{r d}(h:KY r=some d):r=oT (d):=by
 unfold KY at h;split at h
 .split at h
  .rename_i h0;cases h;rw[aH h0];rfl
  .cases h
 .cases h
def aBo N n0:=(w92 N n0).bind KY
theorem aO3{N}(hc:aF (Fx N)){n0 d}(hd:aBo N n0=some d):cB Tryz.prog 92 [.e (.i .i64) n0] [] (oT (d)):=
 cD hc (by kernel_rfl) (by kernel_rfl) (aO2 N) (by kernel_rfl) aOZ (aO0 N n0).symm.trans hd
def mF(N:Nat):Nat->Int->Option (lU)
 |0,_=>none
 |n+1,n0=>aBo (N,mF N n) n0
theorem aBt(N:Nat):∀n,aM Tryz.prog 92 (E1 (.i .i64) (λx0=>((mF N n x0).isSome,oT (((mF N n x0).getD [])))))
 |0=>aM.e1 (λ_ h=>by cases h)
 |n+1=>aM.e1 (λx0 h=>by
   obtain⟨d,hd⟩:=s9.1 h;have hd':mF N (n+1) x0=some d:=hd;have e:oT (((mF N (n+1) x0).getD []))=oT (d):=by rw[hd'];rfl
   show cR _ _ _ _ (oT (((mF N (n+1) x0).getD []))).1.D (HA (oT (((mF N (n+1) x0).getD []))).2);rw[e];exact aO3 (N:=(N,mF N n)) (aO4 (N,mF N n) (aBt N n)) hd')
def KZ N n0:=(mF N N n0).isSome
def KX N n0:=((mF N N n0).getD [])
def aBq(N:Nat):bK:=E1 (.i .i64) (λx0=>(KZ N x0,oT (KX N x0)))
theorem aO1 N:aM Tryz.prog 92 (aBq N):=aBt N N
def Fs(a0:Int):aE:=(.e (.i .i64) a0,[])
def kW(_:Nat):Cx:=⟨Tryz.prog,25,[],[]⟩
def Ft:Code:=Tryz.f94.body.getD .skip
theorem aON N:aF (kW N):=bY (by kernel_rfl) .nil .nil
def aBj[aA](_:Nat)(k0:Int->Bool->O)(x13_0:Int):O:=
 br (decide (x13_0=9))
  (k0 x13_0 (decide (x13_0=9)))
  (k0 x13_0 (decide (x13_0=10)))
def S8:Code:=cK [1,0,1,0,0] Ft
def aOI:Nm:=⟨[3],[],[]⟩
def C6(x:Int):Sg:=⟨[(3,.e (.i .i64) x)],[],100⟩
def KN(σ:Sg):Int:=aO (.i .i64) 3 0 σ
theorem aOB:∀x,KN (C6 x)=x:=λ_=>by kernel_rfl
def KV(y:Int×Bool):Exit×Sg:=(.normal,⟨[(3,.e (.i .i64) y.1),(4,.e .bo y.2)],[],100⟩)
def aNx(_:Exit)(σ:Sg):Int×Bool:=(aO (.i .i64) 3 0 σ,aO .bo 4 0 σ)
def aNt:List (Exit×Nm):=[(.normal,⟨[3,4],[],[]⟩)]
def KR[aA](N _:Nat)(x:Int)(k0:(Int×Bool)->O)(_:(Unit)->O)(_:(Unit)->O):O:=aBj N (λy0 y1=>k0 (y0,y1)) x
def S4[aA] N a0 (k0:Int->Bool->O):=KR N N a0 (λy=>k0 y.1 y.2) (λ_=>none) (λ_=>none)
def S2[aA] N a0 (k0:Int->Bool->O):=aY C6 KN (KR N N) (C6 a0) (λy=>k0 y.1 y.2) (λ_=>none) (λ_=>none)
theorem aBf[aA] N:S2 N=S4 N:=funext λ_=>funext λ_=>cW aOB _ _ _ _
theorem aOE[aA](N:Nat)(K:Exit->Sg->O)(x:Int):aBj N (λy0 y1=>K (KV (y0,y1)).1 (KV (y0,y1)).2) x=exec (kW N) Tryz.f94.ntmps .d S8 (C6 x) (hY aNt K):=by kernel_rfl
theorem aOR N (hc:aF (kW N)):cN (kW N) Tryz.f94.ntmps S8 KV (aW 1) (aW 2) (aY C6 KN (KR N N)):=
 iV hc (cO S8) (eZ aNx .normal (λ_=>by kernel_rfl) (λ_=>rfl) (by kernel_rfl)) (λx K=>by
  exact aOE N K x)
def aBi[aA](_:Nat)(k0:Int->Bool->O)(x16_0:Int):O:=
 br (decide (x16_0=3))
  (k0 x16_0 (decide (x16_0=3)))
  (k0 x16_0 (decide (x16_0=4)))
def S7:Code:=cK [1,0,1,0,1,1,0] Ft
def aOH:Nm:=⟨[3],[],[]⟩
def C5(x:Int):Sg:=⟨[(3,.e (.i .i64) x)],[],100⟩
def KM(σ:Sg):Int:=aO (.i .i64) 3 0 σ
theorem aOA:∀x,KM (C5 x)=x:=λ_=>by kernel_rfl
def KU(y:Int×Bool):Exit×Sg:=(.normal,⟨[(3,.e (.i .i64) y.1),(7,.e .bo y.2)],[],100⟩)
def aNw(_:Exit)(σ:Sg):Int×Bool:=(aO (.i .i64) 3 0 σ,aO .bo 7 0 σ)
def aNs:List (Exit×Nm):=[(.normal,⟨[3,7],[],[]⟩)]
def KQ[aA](N _:Nat)(x:Int)(k0:(Int×Bool)->O)(_:(Unit)->O)(_:(Unit)->O):O:=aBi N (λy0 y1=>k0 (y0,y1)) x
def S3[aA] N a0 (k0:Int->Bool->O):=KQ N N a0 (λy=>k0 y.1 y.2) (λ_=>none) (λ_=>none)
def S1[aA] N a0 (k0:Int->Bool->O):=aY C5 KM (KQ N N) (C5 a0) (λy=>k0 y.1 y.2) (λ_=>none) (λ_=>none)
theorem aBe[aA] N:S1 N=S3 N:=funext λ_=>funext λ_=>cW aOA _ _ _ _
theorem aOD[aA](N:Nat)(K:Exit->Sg->O)(x:Int):aBi N (λy0 y1=>K (KU (y0,y1)).1 (KU (y0,y1)).2) x=exec (kW N) Tryz.f94.ntmps .d S7 (C5 x) (hY aNs K):=by kernel_rfl
theorem aOQ N (hc:aF (kW N)):cN (kW N) Tryz.f94.ntmps S7 KU (aW 1) (aW 2) (aY C5 KM (KQ N N)):=
 iV hc (cO S7) (eZ aNw .normal (λ_=>by kernel_rfl) (λ_=>rfl) (by kernel_rfl)) (λx K=>by
  exact aOD N K x)
def aBh[aA](_:Nat)(in0:Int->(Int->Bool->O)->O)(in1:Int->(Int->Bool->O)->O)(k0:Int->O)(k1:Unit->O)(x0_0:Int):O:=
 in0 x0_0
  (λz14 z15=>
   br z15
    (k0 0)
    (in1 z14
     (λz17 z18=>
      br z18
       (k0 1)
       (br (decide (z17=5))
        (br (decide (z17=5))
         (k0 2)
         (br (decide (z17=2))
          (br (decide (z17=2))
           (k0 3)
           (k1 ()))
          (br (decide (z17=7))
           (k0 3)
           (k1 ()))))
        (br (decide (z17=6))
         (k0 2)
         (br (decide (z17=2))
          (br (decide (z17=2))
           (k0 3)
           (k1 ()))
          (br (decide (z17=7))
           (k0 3)
           (k1 ()))))))))
def S6:Code:=cK [1,0] Ft
def aOG:Nm:=⟨[0],[],[]⟩
def C4(x:Int):Sg:=⟨[(0,.e (.i .i64) x)],[],100⟩
def KL(σ:Sg):Int:=aO (.i .i64) 0 0 σ
theorem aNz:∀x,KL (C4 x)=x:=λ_=>by kernel_rfl
def KT(y:Int):Exit×Sg:=(.ret,⟨[(2,.e (.i .i64) y)],[],100⟩)
def aNv(_:Exit)(σ:Sg):Int:=aO (.i .i64) 2 0 σ
def KS(_:Unit):Exit×Sg:=(.normal,⟨[],[],100⟩)
def aNu(_:Exit)(_:Sg):Unit:=()
def aNr:List (Exit×Nm):=[(.ret,⟨[2],[],[]⟩),(.normal,⟨[],[],[]⟩)]
def KP[aA](N _:Nat)(x:Int)(k0:(Int)->O)(k1:(Unit)->O)(_:(Unit)->O):O:=aBh N (S4 N) (S3 N) (λy0=>k0 y0) (λ(_:Unit)=>k1 ()) x
def aBb[aA] N a0 (k0:Int->O) (k1:Unit->O):=KP N N a0 (λy=>k0 y) (λy=>k1 y) (λ_=>none)
def aB9[aA] N a0 (k0:Int->O) (k1:Unit->O):=aY C4 KL (KP N N) (C4 a0) (λy=>k0 y) (λy=>k1 y) (λ_=>none)
theorem aOM[aA] N:aB9 N=aBb N:=funext λ_=>funext λ_=>funext λ_=>cW aNz _ _ _ _
def aBc[aA](N:Nat):Hint:=(.seq .d (.block (.seq (.sub aOI _ _ _ KV (aW 1) (aW 2) (aY C6 KN (KR N N))) (.cond .d (.seq (.sub aOH _ _ _ KU (aW 1) (aW 2) (aY C5 KM (KQ N N))) .d)))))
theorem aOJ N (hc:aF (kW N)):bJ (kW N) Tryz.f94.ntmps (aBc N) S6:=bO _ _ (aG trivial (aG (aOR N hc) (aG trivial (aG (aOQ N hc) trivial))))
theorem aOC[aA](N:Nat)(K:Exit->Sg->O)(x:Int):aBh N (S2 N) (S1 N) (λy0=>K (KT y0).1 (KT y0).2) (λ(_:Unit)=>K (KS ()).1 (KS ()).2) x=exec (kW N) Tryz.f94.ntmps (aBc N) S6 (C4 x) (hY aNr K):=by kernel_rfl
theorem aOP N (hc:aF (kW N)):cN (kW N) Tryz.f94.ntmps S6 KT KS (aW 2) (aY C4 KL (KP N N)):=
 iV hc (aOJ N hc) (iS aNv aNu .ret .normal (λ_=>by kernel_rfl) (λ_=>by kernel_rfl) (λ_=>rfl) (λ_=>rfl) (by kernel_rfl)) (λx K=>by
  have q:=aOC N K x;rw[aBf N,aBe N]at q;exact q)
def aBg[aA](_:Nat)(_in0:Int->(Int->Bool->O)->O)(_in1:Int->(Int->Bool->O)->O)(in2:Int->(Int->O)->(Unit->O)->O)(cX:Int):O:=
 in2 cX
  (λz19=>
   some (Fs z19))
  (λ(_:Unit)=>
   some (Fs 4))
def w94[aA] N cX:=aBg N (S4 N) (S3 N) (aBb N) cX
def aBd[aA](N:Nat):Hint:=(.seq .d (.seq (.sub aOG _ _ _ KT KS (aW 2) (aY C4 KL (KP N N))) .d))
theorem aOK N (hc:aF (kW N)):bJ (kW N) Tryz.f94.ntmps (aBd N) Ft:=bO _ _ (aG trivial (aG (aOP N hc) trivial))
theorem aOF[aA] N cX:aBg N (S2 N) (S1 N) (aB9 N) cX=exec (kW N) Tryz.f94.ntmps (aBd N) Ft ⟨bU 0 [.e (.i .i64) cX],[],100⟩ (bX (kW N) Tryz.f94 false):=by kernel_rfl
def S0(r:aE):Option (Int):=match r with
 |(x0,[])=>(match ue (.i .i64) x0 with|some a0=>some a0|_=>none)
 |_=>none
theorem aNy{r d}(h:S0 r=some d):r=Fs (d):=by
 unfold S0 at h;split at h
 .split at h
  .rename_i h0;cases h;rw[aH h0];rfl
  .cases h
 .cases h
def KK N cX:=(w94 N cX).bind S0
theorem aOL{N}(hc:aF (kW N)){cX d}(hd:KK N cX=some d):cB Tryz.prog 94 [.e (.i .i64) cX] [] (Fs (d)):=
 cD hc (by kernel_rfl) (by kernel_rfl) (aOK N hc) (by kernel_rfl) aNy (λhr=>(aOF N cX).symm.trans (by rw[aBf N,aBe N,aOM N];exact hr)) hd
def KO N cX:=(KK N cX).isSome
def Fq N cX:=((KK N cX).getD 0)
def S5(N:Nat):bK:=E1 (.i .i64) (λx0=>(KO N x0,Fs (Fq N x0)))
theorem aBa N:aM Tryz.prog 94 (S5 N):=aM.e1 (λx0 h=>cY (z:=KK N x0) h (aOL (aON N)) rfl)
def rP(a0:lU):aE:=(.e .tx a0,[])
def Fp(_:Nat):Cx:=⟨Tryz.prog,25,[],[]⟩
def aB7:Code:=Tryz.f95.body.getD .skip
theorem aNo N:aF (Fp N):=bY (by kernel_rfl) .nil .nil
def aB8[aA](_:Nat)(cX:Int):O:=
 br (decide (cX=3))
  (some (rP [(43:UInt8)]))
  (br (decide (cX=4))
   (some (rP [(45:UInt8)]))
   (br (decide (cX=5))
    (some (rP [(42:UInt8)]))
    (br (decide (cX=6))
     (some (rP [(47:UInt8)]))
     (br (decide (cX=7))
      (some (rP [(94:UInt8)]))
      (br (decide (cX=9))
       (some (rP [(61:UInt8)]))
       (some (rP [(60:UInt8)])))))))
def w95[aA] N cX:=aB8 N cX
def aB5[aA](_:Nat):Hint:=.d
theorem aNm N:bJ (Fp N) Tryz.f95.ntmps (aB5 N) aB7:=bO _ _ trivial
theorem aNk[aA] N cX:aB8 N cX=exec (Fp N) Tryz.f95.ntmps (aB5 N) aB7 ⟨bU 0 [.e (.i .i64) cX],[],100⟩ (bX (Fp N) Tryz.f95 false):=by kernel_rfl
def SZ(r:aE):Option (lU):=match r with
 |(x0,[])=>(match ue .tx x0 with|some a0=>some a0|_=>none)
 |_=>none
theorem aNj{r d}(h:SZ r=some d):r=rP (d):=by
 unfold SZ at h;split at h
 .split at h
  .rename_i h0;cases h;rw[aH h0];rfl
  .cases h
 .cases h
def KI N cX:=(w95 N cX).bind SZ
theorem aNn{N}(hc:aF (Fp N)){cX d}(hd:KI N cX=some d):cB Tryz.prog 95 [.e (.i .i64) cX] [] (rP (d)):=
 cD hc (by kernel_rfl) (by kernel_rfl) (aNm N) (by kernel_rfl) aNj (aNk N cX).symm.trans hd
def KJ N cX:=(KI N cX).isSome
def wI N cX:=((KI N cX).getD [])
def aB6(N:Nat):bK:=E1 (.i .i64) (λx0=>(KJ N x0,rP (wI N x0)))
theorem aNl N:aM Tryz.prog 95 (aB6 N):=aM.e1 (λx0 h=>cY (z:=KI N x0) h (aNn (aNo N)) rfl)
def nI(a0:lU):aE:=(.e .tx a0,[])
def L0(xs:List X)(H:XH):Option (Int×Int×(List Ex)):=match xs,H with
 |[.agg [x0,x1,x2]],[]=>(match ue (.i .i64) x0,ue (.i .i64) x1,ue (.sl .ex) x2 with|some a0,some a1,some a2=>some (a0,a1,a2)|_,_,_=>none)
 |_,_=>none
theorem aDN{xs H d}(h:L0 xs H=some d):xs=[.agg [.e (.i .i64) d.1,.e (.i .i64) d.2.1,.e (.sl .ex) d.2.2]]/\H=[]:=by
 unfold L0 at h;split at h
 .split at h
  .rename_i h0 h1 h2;cases h;rw[aH h0,aH h1,aH h2];exact⟨rfl,rfl⟩
  .cases h
 .cases h
abbrev qD:=Nat×((Int->Int->(List Ex)->Option (lU))×(Int->Int->(List Ex)->Int->Option (lU)))
def G3(N:qD):bK:=fD L0 (λd=>(N.2.1 d.1 d.2.1 d.2.2).isSome) (λd=>nI (((N.2.1 d.1 d.2.1 d.2.2).getD [])))
def AA(a0:lU):aE:=(.e .tx a0,[])
def Sa(xs:List X)(H:XH):Option (Int×Int×(List Ex)×Int):=match xs,H with
 |[.agg [x0,x1,x2],x3],[]=>(match ue (.i .i64) x0,ue (.i .i64) x1,ue (.sl .ex) x2,ue (.i .i64) x3 with|some a0,some a1,some a2,some a3=>some (a0,a1,a2,a3)|_,_,_,_=>none)
 |_,_=>none
theorem aBk{xs H d}(h:Sa xs H=some d):xs=[.agg [.e (.i .i64) d.1,.e (.i .i64) d.2.1,.e (.sl .ex) d.2.2.1],.e (.i .i64) d.2.2.2]/\H=[]:=by
 unfold Sa at h;split at h
 .split at h
  .rename_i h0 h1 h2 h3;cases h;rw[aH h0,aH h1,aH h2,aH h3];exact⟨rfl,rfl⟩
  .cases h
 .cases h
def Fw(N:qD):bK:=fD Sa (λd=>(N.2.2 d.1 d.2.1 d.2.2.1 d.2.2.2).isSome) (λd=>AA (((N.2.2 d.1 d.2.1 d.2.2.1 d.2.2.2).getD [])))
def tM(N:qD):Cx:=⟨Tryz.prog,25,[(71,G3 N),(93,Fw N),(92,aBq N.1),(94,S5 N.1),(95,aB6 N.1)],[]⟩
def T7:Code:=Tryz.f71.body.getD .skip
theorem aRX N (hw51:aM Tryz.prog 71 (G3 N)) (hw82:aM Tryz.prog 93 (Fw N)):aF (tM N):=bY (by kernel_rfl) (.cons (by kernel_rfl) hw51 (.cons (by kernel_rfl) hw82 (.cons (by kernel_rfl) (aO1 N.1) (.cons (by kernel_rfl) (aBa N.1) (.cons (by kernel_rfl) (aNl N.1) .nil))))) .nil
def T9[aA](_:qD)(k0:Int->Int->Int->Int->(List Ex)->O)(x4_0 x4_1 x4_2 x4_3:Int)(x4_4:(List Ex)):O:=
 br (decide (x4_0=0))
  (k0 x4_0 1 x4_2 x4_3 x4_4)
  (k0 x4_0 x4_1 x4_2 x4_3 x4_4)
def T6:Code:=cK [1,1,1,1,0] T7
def aRT:Nm:=⟨[1,3,4],[],[]⟩
def DD(x:Int×Int×Int×Int×(List Ex)):Sg:=⟨[(1,.ref 0 0),(3,.e (.i .i64) x.1),(4,.e (.i .i64) x.2.1)],[(0,.box 25 [.e (.i .i64) x.2.2.1,.e (.i .i64) x.2.2.2.1,.e (.sl .ex) x.2.2.2.2])],100⟩
def LY(σ:Sg):Int×Int×Int×Int×(List Ex):=(aO (.i .i64) 3 0 σ,aO (.i .i64) 4 0 σ,aL (.i .i64) 0 0 σ,aL (.i .i64) 0 1 σ,aL (.sl .ex) 0 2 σ)
theorem aRP:∀x,LY (DD x)=x:=λ_=>by kernel_rfl
def L1(y:Int×Int×Int×Int×(List Ex)):Exit×Sg:=(.normal,⟨[(1,.ref 0 0),(3,.e (.i .i64) y.1),(4,.e (.i .i64) y.2.1)],[(0,.box 25 [.e (.i .i64) y.2.2.1,.e (.i .i64) y.2.2.2.1,.e (.sl .ex) y.2.2.2.2])],100⟩)
def aRN(_:Exit)(σ:Sg):Int×Int×Int×Int×(List Ex):=(aO (.i .i64) 3 0 σ,aO (.i .i64) 4 0 σ,aL (.i .i64) 0 0 σ,aL (.i .i64) 0 1 σ,aL (.sl .ex) 0 2 σ)
def aRM:List (Exit×Nm):=[(.normal,⟨[1,3,4],[],[]⟩)]
def G1[aA](N:qD)(_:Nat)(x:Int×Int×Int×Int×(List Ex))(k0:(Int×Int×Int×Int×(List Ex))->O)(_:(Unit)->O)(_:(Unit)->O):O:=T9 N (λy0 y1 y2 y3 y4=>k0 (y0,y1,y2,y3,y4)) x.1 x.2.1 x.2.2.1 x.2.2.2.1 x.2.2.2.2
def T5[aA] N a0 a1 a2 a3 a4 (k0:Int->Int->Int->Int->(List Ex)->O):=G1 N N.1 (a0,a1,a2,a3,a4) (λy=>k0 y.1 y.2.1 y.2.2.1 y.2.2.2.1 y.2.2.2.2) (λ_=>none) (λ_=>none)
def aDM[aA] N a0 a1 a2 a3 a4 (k0:Int->Int->Int->Int->(List Ex)->O):=aY DD LY (G1 N N.1) (DD (a0,a1,a2,a3,a4)) (λy=>k0 y.1 y.2.1 y.2.2.1 y.2.2.2.1 y.2.2.2.2) (λ_=>none) (λ_=>none)
theorem aRW[aA] N:aDM N=T5 N:=funext λ_=>funext λ_=>funext λ_=>funext λ_=>funext λ_=>funext λ_=>cW aRP _ _ _ _
theorem aRQ[aA](N:qD)(K:Exit->Sg->O)(x:Int×Int×Int×Int×(List Ex)):T9 N (λy0 y1 y2 y3 y4=>K (L1 (y0,y1,y2,y3,y4)).1 (L1 (y0,y1,y2,y3,y4)).2) x.1 x.2.1 x.2.2.1 x.2.2.2.1 x.2.2.2.2=exec (tM N) Tryz.f71.ntmps .d T6 (DD x) (hY aRM K):=by kernel_rfl
theorem aRY N (hc:aF (tM N)):cN (tM N) Tryz.f71.ntmps T6 L1 (aW 1) (aW 2) (aY DD LY (G1 N N.1)):=
 iV hc (cO T6) (eZ aRN .normal (λ_=>by kernel_rfl) (λ_=>rfl) (by kernel_rfl)) (λx K=>by
  exact aRQ N K x)
def L2[aA](N:qD)(in0:Int->Int->Int->Int->(List Ex)->(Int->Int->Int->Int->(List Ex)->O)->O)(A B:Int)(C:(List Ex)):O:=
 br (decide (A=(0:Int)))
  (ck (KZ N.1 B)<|
  some (nI (KX N.1 B)))
  (br (decide (A=(1:Int)))
   (some (nI [eD (aC.wrap ((97:Int)+B))]))
   (br (decide (A=(2:Int)))
    (gx C 0 λy0=>
    ck ((N.snd.2 y0.op y0.num y0.kids (3:Int)).isSome)<|
    ck (decide ((1:Int)+(↑((N.snd.2 y0.op y0.num y0.kids (3:Int)).getD []).length:Int)<=(9223372036854775807:Int)))<|
    some (nI ([(45:UInt8)]++(N.snd.2 y0.op y0.num y0.kids (3:Int)).getD [])))
    (br (decide (A=(8:Int)))
     (gx C 0 λy1=>
     ck ((N.snd.2 y1.op y1.num y1.kids (1:Int)).isSome)<|
     ck (decide ((2:Int)+(↑((N.snd.2 y1.op y1.num y1.kids (1:Int)).getD []).length:Int)<=(9223372036854775807:Int)))<|
     ck (decide ((↑([(82:UInt8),(40:UInt8)]++(N.snd.2 y1.op y1.num y1.kids (1:Int)).getD []).length:Int)+(1:Int)<=(9223372036854775807:Int)))<|
     some (nI ([(82:UInt8),(40:UInt8)]++(N.snd.2 y1.op y1.num y1.kids (1:Int)).getD []++[(41:UInt8)])))
     (br (decide (A=(7:Int)))
      (gx C 0 λy2=>
      ck ((N.snd.2 y2.op y2.num y2.kids (4:Int)).isSome)<|
      ck (decide ((↑((N.snd.2 y2.op y2.num y2.kids (4:Int)).getD []).length:Int)+(1:Int)<=(9223372036854775807:Int)))<|
      gx C 1 λy3=>
      ck ((N.snd.2 y3.op y3.num y3.kids (3:Int)).isSome)<|
      ck (decide ((↑((N.snd.2 y2.op y2.num y2.kids (4:Int)).getD []++[(94:UInt8)]).length:Int)+(↑((N.snd.2 y3.op y3.num y3.kids (3:Int)).getD []).length:Int)<=(9223372036854775807:Int)))<|
      some (nI ((N.snd.2 y2.op y2.num y2.kids (4:Int)).getD []++[(94:UInt8)]++(N.snd.2 y3.op y3.num y3.kids (3:Int)).getD [])))
      (ck (KO N.1 A)<|
      in0 (Fq N.1 A) (Fq N.1 A) A B C
       (λz5 z6 z7 _ z9=>
        gx z9 0 λy10=>
        ck ((N.snd.2 y10.op y10.num y10.kids z6).isSome)<|
        ck (KJ N.1 z7)<|
        ck (decide ((↑((N.snd.2 y10.op y10.num y10.kids z6).getD []).length:Int)+(↑(wI N.1 z7).length:Int)<=(9223372036854775807:Int)))<|
        gx z9 1 λy11=>
        ck ((N.snd.2 y11.op y11.num y11.kids (aC.wrap (z5+1))).isSome)<|
        ck (decide ((↑((N.snd.2 y10.op y10.num y10.kids z6).getD []++wI N.1 z7).length:Int)+(↑((N.snd.2 y11.op y11.num y11.kids (aC.wrap (z5+1))).getD []).length:Int)<=(9223372036854775807:Int)))<|
        some (nI ((N.snd.2 y10.op y10.num y10.kids z6).getD []++wI N.1 z7++(N.snd.2 y11.op y11.num y11.kids (aC.wrap (z5+1))).getD []))))))))
def w71[aA] N A B C:=L2 N (T5 N) A B C
def aDO[aA](N:qD):Hint:=(.seq .d (.seq .d (.seq .d (.seq .d (.seq (.sub aRT _ _ _ L1 (aW 1) (aW 2) (aY DD LY (G1 N N.1))) .d)))))
theorem aRU N (hc:aF (tM N)):bJ (tM N) Tryz.f71.ntmps (aDO N) T7:=bO _ _ (aG trivial (aG trivial (aG trivial (aG trivial (aG (aRY N hc) trivial)))))
theorem aRR[aA] N A B C:L2 N (aDM N) A B C=exec (tM N) Tryz.f71.ntmps (aDO N) T7 ⟨bU 0 [.agg [.e (.i .i64) A,.e (.i .i64) B,.e (.sl .ex) C]],[],100⟩ (bX (tM N) Tryz.f71 false):=by kernel_rfl
def DB(r:aE):Option (lU):=match r with
 |(x0,[])=>(match ue .tx x0 with|some a0=>some a0|_=>none)
 |_=>none
theorem aRO{r d}(h:DB r=some d):r=nI (d):=by
 unfold DB at h;split at h
 .split at h
  .rename_i h0;cases h;rw[aH h0];rfl
  .cases h
 .cases h
def T4 N A B C:=(w71 N A B C).bind DB
theorem aRV{N}(hc:aF (tM N)){A B C d}(hd:T4 N A B C=some d):cB Tryz.prog 71 [.agg [.e (.i .i64) A,.e (.i .i64) B,.e (.sl .ex) C]] [] (nI (d)):=
 cD hc (by kernel_rfl) (by kernel_rfl) (aRU N hc) (by kernel_rfl) aRO (λhr=>(aRR N A B C).symm.trans (by rw[aRW N];exact hr)) hd
def Fv(N:qD):Cx:=⟨Tryz.prog,25,[(71,G3 N),(93,Fw N),(94,S5 N.1)],[]⟩
def aBm:Code:=Tryz.f93.body.getD .skip
theorem aOX N (hw51:aM Tryz.prog 71 (G3 N)) (hw82:aM Tryz.prog 93 (Fw N)):aF (Fv N):=bY (by kernel_rfl) (.cons (by kernel_rfl) hw51 (.cons (by kernel_rfl) hw82 (.cons (by kernel_rfl) (aBa N.1) .nil))) .nil
def KW[aA](N:qD)(A B:Int)(C:(List Ex))(level1:Int):O:=
 ck ((N.snd.1 A B C).isSome)<|
 ck (KO N.1 A)<|
 br (decide (Fq N.1 A<level1))
  (ck (decide ((1:Int)+(↑((N.snd.1 A B C).getD []).length:Int)<=(9223372036854775807:Int)))<|
  ck (decide ((↑([(40:UInt8)]++(N.snd.1 A B C).getD []).length:Int)+(1:Int)<=(9223372036854775807:Int)))<|
  some (AA ([(40:UInt8)]++(N.snd.1 A B C).getD []++[(41:UInt8)])))
  (some (AA ((N.snd.1 A B C).getD [])))
def w93[aA] N A B C level1:=KW N A B C level1
def aBl[aA](_:qD):Hint:=.d
theorem aOV N:bJ (Fv N) Tryz.f93.ntmps (aBl N) aBm:=bO _ _ trivial
theorem aOU[aA] N A B C level1:KW N A B C level1=exec (Fv N) Tryz.f93.ntmps (aBl N) aBm ⟨bU 0 [.agg [.e (.i .i64) A,.e (.i .i64) B,.e (.sl .ex) C],.e (.i .i64) level1],[],100⟩ (bX (Fv N) Tryz.f93 false):=by kernel_rfl
def Fu(r:aE):Option (lU):=match r with
 |(x0,[])=>(match ue .tx x0 with|some a0=>some a0|_=>none)
 |_=>none
theorem aOT{r d}(h:Fu r=some d):r=AA (d):=by
 unfold Fu at h;split at h
 .split at h
  .rename_i h0;cases h;rw[aH h0];rfl
  .cases h
 .cases h
def S9 N A B C level1:=(w93 N A B C level1).bind Fu
theorem aOW{N}(hc:aF (Fv N)){A B C level1 d}(hd:S9 N A B C level1=some d):cB Tryz.prog 93 [.agg [.e (.i .i64) A,.e (.i .i64) B,.e (.sl .ex) C],.e (.i .i64) level1] [] (AA (d)):=
 cD hc (by kernel_rfl) (by kernel_rfl) (aOV N) (by kernel_rfl) aOT (aOU N A B C level1).symm.trans hd
def gP(N:Nat):Nat->(Int->Int->(List Ex)->Option (lU))×(Int->Int->(List Ex)->Int->Option (lU))
 |0=>(λ_ _ _=>none,λ_ _ _ _=>none)
 |n+1=>(λA B C=>T4 (N,gP N n) A B C,λA B C level1=>S9 (N,gP N n) A B C level1)
theorem aDP(N:Nat):∀n,aM Tryz.prog 71 (G3 (N,gP N n))/\aM Tryz.prog 93 (Fw (N,gP N n))
 |0=>⟨eO aDN (λ_ h=>by cases h),eO aBk (λ_ h=>by cases h)⟩
 |n+1=>
   have ih:=aDP N n
   ⟨eO aDN (λd h=>pM (zz:=T4 (N,gP N n) d.1 d.2.1 d.2.2) (R:=λy=>nI (y)) (d0:=[]) (λ_ hy=>aRV (aRX (N,gP N n) ih.1 ih.2) hy) h),eO aBk (λd h=>pM (zz:=S9 (N,gP N n) d.1 d.2.1 d.2.2.1 d.2.2.2) (R:=λy=>AA (y)) (d0:=[]) (λ_ hy=>aOW (aOX (N,gP N n) ih.1 ih.2) hy) h)⟩
def LZ N A B C:=((gP N N).1 A B C).isSome
def LX N A B C:=(((gP N N).1 A B C).getD [])
def aDQ(N:Nat):bK:=fD L0 (λd=>LZ N d.1 d.2.1 d.2.2) (λd=>nI (LX N d.1 d.2.1 d.2.2))
theorem aRS N:aM Tryz.prog 71 (aDQ N):=(aDP N N).1
def HU(a0:lU):aE:=(.e .tx a0,[])
def HW(N:Nat):Cx:=⟨Tryz.prog,25,[(36,H5 N),(71,aDQ N)],[]⟩
def aGR:Code:=Tryz.f38.body.getD .skip
theorem aX4 N:aF (HW N):=bY (by kernel_rfl) (.cons (by kernel_rfl) (ON N) (.cons (by kernel_rfl) (aRS N) .nil)) .nil
def Nz[aA](N:Nat)(A B:Int)(C:(List Ex)):O:=
 ck (xF N A B C)<|
 br (decide (rX N A B C≠(0:Int)))
  (some (HU []))
  (ck (LZ N A B C)<|
  some (HU (LX N A B C)))
def w38[aA] N A B C:=Nz N A B C
def aGQ[aA](_:Nat):Hint:=.d
theorem aX2 N:bJ (HW N) Tryz.f38.ntmps (aGQ N) aGR:=bO _ _ trivial
theorem aX1[aA] N A B C:Nz N A B C=exec (HW N) Tryz.f38.ntmps (aGQ N) aGR ⟨bU 0 [.agg [.e (.i .i64) A,.e (.i .i64) B,.e (.sl .ex) C]],[],100⟩ (bX (HW N) Tryz.f38 false):=by kernel_rfl
def Ny(r:aE):Option (lU):=match r with
 |(x0,[])=>(match ue .tx x0 with|some a0=>some a0|_=>none)
 |_=>none
theorem aX0{r d}(h:Ny r=some d):r=HU (d):=by
 unfold Ny at h;split at h
 .split at h
  .rename_i h0;cases h;rw[aH h0];rfl
  .cases h
 .cases h
def Nx N A B C:=(w38 N A B C).bind Ny
theorem aX3{N}(hc:aF (HW N)){A B C d}(hd:Nx N A B C=some d):cB Tryz.prog 38 [.agg [.e (.i .i64) A,.e (.i .i64) B,.e (.sl .ex) C]] [] (HU (d)):=
 cD hc (by kernel_rfl) (by kernel_rfl) (aX2 N) (by kernel_rfl) aX0 (aX1 N A B C).symm.trans hd
def HV N A B C:=(Nx N A B C).isSome
def Au N A B C:=((Nx N A B C).getD [])
def V7(N:Nat):bK:=E1 .ex (λx0=>(HV N (Ex.op x0) (Ex.num x0) (Ex.kids x0),HU (Au N (Ex.op x0) (Ex.num x0) (Ex.kids x0))))
theorem aGP N:aM Tryz.prog 38 (V7 N):=aM.e1 (λ_ h=>cY h (aX3 (aX4 N)) rfl)
def nR(a0:Bool):aE:=(.e .bo a0,[])
abbrev EM:=Nat×(Int->Int->(List Ex)->Int->Int->(List Ex)->Option (Bool))
def uL(N:EM):Cx:=⟨Tryz.prog,25,[(22,E2 .ex .ex (λx0 x1=>((N.2 (Ex.op x0) (Ex.num x0) (Ex.kids x0) (Ex.op x1) (Ex.num x1) (Ex.kids x1)).isSome,nR (((N.2 (Ex.op x0) (Ex.num x0) (Ex.kids x0) (Ex.op x1) (Ex.num x1) (Ex.kids x1)).getD false)))))],[]⟩
def Wa:Code:=Tryz.f22.body.getD .skip
theorem a0U N (hs:aM Tryz.prog 22 (E2 .ex .ex (λx0 x1=>((N.2 (Ex.op x0) (Ex.num x0) (Ex.kids x0) (Ex.op x1) (Ex.num x1) (Ex.kids x1)).isSome,nR (((N.2 (Ex.op x0) (Ex.num x0) (Ex.kids x0) (Ex.op x1) (Ex.num x1) (Ex.kids x1)).getD false)))))):aF (uL N):=bY (by kernel_rfl) (.cons (by kernel_rfl) hs .nil) .nil
def EN[aA](N:EM)(self:Int->O)(k0:Bool->O)(k1:Unit->O)(_x0_1 _x0_2:Int)(x0_3:(List Ex))(_x0_4 _x0_5:Int)(x0_6:(List Ex))(x0_0:Int):O:=
 br (decide (x0_0<(↑x0_3.length:Int)))
  (gx x0_3 x0_0 λy5=>
  gx x0_6 x0_0 λy6=>
  ck ((N.2 y5.op y5.num y5.kids y6.op y6.num y6.kids).isSome)<|
  br (!(N.2 y5.op y5.num y5.kids y6.op y6.num y6.kids).getD false)
   (k0 false)
   (self (aC.wrap (x0_0+1))))
  (k1 ())
def W9:Code:=cK [1,1,0,1,0,0] Wa
def aHi:Nm:=⟨[2,3,5],[],[]⟩
def BV(x:Int×Int×Int×(List Ex)×Int×Int×(List Ex)):Sg:=⟨[(2,.ref 0 0),(3,.ref 1 0),(5,.e (.i .i64) x.1)],[(0,.box 25 [.e (.i .i64) x.2.1,.e (.i .i64) x.2.2.1,.e (.sl .ex) x.2.2.2.1]),(1,.box 25 [.e (.i .i64) x.2.2.2.2.1,.e (.i .i64) x.2.2.2.2.2.1,.e (.sl .ex) x.2.2.2.2.2.2])],100⟩
def PQ(σ:Sg):Int×Int×Int×(List Ex)×Int×Int×(List Ex):=(aO (.i .i64) 5 0 σ,aL (.i .i64) 0 0 σ,aL (.i .i64) 0 1 σ,aL (.sl .ex) 0 2 σ,aL (.i .i64) 1 0 σ,aL (.i .i64) 1 1 σ,aL (.sl .ex) 1 2 σ)
theorem a0O:∀x,PQ (BV x)=x:=λ_=>by kernel_rfl
def PT(y:Bool):Exit×Sg:=(.ret,⟨[(4,.e .bo y)],[],100⟩)
def a0M(_:Exit)(σ:Sg):Bool:=aO .bo 4 0 σ
def PS(_:Unit):Exit×Sg:=((.exit 0),⟨[],[],100⟩)
def a0L(_:Exit)(_:Sg):Unit:=()
def a0K:List (Exit×Nm):=[(.ret,⟨[4],[],[]⟩),((.exit 0),⟨[],[],[]⟩)]
def BU[aA](N:EM):Nat->(Int×Int×Int×(List Ex)×Int×Int×(List Ex))->((Bool)->O)->((Unit)->O)->((Unit)->O)->O
 |0,_,_,_,_=>none
 |n+1,x,k0,k1,k2=>EN N (λv0=>BU N n (v0,x.2.1,x.2.2.1,x.2.2.2.1,x.2.2.2.2.1,x.2.2.2.2.2.1,x.2.2.2.2.2.2) k0 k1 k2) (λy0=>k0 y0) (λ(_:Unit)=>k1 ()) x.2.1 x.2.2.1 x.2.2.2.1 x.2.2.2.2.1 x.2.2.2.2.2.1 x.2.2.2.2.2.2 x.1
def W7[aA] N a0 a1 a2 a3 a4 a5 a6 (k0:Bool->O) (k1:Unit->O):=BU N N.1 (a0,a1,a2,a3,a4,a5,a6) (λy=>k0 y) (λy=>k1 y) (λ_=>none)
def aHg[aA] N a0 a1 a2 a3 a4 a5 a6 (k0:Bool->O) (k1:Unit->O):=aY BV PQ (BU N N.1) (BV (a0,a1,a2,a3,a4,a5,a6)) (λy=>k0 y) (λy=>k1 y) (λ_=>none)
theorem a0T[aA] N:aHg N=W7 N:=funext λ_=>funext λ_=>funext λ_=>funext λ_=>funext λ_=>funext λ_=>funext λ_=>funext λ_=>funext λ_=>cW a0O _ _ _ _
theorem a0P[aA](N:EM)(self:Sg->O)(K:Exit->Sg->O)(x:Int×Int×Int×(List Ex)×Int×Int×(List Ex)):EN N (λv0=>self (BV (v0,x.2.1,x.2.2.1,x.2.2.2.1,x.2.2.2.2.1,x.2.2.2.2.2.1,x.2.2.2.2.2.2))) (λy0=>K (PT y0).1 (PT y0).2) (λ(_:Unit)=>K (PS ()).1 (PS ()).2) x.2.1 x.2.2.1 x.2.2.2.1 x.2.2.2.2.1 x.2.2.2.2.2.1 x.2.2.2.2.2.2 x.1=exec (uL N) Tryz.f22.ntmps .d W9 (BV x) (eN aHi a0K self K):=by kernel_rfl
theorem a0X N (hc:aF (uL N)):cN (uL N) Tryz.f22.ntmps (.loop W9) PT PS (aW 2) (aY BV PQ (BU N N.1)):=
 eV hc (cO W9) (iS a0M a0L .ret (.exit 0) (λ_=>by kernel_rfl) (λ_=>by kernel_rfl) (λ_=>rfl) (λ_=>rfl) (by kernel_rfl)) (n:=N.1) (λx K=>eW (BU N) (λ_ _ _ _=>rfl) (λn K ih x=>by
  refine fK ?_ (a0P N _ K x);simp only[<-ih];rfl) N.1 x K)
def Wc[aA](_:EM)(in0:Int->Int->Int->(List Ex)->Int->Int->(List Ex)->(Bool->O)->(Unit->O)->O)(a0_0 a0_1:Int)(a0_2:(List Ex))(b1_0 b1_1:Int)(b1_2:(List Ex)):O:=
 br (decide (a0_0≠b1_0)||decide (a0_1≠b1_1)||decide ((↑a0_2.length:Int)≠(↑b1_2.length:Int)))
  (some (nR false))
  (in0 0 a0_0 a0_1 a0_2 b1_0 b1_1 b1_2
   (λz7=>
    some (nR z7))
   (λ(_:Unit)=>
    some (nR true)))
def w22[aA] N a0_0 a0_1 a0_2 b1_0 b1_1 b1_2:=Wc N (W7 N) a0_0 a0_1 a0_2 b1_0 b1_1 b1_2
def aHj[aA](N:EM):Hint:=(.seq .d (.seq .d (.seq (.seq .d (.block (.sub aHi _ _ _ PT PS (aW 2) (aY BV PQ (BU N N.1))))) .d)))
theorem a0R N (hc:aF (uL N)):bJ (uL N) Tryz.f22.ntmps (aHj N) Wa:=bO _ _ (aG trivial (aG trivial (aG (aG trivial (a0X N hc)) trivial)))
theorem a0Q[aA] N a0_0 a0_1 a0_2 b1_0 b1_1 b1_2:Wc N (aHg N) a0_0 a0_1 a0_2 b1_0 b1_1 b1_2=exec (uL N) Tryz.f22.ntmps (aHj N) Wa ⟨bU 0 [.agg [.e (.i .i64) a0_0,.e (.i .i64) a0_1,.e (.sl .ex) a0_2],.agg [.e (.i .i64) b1_0,.e (.i .i64) b1_1,.e (.sl .ex) b1_2]],[],100⟩ (bX (uL N) Tryz.f22 false):=by kernel_rfl
def PO(r:aE):Option (Bool):=match r with
 |(x0,[])=>(match ue .bo x0 with|some a0=>some a0|_=>none)
 |_=>none
theorem a0N{r d}(h:PO r=some d):r=nR (d):=by
 unfold PO at h;split at h
 .split at h
  .rename_i h0;cases h;rw[aH h0];rfl
  .cases h
 .cases h
def PM N a0_0 a0_1 a0_2 b1_0 b1_1 b1_2:=(w22 N a0_0 a0_1 a0_2 b1_0 b1_1 b1_2).bind PO
theorem a0S{N}(hc:aF (uL N)){a0_0 a0_1 a0_2 b1_0 b1_1 b1_2 d}(hd:PM N a0_0 a0_1 a0_2 b1_0 b1_1 b1_2=some d):cB Tryz.prog 22 [.agg [.e (.i .i64) a0_0,.e (.i .i64) a0_1,.e (.sl .ex) a0_2],.agg [.e (.i .i64) b1_0,.e (.i .i64) b1_1,.e (.sl .ex) b1_2]] [] (nR (d)):=
 cD hc (by kernel_rfl) (by kernel_rfl) (a0R N hc) (by kernel_rfl) a0N (λhr=>(a0Q N a0_0 a0_1 a0_2 b1_0 b1_1 b1_2).symm.trans (by rw[a0T N];exact hr)) hd
def nS(N:Nat):Nat->Int->Int->(List Ex)->Int->Int->(List Ex)->Option (Bool)
 |0,_,_,_,_,_,_=>none
 |n+1,a0_0,a0_1,a0_2,b1_0,b1_1,b1_2=>PM (N,nS N n) a0_0 a0_1 a0_2 b1_0 b1_1 b1_2
theorem aHl(N:Nat):∀n,aM Tryz.prog 22 (E2 .ex .ex (λx0 x1=>((nS N n (Ex.op x0) (Ex.num x0) (Ex.kids x0) (Ex.op x1) (Ex.num x1) (Ex.kids x1)).isSome,nR (((nS N n (Ex.op x0) (Ex.num x0) (Ex.kids x0) (Ex.op x1) (Ex.num x1) (Ex.kids x1)).getD false)))))
 |0=>aM.e2 (λ_ _ h=>by cases h)
 |n+1=>aM.e2 (λx0 x1 h=>by
   obtain⟨d,hd⟩:=s9.1 h;have hd':nS N (n+1) (Ex.op x0) (Ex.num x0) (Ex.kids x0) (Ex.op x1) (Ex.num x1) (Ex.kids x1)=some d:=hd;have e:nR (((nS N (n+1) (Ex.op x0) (Ex.num x0) (Ex.kids x0) (Ex.op x1) (Ex.num x1) (Ex.kids x1)).getD false))=nR (d):=by rw[hd'];rfl
   show cR _ _ _ _ (nR (((nS N (n+1) (Ex.op x0) (Ex.num x0) (Ex.kids x0) (Ex.op x1) (Ex.num x1) (Ex.kids x1)).getD false))).1.D (HA (nR (((nS N (n+1) (Ex.op x0) (Ex.num x0) (Ex.kids x0) (Ex.op x1) (Ex.num x1) (Ex.kids x1)).getD false))).2);rw[e];exact a0S (N:=(N,nS N n)) (a0U (N,nS N n) (aHl N n)) hd')
def PR N a0_0 a0_1 a0_2 b1_0 b1_1 b1_2:=(nS N N a0_0 a0_1 a0_2 b1_0 b1_1 b1_2).isSome
def PN N a0_0 a0_1 a0_2 b1_0 b1_1 b1_2:=((nS N N a0_0 a0_1 a0_2 b1_0 b1_1 b1_2).getD false)
def W8(N:Nat):bK:=E2 .ex .ex (λx0 x1=>(PR N (Ex.op x0) (Ex.num x0) (Ex.kids x0) (Ex.op x1) (Ex.num x1) (Ex.kids x1),nR (PN N (Ex.op x0) (Ex.num x0) (Ex.kids x0) (Ex.op x1) (Ex.num x1) (Ex.kids x1))))
theorem aHh N:aM Tryz.prog 22 (W8 N):=aHl N N
end
end Go.Proofs
/- What functions do. -/
namespace Go.Proofs
noncomputable section
open Go.Ax Go.Ax.aA Go.RowKit Go.Ab
open Go
def ET(a0:Bool):aE:=(.e .bo a0,[])
def uM(_:Nat):Cx:=⟨Tryz.prog,25,[],[]⟩
def Wu:Code:=Tryz.f15.body.getD .skip
theorem a1L N:aF (uM N):=bY (by kernel_rfl) .nil .nil
def aIQ[aA](_:Nat)(self:Int->O)(k0:Bool->O)(k1:Unit->O)(x0_0 x0_1:(List Int))(x0_2:Int):O:=
 br (decide (x0_2<(↑x0_0.length:Int)))
  (gx x0_0 x0_2 λy5=>
  gx x0_1 x0_2 λy6=>
  br (decide (y5≠y6))
   (k0 false)
   (self (aC.wrap (x0_2+1))))
  (k1 ())
def Wt:Code:=cK [1,1,0,1,0,0] Wu
def aIM:Nm:=⟨[0,1,5],[],[]⟩
def BW(x:(List Int)×(List Int)×Int):Sg:=⟨[(0,.e (.sl (.i .i64)) x.1),(1,.e (.sl (.i .i64)) x.2.1),(5,.e (.i .i64) x.2.2)],[],100⟩
def P1(σ:Sg):(List Int)×(List Int)×Int:=(aO (.sl (.i .i64)) 0 0 σ,aO (.sl (.i .i64)) 1 0 σ,aO (.i .i64) 5 0 σ)
theorem a1D:∀x,P1 (BW x)=x:=λ_=>by kernel_rfl
def P3(y:Bool):Exit×Sg:=(.ret,⟨[(4,.e .bo y)],[],100⟩)
def a1B(_:Exit)(σ:Sg):Bool:=aO .bo 4 0 σ
def P2(_:Unit):Exit×Sg:=((.exit 0),⟨[],[],100⟩)
def a1A(_:Exit)(_:Sg):Unit:=()
def a0z:List (Exit×Nm):=[(.ret,⟨[4],[],[]⟩),((.exit 0),⟨[],[],[]⟩)]
def EU[aA](N:Nat):Nat->((List Int)×(List Int)×Int)->((Bool)->O)->((Unit)->O)->((Unit)->O)->O
 |0,_,_,_,_=>none
 |n+1,x,k0,k1,k2=>aIQ N (λv0=>EU N n (x.1,x.2.1,v0) k0 k1 k2) (λy0=>k0 y0) (λ(_:Unit)=>k1 ()) x.1 x.2.1 x.2.2
def aIL[aA] N a0 a1 a2 (k0:Bool->O) (k1:Unit->O):=EU N N (a0,a1,a2) (λy=>k0 y) (λy=>k1 y) (λ_=>none)
def aIK[aA] N a0 a1 a2 (k0:Bool->O) (k1:Unit->O):=aY BW P1 (EU N N) (BW (a0,a1,a2)) (λy=>k0 y) (λy=>k1 y) (λ_=>none)
theorem a1K[aA] N:aIK N=aIL N:=funext λ_=>funext λ_=>funext λ_=>funext λ_=>funext λ_=>cW a1D _ _ _ _
theorem a1E[aA](N:Nat)(self:Sg->O)(K:Exit->Sg->O)(x:(List Int)×(List Int)×Int):aIQ N (λv0=>self (BW (x.1,x.2.1,v0))) (λy0=>K (P3 y0).1 (P3 y0).2) (λ(_:Unit)=>K (P2 ()).1 (P2 ()).2) x.1 x.2.1 x.2.2=exec (uM N) Tryz.f15.ntmps .d Wt (BW x) (eN aIM a0z self K):=by kernel_rfl
theorem a1M N (hc:aF (uM N)):cN (uM N) Tryz.f15.ntmps (.loop Wt) P3 P2 (aW 2) (aY BW P1 (EU N N)):=
 eV hc (cO Wt) (iS a1B a1A .ret (.exit 0) (λ_=>by kernel_rfl) (λ_=>by kernel_rfl) (λ_=>rfl) (λ_=>rfl) (by kernel_rfl)) (n:=N) (λx K=>eW (EU N) (λ_ _ _ _=>rfl) (λn K ih x=>by
  refine fK ?_ (a1E N _ K x);simp only[<-ih];rfl) N x K)
def aIP[aA](_:Nat)(in0:(List Int)->(List Int)->Int->(Bool->O)->(Unit->O)->O)(a0 b1:(List Int)):O:=
 br (decide ((↑a0.length:Int)≠(↑b1.length:Int)))
  (some (ET false))
  (in0 a0 b1 0
   (λz7=>
    some (ET z7))
   (λ(_:Unit)=>
    some (ET true)))
def w15[aA] N a0 b1:=aIP N (aIL N) a0 b1
def aIN[aA](N:Nat):Hint:=(.seq .d (.seq .d (.seq (.seq .d (.block (.sub aIM _ _ _ P3 P2 (aW 2) (aY BW P1 (EU N N))))) .d)))
theorem a1I N (hc:aF (uM N)):bJ (uM N) Tryz.f15.ntmps (aIN N) Wu:=bO _ _ (aG trivial (aG trivial (aG (aG trivial (a1M N hc)) trivial)))
theorem a1F[aA] N a0 b1:aIP N (aIK N) a0 b1=exec (uM N) Tryz.f15.ntmps (aIN N) Wu ⟨bU 0 [.e (.sl (.i .i64)) a0,.e (.sl (.i .i64)) b1],[],100⟩ (bX (uM N) Tryz.f15 false):=by kernel_rfl
def Ws(r:aE):Option (Bool):=match r with
 |(x0,[])=>(match ue .bo x0 with|some a0=>some a0|_=>none)
 |_=>none
theorem a1C{r d}(h:Ws r=some d):r=ET (d):=by
 unfold Ws at h;split at h
 .split at h
  .rename_i h0;cases h;rw[aH h0];rfl
  .cases h
 .cases h
def P0 N a0 b1:=(w15 N a0 b1).bind Ws
theorem a1J{N}(hc:aF (uM N)){a0 b1 d}(hd:P0 N a0 b1=some d):cB Tryz.prog 15 [.e (.sl (.i .i64)) a0,.e (.sl (.i .i64)) b1] [] (ET (d)):=
 cD hc (by kernel_rfl) (by kernel_rfl) (a1I N hc) (by kernel_rfl) a1C (λhr=>(a1F N a0 b1).symm.trans (by rw[a1K N];exact hr)) hd
def a1G N a0 b1:=(P0 N a0 b1).isSome
def a0y N a0 b1:=((P0 N a0 b1).getD false)
def aIO(N:Nat):bK:=E2 (.sl (.i .i64)) (.sl (.i .i64)) (λx0 x1=>(a1G N x0 x1,ET (a0y N x0 x1)))
theorem a1H N:aM Tryz.prog 15 (aIO N):=aM.e2 (λx0 x1 h=>cY (z:=P0 N x0 x1) h (a1J (a1L N)) rfl)
end
end Go.Proofs
