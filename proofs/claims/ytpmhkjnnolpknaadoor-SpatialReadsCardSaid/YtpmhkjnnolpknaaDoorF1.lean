/- What functions do. Conditions are in the theorems. -/
import Derived.Test.YtpmhkjnnolpknaaDoorE7
import Derived.Test.YtpmhkjnnolpknaaDoorF0
import Derived.Test.YtpmhkjnnolpknaaDoorProg
import Derived.KernelRfl
open And renaming intro->aF
open Eq renaming trans->dK
open Go.IntKind renaming i64->aA
open List renaming drop->OQ,replicate->bY,take->tT
open Option renaming isSome_iff_exists->BU
/- What functions do. -/
namespace Go.Proofs
noncomputable section
open Go.Ax Go.Ax.aB Go.RowKit Go.Ab
open Go
abbrev bQ:=List UInt8
def LA(a0:Bool):aM:=(.e .bo a0,[])
def FC(_:Nat):Cx:=⟨Tryd.prog,99999,[],[]⟩
def aBY:Code:=Tryd.f40.body.getD .skip
theorem aQh N:aK (FC N):=cH (by kernel_rfl) .nil .nil
def aB0[aB](_:Nat)(a0:Int):O:=
 some (LA (decide (a0<0)||decide (999999<a0)))
def w40[aB] N a0:=aB0 N a0
def aBX[aB](_:Nat):Hint:=.d
theorem aQf N:bH (FC N) Tryd.f40.ntmps (aBX N) aBY:=bS _ _ trivial
theorem aQe[aB] N a0:aB0 N a0=exec (FC N) Tryd.f40.ntmps (aBX N) aBY ⟨cA 0 [.e (.i .i64) a0],[],100⟩ (cD (FC N) Tryd.f40 false):=by kernel_rfl
def R1(r:aM):Option (Bool):=match r with
 |(x0,[])=>(match ue .bo x0 with|some a0=>some a0|_=>none)
 |_=>none
theorem aQd{r d}(h:R1 r=some d):r=LA (d):=by
 unfold R1 at h;split at h
 .split at h
  .rename_i h0;cases h;rw[bG h0];rfl
  .cases h
 .cases h
def AV N a0:=(w40 N a0).bind R1
theorem aQg{N}(hc:aK (FC N)){a0 d}(hd:AV N a0=some d):cI Tryd.prog 40 [.e (.i .i64) a0] [] (LA (d)):=
 cJ hc (by kernel_rfl) (by kernel_rfl) (aQf N) (by kernel_rfl) aQd (aQe N a0).symm.trans hd
def LB N a0:=(AV N a0).isSome
def Kz N a0:=((AV N a0).getD false)
def R2(N:Nat):bR:=E1 (.i .i64) (λx0=>(LB N x0,LA (Kz N x0)))
theorem aBW N:aX Tryd.prog 40 (R2 N):=aX.e1 (λx0 h=>cS (z:=AV N x0) h (aQg (aQh N)) rfl)
def A9(a0:Int):aM:=(.e (.i .i64) a0,[])
def F1(_:Nat):Cx:=⟨Tryd.prog,99999,[],[]⟩
def aC9:Code:=Tryd.f25.body.getD .skip
theorem aSy N:aK (F1 N):=cH (by kernel_rfl) .nil .nil
def SE[aB](_:Nat)(n0 most1:Int):O:=
 br (decide (n0<0))
  (br (decide (most1<1))
   (some (A9 0))
   (ck (decide (most1≠0))<|
   some (A9 ((aA.wrap (-aA.wrap (n0+1))).tmod most1))))
  (br (decide (most1<1))
   (some (A9 0))
   (ck (decide (most1≠0))<|
   some (A9 (n0.tmod most1))))
def w25[aB] N n0 most1:=SE N n0 most1
def aC8[aB](_:Nat):Hint:=.d
theorem aSw N:bH (F1 N) Tryd.f25.ntmps (aC8 N) aC9:=bS _ _ trivial
theorem aSv[aB] N n0 most1:SE N n0 most1=exec (F1 N) Tryd.f25.ntmps (aC8 N) aC9 ⟨cA 0 [.e (.i .i64) n0,.e (.i .i64) most1],[],100⟩ (cD (F1 N) Tryd.f25 false):=by kernel_rfl
def SD(r:aM):Option (Int):=match r with
 |(x0,[])=>(match ue (.i .i64) x0 with|some a0=>some a0|_=>none)
 |_=>none
theorem aSu{r d}(h:SD r=some d):r=A9 (d):=by
 unfold SD at h;split at h
 .split at h
  .rename_i h0;cases h;rw[bG h0];rfl
  .cases h
 .cases h
def vY N n0 most1:=(w25 N n0 most1).bind SD
theorem aSx{N}(hc:aK (F1 N)){n0 most1 d}(hd:vY N n0 most1=some d):cI Tryd.prog 25 [.e (.i .i64) n0,.e (.i .i64) most1] [] (A9 (d)):=
 cJ hc (by kernel_rfl) (by kernel_rfl) (aSw N) (by kernel_rfl) aSu (aSv N n0 most1).symm.trans hd
def j8 N n0 most1:=(vY N n0 most1).isSome
def bK N n0 most1:=((vY N n0 most1).getD 0)
def F0(N:Nat):bR:=E2 (.i .i64) (.i .i64) (λx0 x1=>(j8 N x0 x1,A9 (bK N x0 x1)))
theorem Lj N:aX Tryd.prog 25 (F0 N):=aX.e2 (λx0 x1 h=>cS (z:=vY N x0 x1) h (aSx (aSy N)) rfl)
def FI(a0:Int):aM:=(.e (.i .i64) a0,[])
def FJ(N:Nat):Cx:=⟨Tryd.prog,99999,[(25,F0 N)],[]⟩
def aBv:Code:=Tryd.f34.body.getD .skip
theorem aRi N:aK (FJ N):=cH (by kernel_rfl) (.cons (by kernel_rfl) (Lj N) .nil) .nil
def Ri[aB](N:Nat)(l0:(List Int))(i1 most2:Int):O:=
 br (decide (i1<0)||decide ((↑l0.length:Int)<=i1))
  (some (FI 0))
  (gx l0 i1 λy0=>
  ck (j8 N y0 most2)<|
  some (FI (bK N y0 most2)))
def w34[aB] N l0 i1 most2:=Ri N l0 i1 most2
def aBu[aB](_:Nat):Hint:=.d
theorem aRg N:bH (FJ N) Tryd.f34.ntmps (aBu N) aBv:=bS _ _ trivial
theorem aRf[aB] N l0 i1 most2:Ri N l0 i1 most2=exec (FJ N) Tryd.f34.ntmps (aBu N) aBv ⟨cA 0 [.e (.sl (.i .i64)) l0,.e (.i .i64) i1,.e (.i .i64) most2],[],100⟩ (cD (FJ N) Tryd.f34 false):=by kernel_rfl
def Rg(r:aM):Option (Int):=match r with
 |(x0,[])=>(match ue (.i .i64) x0 with|some a0=>some a0|_=>none)
 |_=>none
theorem aRe{r d}(h:Rg r=some d):r=FI (d):=by
 unfold Rg at h;split at h
 .split at h
  .rename_i h0;cases h;rw[bG h0];rfl
  .cases h
 .cases h
def qG N l0 i1 most2:=(w34 N l0 i1 most2).bind Rg
theorem aRh{N}(hc:aK (FJ N)){l0 i1 most2 d}(hd:qG N l0 i1 most2=some d):cI Tryd.prog 34 [.e (.sl (.i .i64)) l0,.e (.i .i64) i1,.e (.i .i64) most2] [] (FI (d)):=
 cJ hc (by kernel_rfl) (by kernel_rfl) (aRg N) (by kernel_rfl) aRe (aRf N l0 i1 most2).symm.trans hd
def kN N l0 i1 most2:=(qG N l0 i1 most2).isSome
def fE N l0 i1 most2:=((qG N l0 i1 most2).getD 0)
def Rh(N:Nat):bR:=E3 (.sl (.i .i64)) (.i .i64) (.i .i64) (λx0 x1 x2=>(kN N x0 x1 x2,FI (fE N x0 x1 x2)))
theorem aBt N:aX Tryd.prog 34 (Rh N):=aX.e3 (λx0 x1 x2 h=>cS (z:=qG N x0 x1 x2) h (aRh (aRi N)) rfl)
def C5(a0:Int):aM:=(.e (.i .i64) a0,[])
def FH(N:Nat):Cx:=⟨Tryd.prog,99999,[(25,F0 N)],[]⟩
def aBr:Code:=Tryd.f35.body.getD .skip
theorem aR9 N:aK (FH N):=cH (by kernel_rfl) (.cons (by kernel_rfl) (Lj N) .nil) .nil
def Rf[aB](N:Nat)(n0:Int):O:=
 ck (j8 N n0 (6000000:Int))<|
 ck true <|
 ck true <|
 gx [(10:Int),(100:Int),(1000:Int),(100:Int),(10000:Int),(1000000:Int)] ((bK N n0 (6000000:Int)).tmod (6:Int)) λy0=>
 ck (decide (y0≠0))<|
 some (C5 ((aA.wrap ((bK N n0 (6000000:Int)).tdiv (6:Int))).tmod y0))
def w35[aB] N n0:=Rf N n0
def aBp[aB](_:Nat):Hint:=.d
theorem aR7 N:bH (FH N) Tryd.f35.ntmps (aBp N) aBr:=bS _ _ trivial
theorem aR5[aB] N n0:Rf N n0=exec (FH N) Tryd.f35.ntmps (aBp N) aBr ⟨cA 0 [.e (.i .i64) n0],[],100⟩ (cD (FH N) Tryd.f35 false):=by kernel_rfl
def FG(r:aM):Option (Int):=match r with
 |(x0,[])=>(match ue (.i .i64) x0 with|some a0=>some a0|_=>none)
 |_=>none
theorem aR4{r d}(h:FG r=some d):r=C5 (d):=by
 unfold FG at h;split at h
 .split at h
  .rename_i h0;cases h;rw[bG h0];rfl
  .cases h
 .cases h
def vP N n0:=(w35 N n0).bind FG
theorem aR8{N}(hc:aK (FH N)){n0 d}(hd:vP N n0=some d):cI Tryd.prog 35 [.e (.i .i64) n0] [] (C5 (d)):=
 cJ hc (by kernel_rfl) (by kernel_rfl) (aR7 N) (by kernel_rfl) aR4 (aR5 N n0).symm.trans hd
def LR N n0:=(vP N n0).isSome
def FF N n0:=((vP N n0).getD 0)
def aBq(N:Nat):bR:=E1 (.i .i64) (λx0=>(LR N x0,C5 (FF N x0)))
theorem aR6 N:aX Tryd.prog 35 (aBq N):=aX.e1 (λx0 h=>cS (z:=vP N x0) h (aR8 (aR9 N)) rfl)
def oQ(a0:Int)(a1:(List Int)):aM:=(.agg [.e (.i .i64) a0,.e (.sl (.i .i64)) a1],[])
def j9(N:Nat):Cx:=⟨Tryd.prog,99999,[(34,Rh N),(35,aBq N)],[]⟩
def Ff:Code:=Tryd.f10.body.getD .skip
theorem aV5 N:aK (j9 N):=cH (by kernel_rfl) (.cons (by kernel_rfl) (aBt N) (.cons (by kernel_rfl) (aR6 N) .nil)) .nil
def M7[aB](N:Nat)(k0:(List Int)->Int->Int->Int->O)(x1_0:(List Int))(x1_1 x1_2 x1_3:Int):O:=
 br (decide (x1_3=3))
  (ck (kN N x1_0 (1:Int) (5:Int))<|
  k0 x1_0 (aA.wrap ((2:Int)+fE N x1_0 (1:Int) (5:Int))) x1_2 x1_3)
  (k0 x1_0 x1_1 x1_2 x1_3)
def Sk:Code:=cE [1,1,1,0] Ff
def aVX:Nm:=⟨[0,2,3,4],[],[]⟩
def Cn(x:(List Int)×Int×Int×Int):Sg:=⟨[(0,.e (.sl (.i .i64)) x.1),(2,.ref 0 0),(3,.ref 1 0),(4,.e (.i .i64) x.2.1)],[(0,.box 24 [.e (.i .i64) x.2.2.1,.bI]),(1,.box 24 [.e (.i .i64) x.2.2.2,.bI])],100⟩
def MY(σ:Sg):(List Int)×Int×Int×Int:=(aC (.sl (.i .i64)) 0 0 σ,aC (.i .i64) 4 0 σ,bP (.i .i64) 0 0 σ,bP (.i .i64) 1 0 σ)
theorem aVO:∀x,MY (Cn x)=x:=λ_=>by kernel_rfl
def M4(y:(List Int)×Int×Int×Int):Exit×Sg:=(.normal,⟨[(0,.e (.sl (.i .i64)) y.1),(2,.ref 0 0),(3,.ref 1 0),(4,.e (.i .i64) y.2.1)],[(0,.box 24 [.e (.i .i64) y.2.2.1,.bI]),(1,.box 24 [.e (.i .i64) y.2.2.2,.bI])],100⟩)
def aVK(_:Exit)(σ:Sg):(List Int)×Int×Int×Int:=(aC (.sl (.i .i64)) 0 0 σ,aC (.i .i64) 4 0 σ,bP (.i .i64) 0 0 σ,bP (.i .i64) 1 0 σ)
def aVH:List (Exit×Nm):=[(.normal,⟨[0,2,3,4],[],[]⟩)]
def M0[aB](N:Nat)(_:Nat)(x:(List Int)×Int×Int×Int)(k0:((List Int)×Int×Int×Int)->O)(_:(Unit)->O)(_:(Unit)->O):O:=M7 N (λy0 y1 y2 y3=>k0 (y0,y1,y2,y3)) x.1 x.2.1 x.2.2.1 x.2.2.2
def Sh[aB] N a0 a1 a2 a3 (k0:(List Int)->Int->Int->Int->O):=M0 N N (a0,a1,a2,a3) (λy=>k0 y.1 y.2.1 y.2.2.1 y.2.2.2) (λ_=>none) (λ_=>none)
def aDd[aB] N a0 a1 a2 a3 (k0:(List Int)->Int->Int->Int->O):=aP Cn MY (M0 N N) (Cn (a0,a1,a2,a3)) (λy=>k0 y.1 y.2.1 y.2.2.1 y.2.2.2) (λ_=>none) (λ_=>none)
theorem aV4[aB] N:aDd N=Sh N:=funext λ_=>funext λ_=>funext λ_=>funext λ_=>funext λ_=>cL aVO _ _ _ _
theorem aVR[aB](N:Nat)(K:Exit->Sg->O)(x:(List Int)×Int×Int×Int):M7 N (λy0 y1 y2 y3=>K (M4 (y0,y1,y2,y3)).1 (M4 (y0,y1,y2,y3)).2) x.1 x.2.1 x.2.2.1 x.2.2.2=exec (j9 N) Tryd.f10.ntmps .d Sk (Cn x) (kR aVH K):=by kernel_rfl
theorem aVe N (hc:aK (j9 N)):cF (j9 N) Tryd.f10.ntmps Sk M4 (aN 1) (aN 2) (aP Cn MY (M0 N N)):=
 mG hc (cX Sk) (eC aVK .normal (λ_=>by kernel_rfl) (λ_=>rfl) (by kernel_rfl)) (λx K=>by
  exact aVR N K x)
def M6[aB](N:Nat)(self:Int->(List Int)->O)(k0:Int->Int->(List Int)->O)(x6_0:(List Int))(x6_1 x6_3:Int)(x6_4 x6_2:Int)(x6_5:(List Int)):O:=
 br (decide (x6_2<x6_1))
  (ck (kN N x6_0 (aA.wrap ((2:Int)+x6_2)) (6000000:Int))<|
  ck (LR N (fE N x6_0 (aA.wrap ((2:Int)+x6_2)) (6000000:Int)))<|
  ck (b9 (x6_5++[FF N (fE N x6_0 (aA.wrap ((2:Int)+x6_2)) (6000000:Int))]).length (8:Nat))<|
  self (aA.wrap (x6_2+1)) (x6_5++[FF N (fE N x6_0 (aA.wrap ((2:Int)+x6_2)) (6000000:Int))]))
  (k0 x6_3 x6_4 x6_5)
def Sj:Code:=cE [1,1,1,1,0,1,0,0] Ff
def aDe:Nm:=⟨[0,2,3,4,5],[],[.BB 3 1 (.row 3 (.i .i64) [] false)]⟩
def Ao(x:(List Int)×Int×Int×Int×Int×(List Int)):Sg:=⟨[(0,.e (.sl (.i .i64)) x.1),(2,.ref 0 0),(3,.ref 1 0),(4,.e (.i .i64) x.2.1),(5,.e (.i .i64) x.2.2.1)],[(0,.box 24 [.e (.i .i64) x.2.2.2.1,.bI]),(1,.box 24 [.e (.i .i64) x.2.2.2.2.1,.own 2]),(2,.row 3 (.i .i64) x.2.2.2.2.2 false)],100⟩
def MX(σ:Sg):(List Int)×Int×Int×Int×Int×(List Int):=(aC (.sl (.i .i64)) 0 0 σ,aC (.i .i64) 4 0 σ,aC (.i .i64) 5 0 σ,bP (.i .i64) 0 0 σ,bP (.i .i64) 1 0 σ,c9 (.i .i64) 2 σ)
theorem aVN:∀x,MX (Ao x)=x:=λ_=>by kernel_rfl
def M3(y:Int×Int×(List Int)):Exit×Sg:=((.exit 0),⟨[(2,.ref 0 0),(3,.ref 1 0)],[(0,.box 24 [.e (.i .i64) y.1,.bI]),(1,.box 24 [.e (.i .i64) y.2.1,.own 2]),(2,.row 3 (.i .i64) y.2.2 false)],100⟩)
def aVJ(_:Exit)(σ:Sg):Int×Int×(List Int):=(bP (.i .i64) 0 0 σ,bP (.i .i64) 1 0 σ,c9 (.i .i64) 2 σ)
def aVG:List (Exit×Nm):=[((.exit 0),⟨[2,3],[],[]⟩)]
def An[aB](N:Nat):Nat->((List Int)×Int×Int×Int×Int×(List Int))->((Int×Int×(List Int))->O)->((Unit)->O)->((Unit)->O)->O
 |0,_,_,_,_=>none
 |n+1,x,k0,k1,k2=>M6 N (λv0 v1=>An N n (x.1,x.2.1,v0,x.2.2.2.1,x.2.2.2.2.1,v1) k0 k1 k2) (λy0 y1 y2=>k0 (y0,y1,y2)) x.1 x.2.1 x.2.2.2.1 x.2.2.2.2.1 x.2.2.1 x.2.2.2.2.2
def Sf[aB] N a0 a1 a2 a3 a4 a5 (k0:Int->Int->(List Int)->O):=An N N (a0,a1,a2,a3,a4,a5) (λy=>k0 y.1 y.2.1 y.2.2) (λ_=>none) (λ_=>none)
def aDc[aB] N a0 a1 a2 a3 a4 a5 (k0:Int->Int->(List Int)->O):=aP Ao MX (An N N) (Ao (a0,a1,a2,a3,a4,a5)) (λy=>k0 y.1 y.2.1 y.2.2) (λ_=>none) (λ_=>none)
theorem aV3[aB] N:aDc N=Sf N:=funext λ_=>funext λ_=>funext λ_=>funext λ_=>funext λ_=>funext λ_=>funext λ_=>cL aVN _ _ _ _
def aDg[aB](_:Nat):Hint:=(.seq .d (.seq (.block (.fT [7,8] [] [[],[],[],[],[],[],[],[],[188,2],[],[1]])) .d))
theorem aVZ N:bH (j9 N) Tryd.f10.ntmps (aDg N) Sj:=bS _ _ (aF trivial (aF trivial trivial))
theorem aVQ[aB](N:Nat)(self:Sg->O)(K:Exit->Sg->O)(x:(List Int)×Int×Int×Int×Int×(List Int)):M6 N (λv0 v1=>self (Ao (x.1,x.2.1,v0,x.2.2.2.1,x.2.2.2.2.1,v1))) (λy0 y1 y2=>K (M3 (y0,y1,y2)).1 (M3 (y0,y1,y2)).2) x.1 x.2.1 x.2.2.2.1 x.2.2.2.2.1 x.2.2.1 x.2.2.2.2.2=exec (j9 N) Tryd.f10.ntmps (aDg N) Sj (Ao x) (cZ aDe aVG self K):=by kernel_rfl
theorem aVd N (hc:aK (j9 N)):cF (j9 N) Tryd.f10.ntmps (.loop Sj) M3 (aN 1) (aN 2) (aP Ao MX (An N N)):=
 dD hc (aVZ N) (eC aVJ (.exit 0) (λ_=>by kernel_rfl) (λ_=>rfl) (by kernel_rfl)) (n:=N) (λx K=>dE (An N) (λ_ _ _ _=>rfl) (λn K ih x=>by
  refine dK ?_ (aVQ N _ K x);simp only[<-ih];rfl) N x K)
def M5[aB](_:Nat)(k0:Int->Int->(List Int)->O)(x10_0 x10_1:Int)(x10_2:(List Int)):O:=
 ck (!decide (x10_1=4)||decide ((0:Int)<=(0:Int)/\(0:Int)<(↑x10_2.length:Int)))<|
 gn x10_2 0 λy19=>
 ck (!decide (x10_1=4)||decide ((0:Int)<=(1:Int)/\(1:Int)<(↑x10_2.length:Int)))<|
 gn x10_2 1 λy20=>
 br (decide (x10_1=4)&&decide (y19<y20))
  (ck (decide ((0:Int)<=(1:Int)/\(1:Int)<(↑x10_2.length:Int)))<|
  gn x10_2 1 λy21=>
  ck (decide ((0:Int)<=(0:Int)/\(0:Int)<(↑x10_2.length:Int)))<|
  gn x10_2 0 λy22=>
  k0 x10_0 x10_1 [y21,y22])
  (k0 x10_0 x10_1 x10_2)
def Si:Code:=cE [1,1,1,1,1,0] Ff
def aVW:Nm:=⟨[2,3],[],[]⟩
def Cm(x:Int×Int×(List Int)):Sg:=⟨[(2,.ref 0 0),(3,.ref 1 0)],[(0,.box 24 [.e (.i .i64) x.1,.bI]),(1,.box 24 [.e (.i .i64) x.2.1,.own 2]),(2,.row 3 (.i .i64) x.2.2 false)],100⟩
def MW(σ:Sg):Int×Int×(List Int):=(bP (.i .i64) 0 0 σ,bP (.i .i64) 1 0 σ,c9 (.i .i64) 2 σ)
theorem aVM:∀x,MW (Cm x)=x:=λ_=>by kernel_rfl
def M1(y:Int×Int×(List Int)):Exit×Sg:=(.normal,⟨[(2,.ref 0 0),(3,.ref 1 0)],[(0,.box 24 [.e (.i .i64) y.1,.bI]),(1,.box 24 [.e (.i .i64) y.2.1,.own 2]),(2,.row 3 (.i .i64) y.2.2 false)],100⟩)
def aVI(_:Exit)(σ:Sg):Int×Int×(List Int):=(bP (.i .i64) 0 0 σ,bP (.i .i64) 1 0 σ,c9 (.i .i64) 2 σ)
def aVF:List (Exit×Nm):=[(.normal,⟨[2,3],[],[]⟩)]
def MZ[aB](N:Nat)(_:Nat)(x:Int×Int×(List Int))(k0:(Int×Int×(List Int))->O)(_:(Unit)->O)(_:(Unit)->O):O:=M5 N (λy0 y1 y2=>k0 (y0,y1,y2)) x.1 x.2.1 x.2.2
def Cl[aB] N a0 a1 a2 (k0:Int->Int->(List Int)->O):=MZ N N (a0,a1,a2) (λy=>k0 y.1 y.2.1 y.2.2) (λ_=>none) (λ_=>none)
def aDb[aB] N a0 a1 a2 (k0:Int->Int->(List Int)->O):=aP Cm MW (MZ N N) (Cm (a0,a1,a2)) (λy=>k0 y.1 y.2.1 y.2.2) (λ_=>none) (λ_=>none)
theorem aV2[aB] N:aDb N=Cl N:=funext λ_=>funext λ_=>funext λ_=>funext λ_=>cL aVM _ _ _ _
def aDf[aB](_:Nat):Hint:=(.seq .d (.cond (.fT [8] [] [[],[],[],[],[],[],[],[],[],[],[1]]) .d))
theorem aVY N:bH (j9 N) Tryd.f10.ntmps (aDf N) Si:=bS _ _ (aF trivial (aF trivial trivial))
theorem aVP[aB](N:Nat)(K:Exit->Sg->O)(x:Int×Int×(List Int)):M5 N (λy0 y1 y2=>K (M1 (y0,y1,y2)).1 (M1 (y0,y1,y2)).2) x.1 x.2.1 x.2.2=exec (j9 N) Tryd.f10.ntmps (aDf N) Si (Cm x) (kR aVF K):=by kernel_rfl
theorem aVc N (hc:aK (j9 N)):cF (j9 N) Tryd.f10.ntmps Si M1 (aN 1) (aN 2) (aP Cm MW (MZ N N)):=
 mG hc (aVY N) (eC aVI .normal (λ_=>by kernel_rfl) (λ_=>rfl) (by kernel_rfl)) (λx K=>by
  exact aVP N K x)
def Sl[aB](N:Nat)(in0:(List Int)->Int->Int->Int->((List Int)->Int->Int->Int->O)->O)(in1:(List Int)->Int->Int->Int->Int->(List Int)->(Int->Int->(List Int)->O)->O)(in2:Int->Int->(List Int)->(Int->Int->(List Int)->O)->O)(l0:(List Int)):O:=
 ck (kN N l0 (0:Int) (4:Int))<|
 ck (decide ((0:Int)<=fE N l0 (0:Int) (4:Int)/\fE N l0 (0:Int) (4:Int)<(4:Int)))<|
 gn [(3:Int),(4:Int),(5:Int),(6:Int)] ((fE N l0 (0:Int) (4:Int)).toNat) λy0=>
 in0 l0 2 0 y0
  (λz2 z3 z4 z5=>
   in1 z2 z3 0 z4 z5 []
    (λz7 z8 z9=>
     in2 z7 z8 z9
      (λ_ z24 z25=>
       ck (!decide (z24=6)||decide ((0:Int)<=(1:Int)/\(1:Int)<(↑z25.length:Int)))<|
       gn z25 1 λy26=>
       br (decide (z24=6)&&decide (y26=0))
        (ck (decide ((0:Int)<=(1:Int)/\(1:Int)<(↑z25.length:Int)))<|
        gn z25 1 λ_=>
        some (oQ z24 (z25.set (1:Nat) (7:Int))))
        (some (oQ z24 z25)))))
def w10[aB] N l0:=Sl N (Sh N) (Sf N) (Cl N) l0
def aDh[aB](N:Nat):Hint:=(.seq .d (.seq (.fT [0] [] []) (.seq .d (.seq (.sub aVX _ _ _ M4 (aN 1) (aN 2) (aP Cn MY (M0 N N))) (.seq (.seq .d (.block (.sub aDe _ _ _ M3 (aN 1) (aN 2) (aP Ao MX (An N N))))) (.seq (.sub aVW _ _ _ M1 (aN 1) (aN 2) (aP Cm MW (MZ N N))) .d))))))
theorem aV0 N (hc:aK (j9 N)):bH (j9 N) Tryd.f10.ntmps (aDh N) Ff:=bS _ _ (aF trivial (aF trivial (aF trivial (aF (aVe N hc) (aF (aF trivial (aVd N hc)) (aF (aVc N hc) trivial))))))
theorem aVS[aB] N l0:Sl N (aDd N) (aDc N) (aDb N) l0=exec (j9 N) Tryd.f10.ntmps (aDh N) Ff ⟨cA 0 [.e (.sl (.i .i64)) l0],[],100⟩ (cD (j9 N) Tryd.f10 false):=by kernel_rfl
def Ck(r:aM):Option (Int×(List Int)):=match r with
 |(.agg [x0,x1],[])=>(match ue (.i .i64) x0,ue (.sl (.i .i64)) x1 with|some a0,some a1=>some (a0,a1)|_,_=>none)
 |_=>none
theorem aVL{r d}(h:Ck r=some d):r=oQ d.1 d.2:=by
 unfold Ck at h;split at h
 .split at h
  .rename_i h0 h1;cases h;rw[bG h0,bG h1];rfl
  .cases h
 .cases h
def oP N l0:=(w10 N l0).bind Ck
theorem aV1{N}(hc:aK (j9 N)){l0 d}(hd:oP N l0=some d):cI Tryd.prog 10 [.e (.sl (.i .i64)) l0] [] (oQ d.1 d.2):=
 cJ hc (by kernel_rfl) (by kernel_rfl) (aV0 N hc) (by kernel_rfl) aVL (λhr=>(aVS N l0).symm.trans (by rw[aV4 N,aV3 N,aV2 N];exact hr)) hd
def Fe N l0:=(oP N l0).isSome
def iD N l0:=((oP N l0).getD (0,[])).1
def iC N l0:=((oP N l0).getD (0,[])).2
def aDi(N:Nat):bR:=E1 (.sl (.i .i64)) (λx0=>(Fe N x0,oQ (iD N x0) (iC N x0)))
theorem aVT N:aX Tryd.prog 10 (aDi N):=aX.e1 (λx0 h=>cS (z:=oP N x0) h (aV1 (aV5 N)) rfl)
def lP(a0:Int):aM:=(.e (.i .i64) a0,[])
def sV(_:Nat):Cx:=⟨Tryd.prog,99999,[],[]⟩
def SW:Code:=Tryd.f18.body.getD .skip
theorem aTz N:aK (sV N):=cH (by kernel_rfl) .nil .nil
def MA[aB](_:Nat)(self:Int->O)(k0:Int->O)(k1:Int->Int->(List Int)->O)(x0_0 x0_1 x0_3:Int)(x0_4:(List Int))(x0_2:Int):O:=
 br (decide (x0_2<x0_1))
  (gx x0_4 x0_2 λy5=>
  gc (!decide (y5<0)) 0 x0_4 x0_2 λy6=>
  br (decide (y5<0)||decide (999999<y6))
   (k0 5)
   (self (aA.wrap (x0_2+1))))
  (k1 x0_0 x0_3 x0_4)
def SV:Code:=cE [1,1,1,1,0,1,0,0] SW
def aDI:Nm:=⟨[1,2,3,4],[],[]⟩
def Ag(x:Int×Int×Int×Int×(List Int)):Sg:=⟨[(1,.ref 0 0),(2,.e (.i .i64) x.1),(3,.e (.i .i64) x.2.1),(4,.e (.i .i64) x.2.2.1)],[(0,.box 24 [.e (.i .i64) x.2.2.2.1,.e (.sl (.i .i64)) x.2.2.2.2])],100⟩
def Lw(σ:Sg):Int×Int×Int×Int×(List Int):=(aC (.i .i64) 2 0 σ,aC (.i .i64) 3 0 σ,aC (.i .i64) 4 0 σ,bP (.i .i64) 0 0 σ,bP (.sl (.i .i64)) 0 1 σ)
theorem aTt:∀x,Lw (Ag x)=x:=λ_=>by kernel_rfl
def Lz(y:Int):Exit×Sg:=(.ret,⟨[(2,.e (.i .i64) y)],[],100⟩)
def aTr(_:Exit)(σ:Sg):Int:=aC (.i .i64) 2 0 σ
def Ly(y:Int×Int×(List Int)):Exit×Sg:=((.exit 0),⟨[(1,.ref 0 0),(2,.e (.i .i64) y.1)],[(0,.box 24 [.e (.i .i64) y.2.1,.e (.sl (.i .i64)) y.2.2])],100⟩)
def aTq(_:Exit)(σ:Sg):Int×Int×(List Int):=(aC (.i .i64) 2 0 σ,bP (.i .i64) 0 0 σ,bP (.sl (.i .i64)) 0 1 σ)
def aTp:List (Exit×Nm):=[(.ret,⟨[2],[],[]⟩),((.exit 0),⟨[1,2],[],[]⟩)]
def wB[aB](N:Nat):Nat->(Int×Int×Int×Int×(List Int))->((Int)->O)->((Int×Int×(List Int))->O)->((Unit)->O)->O
 |0,_,_,_,_=>none
 |n+1,x,k0,k1,k2=>MA N (λv0=>wB N n (x.1,x.2.1,v0,x.2.2.2.1,x.2.2.2.2) k0 k1 k2) (λy0=>k0 y0) (λy0 y1 y2=>k1 (y0,y1,y2)) x.1 x.2.1 x.2.2.2.1 x.2.2.2.2 x.2.2.1
def aDH[aB] N a0 a1 a2 a3 a4 (k0:Int->O) (k1:Int->Int->(List Int)->O):=wB N N (a0,a1,a2,a3,a4) (λy=>k0 y) (λy=>k1 y.1 y.2.1 y.2.2) (λ_=>none)
def aDG[aB] N a0 a1 a2 a3 a4 (k0:Int->O) (k1:Int->Int->(List Int)->O):=aP Ag Lw (wB N N) (Ag (a0,a1,a2,a3,a4)) (λy=>k0 y) (λy=>k1 y.1 y.2.1 y.2.2) (λ_=>none)
theorem aTy[aB] N:aDG N=aDH N:=funext λ_=>funext λ_=>funext λ_=>funext λ_=>funext λ_=>funext λ_=>funext λ_=>cL aTt _ _ _ _
theorem aTu[aB](N:Nat)(self:Sg->O)(K:Exit->Sg->O)(x:Int×Int×Int×Int×(List Int)):MA N (λv0=>self (Ag (x.1,x.2.1,v0,x.2.2.2.1,x.2.2.2.2))) (λy0=>K (Lz y0).1 (Lz y0).2) (λy0 y1 y2=>K (Ly (y0,y1,y2)).1 (Ly (y0,y1,y2)).2) x.1 x.2.1 x.2.2.2.1 x.2.2.2.2 x.2.2.1=exec (sV N) Tryd.f18.ntmps .d SV (Ag x) (cZ aDI aTp self K):=by kernel_rfl
theorem aUA N (hc:aK (sV N)):cF (sV N) Tryd.f18.ntmps (.loop SV) Lz Ly (aN 2) (aP Ag Lw (wB N N)):=
 dD hc (cX SV) (jA aTr aTq .ret (.exit 0) (λ_=>by kernel_rfl) (λ_=>by kernel_rfl) (λ_=>rfl) (λ_=>rfl) (by kernel_rfl)) (n:=N) (λx K=>dE (wB N) (λ_ _ _ _=>rfl) (λn K ih x=>by
  refine dK ?_ (aTu N _ K x);simp only[<-ih];rfl) N x K)
def S0[aB](_:Nat)(in0:Int->Int->Int->Int->(List Int)->(Int->O)->(Int->Int->(List Int)->O)->O)(s0_0:Int)(s0_1:(List Int)):O:=
 br (decide (s0_0=3)&&(decide ((↑s0_1.length:Int)<(2:Int))||decide ((8:Int)<(↑s0_1.length:Int)))||decide (s0_0≠3)&&decide ((↑s0_1.length:Int)≠(2:Int)))
  (some (lP 1))
  (br (decide (s0_0≠3)&&decide (s0_0≠4)&&decide (s0_0≠5)&&decide (s0_0≠6))
   (some (lP 1))
   (in0 0 ((↑s0_1.length:Int)) 0 s0_0 s0_1
    (λz7=>
     some (lP z7))
    (λ_ z9 z10=>
     gc (decide (z9=4)) 0 z10 0 λy11=>
     gc (decide (z9=4)) 0 z10 1 λy12=>
     gc (!(decide (z9=4)&&decide (y11<y12))&&decide (z9=6)) 0 z10 1 λy13=>
     br (decide (z9=4)&&decide (y11<y12)||decide (z9=6)&&decide (y13=0))
      (some (lP 5))
      (some (lP 0)))))
def w18[aB] N s0_0 s0_1:=S0 N (aDH N) s0_0 s0_1
def aDJ[aB](N:Nat):Hint:=(.seq .d (.seq .d (.seq .d (.seq .d (.seq (.seq .d (.block (.sub aDI _ _ _ Lz Ly (aN 2) (aP Ag Lw (wB N N))))) .d)))))
theorem aTw N (hc:aK (sV N)):bH (sV N) Tryd.f18.ntmps (aDJ N) SW:=bS _ _ (aF trivial (aF trivial (aF trivial (aF trivial (aF (aF trivial (aUA N hc)) trivial)))))
theorem aTv[aB] N s0_0 s0_1:S0 N (aDG N) s0_0 s0_1=exec (sV N) Tryd.f18.ntmps (aDJ N) SW ⟨cA 0 [.agg [.e (.i .i64) s0_0,.e (.sl (.i .i64)) s0_1]],[],100⟩ (cD (sV N) Tryd.f18 false):=by kernel_rfl
def Lv(r:aM):Option (Int):=match r with
 |(x0,[])=>(match ue (.i .i64) x0 with|some a0=>some a0|_=>none)
 |_=>none
theorem aTs{r d}(h:Lv r=some d):r=lP (d):=by
 unfold Lv at h;split at h
 .split at h
  .rename_i h0;cases h;rw[bG h0];rfl
  .cases h
 .cases h
def v8 N s0_0 s0_1:=(w18 N s0_0 s0_1).bind Lv
theorem aTx{N}(hc:aK (sV N)){s0_0 s0_1 d}(hd:v8 N s0_0 s0_1=some d):cI Tryd.prog 18 [.agg [.e (.i .i64) s0_0,.e (.sl (.i .i64)) s0_1]] [] (lP (d)):=
 cJ hc (by kernel_rfl) (by kernel_rfl) (aTw N hc) (by kernel_rfl) aTs (λhr=>(aTv N s0_0 s0_1).symm.trans (by rw[aTy N];exact hr)) hd
def Cg N s0_0 s0_1:=(v8 N s0_0 s0_1).isSome
def wA N s0_0 s0_1:=((v8 N s0_0 s0_1).getD 0)
def Lx(N:Nat):bR:=E1 (.pr (.i .i64) (.sl (.i .i64))) (λx0=>(Cg N x0.1 x0.2,lP (wA N x0.1 x0.2)))
theorem SU N:aX Tryd.prog 18 (Lx N):=aX.e1 (λx0 h=>cS (z:=v8 N x0.1 x0.2) h (aTx (aTz N)) rfl)
def sX(a0:(List Int))(a1:Int):aM:=(.aU [.e (.sl (.i .i64)) a0,.e (.i .i64) a1],[])
def sY(N:Nat):Cx:=⟨Tryd.prog,99999,[(18,Lx N)],[]⟩
def Sa:Code:=Tryd.f14.body.getD .skip
theorem aUi N:aK (sY N):=cH (by kernel_rfl) (.cons (by kernel_rfl) (SU N) .nil) .nil
def MR[aB](_:Nat)(self:Int->Int->O)(k0:Int->Int->Int->(List Int)->O)(x0_0 x0_3:Int)(x0_4:(List Int))(x0_1 x0_2:Int):O:=
 br (decide (x0_2<(↑x0_4.length:Int)))
  (gx x0_4 x0_2 λy3=>
  self (aA.wrap (x0_1+y3)) (aA.wrap (x0_2+1)))
  (k0 x0_0 x0_1 x0_3 x0_4)
def S9:Code:=cE [1,1,1,0,1,0,1,0,1,0,1,0,0] Sa
def aDZ:Nm:=⟨[1,2,3,5,6],[],[]⟩
def Ak(x:Int×Int×Int×Int×(List Int)):Sg:=⟨[(1,.ref 0 0),(2,.bI),(3,.e (.i .i64) x.1),(5,.e (.i .i64) x.2.1),(6,.e (.i .i64) x.2.2.1)],[(0,.box 24 [.e (.i .i64) x.2.2.2.1,.e (.sl (.i .i64)) x.2.2.2.2])],100⟩
def MO(σ:Sg):Int×Int×Int×Int×(List Int):=(aC (.i .i64) 3 0 σ,aC (.i .i64) 5 0 σ,aC (.i .i64) 6 0 σ,bP (.i .i64) 0 0 σ,bP (.sl (.i .i64)) 0 1 σ)
theorem aUb:∀x,MO (Ak x)=x:=λ_=>by kernel_rfl
def MQ(y:Int×Int×Int×(List Int)):Exit×Sg:=((.exit 1),⟨[(1,.ref 0 0),(2,.bI),(3,.e (.i .i64) y.1),(5,.e (.i .i64) y.2.1)],[(0,.box 24 [.e (.i .i64) y.2.2.1,.e (.sl (.i .i64)) y.2.2.2])],100⟩)
def aU9(_:Exit)(σ:Sg):Int×Int×Int×(List Int):=(aC (.i .i64) 3 0 σ,aC (.i .i64) 5 0 σ,bP (.i .i64) 0 0 σ,bP (.sl (.i .i64)) 0 1 σ)
def aU8:List (Exit×Nm):=[((.exit 1),⟨[1,2,3,5],[],[]⟩)]
def Aj[aB](N:Nat):Nat->(Int×Int×Int×Int×(List Int))->((Int×Int×Int×(List Int))->O)->((Unit)->O)->((Unit)->O)->O
 |0,_,_,_,_=>none
 |n+1,x,k0,k1,k2=>MR N (λv0 v1=>Aj N n (x.1,v0,v1,x.2.2.2.1,x.2.2.2.2) k0 k1 k2) (λy0 y1 y2 y3=>k0 (y0,y1,y2,y3)) x.1 x.2.2.2.1 x.2.2.2.2 x.2.1 x.2.2.1
def aDY[aB] N a0 a1 a2 a3 a4 (k0:Int->Int->Int->(List Int)->O):=Aj N N (a0,a1,a2,a3,a4) (λy=>k0 y.1 y.2.1 y.2.2.1 y.2.2.2) (λ_=>none) (λ_=>none)
def aDX[aB] N a0 a1 a2 a3 a4 (k0:Int->Int->Int->(List Int)->O):=aP Ak MO (Aj N N) (Ak (a0,a1,a2,a3,a4)) (λy=>k0 y.1 y.2.1 y.2.2.1 y.2.2.2) (λ_=>none) (λ_=>none)
theorem aUh[aB] N:aDX N=aDY N:=funext λ_=>funext λ_=>funext λ_=>funext λ_=>funext λ_=>funext λ_=>cL aUb _ _ _ _
theorem aUc[aB](N:Nat)(self:Sg->O)(K:Exit->Sg->O)(x:Int×Int×Int×Int×(List Int)):MR N (λv0 v1=>self (Ak (x.1,v0,v1,x.2.2.2.1,x.2.2.2.2))) (λy0 y1 y2 y3=>K (MQ (y0,y1,y2,y3)).1 (MQ (y0,y1,y2,y3)).2) x.1 x.2.2.2.1 x.2.2.2.2 x.2.1 x.2.2.1=exec (sY N) Tryd.f14.ntmps .d S9 (Ak x) (cZ aDZ aU8 self K):=by kernel_rfl
theorem aUm N (hc:aK (sY N)):cF (sY N) Tryd.f14.ntmps (.loop S9) MQ (aN 1) (aN 2) (aP Ak MO (Aj N N)):=
 dD hc (cX S9) (eC aU9 (.exit 1) (λ_=>by kernel_rfl) (λ_=>rfl) (by kernel_rfl)) (n:=N) (λx K=>dE (Aj N) (λ_ _ _ _=>rfl) (λn K ih x=>by
  refine dK ?_ (aUc N _ K x);simp only[<-ih];rfl) N x K)
def Sb[aB](N:Nat)(in0:Int->Int->Int->Int->(List Int)->(Int->Int->Int->(List Int)->O)->O)(s0_0:Int)(s0_1:(List Int)):O:=
 ck (Cg N s0_0 s0_1)<|
 br (decide (wA N s0_0 s0_1≠(0:Int)))
  (some (sX [] (wA N s0_0 s0_1)))
  (br (decide (s0_0=3))
   (in0 0 0 0 s0_0 s0_1
    (λ_ z5 _ _=>
     some (sX [z5] 0)))
   (br (decide (s0_0=4))
    (gx s0_1 0 λy8=>
    gx s0_1 1 λy9=>
    some (sX [aA.wrap (y8-y9)] 0))
    (br (decide (s0_0=5))
     (gx s0_1 0 λy10=>
     gx s0_1 1 λy11=>
     some (sX [aA.wrap (y10*y11)] 0))
     (gx s0_1 0 λy12=>
     gx s0_1 1 λy13=>
     ck (decide (y13≠0))<|
     gx s0_1 0 λy14=>
     gx s0_1 1 λy15=>
     ck (decide (y15≠0))<|
     some (sX [aA.wrap (y12.tdiv y13),y14.tmod y15] 0)))))
def w14[aB] N s0_0 s0_1:=Sb N (aDY N) s0_0 s0_1
def aD0[aB](N:Nat):Hint:=(.seq .d (.seq .d (.seq .d (.seq (.seq .d (.block (.seq .d (.cond (.seq .d (.seq (.seq .d (.block (.sub aDZ _ _ _ MQ (aN 1) (aN 2) (aP Ak MO (Aj N N))))) .d)) .d)))) .d))))
theorem aUf N (hc:aK (sY N)):bH (sY N) Tryd.f14.ntmps (aD0 N) Sa:=bS _ _ (aF trivial (aF trivial (aF trivial (aF (aF trivial (aF trivial (aF (aF trivial (aF (aF trivial (aUm N hc)) trivial)) trivial))) trivial))))
theorem aUd[aB] N s0_0 s0_1:Sb N (aDX N) s0_0 s0_1=exec (sY N) Tryd.f14.ntmps (aD0 N) Sa ⟨cA 0 [.agg [.e (.i .i64) s0_0,.e (.sl (.i .i64)) s0_1]],[],100⟩ (cD (sY N) Tryd.f14 false):=by kernel_rfl
def MN(r:aM):Option ((List Int)×Int):=match r with
 |(.aU [x0,x1],[])=>(match ue (.sl (.i .i64)) x0,ue (.i .i64) x1 with|some a0,some a1=>some (a0,a1)|_,_=>none)
 |_=>none
theorem aUa{r d}(h:MN r=some d):r=sX d.1 d.2:=by
 unfold MN at h;split at h
 .split at h
  .rename_i h0 h1;cases h;rw[bG h0,bG h1];rfl
  .cases h
 .cases h
def sW N s0_0 s0_1:=(w14 N s0_0 s0_1).bind MN
theorem aUg{N}(hc:aK (sY N)){s0_0 s0_1 d}(hd:sW N s0_0 s0_1=some d):cI Tryd.prog 14 [.agg [.e (.i .i64) s0_0,.e (.sl (.i .i64)) s0_1]] [] (sX d.1 d.2):=
 cJ hc (by kernel_rfl) (by kernel_rfl) (aUf N hc) (by kernel_rfl) aUa (λhr=>(aUd N s0_0 s0_1).symm.trans (by rw[aUh N];exact hr)) hd
def MP N s0_0 s0_1:=(sW N s0_0 s0_1).isSome
def MM N s0_0 s0_1:=((sW N s0_0 s0_1).getD ([],0)).1
def aU7 N s0_0 s0_1:=((sW N s0_0 s0_1).getD ([],0)).2
def aD1(N:Nat):bR:=E1 (.pr (.i .i64) (.sl (.i .i64))) (λx0=>(MP N x0.1 x0.2,sX (MM N x0.1 x0.2) (aU7 N x0.1 x0.2)))
theorem aUe N:aX Tryd.prog 14 (aD1 N):=aX.e1 (λx0 h=>cS (z:=sW N x0.1 x0.2) h (aUg (aUi N)) rfl)
def sB(a0:Int):aM:=(.e (.i .i64) a0,[])
def sC(N:Nat):Cx:=⟨Tryd.prog,99999,[(40,R2 N)],[]⟩
def QI:Code:=Tryd.f61.body.getD .skip
theorem aLg N:aK (sC N):=cH (by kernel_rfl) (.cons (by kernel_rfl) (aBW N) .nil) .nil
def JA[aB](N:Nat)(self:Int->O)(k0:Int->O)(k1:Int->O)(x0_0:(List Int))(x0_1 x0_2 x0_3:Int):O:=
 br (decide (x0_3<x0_2))
  (gx x0_0 x0_3 λy3=>
  ck (LB N y3)<|
  br (Kz N y3)
   (k0 x0_3)
   (self (aA.wrap (x0_3+1))))
  (k1 x0_1)
def QH:Code:=cE [1,0,1,0,0] QI
def Yl:Nm:=⟨[0,1,4,7,8],[],[]⟩
def zC(x:(List Int)×Int×Int×Int):Sg:=⟨[(0,.e (.sl (.i .i64)) x.1),(1,.fn 40 []),(4,.e (.i .i64) x.2.1),(7,.e (.i .i64) x.2.2.1),(8,.e (.i .i64) x.2.2.2)],[],100⟩
def Iw(σ:Sg):(List Int)×Int×Int×Int:=(aC (.sl (.i .i64)) 0 0 σ,aC (.i .i64) 4 0 σ,aC (.i .i64) 7 0 σ,aC (.i .i64) 8 0 σ)
theorem aL9:∀x,Iw (zC x)=x:=λ_=>by kernel_rfl
def Iz(y:Int):Exit×Sg:=(.ret,⟨[(4,.e (.i .i64) y)],[],100⟩)
def aL7(_:Exit)(σ:Sg):Int:=aC (.i .i64) 4 0 σ
def Iy(y:Int):Exit×Sg:=((.exit 0),⟨[(4,.e (.i .i64) y)],[],100⟩)
def aL6(_:Exit)(σ:Sg):Int:=aC (.i .i64) 4 0 σ
def aL5:List (Exit×Nm):=[(.ret,⟨[4],[],[]⟩),((.exit 0),⟨[4],[],[]⟩)]
def uR[aB](N:Nat):Nat->((List Int)×Int×Int×Int)->((Int)->O)->((Int)->O)->((Unit)->O)->O
 |0,_,_,_,_=>none
 |n+1,x,k0,k1,k2=>JA N (λv0=>uR N n (x.1,x.2.1,x.2.2.1,v0) k0 k1 k2) (λy0=>k0 y0) (λy0=>k1 y0) x.1 x.2.1 x.2.2.1 x.2.2.2
def Yk[aB] N a0 a1 a2 a3 (k0:Int->O) (k1:Int->O):=uR N N (a0,a1,a2,a3) (λy=>k0 y) (λy=>k1 y) (λ_=>none)
def Yj[aB] N a0 a1 a2 a3 (k0:Int->O) (k1:Int->O):=aP zC Iw (uR N N) (zC (a0,a1,a2,a3)) (λy=>k0 y) (λy=>k1 y) (λ_=>none)
theorem aLf[aB] N:Yj N=Yk N:=funext λ_=>funext λ_=>funext λ_=>funext λ_=>funext λ_=>funext λ_=>cL aL9 _ _ _ _
theorem aLa[aB](N:Nat)(self:Sg->O)(K:Exit->Sg->O)(x:(List Int)×Int×Int×Int):JA N (λv0=>self (zC (x.1,x.2.1,x.2.2.1,v0))) (λy0=>K (Iz y0).1 (Iz y0).2) (λy0=>K (Iy y0).1 (Iy y0).2) x.1 x.2.1 x.2.2.1 x.2.2.2=exec (sC N) Tryd.f61.ntmps .d QH (zC x) (cZ Yl aL5 self K):=by kernel_rfl
theorem aLj N (hc:aK (sC N)):cF (sC N) Tryd.f61.ntmps (.loop QH) Iz Iy (aN 2) (aP zC Iw (uR N N)):=
 dD hc (cX QH) (jA aL7 aL6 .ret (.exit 0) (λ_=>by kernel_rfl) (λ_=>by kernel_rfl) (λ_=>rfl) (λ_=>rfl) (by kernel_rfl)) (n:=N) (λx K=>dE (uR N) (λ_ _ _ _=>rfl) (λn K ih x=>by
  refine dK ?_ (aLa N _ K x);simp only[<-ih];rfl) N x K)
def Yp[aB](_:Nat)(in0:(List Int)->Int->Int->Int->(Int->O)->(Int->O)->O)(s0:(List Int)):O:=
 in0 s0 0 ((↑s0.length:Int)) 0
  (λz4=>
   some (sB z4))
  (λ_=>
   some (sB ((-1:Int))))
def Yq[aB] N s0:=Yp N (Yk N) s0
def Ym[aB](N:Nat):Hint:=(.seq .d (.seq (.seq .d (.block (.sub Yl _ _ _ Iz Iy (aN 2) (aP zC Iw (uR N N))))) .d))
theorem aLd N (hc:aK (sC N)):bH (sC N) Tryd.f61.ntmps (Ym N) QI:=bS _ _ (aF trivial (aF (aF trivial (aLj N hc)) trivial))
theorem aLb[aB] N s0:Yp N (Yj N) s0=exec (sC N) Tryd.f61.ntmps (Ym N) QI ⟨cA 0 [.e (.sl (.i .i64)) s0,.fn 40 []],[],100⟩ (cD (sC N) Tryd.f61 false):=by kernel_rfl
def QG(r:aM):Option (Int):=match r with
 |(x0,[])=>(match ue (.i .i64) x0 with|some a0=>some a0|_=>none)
 |_=>none
theorem aL8{r d}(h:QG r=some d):r=sB (d):=by
 unfold QG at h;split at h
 .split at h
  .rename_i h0;cases h;rw[bG h0];rfl
  .cases h
 .cases h
def uQ N s0:=(Yq N s0).bind QG
theorem aLe{N}(hc:aK (sC N)){s0 d}(hd:uQ N s0=some d):cI Tryd.prog 61 [.e (.sl (.i .i64)) s0,.fn 40 []] [] (sB (d)):=
 cJ hc (by kernel_rfl) (by kernel_rfl) (aLd N hc) (by kernel_rfl) aL8 (λhr=>(aLb N s0).symm.trans (by rw[aLf N];exact hr)) hd
def Ix N s0:=(uQ N s0).isSome
def Iv N s0:=((uQ N s0).getD 0)
def Yn(N:Nat):bR:=OV (.sl (.i .i64)) 40 (λx0=>(Ix N x0,sB (Iv N x0)))
theorem aLc N:aX Tryd.prog 61 (Yn N):=aX.f1 (λx0 h=>cS (z:=uQ N x0) h (aLe (aLg N)) rfl)
def LC(a0:Bool):aM:=(.e .bo a0,[])
def FD(N:Nat):Cx:=⟨Tryd.prog,99999,[(61,Yn N)],[]⟩
def aB3:Code:=Tryd.f39.body.getD .skip
theorem aQq N:aK (FD N):=cH (by kernel_rfl) (.cons (by kernel_rfl) (aLc N) .nil) .nil
def R4[aB](N:Nat)(s0:(List Int)):O:=
 ck (Ix N s0)<|
 some (LC (decide ((0:Int)<=Iv N s0)))
def w39[aB] N s0:=R4 N s0
def aB1[aB](_:Nat):Hint:=.d
theorem aQo N:bH (FD N) Tryd.f39.ntmps (aB1 N) aB3:=bS _ _ trivial
theorem aQm[aB] N s0:R4 N s0=exec (FD N) Tryd.f39.ntmps (aB1 N) aB3 ⟨cA 0 [.e (.sl (.i .i64)) s0,.fn 40 []],[],100⟩ (cD (FD N) Tryd.f39 false):=by kernel_rfl
def R3(r:aM):Option (Bool):=match r with
 |(x0,[])=>(match ue .bo x0 with|some a0=>some a0|_=>none)
 |_=>none
theorem aQl{r d}(h:R3 r=some d):r=LC (d):=by
 unfold R3 at h;split at h
 .split at h
  .rename_i h0;cases h;rw[bG h0];rfl
  .cases h
 .cases h
def vL N s0:=(w39 N s0).bind R3
theorem aQp{N}(hc:aK (FD N)){s0 d}(hd:vL N s0=some d):cI Tryd.prog 39 [.e (.sl (.i .i64)) s0,.fn 40 []] [] (LC (d)):=
 cJ hc (by kernel_rfl) (by kernel_rfl) (aQo N) (by kernel_rfl) aQl (aQm N s0).symm.trans hd
def C1 N s0:=(vL N s0).isSome
def kZ N s0:=((vL N s0).getD false)
def aB2(N:Nat):bR:=OV (.sl (.i .i64)) 40 (λx0=>(C1 N x0,LC (kZ N x0)))
theorem aQn N:aX Tryd.prog 39 (aB2 N):=aX.f1 (λx0 h=>cS (z:=vL N x0) h (aQp (aQq N)) rfl)
def mD(a0:Int):aM:=(.e (.i .i64) a0,[])
def lQ(N:Nat):Cx:=⟨Tryd.prog,99999,[(39,aB2 N),(40,R2 N)],[]⟩
def MG:Code:=Tryd.f17.body.getD .skip
theorem aUU N:aK (lQ N):=cH (by kernel_rfl) (.cons (by kernel_rfl) (aQn N) (.cons (by kernel_rfl) (aBW N) .nil)) .nil
def ML[aB](_:Nat)(k0:Int->Int->Bool->Int->(List Int)->O)(x13_0 x13_1:Int)(x13_2 x13_3:Int)(x13_4:(List Int)):O:=
 br (decide (x13_2=4))
  (k0 x13_0 x13_1 (decide (x13_2=4)) x13_3 x13_4)
  (br (decide (x13_2=5))
   (k0 x13_0 x13_1 (decide (x13_2=5)) x13_3 x13_4)
   (k0 x13_0 x13_1 (decide (x13_2=6)) x13_3 x13_4))
def S5:Code:=cE [1,1,0,1,0,1,1,0] MG
def aUP:Nm:=⟨[1,2,3,8],[],[]⟩
def Ci(x:Int×Int×Int×Int×(List Int)):Sg:=⟨[(1,.ref 0 0),(2,.e (.i .i64) x.1),(3,.e (.i .i64) x.2.1),(8,.e (.i .i64) x.2.2.1)],[(0,.box 24 [.e (.i .i64) x.2.2.2.1,.e (.sl (.i .i64)) x.2.2.2.2])],100⟩
def MD(σ:Sg):Int×Int×Int×Int×(List Int):=(aC (.i .i64) 2 0 σ,aC (.i .i64) 3 0 σ,aC (.i .i64) 8 0 σ,bP (.i .i64) 0 0 σ,bP (.sl (.i .i64)) 0 1 σ)
theorem aUI:∀x,MD (Ci x)=x:=λ_=>by kernel_rfl
def MJ(y:Int×Int×Bool×Int×(List Int)):Exit×Sg:=(.normal,⟨[(1,.ref 0 0),(2,.e (.i .i64) y.1),(3,.e (.i .i64) y.2.1),(17,.e .bo y.2.2.1)],[(0,.box 24 [.e (.i .i64) y.2.2.2.1,.e (.sl (.i .i64)) y.2.2.2.2])],100⟩)
def aUF(_:Exit)(σ:Sg):Int×Int×Bool×Int×(List Int):=(aC (.i .i64) 2 0 σ,aC (.i .i64) 3 0 σ,aC .bo 17 0 σ,bP (.i .i64) 0 0 σ,bP (.sl (.i .i64)) 0 1 σ)
def aUC:List (Exit×Nm):=[(.normal,⟨[1,2,3,17],[],[]⟩)]
def MF[aB](N:Nat)(_:Nat)(x:Int×Int×Int×Int×(List Int))(k0:(Int×Int×Bool×Int×(List Int))->O)(_:(Unit)->O)(_:(Unit)->O):O:=ML N (λy0 y1 y2 y3 y4=>k0 (y0,y1,y2,y3,y4)) x.1 x.2.1 x.2.2.1 x.2.2.2.1 x.2.2.2.2
def F8[aB] N a0 a1 a2 a3 a4 (k0:Int->Int->Bool->Int->(List Int)->O):=MF N N (a0,a1,a2,a3,a4) (λy=>k0 y.1 y.2.1 y.2.2.1 y.2.2.2.1 y.2.2.2.2) (λ_=>none) (λ_=>none)
def S1[aB] N a0 a1 a2 a3 a4 (k0:Int->Int->Bool->Int->(List Int)->O):=aP Ci MD (MF N N) (Ci (a0,a1,a2,a3,a4)) (λy=>k0 y.1 y.2.1 y.2.2.1 y.2.2.2.1 y.2.2.2.2) (λ_=>none) (λ_=>none)
theorem aDQ[aB] N:S1 N=F8 N:=funext λ_=>funext λ_=>funext λ_=>funext λ_=>funext λ_=>funext λ_=>cL aUI _ _ _ _
theorem aUK[aB](N:Nat)(K:Exit->Sg->O)(x:Int×Int×Int×Int×(List Int)):ML N (λy0 y1 y2 y3 y4=>K (MJ (y0,y1,y2,y3,y4)).1 (MJ (y0,y1,y2,y3,y4)).2) x.1 x.2.1 x.2.2.1 x.2.2.2.1 x.2.2.2.2=exec (lQ N) Tryd.f17.ntmps .d S5 (Ci x) (kR aUC K):=by kernel_rfl
theorem aUZ N (hc:aK (lQ N)):cF (lQ N) Tryd.f17.ntmps S5 MJ (aN 1) (aN 2) (aP Ci MD (MF N N)):=
 mG hc (cX S5) (eC aUF .normal (λ_=>by kernel_rfl) (λ_=>rfl) (by kernel_rfl)) (λx K=>by
  exact aUK N K x)
def MK[aB](_:Nat)(in0:Int->Int->Int->Int->(List Int)->(Int->Int->Bool->Int->(List Int)->O)->O)(k0:Int->O)(k1:Int->Int->(List Int)->O)(x0_0 x0_1 x0_2:Int)(x0_3:(List Int)):O:=
 br (decide (x0_2=3))
  (br (decide (x0_1<2)||decide (8<x0_1))
   (k0 1)
   (k1 x0_0 x0_2 x0_3))
  (in0 x0_0 x0_1 x0_2 x0_2 x0_3
   (λz14 z15 z16 z17 z18=>
    br z16
     (br (decide (z15≠2))
      (k0 1)
      (k1 z14 z17 z18))
     (k0 1)))
def S4:Code:=cE [1,1,0] MG
def aUO:Nm:=⟨[1,2,3],[],[]⟩
def Ch(x:Int×Int×Int×(List Int)):Sg:=⟨[(1,.ref 0 0),(2,.e (.i .i64) x.1),(3,.e (.i .i64) x.2.1)],[(0,.box 24 [.e (.i .i64) x.2.2.1,.e (.sl (.i .i64)) x.2.2.2])],100⟩
def MC(σ:Sg):Int×Int×Int×(List Int):=(aC (.i .i64) 2 0 σ,aC (.i .i64) 3 0 σ,bP (.i .i64) 0 0 σ,bP (.sl (.i .i64)) 0 1 σ)
theorem aUH:∀x,MC (Ch x)=x:=λ_=>by kernel_rfl
def MI(y:Int):Exit×Sg:=(.ret,⟨[(2,.e (.i .i64) y)],[],100⟩)
def aUE(_:Exit)(σ:Sg):Int:=aC (.i .i64) 2 0 σ
def MH(y:Int×Int×(List Int)):Exit×Sg:=(.normal,⟨[(1,.ref 0 0),(2,.e (.i .i64) y.1)],[(0,.box 24 [.e (.i .i64) y.2.1,.e (.sl (.i .i64)) y.2.2])],100⟩)
def aUD(_:Exit)(σ:Sg):Int×Int×(List Int):=(aC (.i .i64) 2 0 σ,bP (.i .i64) 0 0 σ,bP (.sl (.i .i64)) 0 1 σ)
def aUB:List (Exit×Nm):=[(.ret,⟨[2],[],[]⟩),(.normal,⟨[1,2],[],[]⟩)]
def ME[aB](N:Nat)(_:Nat)(x:Int×Int×Int×(List Int))(k0:(Int)->O)(k1:(Int×Int×(List Int))->O)(_:(Unit)->O):O:=MK N (F8 N) (λy0=>k0 y0) (λy0 y1 y2=>k1 (y0,y1,y2)) x.1 x.2.1 x.2.2.1 x.2.2.2
def S2[aB] N a0 a1 a2 a3 (k0:Int->O) (k1:Int->Int->(List Int)->O):=ME N N (a0,a1,a2,a3) (λy=>k0 y) (λy=>k1 y.1 y.2.1 y.2.2) (λ_=>none)
def aDM[aB] N a0 a1 a2 a3 (k0:Int->O) (k1:Int->Int->(List Int)->O):=aP Ch MC (ME N N) (Ch (a0,a1,a2,a3)) (λy=>k0 y) (λy=>k1 y.1 y.2.1 y.2.2) (λ_=>none)
theorem aUT[aB] N:aDM N=S2 N:=funext λ_=>funext λ_=>funext λ_=>funext λ_=>funext λ_=>funext λ_=>cL aUH _ _ _ _
def aDO[aB](N:Nat):Hint:=(.seq .d (.block (.seq .d (.cond .d (.seq (.sub aUP _ _ _ MJ (aN 1) (aN 2) (aP Ci MD (MF N N))) .d)))))
theorem aUQ N (hc:aK (lQ N)):bH (lQ N) Tryd.f17.ntmps (aDO N) S4:=bS _ _ (aF trivial (aF trivial (aF trivial (aF (aUZ N hc) trivial))))
theorem aUJ[aB](N:Nat)(K:Exit->Sg->O)(x:Int×Int×Int×(List Int)):MK N (S1 N) (λy0=>K (MI y0).1 (MI y0).2) (λy0 y1 y2=>K (MH (y0,y1,y2)).1 (MH (y0,y1,y2)).2) x.1 x.2.1 x.2.2.1 x.2.2.2=exec (lQ N) Tryd.f17.ntmps (aDO N) S4 (Ch x) (kR aUB K):=by kernel_rfl
theorem aUY N (hc:aK (lQ N)):cF (lQ N) Tryd.f17.ntmps S4 MI MH (aN 2) (aP Ch MC (ME N N)):=
 mG hc (aUQ N hc) (jA aUE aUD .ret .normal (λ_=>by kernel_rfl) (λ_=>by kernel_rfl) (λ_=>rfl) (λ_=>rfl) (by kernel_rfl)) (λx K=>by
  have q:=aUJ N K x;rw[aDQ N]at q;exact q)
def S6[aB](N:Nat)(_in0:Int->Int->Int->Int->(List Int)->(Int->Int->Bool->Int->(List Int)->O)->O)(in1:Int->Int->Int->(List Int)->(Int->O)->(Int->Int->(List Int)->O)->O)(s0_0:Int)(s0_1:(List Int)):O:=
 in1 0 ((↑s0_1.length:Int)) s0_0 s0_1
  (λz19=>
   some (mD z19))
  (λ_ z21 z22=>
   ck (C1 N z22)<|
   gc (!kZ N z22&&decide (z21=4)) 0 z22 0 λy23=>
   gc (!kZ N z22&&decide (z21=4)) 0 z22 1 λy24=>
   gc (!(kZ N z22||decide (z21=4)&&decide (y23<y24))&&decide (z21=6)) 0 z22 1 λy25=>
   br (kZ N z22||decide (z21=4)&&decide (y23<y24)||decide (z21=6)&&decide (y25=0))
    (some (mD 5))
    (some (mD 0)))
def w17[aB] N s0_0 s0_1:=S6 N (F8 N) (S2 N) s0_0 s0_1
def aDP[aB](N:Nat):Hint:=(.seq .d (.seq .d (.seq (.sub aUO _ _ _ MI MH (aN 2) (aP Ch MC (ME N N))) .d)))
theorem aUR N (hc:aK (lQ N)):bH (lQ N) Tryd.f17.ntmps (aDP N) MG:=bS _ _ (aF trivial (aF trivial (aF (aUY N hc) trivial)))
theorem aUL[aB] N s0_0 s0_1:S6 N (S1 N) (aDM N) s0_0 s0_1=exec (lQ N) Tryd.f17.ntmps (aDP N) MG ⟨cA 0 [.agg [.e (.i .i64) s0_0,.e (.sl (.i .i64)) s0_1]],[],100⟩ (cD (lQ N) Tryd.f17 false):=by kernel_rfl
def MB(r:aM):Option (Int):=match r with
 |(x0,[])=>(match ue (.i .i64) x0 with|some a0=>some a0|_=>none)
 |_=>none
theorem aUG{r d}(h:MB r=some d):r=mD (d):=by
 unfold MB at h;split at h
 .split at h
  .rename_i h0;cases h;rw[bG h0];rfl
  .cases h
 .cases h
def wC N s0_0 s0_1:=(w17 N s0_0 s0_1).bind MB
theorem aUS{N}(hc:aK (lQ N)){s0_0 s0_1 d}(hd:wC N s0_0 s0_1=some d):cI Tryd.prog 17 [.agg [.e (.i .i64) s0_0,.e (.sl (.i .i64)) s0_1]] [] (mD (d)):=
 cJ hc (by kernel_rfl) (by kernel_rfl) (aUR N hc) (by kernel_rfl) aUG (λhr=>(aUL N s0_0 s0_1).symm.trans (by rw[aDQ N,aUT N];exact hr)) hd
def F7 N s0_0 s0_1:=(wC N s0_0 s0_1).isSome
def Ah N s0_0 s0_1:=((wC N s0_0 s0_1).getD 0)
def S3(N:Nat):bR:=E1 (.pr (.i .i64) (.sl (.i .i64))) (λx0=>(F7 N x0.1 x0.2,mD (Ah N x0.1 x0.2)))
theorem aDN N:aX Tryd.prog 17 (S3 N):=aX.e1 (λx0 h=>cS (z:=wC N x0.1 x0.2) h (aUS (aUU N)) rfl)
def Ee(a0:Int):aM:=(.e (.i .i64) a0,[])
def nM(_:Nat):Cx:=⟨Tryd.prog,99999,[],[]⟩
def JN:Code:=Tryd.f58.body.getD .skip
theorem aMS N:aK (nM N):=cH (by kernel_rfl) .nil .nil
def JR[aB](_:Nat)(k0:(List Int)->Int->O)(x0_0:(List Int))(x0_1:Int):O:=
 br (decide ((↑x0_0.length:Int)<(1:Int)))
  (none)
  (k0 x0_0 x0_1)
def QS:Code:=cE [1,0] JN
def aMN:Nm:=⟨[0,2],[],[]⟩
def CG(x:(List Int)×Int):Sg:=⟨[(0,.e (.sl (.i .i64)) x.1),(2,.e (.i .i64) x.2)],[],100⟩
def JK(σ:Sg):(List Int)×Int:=(aC (.sl (.i .i64)) 0 0 σ,aC (.i .i64) 2 0 σ)
theorem aMH:∀x,JK (CG x)=x:=λ_=>by kernel_rfl
def JP(y:(List Int)×Int):Exit×Sg:=(.normal,⟨[(0,.e (.sl (.i .i64)) y.1),(2,.e (.i .i64) y.2)],[],100⟩)
def aME(_:Exit)(σ:Sg):(List Int)×Int:=(aC (.sl (.i .i64)) 0 0 σ,aC (.i .i64) 2 0 σ)
def aMC:List (Exit×Nm):=[(.normal,⟨[0,2],[],[]⟩)]
def JM[aB](N:Nat)(_:Nat)(x:(List Int)×Int)(k0:((List Int)×Int)->O)(_:(Unit)->O)(_:(Unit)->O):O:=JR N (λy0 y1=>k0 (y0,y1)) x.1 x.2
def QQ[aB] N a0 a1 (k0:(List Int)->Int->O):=JM N N (a0,a1) (λy=>k0 y.1 y.2) (λ_=>none) (λ_=>none)
def ZD[aB] N a0 a1 (k0:(List Int)->Int->O):=aP CG JK (JM N N) (CG (a0,a1)) (λy=>k0 y.1 y.2) (λ_=>none) (λ_=>none)
theorem aMR[aB] N:ZD N=QQ N:=funext λ_=>funext λ_=>funext λ_=>cL aMH _ _ _ _
theorem aMJ[aB](N:Nat)(K:Exit->Sg->O)(x:(List Int)×Int):JR N (λy0 y1=>K (JP (y0,y1)).1 (JP (y0,y1)).2) x.1 x.2=exec (nM N) Tryd.f58.ntmps .d QS (CG x) (kR aMC K):=by kernel_rfl
theorem aMX N (hc:aK (nM N)):cF (nM N) Tryd.f58.ntmps QS JP (aN 1) (aN 2) (aP CG JK (JM N N)):=
 mG hc (cX QS) (eC aME .normal (λ_=>by kernel_rfl) (λ_=>rfl) (by kernel_rfl)) (λx K=>by
  exact aMJ N K x)
def JQ[aB](_:Nat)(self:Int->Int->O)(k0:Int->Int->O)(x4_0:(List Int))(x4_1 x4_2 x4_3:Int):O:=
 br (decide (x4_3<(↑x4_0.length:Int)))
  (gx x4_0 x4_3 λy7=>
  self (max x4_2 y7) (aA.wrap (x4_3+1)))
  (k0 x4_1 x4_2)
def QR:Code:=cE [1,1,1,0,1,0,0] JN
def ZF:Nm:=⟨[0,2,3,4],[],[]⟩
def zG(x:(List Int)×Int×Int×Int):Sg:=⟨[(0,.e (.sl (.i .i64)) x.1),(2,.e (.i .i64) x.2.1),(3,.e (.i .i64) x.2.2.1),(4,.e (.i .i64) x.2.2.2)],[],100⟩
def JJ(σ:Sg):(List Int)×Int×Int×Int:=(aC (.sl (.i .i64)) 0 0 σ,aC (.i .i64) 2 0 σ,aC (.i .i64) 3 0 σ,aC (.i .i64) 4 0 σ)
theorem aMG:∀x,JJ (zG x)=x:=λ_=>by kernel_rfl
def JO(y:Int×Int):Exit×Sg:=((.exit 0),⟨[(2,.e (.i .i64) y.1),(3,.e (.i .i64) y.2)],[],100⟩)
def aMD(_:Exit)(σ:Sg):Int×Int:=(aC (.i .i64) 2 0 σ,aC (.i .i64) 3 0 σ)
def aMB:List (Exit×Nm):=[((.exit 0),⟨[2,3],[],[]⟩)]
def zF[aB](N:Nat):Nat->((List Int)×Int×Int×Int)->((Int×Int)->O)->((Unit)->O)->((Unit)->O)->O
 |0,_,_,_,_=>none
 |n+1,x,k0,k1,k2=>JQ N (λv0 v1=>zF N n (x.1,x.2.1,v0,v1) k0 k1 k2) (λy0 y1=>k0 (y0,y1)) x.1 x.2.1 x.2.2.1 x.2.2.2
def ZE[aB] N a0 a1 a2 a3 (k0:Int->Int->O):=zF N N (a0,a1,a2,a3) (λy=>k0 y.1 y.2) (λ_=>none) (λ_=>none)
def ZC[aB] N a0 a1 a2 a3 (k0:Int->Int->O):=aP zG JJ (zF N N) (zG (a0,a1,a2,a3)) (λy=>k0 y.1 y.2) (λ_=>none) (λ_=>none)
theorem aMQ[aB] N:ZC N=ZE N:=funext λ_=>funext λ_=>funext λ_=>funext λ_=>funext λ_=>cL aMG _ _ _ _
theorem aMI[aB](N:Nat)(self:Sg->O)(K:Exit->Sg->O)(x:(List Int)×Int×Int×Int):JQ N (λv0 v1=>self (zG (x.1,x.2.1,v0,v1))) (λy0 y1=>K (JO (y0,y1)).1 (JO (y0,y1)).2) x.1 x.2.1 x.2.2.1 x.2.2.2=exec (nM N) Tryd.f58.ntmps .d QR (zG x) (cZ ZF aMB self K):=by kernel_rfl
theorem aMW N (hc:aK (nM N)):cF (nM N) Tryd.f58.ntmps (.loop QR) JO (aN 1) (aN 2) (aP zG JJ (zF N N)):=
 dD hc (cX QR) (eC aMD (.exit 0) (λ_=>by kernel_rfl) (λ_=>rfl) (by kernel_rfl)) (n:=N) (λx K=>dE (zF N) (λ_ _ _ _=>rfl) (λn K ih x=>by
  refine dK ?_ (aMI N _ K x);simp only[<-ih];rfl) N x K)
def QT[aB](_:Nat)(in0:(List Int)->Int->((List Int)->Int->O)->O)(in1:(List Int)->Int->Int->Int->(Int->Int->O)->O)(x0:(List Int)):O:=
 in0 x0 0
  (λz1 z2=>
   gx z1 0 λy3=>
   in1 z1 z2 y3 1
    (λ_ z9=>
     some (Ee z9)))
def ZJ[aB] N x0:=QT N (QQ N) (ZE N) x0
def ZG[aB](N:Nat):Hint:=(.seq .d (.seq (.sub aMN _ _ _ JP (aN 1) (aN 2) (aP CG JK (JM N N))) (.seq .d (.seq (.seq .d (.block (.sub ZF _ _ _ JO (aN 1) (aN 2) (aP zG JJ (zF N N))))) .d))))
theorem aMO N (hc:aK (nM N)):bH (nM N) Tryd.f58.ntmps (ZG N) JN:=bS _ _ (aF trivial (aF (aMX N hc) (aF trivial (aF (aF trivial (aMW N hc)) trivial))))
theorem aMK[aB] N x0:QT N (ZD N) (ZC N) x0=exec (nM N) Tryd.f58.ntmps (ZG N) JN ⟨cA 0 [.e (.sl (.i .i64)) x0],[],100⟩ (cD (nM N) Tryd.f58 false):=by kernel_rfl
def JI(r:aM):Option (Int):=match r with
 |(x0,[])=>(match ue (.i .i64) x0 with|some a0=>some a0|_=>none)
 |_=>none
theorem aMF{r d}(h:JI r=some d):r=Ee (d):=by
 unfold JI at h;split at h
 .split at h
  .rename_i h0;cases h;rw[bG h0];rfl
  .cases h
 .cases h
def uW N x0:=(ZJ N x0).bind JI
theorem aMP{N}(hc:aK (nM N)){x0 d}(hd:uW N x0=some d):cI Tryd.prog 58 [.e (.sl (.i .i64)) x0] [] (Ee (d)):=
 cJ hc (by kernel_rfl) (by kernel_rfl) (aMO N hc) (by kernel_rfl) aMF (λhr=>(aMK N x0).symm.trans (by rw[aMR N,aMQ N];exact hr)) hd
def JL N x0:=(uW N x0).isSome
def Ed N x0:=((uW N x0).getD 0)
def ZH(N:Nat):bR:=E1 (.sl (.i .i64)) (λx0=>(JL N x0,Ee (Ed N x0)))
theorem aML N:aX Tryd.prog 58 (ZH N):=aX.e1 (λx0 h=>cS (z:=uW N x0) h (aMP (aMS N)) rfl)
def JS(a0:Int):aM:=(.e (.i .i64) a0,[])
def Eg(N:Nat):Cx:=⟨Tryd.prog,99999,[(67,Pa N)],[]⟩
def ZL:Code:=Tryd.f57.body.getD .skip
theorem aM2 N:aK (Eg N):=cH (by kernel_rfl) (.cons (by kernel_rfl) (YM N) .nil) .nil
def QV[aB](N:Nat)(n0:Int):O:=
 ck (CC N n0)<|
 some (JS ((↑(nI N n0).length:Int)))
def ZM[aB] N n0:=QV N n0
def ZK[aB](_:Nat):Hint:=.d
theorem aM0 N:bH (Eg N) Tryd.f57.ntmps (ZK N) ZL:=bS _ _ trivial
theorem aMZ[aB] N n0:QV N n0=exec (Eg N) Tryd.f57.ntmps (ZK N) ZL ⟨cA 0 [.e (.i .i64) n0],[],100⟩ (cD (Eg N) Tryd.f57 false):=by kernel_rfl
def QU(r:aM):Option (Int):=match r with
 |(x0,[])=>(match ue (.i .i64) x0 with|some a0=>some a0|_=>none)
 |_=>none
theorem aMY{r d}(h:QU r=some d):r=JS (d):=by
 unfold QU at h;split at h
 .split at h
  .rename_i h0;cases h;rw[bG h0];rfl
  .cases h
 .cases h
def uX N n0:=(ZM N n0).bind QU
theorem aM1{N}(hc:aK (Eg N)){n0 d}(hd:uX N n0=some d):cI Tryd.prog 57 [.e (.i .i64) n0] [] (JS (d)):=
 cJ hc (by kernel_rfl) (by kernel_rfl) (aM0 N) (by kernel_rfl) aMY (aMZ N n0).symm.trans hd
def nN N n0:=(uX N n0).isSome
def bO N n0:=((uX N n0).getD 0)
def Ef(N:Nat):bR:=E1 (.i .i64) (λx0=>(nN N x0,JS (bO N x0)))
theorem JT N:aX Tryd.prog 57 (Ef N):=aX.e1 (λx0 h=>cS (z:=uX N x0) h (aM1 (aM2 N)) rfl)
def FE(a0:(List Int)):aM:=(.e (.sl (.i .i64)) a0,[])
def lM(N:Nat):Cx:=⟨Tryd.prog,99999,[(58,ZH N),(57,Ef N)],[]⟩
def LN:Code:=Tryd.f36.body.getD .skip
theorem aRX N:aK (lM N):=cH (by kernel_rfl) (.cons (by kernel_rfl) (aML N) (.cons (by kernel_rfl) (JT N) .nil)) .nil
def qF[aB](_:Nat)(self:Int->Int->O)(k0:Int->Int->Int->Int->Bool->Int->Int->(List Int)->Int->Int->Bool->Int->(List Int)->(List Int)->O)(x54_0 x54_1:Int)(x54_2 x54_3:Int)(x54_4:Bool)(x54_5:Int)(x54_7:(List Int))(x54_8 x54_10:Int)(x54_11 x54_12:(List Int))(x54_6 x54_9:Int):O:=
 br (decide (x54_9<x54_8))
  (gx x54_7 x54_9 λy57=>
  ck (decide (x54_1≠0))<|
  ck true <|
  br (decide (x54_10=4)&&decide (x54_9=0))
   (self (aA.wrap (x54_6-(aA.wrap (y57.tdiv x54_1)).tmod (10:Int))) (aA.wrap (x54_9+1)))
   (self (aA.wrap (x54_6+(aA.wrap (y57.tdiv x54_1)).tmod (10:Int))) (aA.wrap (x54_9+1))))
  (k0 x54_0 x54_1 x54_2 x54_3 x54_4 x54_5 x54_6 x54_7 x54_8 x54_9 (decide (x54_9<x54_8)) x54_10 x54_11 x54_12)
def Rc:Code:=cE [1,1,1,0,1,0,0,1,1,0,0,1,0,1,0,0] LN
def aBi:Nm:=⟨[1,2,3,4,5,13,14,15,16,6,17,18,19,20],[],[]⟩
def A0(x:Int×Int×Int×Int×Bool×Int×Int×(List Int)×Int×Int×Int×(List Int)×(List Int)):Sg:=⟨[(1,.ref 0 0),(2,.bI),(3,.own 1),(4,.e (.i .i64) x.1),(5,.e (.i .i64) x.2.1),(13,.e (.i .i64) x.2.2.1),(14,.e (.i .i64) x.2.2.2.1),(15,.e .bo x.2.2.2.2.1),(16,.e (.i .i64) x.2.2.2.2.2.1),(6,.e (.i .i64) x.2.2.2.2.2.2.1),(17,.ref 0 1),(18,.e (.sl (.i .i64)) x.2.2.2.2.2.2.2.1),(19,.e (.i .i64) x.2.2.2.2.2.2.2.2.1),(20,.e (.i .i64) x.2.2.2.2.2.2.2.2.2.1)],[(0,.box 24 [.e (.i .i64) x.2.2.2.2.2.2.2.2.2.2.1,.e (.sl (.i .i64)) x.2.2.2.2.2.2.2.2.2.2.2.1]),(1,.row 3 (.i .i64) x.2.2.2.2.2.2.2.2.2.2.2.2 true)],100⟩
def LM(σ:Sg):Int×Int×Int×Int×Bool×Int×Int×(List Int)×Int×Int×Int×(List Int)×(List Int):=(aC (.i .i64) 4 0 σ,aC (.i .i64) 5 0 σ,aC (.i .i64) 13 0 σ,aC (.i .i64) 14 0 σ,aC .bo 15 0 σ,aC (.i .i64) 16 0 σ,aC (.i .i64) 6 0 σ,aC (.sl (.i .i64)) 18 0 σ,aC (.i .i64) 19 0 σ,aC (.i .i64) 20 0 σ,bP (.i .i64) 0 0 σ,bP (.sl (.i .i64)) 0 1 σ,c9 (.i .i64) 1 σ)
theorem aRP:∀x,LM (A0 x)=x:=λ_=>by kernel_rfl
def LP(y:Int×Int×Int×Int×Bool×Int×Int×(List Int)×Int×Int×Bool×Int×(List Int)×(List Int)):Exit×Sg:=((.exit 2),⟨[(1,.ref 0 0),(2,.bI),(3,.own 1),(4,.e (.i .i64) y.1),(5,.e (.i .i64) y.2.1),(13,.e (.i .i64) y.2.2.1),(14,.e (.i .i64) y.2.2.2.1),(15,.e .bo y.2.2.2.2.1),(16,.e (.i .i64) y.2.2.2.2.2.1),(6,.e (.i .i64) y.2.2.2.2.2.2.1),(17,.ref 0 1),(18,.e (.sl (.i .i64)) y.2.2.2.2.2.2.2.1),(19,.e (.i .i64) y.2.2.2.2.2.2.2.2.1),(20,.e (.i .i64) y.2.2.2.2.2.2.2.2.2.1),(21,.e .bo y.2.2.2.2.2.2.2.2.2.2.1)],[(0,.box 24 [.e (.i .i64) y.2.2.2.2.2.2.2.2.2.2.2.1,.e (.sl (.i .i64)) y.2.2.2.2.2.2.2.2.2.2.2.2.1]),(1,.row 3 (.i .i64) y.2.2.2.2.2.2.2.2.2.2.2.2.2 true)],100⟩)
def aRM(_:Exit)(σ:Sg):Int×Int×Int×Int×Bool×Int×Int×(List Int)×Int×Int×Bool×Int×(List Int)×(List Int):=(aC (.i .i64) 4 0 σ,aC (.i .i64) 5 0 σ,aC (.i .i64) 13 0 σ,aC (.i .i64) 14 0 σ,aC .bo 15 0 σ,aC (.i .i64) 16 0 σ,aC (.i .i64) 6 0 σ,aC (.sl (.i .i64)) 18 0 σ,aC (.i .i64) 19 0 σ,aC (.i .i64) 20 0 σ,aC .bo 21 0 σ,bP (.i .i64) 0 0 σ,bP (.sl (.i .i64)) 0 1 σ,c9 (.i .i64) 1 σ)
def aRK:List (Exit×Nm):=[((.exit 2),⟨[1,2,3,4,5,13,14,15,16,6,17,18,19,20,21],[],[]⟩)]
def vO[aB](N:Nat):Nat->(Int×Int×Int×Int×Bool×Int×Int×(List Int)×Int×Int×Int×(List Int)×(List Int))->((Int×Int×Int×Int×Bool×Int×Int×(List Int)×Int×Int×Bool×Int×(List Int)×(List Int))->O)->((Unit)->O)->((Unit)->O)->O
 |0,_,_,_,_=>none
 |n+1,x,k0,k1,k2=>qF N (λv0 v1=>vO N n (x.1,x.2.1,x.2.2.1,x.2.2.2.1,x.2.2.2.2.1,x.2.2.2.2.2.1,v0,x.2.2.2.2.2.2.2.1,x.2.2.2.2.2.2.2.2.1,v1,x.2.2.2.2.2.2.2.2.2.2.1,x.2.2.2.2.2.2.2.2.2.2.2.1,x.2.2.2.2.2.2.2.2.2.2.2.2) k0 k1 k2) (λy0 y1 y2 y3 y4 y5 y6 y7 y8 y9 y10 y11 y12 y13=>k0 (y0,y1,y2,y3,y4,y5,y6,y7,y8,y9,y10,y11,y12,y13)) x.1 x.2.1 x.2.2.1 x.2.2.2.1 x.2.2.2.2.1 x.2.2.2.2.2.1 x.2.2.2.2.2.2.2.1 x.2.2.2.2.2.2.2.2.1 x.2.2.2.2.2.2.2.2.2.2.1 x.2.2.2.2.2.2.2.2.2.2.2.1 x.2.2.2.2.2.2.2.2.2.2.2.2 x.2.2.2.2.2.2.1 x.2.2.2.2.2.2.2.2.2.1
def R9[aB] N a0 a1 a2 a3 a4 a5 a6 a7 a8 a9 a10 a11 a12 (k0:Int->Int->Int->Int->Bool->Int->Int->(List Int)->Int->Int->Bool->Int->(List Int)->(List Int)->O):=vO N N (a0,a1,a2,a3,a4,a5,a6,a7,a8,a9,a10,a11,a12) (λy=>k0 y.1 y.2.1 y.2.2.1 y.2.2.2.1 y.2.2.2.2.1 y.2.2.2.2.2.1 y.2.2.2.2.2.2.1 y.2.2.2.2.2.2.2.1 y.2.2.2.2.2.2.2.2.1 y.2.2.2.2.2.2.2.2.2.1 y.2.2.2.2.2.2.2.2.2.2.1 y.2.2.2.2.2.2.2.2.2.2.2.1 y.2.2.2.2.2.2.2.2.2.2.2.2.1 y.2.2.2.2.2.2.2.2.2.2.2.2.2) (λ_=>none) (λ_=>none)
def R8[aB] N a0 a1 a2 a3 a4 a5 a6 a7 a8 a9 a10 a11 a12 (k0:Int->Int->Int->Int->Bool->Int->Int->(List Int)->Int->Int->Bool->Int->(List Int)->(List Int)->O):=aP A0 LM (vO N N) (A0 (a0,a1,a2,a3,a4,a5,a6,a7,a8,a9,a10,a11,a12)) (λy=>k0 y.1 y.2.1 y.2.2.1 y.2.2.2.1 y.2.2.2.2.1 y.2.2.2.2.2.1 y.2.2.2.2.2.2.1 y.2.2.2.2.2.2.2.1 y.2.2.2.2.2.2.2.2.1 y.2.2.2.2.2.2.2.2.2.1 y.2.2.2.2.2.2.2.2.2.2.1 y.2.2.2.2.2.2.2.2.2.2.2.1 y.2.2.2.2.2.2.2.2.2.2.2.2.1 y.2.2.2.2.2.2.2.2.2.2.2.2.2) (λ_=>none) (λ_=>none)
theorem aBl[aB] N:R8 N=R9 N:=funext λ_=>funext λ_=>funext λ_=>funext λ_=>funext λ_=>funext λ_=>funext λ_=>funext λ_=>funext λ_=>funext λ_=>funext λ_=>funext λ_=>funext λ_=>funext λ_=>cL aRP _ _ _ _
theorem aRR[aB](N:Nat)(self:Sg->O)(K:Exit->Sg->O)(x:Int×Int×Int×Int×Bool×Int×Int×(List Int)×Int×Int×Int×(List Int)×(List Int)):qF N (λv0 v1=>self (A0 (x.1,x.2.1,x.2.2.1,x.2.2.2.1,x.2.2.2.2.1,x.2.2.2.2.2.1,v0,x.2.2.2.2.2.2.2.1,x.2.2.2.2.2.2.2.2.1,v1,x.2.2.2.2.2.2.2.2.2.2.1,x.2.2.2.2.2.2.2.2.2.2.2.1,x.2.2.2.2.2.2.2.2.2.2.2.2))) (λy0 y1 y2 y3 y4 y5 y6 y7 y8 y9 y10 y11 y12 y13=>K (LP (y0,y1,y2,y3,y4,y5,y6,y7,y8,y9,y10,y11,y12,y13)).1 (LP (y0,y1,y2,y3,y4,y5,y6,y7,y8,y9,y10,y11,y12,y13)).2) x.1 x.2.1 x.2.2.1 x.2.2.2.1 x.2.2.2.2.1 x.2.2.2.2.2.1 x.2.2.2.2.2.2.2.1 x.2.2.2.2.2.2.2.2.1 x.2.2.2.2.2.2.2.2.2.2.1 x.2.2.2.2.2.2.2.2.2.2.2.1 x.2.2.2.2.2.2.2.2.2.2.2.2 x.2.2.2.2.2.2.1 x.2.2.2.2.2.2.2.2.2.1=exec (lM N) Tryd.f36.ntmps .d Rc (A0 x) (cZ aBi aRK self K):=by kernel_rfl
theorem aR3 N (hc:aK (lM N)):cF (lM N) Tryd.f36.ntmps (.loop Rc) LP (aN 1) (aN 2) (aP A0 LM (vO N N)):=
 dD hc (cX Rc) (eC aRM (.exit 2) (λ_=>by kernel_rfl) (λ_=>rfl) (by kernel_rfl)) (n:=N) (λx K=>dE (vO N) (λ_ _ _ _=>rfl) (λn K ih x=>by
  refine dK ?_ (aRR N _ K x);simp only[<-ih];rfl) N x K)
def LQ[aB](_:Nat)(in0:Int->Int->Int->Int->Bool->Int->Int->(List Int)->Int->Int->Int->(List Int)->(List Int)->(Int->Int->Int->Int->Bool->Int->Int->(List Int)->Int->Int->Bool->Int->(List Int)->(List Int)->O)->O)(self:Int->Int->Int->Int->Int->(List Int)->(List Int)->O)(k0:(List Int)->O)(x0_0 x0_1:Int)(x0_2 x0_3 x0_4:Int)(x0_5 x0_6:(List Int)):O:=
 br (decide (x0_3<x0_2))
  (in0 x0_0 x0_1 x0_2 x0_3 (decide (x0_3<x0_2)) x0_0 x0_0 x0_5 ((↑x0_5.length:Int)) 0 x0_4 x0_5 x0_6
   (λ_ z59 z60 z61 _ _ z64 _ _ _ _ z69 z70 z71=>
    br (decide (z69=3))
     (ck true <|
     ck (b9 (z71++[aA.wrap (z64.tdiv (10:Int))]).length (8:Nat))<|
     self (aA.wrap (z64.tdiv (10:Int))) (aA.wrap (z59*10)) z60 (aA.wrap (z61+1)) z69 z70 (z71++[aA.wrap (z64.tdiv (10:Int))]))
     (ck (b9 (z71++[min (max z64 (0:Int)) (1:Int)]).length (8:Nat))<|
     self (min (max z64 (0:Int)) (1:Int)) (aA.wrap (z59*10)) z60 (aA.wrap (z61+1)) z69 z70 (z71++[min (max z64 (0:Int)) (1:Int)]))))
  (k0 x0_6)
def Rb:Code:=cE [1,1,1,0,1,0,0] LN
def aBh:Nm:=⟨[1,2,3,4,5,13,14],[],[.mL 3 (.row 3 (.i .i64) [] true)]⟩
def AZ(x:Int×Int×Int×Int×Int×(List Int)×(List Int)):Sg:=⟨[(1,.ref 0 0),(2,.bI),(3,.own 1),(4,.e (.i .i64) x.1),(5,.e (.i .i64) x.2.1),(13,.e (.i .i64) x.2.2.1),(14,.e (.i .i64) x.2.2.2.1)],[(0,.box 24 [.e (.i .i64) x.2.2.2.2.1,.e (.sl (.i .i64)) x.2.2.2.2.2.1]),(1,.row 3 (.i .i64) x.2.2.2.2.2.2 true)],100⟩
def LL(σ:Sg):Int×Int×Int×Int×Int×(List Int)×(List Int):=(aC (.i .i64) 4 0 σ,aC (.i .i64) 5 0 σ,aC (.i .i64) 13 0 σ,aC (.i .i64) 14 0 σ,bP (.i .i64) 0 0 σ,bP (.sl (.i .i64)) 0 1 σ,c9 (.i .i64) 1 σ)
theorem aRO:∀x,LL (AZ x)=x:=λ_=>by kernel_rfl
def LO(y:(List Int)):Exit×Sg:=((.exit 0),⟨[(2,.bI),(3,.own 0)],[(0,.row 3 (.i .i64) y true)],100⟩)
def aRL(_:Exit)(σ:Sg):(List Int):=c9 (.i .i64) 0 σ
def aRJ:List (Exit×Nm):=[((.exit 0),⟨[2,3],[],[]⟩)]
def AY[aB](N:Nat):Nat->(Int×Int×Int×Int×Int×(List Int)×(List Int))->(((List Int))->O)->((Unit)->O)->((Unit)->O)->O
 |0,_,_,_,_=>none
 |n+1,x,k0,k1,k2=>LQ N (R9 N) (λv0 v1 v2 v3 v4 v5 v6=>AY N n (v0,v1,v2,v3,v4,v5,v6) k0 k1 k2) (λy0=>k0 y0) x.1 x.2.1 x.2.2.1 x.2.2.2.1 x.2.2.2.2.1 x.2.2.2.2.2.1 x.2.2.2.2.2.2
def aBg[aB] N a0 a1 a2 a3 a4 a5 a6 (k0:(List Int)->O):=AY N N (a0,a1,a2,a3,a4,a5,a6) (λy=>k0 y) (λ_=>none) (λ_=>none)
def aBe[aB] N a0 a1 a2 a3 a4 a5 a6 (k0:(List Int)->O):=aP AZ LL (AY N N) (AZ (a0,a1,a2,a3,a4,a5,a6)) (λy=>k0 y) (λ_=>none) (λ_=>none)
theorem aRW[aB] N:aBe N=aBg N:=funext λ_=>funext λ_=>funext λ_=>funext λ_=>funext λ_=>funext λ_=>funext λ_=>funext λ_=>cL aRO _ _ _ _
def aBj[aB](N:Nat):Hint:=(.seq .d (.seq .d (.seq (.block (.seq .d (.seq (.seq .d (.block (.sub aBi _ _ _ LP (aN 1) (aN 2) (aP A0 LM (vO N N))))) .d))) .d)))
theorem aRT N (hc:aK (lM N)):bH (lM N) Tryd.f36.ntmps (aBj N) Rb:=bS _ _ (aF trivial (aF trivial (aF (aF trivial (aF (aF trivial (aR3 N hc)) trivial)) trivial)))
theorem aRQ[aB](N:Nat)(self:Sg->O)(K:Exit->Sg->O)(x:Int×Int×Int×Int×Int×(List Int)×(List Int)):LQ N (R8 N) (λv0 v1 v2 v3 v4 v5 v6=>self (AZ (v0,v1,v2,v3,v4,v5,v6))) (λy0=>K (LO y0).1 (LO y0).2) x.1 x.2.1 x.2.2.1 x.2.2.2.1 x.2.2.2.2.1 x.2.2.2.2.2.1 x.2.2.2.2.2.2=exec (lM N) Tryd.f36.ntmps (aBj N) Rb (AZ x) (cZ aBh aRJ self K):=by kernel_rfl
theorem aR2 N (hc:aK (lM N)):cF (lM N) Tryd.f36.ntmps (.loop Rb) LO (aN 1) (aN 2) (aP AZ LL (AY N N)):=
 dD hc (aRT N hc) (eC aRL (.exit 0) (λ_=>by kernel_rfl) (λ_=>rfl) (by kernel_rfl)) (n:=N) (λx K=>dE (AY N) (λ_ _ _ _=>rfl) (λn K ih x=>by
  refine dK ?_ (aRQ N _ K x);simp only[aBl N,<-ih];rfl) N x K)
def Re[aB](N:Nat)(_in0:Int->Int->Int->Int->Bool->Int->Int->(List Int)->Int->Int->Int->(List Int)->(List Int)->(Int->Int->Int->Int->Bool->Int->Int->(List Int)->Int->Int->Bool->Int->(List Int)->(List Int)->O)->O)(in1:Int->Int->Int->Int->Int->(List Int)->(List Int)->((List Int)->O)->O)(s0_0:Int)(s0_1:(List Int)):O:=
 ck (JL N s0_1)<|
 ck (nN N (Ed N s0_1))<|
 in1 0 1 (bO N (Ed N s0_1)) 0 s0_0 s0_1 []
  (λz72=>
   some (FE z72))
def w36[aB] N s0_0 s0_1:=Re N (R9 N) (aBg N) s0_0 s0_1
def aBk[aB](N:Nat):Hint:=(.seq .d (.seq .d (.seq .d (.seq (.seq .d (.block (.sub aBh _ _ _ LO (aN 1) (aN 2) (aP AZ LL (AY N N))))) .d))))
theorem aRU N (hc:aK (lM N)):bH (lM N) Tryd.f36.ntmps (aBk N) LN:=bS _ _ (aF trivial (aF trivial (aF trivial (aF (aF trivial (aR2 N hc)) trivial))))
theorem aRS[aB] N s0_0 s0_1:Re N (R8 N) (aBe N) s0_0 s0_1=exec (lM N) Tryd.f36.ntmps (aBk N) LN ⟨cA 0 [.agg [.e (.i .i64) s0_0,.e (.sl (.i .i64)) s0_1]],[],100⟩ (cD (lM N) Tryd.f36 false):=by kernel_rfl
def LK(r:aM):Option ((List Int)):=match r with
 |(x0,[])=>(match ue (.sl (.i .i64)) x0 with|some a0=>some a0|_=>none)
 |_=>none
theorem aRN{r d}(h:LK r=some d):r=FE (d):=by
 unfold LK at h;split at h
 .split at h
  .rename_i h0;cases h;rw[bG h0];rfl
  .cases h
 .cases h
def vM N s0_0 s0_1:=(w36 N s0_0 s0_1).bind LK
theorem aRV{N}(hc:aK (lM N)){s0_0 s0_1 d}(hd:vM N s0_0 s0_1=some d):cI Tryd.prog 36 [.agg [.e (.i .i64) s0_0,.e (.sl (.i .i64)) s0_1]] [] (FE (d)):=
 cJ hc (by kernel_rfl) (by kernel_rfl) (aRU N hc) (by kernel_rfl) aRN (λhr=>(aRS N s0_0 s0_1).symm.trans (by rw[aBl N,aRW N];exact hr)) hd
def C4 N s0_0 s0_1:=(vM N s0_0 s0_1).isSome
def vN N s0_0 s0_1:=((vM N s0_0 s0_1).getD [])
def Ra(N:Nat):bR:=E1 (.pr (.i .i64) (.sl (.i .i64))) (λx0=>(C4 N x0.1 x0.2,FE (vN N x0.1 x0.2)))
theorem aBf N:aX Tryd.prog 36 (Ra N):=aX.e1 (λx0 h=>cS (z:=vM N x0.1 x0.2) h (aRV (aRX N)) rfl)
def Cj(a0:(List Int))(a1:Int):aM:=(.aU [.e (.sl (.i .i64)) a0,.e (.i .i64) a1],[])
def Fa(N:Nat):Cx:=⟨Tryd.prog,99999,[(17,S3 N),(36,Ra N)],[]⟩
def aDV:Code:=Tryd.f15.body.getD .skip
theorem aU5 N:aK (Fa N):=cH (by kernel_rfl) (.cons (by kernel_rfl) (aDN N) (.cons (by kernel_rfl) (aBf N) .nil)) .nil
def aDW[aB](N:Nat)(s0_0:Int)(s0_1:(List Int)):O:=
 ck (F7 N s0_0 s0_1)<|
 br (decide (Ah N s0_0 s0_1≠(0:Int)))
  (some (Cj [] (Ah N s0_0 s0_1)))
  (br (decide (s0_0≠3)&&decide (s0_0≠4))
   (some (Cj [] 1))
   (ck (C4 N s0_0 s0_1)<|
   some (Cj (vN N s0_0 s0_1) 0)))
def w15[aB] N s0_0 s0_1:=aDW N s0_0 s0_1
def aDT[aB](_:Nat):Hint:=.d
theorem aU3 N:bH (Fa N) Tryd.f15.ntmps (aDT N) aDV:=bS _ _ trivial
theorem aU1[aB] N s0_0 s0_1:aDW N s0_0 s0_1=exec (Fa N) Tryd.f15.ntmps (aDT N) aDV ⟨cA 0 [.agg [.e (.i .i64) s0_0,.e (.sl (.i .i64)) s0_1]],[],100⟩ (cD (Fa N) Tryd.f15 false):=by kernel_rfl
def S7(r:aM):Option ((List Int)×Int):=match r with
 |(.aU [x0,x1],[])=>(match ue (.sl (.i .i64)) x0,ue (.i .i64) x1 with|some a0,some a1=>some (a0,a1)|_,_=>none)
 |_=>none
theorem aU0{r d}(h:S7 r=some d):r=Cj d.1 d.2:=by
 unfold S7 at h;split at h
 .split at h
  .rename_i h0 h1;cases h;rw[bG h0,bG h1];rfl
  .cases h
 .cases h
def F9 N s0_0 s0_1:=(w15 N s0_0 s0_1).bind S7
theorem aU4{N}(hc:aK (Fa N)){s0_0 s0_1 d}(hd:F9 N s0_0 s0_1=some d):cI Tryd.prog 15 [.agg [.e (.i .i64) s0_0,.e (.sl (.i .i64)) s0_1]] [] (Cj d.1 d.2):=
 cJ hc (by kernel_rfl) (by kernel_rfl) (aU3 N) (by kernel_rfl) aU0 (aU1 N s0_0 s0_1).symm.trans hd
def S8 N s0_0 s0_1:=(F9 N s0_0 s0_1).isSome
def Ai N s0_0 s0_1:=((F9 N s0_0 s0_1).getD ([],0)).1
def oO N s0_0 s0_1:=((F9 N s0_0 s0_1).getD ([],0)).2
def aDU(N:Nat):bR:=E1 (.pr (.i .i64) (.sl (.i .i64))) (λx0=>(S8 N x0.1 x0.2,Cj (Ai N x0.1 x0.2) (oO N x0.1 x0.2)))
theorem aU2 N:aX Tryd.prog 15 (aDU N):=aX.e1 (λx0 h=>cS (z:=F9 N x0.1 x0.2) h (aU4 (aU5 N)) rfl)
def nL(a0:bQ):aM:=(.e .tx a0,[])
def aMA(N:(Nat×(Int->Option (bQ)))):List (Nat×bR):=[(59,E1 (.i .i64) (λx0=>((N.2 x0).isSome,nL (((N.2 x0).getD [])))))]
def Ec(N:(Nat×(Int->Option (bQ)))):Cx:=⟨Tryd.prog,99999,aMA N,[]⟩
def Yy:Code:=Tryd.f59.body.getD .skip
theorem aLz(N:(Nat×(Int->Option (bQ))))(hs:aX Tryd.prog 59 (E1 (.i .i64) (λx0=>((N.2 x0).isSome,nL (((N.2 x0).getD [])))))):aK (Ec N):=cH (by kernel_rfl) (.cons (by kernel_rfl) hs .nil) .nil
def QP[aB](N:(Nat×(Int->Option (bQ))))(n0:Int):O:=
 br (decide (n0<10))
  (some (nL [gH (aA.wrap ((48:Int)+n0))]))
  (ck true <|
  ck ((N.2 (aA.wrap (n0.tdiv (10:Int)))).isSome)<|
  ck true <|
  ck (decide ((↑((N.2 (aA.wrap (n0.tdiv (10:Int)))).getD []).length:Int)+(↑[gH (aA.wrap ((48:Int)+n0.tmod (10:Int)))].length:Int)<=(9223372036854775807:Int)))<|
  some (nL ((N.2 (aA.wrap (n0.tdiv (10:Int)))).getD []++[gH (aA.wrap ((48:Int)+n0.tmod (10:Int)))])))
def ZB[aB] N n0:=QP N n0
def Yx[aB](_:(Nat×(Int->Option (bQ)))):Hint:=.d
theorem aLx(N:(Nat×(Int->Option (bQ)))):bH (Ec N) Tryd.f59.ntmps (Yx N) Yy:=bS _ _ trivial
theorem aLw[aB] N n0:QP N n0=exec (Ec N) Tryd.f59.ntmps (Yx N) Yy ⟨cA 0 [.e (.i .i64) n0],[],100⟩ (cD (Ec N) Tryd.f59 false):=by kernel_rfl
def QN(r:aM):Option (bQ):=match r with
 |(x0,[])=>(match ue .tx x0 with|some a0=>some a0|_=>none)
 |_=>none
theorem aLv{r d}(h:QN r=some d):r=nL (d):=by
 unfold QN at h;split at h
 .split at h
  .rename_i h0;cases h;rw[bG h0];rfl
  .cases h
 .cases h
def JG N n0:=(ZB N n0).bind QN
theorem aLy{N}(hc:aK (Ec N)){n0 d}(hd:JG N n0=some d):cI Tryd.prog 59 [.e (.i .i64) n0] [] (nL (d)):=
 cJ hc (by kernel_rfl) (by kernel_rfl) (aLx N) (by kernel_rfl) aLv (aLw N n0).symm.trans hd
def lJ(N:Nat):Nat->Int->Option (bQ)
 |0,_=>none
 |n+1,n0=>JG (N,lJ N n) n0
theorem Yz(N:Nat):∀n,aX Tryd.prog 59 (E1 (.i .i64) (λx0=>((lJ N n x0).isSome,nL (((lJ N n x0).getD [])))))
 |0=>aX.e1 (λ_ h=>by cases h)
 |n+1=>aX.e1 (λx0 h=>by
   obtain⟨d,hd⟩:=BU.1 h;have hd':lJ N (n+1) x0=some d:=hd;have e:nL (((lJ N (n+1) x0).getD []))=nL (d):=by rw[hd'];rfl
   show dO _ _ _ _ (nL (((lJ N (n+1) x0).getD []))).1.D (HA (nL (((lJ N (n+1) x0).getD []))).2);rw[e];exact aLy (N:=(N,lJ N n)) (aLz (N,lJ N n) (Yz N n)) hd')
def iB N n0:=(lJ N N n0).isSome
def cV N n0:=((lJ N N n0).getD [])
def JH(N:Nat):bR:=E1 (.i .i64) (λx0=>(iB N x0,nL (cV N x0)))
theorem QO N:aX Tryd.prog 59 (JH N):=Yz N N
def Eb(a0:Int):aM:=(.e (.i .i64) a0,[])
def sD(_:Nat):Cx:=⟨Tryd.prog,99999,[],[]⟩
def QL:Code:=Tryd.f60.body.getD .skip
theorem aLt N:aK (sD N):=cH (by kernel_rfl) .nil .nil
def JF[aB](_:Nat)(self:Int->Int->O)(k0:Int->Int->O)(x0_1 x0_2:Int)(x0_0 x0_3:Int):O:=
 br (decide (x0_3<x0_1))
  (ck true <|
  self (aA.wrap (x0_0.tdiv (10:Int))) (aA.wrap (x0_3+1)))
  (k0 x0_0 x0_2)
def QK:Code:=cE [1,0,1,0,0] QL
def Yt:Nm:=⟨[0,1,4,5],[],[]⟩
def zE(x:Int×Int×Int×Int):Sg:=⟨[(0,.e (.i .i64) x.1),(1,.e (.i .i64) x.2.1),(4,.e (.i .i64) x.2.2.1),(5,.e (.i .i64) x.2.2.2)],[],100⟩
def JC(σ:Sg):Int×Int×Int×Int:=(aC (.i .i64) 0 0 σ,aC (.i .i64) 1 0 σ,aC (.i .i64) 4 0 σ,aC (.i .i64) 5 0 σ)
theorem aLn:∀x,JC (zE x)=x:=λ_=>by kernel_rfl
def JE(y:Int×Int):Exit×Sg:=((.exit 0),⟨[(0,.e (.i .i64) y.1),(4,.e (.i .i64) y.2)],[],100⟩)
def aLl(_:Exit)(σ:Sg):Int×Int:=(aC (.i .i64) 0 0 σ,aC (.i .i64) 4 0 σ)
def aLk:List (Exit×Nm):=[((.exit 0),⟨[0,4],[],[]⟩)]
def zD[aB](N:Nat):Nat->(Int×Int×Int×Int)->((Int×Int)->O)->((Unit)->O)->((Unit)->O)->O
 |0,_,_,_,_=>none
 |n+1,x,k0,k1,k2=>JF N (λv0 v1=>zD N n (v0,x.2.1,x.2.2.1,v1) k0 k1 k2) (λy0 y1=>k0 (y0,y1)) x.2.1 x.2.2.1 x.1 x.2.2.2
def Ys[aB] N a0 a1 a2 a3 (k0:Int->Int->O):=zD N N (a0,a1,a2,a3) (λy=>k0 y.1 y.2) (λ_=>none) (λ_=>none)
def Yr[aB] N a0 a1 a2 a3 (k0:Int->Int->O):=aP zE JC (zD N N) (zE (a0,a1,a2,a3)) (λy=>k0 y.1 y.2) (λ_=>none) (λ_=>none)
theorem aLs[aB] N:Yr N=Ys N:=funext λ_=>funext λ_=>funext λ_=>funext λ_=>funext λ_=>cL aLn _ _ _ _
theorem aLo[aB](N:Nat)(self:Sg->O)(K:Exit->Sg->O)(x:Int×Int×Int×Int):JF N (λv0 v1=>self (zE (v0,x.2.1,x.2.2.1,v1))) (λy0 y1=>K (JE (y0,y1)).1 (JE (y0,y1)).2) x.2.1 x.2.2.1 x.1 x.2.2.2=exec (sD N) Tryd.f60.ntmps .d QK (zE x) (cZ Yt aLk self K):=by kernel_rfl
theorem aLu N (hc:aK (sD N)):cF (sD N) Tryd.f60.ntmps (.loop QK) JE (aN 1) (aN 2) (aP zE JC (zD N N)):=
 dD hc (cX QK) (eC aLl (.exit 0) (λ_=>by kernel_rfl) (λ_=>rfl) (by kernel_rfl)) (n:=N) (λx K=>dE (zD N) (λ_ _ _ _=>rfl) (λn K ih x=>by
  refine dK ?_ (aLo N _ K x);simp only[<-ih];rfl) N x K)
def QM[aB](_:Nat)(in0:Int->Int->Int->Int->(Int->Int->O)->O)(n0 column1:Int):O:=
 in0 n0 column1 0 0
  (λz1 _=>
   ck true <|
   some (Eb (z1.tmod (10:Int))))
def Yw[aB] N n0 column1:=QM N (Ys N) n0 column1
def Yu[aB](N:Nat):Hint:=(.seq .d (.seq (.seq .d (.block (.sub Yt _ _ _ JE (aN 1) (aN 2) (aP zE JC (zD N N))))) .d))
theorem aLq N (hc:aK (sD N)):bH (sD N) Tryd.f60.ntmps (Yu N) QL:=bS _ _ (aF trivial (aF (aF trivial (aLu N hc)) trivial))
theorem aLp[aB] N n0 column1:QM N (Yr N) n0 column1=exec (sD N) Tryd.f60.ntmps (Yu N) QL ⟨cA 0 [.e (.i .i64) n0,.e (.i .i64) column1],[],100⟩ (cD (sD N) Tryd.f60 false):=by kernel_rfl
def JB(r:aM):Option (Int):=match r with
 |(x0,[])=>(match ue (.i .i64) x0 with|some a0=>some a0|_=>none)
 |_=>none
theorem aLm{r d}(h:JB r=some d):r=Eb (d):=by
 unfold JB at h;split at h
 .split at h
  .rename_i h0;cases h;rw[bG h0];rfl
  .cases h
 .cases h
def uS N n0 column1:=(Yw N n0 column1).bind JB
theorem aLr{N}(hc:aK (sD N)){n0 column1 d}(hd:uS N n0 column1=some d):cI Tryd.prog 60 [.e (.i .i64) n0,.e (.i .i64) column1] [] (Eb (d)):=
 cJ hc (by kernel_rfl) (by kernel_rfl) (aLq N hc) (by kernel_rfl) aLm (λhr=>(aLp N n0 column1).symm.trans (by rw[aLs N];exact hr)) hd
def oM N n0 column1:=(uS N n0 column1).isSome
def dP N n0 column1:=((uS N n0 column1).getD 0)
def JD(N:Nat):bR:=E2 (.i .i64) (.i .i64) (λx0 x1=>(oM N x0 x1,Eb (dP N x0 x1)))
theorem QJ N:aX Tryd.prog 60 (JD N):=aX.e2 (λx0 x1 h=>cS (z:=uS N x0 x1) h (aLr (aLt N)) rfl)
def k5(a0:Int):aM:=(.e (.i .i64) a0,[])
def aRI(N:(Nat×(Int->(List Int)->Int->Option (Int)))):List (Nat×bR):=[(38,E2 (.pr (.i .i64) (.sl (.i .i64))) (.i .i64) (λx0 x1=>((N.2 x0.1 x0.2 x1).isSome,k5 (((N.2 x0.1 x0.2 x1).getD 0))))),(60,JD N.1)]
def qE(N:(Nat×(Int->(List Int)->Int->Option (Int)))):Cx:=⟨Tryd.prog,99999,aRI N,[]⟩
def R6:Code:=Tryd.f38.body.getD .skip
theorem aRF(N:(Nat×(Int->(List Int)->Int->Option (Int))))(hs:aX Tryd.prog 38 (E2 (.pr (.i .i64) (.sl (.i .i64))) (.i .i64) (λx0 x1=>((N.2 x0.1 x0.2 x1).isSome,k5 (((N.2 x0.1 x0.2 x1).getD 0)))))):aK (qE N):=cH (by kernel_rfl) (.cons (by kernel_rfl) hs (.cons (by kernel_rfl) (QJ N.1) .nil)) .nil
def LJ[aB](N:(Nat×(Int->(List Int)->Int->Option (Int))))(self:Int->Int->O)(k0:Int->Int->O)(x2_0 x2_1 _x2_4:Int)(x2_5:(List Int))(x2_2 x2_3:Int):O:=
 br (decide (x2_3<(↑x2_5.length:Int)))
  (gx x2_5 x2_3 λy5=>
  ck (oM N.1 y5 x2_0)<|
  self (aA.wrap (x2_2+dP N.1 y5 x2_0)) (aA.wrap (x2_3+1)))
  (k0 x2_1 x2_2)
def R5:Code:=cE [1,1,1,1,1,0,1,0,0] R6
def aB7:Nm:=⟨[1,2,4,6,7],[],[]⟩
def AX(x:Int×Int×Int×Int×Int×(List Int)):Sg:=⟨[(1,.e (.i .i64) x.1),(2,.ref 0 0),(4,.e (.i .i64) x.2.1),(6,.e (.i .i64) x.2.2.1),(7,.e (.i .i64) x.2.2.2.1)],[(0,.box 24 [.e (.i .i64) x.2.2.2.2.1,.e (.sl (.i .i64)) x.2.2.2.2.2])],100⟩
def LF(σ:Sg):Int×Int×Int×Int×Int×(List Int):=(aC (.i .i64) 1 0 σ,aC (.i .i64) 4 0 σ,aC (.i .i64) 6 0 σ,aC (.i .i64) 7 0 σ,bP (.i .i64) 0 0 σ,bP (.sl (.i .i64)) 0 1 σ)
theorem aQx:∀x,LF (AX x)=x:=λ_=>by kernel_rfl
def LH(y:Int×Int):Exit×Sg:=((.exit 0),⟨[(4,.e (.i .i64) y.1),(6,.e (.i .i64) y.2)],[],100⟩)
def aQv(_:Exit)(σ:Sg):Int×Int:=(aC (.i .i64) 4 0 σ,aC (.i .i64) 6 0 σ)
def aQu:List (Exit×Nm):=[((.exit 0),⟨[4,6],[],[]⟩)]
def AW[aB](N:(Nat×(Int->(List Int)->Int->Option (Int)))):Nat->(Int×Int×Int×Int×Int×(List Int))->((Int×Int)->O)->((Unit)->O)->((Unit)->O)->O
 |0,_,_,_,_=>none
 |n+1,x,k0,k1,k2=>LJ N (λv0 v1=>AW N n (x.1,x.2.1,v0,v1,x.2.2.2.2.1,x.2.2.2.2.2) k0 k1 k2) (λy0 y1=>k0 (y0,y1)) x.1 x.2.1 x.2.2.2.2.1 x.2.2.2.2.2 x.2.2.1 x.2.2.2.1
def aB6[aB] N a0 a1 a2 a3 a4 a5 (k0:Int->Int->O):=AW N N.1 (a0,a1,a2,a3,a4,a5) (λy=>k0 y.1 y.2) (λ_=>none) (λ_=>none)
def aB5[aB] N a0 a1 a2 a3 a4 a5 (k0:Int->Int->O):=aP AX LF (AW N N.1) (AX (a0,a1,a2,a3,a4,a5)) (λy=>k0 y.1 y.2) (λ_=>none) (λ_=>none)
theorem aRE[aB](N:(Nat×(Int->(List Int)->Int->Option (Int)))):aB5 N=aB6 N:=funext λ_=>funext λ_=>funext λ_=>funext λ_=>funext λ_=>funext λ_=>funext λ_=>cL aQx _ _ _ _
def aB8[aB](_:(Nat×(Int->(List Int)->Int->Option (Int)))):Hint:=.d
theorem aRB(N:(Nat×(Int->(List Int)->Int->Option (Int)))):bH (qE N) Tryd.f38.ntmps (aB8 N) R5:=bS _ _ trivial
theorem aQy[aB](N:(Nat×(Int->(List Int)->Int->Option (Int))))(self:Sg->O)(K:Exit->Sg->O)(x:Int×Int×Int×Int×Int×(List Int)):LJ N (λv0 v1=>self (AX (x.1,x.2.1,v0,v1,x.2.2.2.2.1,x.2.2.2.2.2))) (λy0 y1=>K (LH (y0,y1)).1 (LH (y0,y1)).2) x.1 x.2.1 x.2.2.2.2.1 x.2.2.2.2.2 x.2.2.1 x.2.2.2.1=exec (qE N) Tryd.f38.ntmps (aB8 N) R5 (AX x) (cZ aB7 aQu self K):=by kernel_rfl
theorem aRH(N:(Nat×(Int->(List Int)->Int->Option (Int))))(hc:aK (qE N)):cF (qE N) Tryd.f38.ntmps (.loop R5) LH (aN 1) (aN 2) (aP AX LF (AW N N.1)):=
 dD hc (aRB N) (eC aQv (.exit 0) (λ_=>by kernel_rfl) (λ_=>rfl) (by kernel_rfl)) (n:=N.1) (λx K=>dE (AW N) (λ_ _ _ _=>rfl) (λn K ih x=>by
  refine dK ?_ (aQy N _ K x);simp only[<-ih];rfl) N.1 x K)
def LI[aB](N:(Nat×(Int->(List Int)->Int->Option (Int))))(in0:Int->Int->Int->Int->Int->(List Int)->(Int->Int->O)->O)(s0_0:Int)(s0_1:(List Int))(column1:Int):O:=
 br (decide (column1<0))
  (some (k5 0))
  (ck ((N.2 s0_0 s0_1 (aA.wrap (column1-1))).isSome)<|
  br (decide (s0_0=4))
   (gx s0_1 0 λy0=>
   ck (oM N.1 y0 column1)<|
   gx s0_1 1 λy1=>
   ck (oM N.1 y1 column1)<|
   br (decide (dP N.1 y0 column1<aA.wrap (dP N.1 y1 column1+(N.2 s0_0 s0_1 (aA.wrap (column1-1))).getD (0:Int))))
    (some (k5 1))
    (some (k5 0)))
   (in0 column1 0 ((N.2 s0_0 s0_1 (aA.wrap (column1-1))).getD (0:Int)) 0 s0_0 s0_1
    (λ_ z7=>
     ck true <|
     some (k5 (aA.wrap (z7.tdiv (10:Int)))))))
def R7[aB] N s0_0 s0_1 column1:=LI N (aB6 N) s0_0 s0_1 column1
def aB9[aB](N:(Nat×(Int->(List Int)->Int->Option (Int)))):Hint:=(.seq .d (.seq .d (.seq .d (.seq .d (.seq .d (.seq (.seq .d (.block (.sub aB7 _ _ _ LH (aN 1) (aN 2) (aP AX LF (AW N N.1))))) .d))))))
theorem aRC(N:(Nat×(Int->(List Int)->Int->Option (Int))))(hc:aK (qE N)):bH (qE N) Tryd.f38.ntmps (aB9 N) R6:=bS _ _ (aF trivial (aF trivial (aF trivial (aF trivial (aF trivial (aF (aF trivial (aRH N hc)) trivial))))))
theorem aQz[aB] N s0_0 s0_1 column1:LI N (aB5 N) s0_0 s0_1 column1=exec (qE N) Tryd.f38.ntmps (aB9 N) R6 ⟨cA 0 [.agg [.e (.i .i64) s0_0,.e (.sl (.i .i64)) s0_1],.e (.i .i64) column1],[],100⟩ (cD (qE N) Tryd.f38 false):=by kernel_rfl
def LD(r:aM):Option (Int):=match r with
 |(x0,[])=>(match ue (.i .i64) x0 with|some a0=>some a0|_=>none)
 |_=>none
theorem aQw{r d}(h:LD r=some d):r=k5 (d):=by
 unfold LD at h;split at h
 .split at h
  .rename_i h0;cases h;rw[bG h0];rfl
  .cases h
 .cases h
def C2 N s0_0 s0_1 column1:=(R7 N s0_0 s0_1 column1).bind LD
theorem aRD{N}(hc:aK (qE N)){s0_0 s0_1 column1 d}(hd:C2 N s0_0 s0_1 column1=some d):cI Tryd.prog 38 [.agg [.e (.i .i64) s0_0,.e (.sl (.i .i64)) s0_1],.e (.i .i64) column1] [] (k5 (d)):=
 cJ hc (by kernel_rfl) (by kernel_rfl) (aRC N hc) (by kernel_rfl) aQw (λhr=>(aQz N s0_0 s0_1 column1).symm.trans (by rw[aRE N];exact hr)) hd
def k6(N:Nat):Nat->Int->(List Int)->Int->Option (Int)
 |0,_,_,_=>none
 |n+1,s0_0,s0_1,column1=>C2 (N,k6 N n) s0_0 s0_1 column1
theorem aBc(N:Nat):∀n,aX Tryd.prog 38 (E2 (.pr (.i .i64) (.sl (.i .i64))) (.i .i64) (λx0 x1=>((k6 N n x0.1 x0.2 x1).isSome,k5 (((k6 N n x0.1 x0.2 x1).getD 0)))))
 |0=>aX.e2 (λ_ _ h=>by cases h)
 |n+1=>aX.e2 (λx0 x1 h=>by
   obtain⟨d,hd⟩:=BU.1 h;have hd':k6 N (n+1) x0.1 x0.2 x1=some d:=hd;have e:k5 (((k6 N (n+1) x0.1 x0.2 x1).getD 0))=k5 (d):=by rw[hd'];rfl
   show dO _ _ _ _ (k5 (((k6 N (n+1) x0.1 x0.2 x1).getD 0))).1.D (HA (k5 (((k6 N (n+1) x0.1 x0.2 x1).getD 0))).2);rw[e];exact aRD (N:=(N,k6 N n)) (aRF (N,k6 N n) (aBc N n)) hd')
def LG N s0_0 s0_1 column1:=(k6 N N s0_0 s0_1 column1).isSome
def C3 N s0_0 s0_1 column1:=((k6 N N s0_0 s0_1 column1).getD 0)
def aBa(N:Nat):bR:=E2 (.pr (.i .i64) (.sl (.i .i64))) (.i .i64) (λx0 x1=>(LG N x0.1 x0.2 x1,k5 (C3 N x0.1 x0.2 x1)))
theorem aRA N:aX Tryd.prog 38 (aBa N):=aBc N N
def sT(a0:Bool):aM:=(.e .bo a0,[])
def sU(_:Nat):Cx:=⟨Tryd.prog,99999,[],[]⟩
def SQ:Code:=Tryd.f19.body.getD .skip
theorem aTk N:aK (sU N):=cH (by kernel_rfl) .nil .nil
def Lu[aB](_:Nat)(self:Int->O)(k0:Bool->O)(k1:Bool->O)(x0_0 x0_1:(List Int))(x0_2:Bool)(x0_3:Int):O:=
 br (decide (x0_3<(↑x0_0.length:Int)))
  (gx x0_0 x0_3 λy5=>
  gx x0_1 x0_3 λy6=>
  br (decide (y5≠y6))
   (k0 false)
   (self (aA.wrap (x0_3+1))))
  (k1 x0_2)
def SP:Code:=cE [1,1,0,1,0,0] SQ
def aDC:Nm:=⟨[0,1,4,5],[],[]⟩
def Af(x:(List Int)×(List Int)×Bool×Int):Sg:=⟨[(0,.e (.sl (.i .i64)) x.1),(1,.e (.sl (.i .i64)) x.2.1),(4,.e .bo x.2.2.1),(5,.e (.i .i64) x.2.2.2)],[],100⟩
def Lr(σ:Sg):(List Int)×(List Int)×Bool×Int:=(aC (.sl (.i .i64)) 0 0 σ,aC (.sl (.i .i64)) 1 0 σ,aC .bo 4 0 σ,aC (.i .i64) 5 0 σ)
theorem aTe:∀x,Lr (Af x)=x:=λ_=>by kernel_rfl
def Lt(y:Bool):Exit×Sg:=(.ret,⟨[(4,.e .bo y)],[],100⟩)
def aTc(_:Exit)(σ:Sg):Bool:=aC .bo 4 0 σ
def Ls(y:Bool):Exit×Sg:=((.exit 0),⟨[(4,.e .bo y)],[],100⟩)
def aTb(_:Exit)(σ:Sg):Bool:=aC .bo 4 0 σ
def aTa:List (Exit×Nm):=[(.ret,⟨[4],[],[]⟩),((.exit 0),⟨[4],[],[]⟩)]
def Ae[aB](N:Nat):Nat->((List Int)×(List Int)×Bool×Int)->((Bool)->O)->((Bool)->O)->((Unit)->O)->O
 |0,_,_,_,_=>none
 |n+1,x,k0,k1,k2=>Lu N (λv0=>Ae N n (x.1,x.2.1,x.2.2.1,v0) k0 k1 k2) (λy0=>k0 y0) (λy0=>k1 y0) x.1 x.2.1 x.2.2.1 x.2.2.2
def aDB[aB] N a0 a1 a2 a3 (k0:Bool->O) (k1:Bool->O):=Ae N N (a0,a1,a2,a3) (λy=>k0 y) (λy=>k1 y) (λ_=>none)
def aCz[aB] N a0 a1 a2 a3 (k0:Bool->O) (k1:Bool->O):=aP Af Lr (Ae N N) (Af (a0,a1,a2,a3)) (λy=>k0 y) (λy=>k1 y) (λ_=>none)
theorem aTj[aB] N:aCz N=aDB N:=funext λ_=>funext λ_=>funext λ_=>funext λ_=>funext λ_=>funext λ_=>cL aTe _ _ _ _
theorem aTf[aB](N:Nat)(self:Sg->O)(K:Exit->Sg->O)(x:(List Int)×(List Int)×Bool×Int):Lu N (λv0=>self (Af (x.1,x.2.1,x.2.2.1,v0))) (λy0=>K (Lt y0).1 (Lt y0).2) (λy0=>K (Ls y0).1 (Ls y0).2) x.1 x.2.1 x.2.2.1 x.2.2.2=exec (sU N) Tryd.f19.ntmps .d SP (Af x) (cZ aDC aTa self K):=by kernel_rfl
theorem aTo N (hc:aK (sU N)):cF (sU N) Tryd.f19.ntmps (.loop SP) Lt Ls (aN 2) (aP Af Lr (Ae N N)):=
 dD hc (cX SP) (jA aTc aTb .ret (.exit 0) (λ_=>by kernel_rfl) (λ_=>by kernel_rfl) (λ_=>rfl) (λ_=>rfl) (by kernel_rfl)) (n:=N) (λx K=>dE (Ae N) (λ_ _ _ _=>rfl) (λn K ih x=>by
  refine dK ?_ (aTf N _ K x);simp only[<-ih];rfl) N x K)
def SS[aB](_:Nat)(in0:(List Int)->(List Int)->Bool->Int->(Bool->O)->(Bool->O)->O)(a0 b1:(List Int)):O:=
 br (decide ((↑a0.length:Int)≠(↑b1.length:Int)))
  (some (sT false))
  (in0 a0 b1 false 0
   (λz7=>
    some (sT z7))
   (λ_=>
    some (sT true)))
def w19[aB] N a0 b1:=SS N (aDB N) a0 b1
def aDD[aB](N:Nat):Hint:=(.seq .d (.seq .d (.seq (.seq .d (.block (.sub aDC _ _ _ Lt Ls (aN 2) (aP Af Lr (Ae N N))))) .d)))
theorem aTh N (hc:aK (sU N)):bH (sU N) Tryd.f19.ntmps (aDD N) SQ:=bS _ _ (aF trivial (aF trivial (aF (aF trivial (aTo N hc)) trivial)))
theorem aTg[aB] N a0 b1:SS N (aCz N) a0 b1=exec (sU N) Tryd.f19.ntmps (aDD N) SQ ⟨cA 0 [.e (.sl (.i .i64)) a0,.e (.sl (.i .i64)) b1],[],100⟩ (cD (sU N) Tryd.f19 false):=by kernel_rfl
def F6(r:aM):Option (Bool):=match r with
 |(x0,[])=>(match ue .bo x0 with|some a0=>some a0|_=>none)
 |_=>none
theorem aTd{r d}(h:F6 r=some d):r=sT (d):=by
 unfold F6 at h;split at h
 .split at h
  .rename_i h0;cases h;rw[bG h0];rfl
  .cases h
 .cases h
def vZ N a0 b1:=(w19 N a0 b1).bind F6
theorem aTi{N}(hc:aK (sU N)){a0 b1 d}(hd:vZ N a0 b1=some d):cI Tryd.prog 19 [.e (.sl (.i .i64)) a0,.e (.sl (.i .i64)) b1] [] (sT (d)):=
 cJ hc (by kernel_rfl) (by kernel_rfl) (aTh N hc) (by kernel_rfl) aTd (λhr=>(aTg N a0 b1).symm.trans (by rw[aTj N];exact hr)) hd
def Cf N a0 b1:=(vZ N a0 b1).isSome
def v7 N a0 b1:=((vZ N a0 b1).getD false)
def SO(N:Nat):bR:=E2 (.sl (.i .i64)) (.sl (.i .i64)) (λx0 x1=>(Cf N x0 x1,sT (v7 N x0 x1)))
theorem aDA N:aX Tryd.prog 19 (SO N):=aX.e2 (λx0 x1 h=>cS (z:=vZ N x0 x1) h (aTi (aTk N)) rfl)
def qN(a0:(List Int))(a1:Int):aM:=(.aU [.e (.sl (.i .i64)) a0,.e (.i .i64) a1],[])
def sZ(N:Nat):Cx:=⟨Tryd.prog,99999,[(17,S3 N)],[]⟩
def Sd:Code:=Tryd.f13.body.getD .skip
theorem aUy N:aK (sZ N):=cH (by kernel_rfl) (.cons (by kernel_rfl) (aDN N) .nil) .nil
def Am[aB](_:Nat)(self:Int->Int->O)(k0:Int->(List Int)->O)(k1:Int->Int->O)(x1_0:Int)(x1_2:(List Int))(x1_3 x1_5:Int)(_x1_6:(List Int))(x1_1 x1_4:Int):O:=
 br (decide (x1_4<x1_3))
  (gx x1_2 x1_4 λy4=>
  br (decide (x1_5=3))
   (self (aA.wrap (x1_1+y4)) (aA.wrap (x1_4+1)))
   (br (decide (x1_5=4))
    (self (aA.wrap (x1_1-y4)) (aA.wrap (x1_4+1)))
    (br (decide (x1_5=5))
     (self (aA.wrap (x1_1*y4)) (aA.wrap (x1_4+1)))
     (ck (decide (y4≠0))<|
     ck (decide (y4≠0))<|
     k0 0 [aA.wrap (x1_1.tdiv y4),x1_1.tmod y4]))))
  (k1 x1_0 x1_1)
def Sc:Code:=cE [1,1,1,0,1,0,0] Sd
def aD6:Nm:=⟨[1,2,3,5,19,20,21],[],[]⟩
def Al(x:Int×Int×(List Int)×Int×Int×Int×(List Int)):Sg:=⟨[(1,.ref 0 0),(2,.bI),(3,.e (.i .i64) x.1),(5,.e (.i .i64) x.2.1),(19,.e (.sl (.i .i64)) x.2.2.1),(20,.e (.i .i64) x.2.2.2.1),(21,.e (.i .i64) x.2.2.2.2.1)],[(0,.box 24 [.e (.i .i64) x.2.2.2.2.2.1,.e (.sl (.i .i64)) x.2.2.2.2.2.2])],100⟩
def MS(σ:Sg):Int×Int×(List Int)×Int×Int×Int×(List Int):=(aC (.i .i64) 3 0 σ,aC (.i .i64) 5 0 σ,aC (.sl (.i .i64)) 19 0 σ,aC (.i .i64) 20 0 σ,aC (.i .i64) 21 0 σ,bP (.i .i64) 0 0 σ,bP (.sl (.i .i64)) 0 1 σ)
theorem aUr:∀x,MS (Al x)=x:=λ_=>by kernel_rfl
def MV(y:Int×(List Int)):Exit×Sg:=(.ret,⟨[(2,.own 0),(3,.e (.i .i64) y.1)],[(0,.row 3 (.i .i64) y.2 true)],100⟩)
def aUp(_:Exit)(σ:Sg):Int×(List Int):=(aC (.i .i64) 3 0 σ,c9 (.i .i64) 0 σ)
def MU(y:Int×Int):Exit×Sg:=((.exit 0),⟨[(2,.bI),(3,.e (.i .i64) y.1),(5,.e (.i .i64) y.2)],[],100⟩)
def aUo(_:Exit)(σ:Sg):Int×Int:=(aC (.i .i64) 3 0 σ,aC (.i .i64) 5 0 σ)
def aUn:List (Exit×Nm):=[(.ret,⟨[2,3],[],[]⟩),((.exit 0),⟨[2,3,5],[],[]⟩)]
def wE[aB](N:Nat):Nat->(Int×Int×(List Int)×Int×Int×Int×(List Int))->((Int×(List Int))->O)->((Int×Int)->O)->((Unit)->O)->O
 |0,_,_,_,_=>none
 |n+1,x,k0,k1,k2=>Am N (λv0 v1=>wE N n (x.1,v0,x.2.2.1,x.2.2.2.1,v1,x.2.2.2.2.2.1,x.2.2.2.2.2.2) k0 k1 k2) (λy0 y1=>k0 (y0,y1)) (λy0 y1=>k1 (y0,y1)) x.1 x.2.2.1 x.2.2.2.1 x.2.2.2.2.2.1 x.2.2.2.2.2.2 x.2.1 x.2.2.2.2.1
def aD5[aB] N a0 a1 a2 a3 a4 a5 a6 (k0:Int->(List Int)->O) (k1:Int->Int->O):=wE N N (a0,a1,a2,a3,a4,a5,a6) (λy=>k0 y.1 y.2) (λy=>k1 y.1 y.2) (λ_=>none)
def aD4[aB] N a0 a1 a2 a3 a4 a5 a6 (k0:Int->(List Int)->O) (k1:Int->Int->O):=aP Al MS (wE N N) (Al (a0,a1,a2,a3,a4,a5,a6)) (λy=>k0 y.1 y.2) (λy=>k1 y.1 y.2) (λ_=>none)
theorem aUx[aB] N:aD4 N=aD5 N:=funext λ_=>funext λ_=>funext λ_=>funext λ_=>funext λ_=>funext λ_=>funext λ_=>funext λ_=>funext λ_=>cL aUr _ _ _ _
theorem aUs[aB](N:Nat)(self:Sg->O)(K:Exit->Sg->O)(x:Int×Int×(List Int)×Int×Int×Int×(List Int)):Am N (λv0 v1=>self (Al (x.1,v0,x.2.2.1,x.2.2.2.1,v1,x.2.2.2.2.2.1,x.2.2.2.2.2.2))) (λy0 y1=>K (MV (y0,y1)).1 (MV (y0,y1)).2) (λy0 y1=>K (MU (y0,y1)).1 (MU (y0,y1)).2) x.1 x.2.2.1 x.2.2.2.1 x.2.2.2.2.2.1 x.2.2.2.2.2.2 x.2.1 x.2.2.2.2.1=exec (sZ N) Tryd.f13.ntmps .d Sc (Al x) (cZ aD6 aUn self K):=by kernel_rfl
theorem aVE N (hc:aK (sZ N)):cF (sZ N) Tryd.f13.ntmps (.loop Sc) MV MU (aN 2) (aP Al MS (wE N N)):=
 dD hc (cX Sc) (jA aUp aUo .ret (.exit 0) (λ_=>by kernel_rfl) (λ_=>by kernel_rfl) (λ_=>rfl) (λ_=>rfl) (by kernel_rfl)) (n:=N) (λx K=>dE (wE N) (λ_ _ _ _=>rfl) (λn K ih x=>by
  refine dK ?_ (aUs N _ K x);simp only[<-ih];rfl) N x K)
def Se[aB](N:Nat)(in0:Int->Int->(List Int)->Int->Int->Int->(List Int)->(Int->(List Int)->O)->(Int->Int->O)->O)(s0_0:Int)(s0_1:(List Int)):O:=
 ck (F7 N s0_0 s0_1)<|
 br (decide (Ah N s0_0 s0_1≠(0:Int)))
  (some (qN [] (Ah N s0_0 s0_1)))
  (gx s0_1 0 λy0=>
  ck (dX s0_1.length (some (1:Int)) none)<|
  in0 0 y0 (bW s0_1 (some (1:Int)) none) ((↑(bW s0_1 (some (1:Int)) none).length:Int)) 0 s0_0 s0_1
   (λz5 z6=>
    some (qN z6 z5))
   (λ_ z8=>
    some (qN [z8] 0)))
def w13[aB] N s0_0 s0_1:=Se N (aD5 N) s0_0 s0_1
def aD7[aB](N:Nat):Hint:=(.seq .d (.seq .d (.seq .d (.seq (.seq .d (.block (.sub aD6 _ _ _ MV MU (aN 2) (aP Al MS (wE N N))))) .d))))
theorem aUv N (hc:aK (sZ N)):bH (sZ N) Tryd.f13.ntmps (aD7 N) Sd:=bS _ _ (aF trivial (aF trivial (aF trivial (aF (aF trivial (aVE N hc)) trivial))))
theorem aUt[aB] N s0_0 s0_1:Se N (aD4 N) s0_0 s0_1=exec (sZ N) Tryd.f13.ntmps (aD7 N) Sd ⟨cA 0 [.agg [.e (.i .i64) s0_0,.e (.sl (.i .i64)) s0_1]],[],100⟩ (cD (sZ N) Tryd.f13 false):=by kernel_rfl
def Fc(r:aM):Option ((List Int)×Int):=match r with
 |(.aU [x0,x1],[])=>(match ue (.sl (.i .i64)) x0,ue (.i .i64) x1 with|some a0,some a1=>some (a0,a1)|_,_=>none)
 |_=>none
theorem aUq{r d}(h:Fc r=some d):r=qN d.1 d.2:=by
 unfold Fc at h;split at h
 .split at h
  .rename_i h0 h1;cases h;rw[bG h0,bG h1];rfl
  .cases h
 .cases h
def qM N s0_0 s0_1:=(w13 N s0_0 s0_1).bind Fc
theorem aUw{N}(hc:aK (sZ N)){s0_0 s0_1 d}(hd:qM N s0_0 s0_1=some d):cI Tryd.prog 13 [.agg [.e (.i .i64) s0_0,.e (.sl (.i .i64)) s0_1]] [] (qN d.1 d.2):=
 cJ hc (by kernel_rfl) (by kernel_rfl) (aUv N hc) (by kernel_rfl) aUq (λhr=>(aUt N s0_0 s0_1).symm.trans (by rw[aUx N];exact hr)) hd
def MT N s0_0 s0_1:=(qM N s0_0 s0_1).isSome
def wD N s0_0 s0_1:=((qM N s0_0 s0_1).getD ([],0)).1
def Fb N s0_0 s0_1:=((qM N s0_0 s0_1).getD ([],0)).2
def aD8(N:Nat):bR:=E1 (.pr (.i .i64) (.sl (.i .i64))) (λx0=>(MT N x0.1 x0.2,qN (wD N x0.1 x0.2) (Fb N x0.1 x0.2)))
theorem aUu N:aX Tryd.prog 13 (aD8 N):=aX.e1 (λx0 h=>cS (z:=qM N x0.1 x0.2) h (aUw (aUy N)) rfl)
def Iu(a0:Int)(a1:(List bQ)):aM:=(.aU [],[(50,.box 82 [.own 100,.e (.i .i64) a0]),(100,.nest 42 5 .u8 a1)])
def Ea(_:Nat):Cx:=⟨Tryd.prog,99999,[],[]⟩
def Yd:Code:=Tryd.f62.body.getD .skip
theorem aL4 N:aK (Ea N):=cH (by kernel_rfl) .nil .nil
def QF[aB](_:Nat)(h50_0:Int)(h51_0:(List bQ)):O:=
 ck (decide (0<=h50_0))<|
 ck (b9 h50_0.toNat (1:Nat))<|
 ck (b9 (h51_0.length+[bY h50_0.toNat (0:UInt8)].length) (24:Nat))<|
 some (Iu h50_0 (h51_0++[bY h50_0.toNat (0:UInt8)]))
def Yi[aB] N h50_0 h51_0:=QF N h50_0 h51_0
def Yc[aB](_:Nat):Hint:=(.fT [] [] [[],[],[],[],[],[],[],[],[],[],[180,172],[188,51,180],[],[],[50]])
theorem aL2 N:bH (Ea N) Tryd.f62.ntmps (Yc N) Yd:=bS _ _ trivial
theorem aL0[aB] N h50_0 h51_0:QF N h50_0 h51_0=exec (Ea N) Tryd.f62.ntmps (Yc N) Yd ⟨cA 0 [.ref 50 0],[(50,.box 82 [.own 51,.e (.i .i64) h50_0]),(51,.nest 42 5 .u8 h51_0)],100⟩ (cD (Ea N) Tryd.f62 true):=by kernel_rfl
def QC(r:aM):Option (Int×(List bQ)):=match r with
 |(.aU [],[(50,.box 82 [.own 100,x0]),(100,x1)])=>(match ue (.i .i64) x0,uq 42 5 .u8 x1 with|some a0,some a1=>some (a0,a1)|_,_=>none)
 |_=>none
theorem aLZ{r d}(h:QC r=some d):r=Iu d.1 d.2:=by
 unfold QC at h;split at h
 .split at h
  .rename_i h0 h1;cases h;rw[bG h0,nU h1];rfl
  .cases h
 .cases h
def p9 N h50_0 h51_0:=(Yi N h50_0 h51_0).bind QC
theorem aL3{N}(hc:aK (Ea N)){h50_0 h51_0 d}(hd:p9 N h50_0 h51_0=some d):cI Tryd.prog 62 [.ref 50 0] [(50,.box 82 [.own 51,.e (.i .i64) h50_0]),(51,.nest 42 5 .u8 h51_0)] (Iu d.1 d.2):=
 cJ hc (by kernel_rfl) (by kernel_rfl) (aL2 N) (by kernel_rfl) aLZ (aL0 N h50_0 h51_0).symm.trans hd
def E9 N h50_0 h51_0:=(p9 N h50_0 h51_0).isSome
def zB N h50_0 h51_0:=((p9 N h50_0 h51_0).getD (0,[])).1
def zA N h50_0 h51_0:=((p9 N h50_0 h51_0).getD (0,[])).2
def QD(xs:List X)(H:XH):Option (Int×(List bQ)):=match xs,H with
 |[.ref 50 0],[(50,.box 82 [.own 51,x0]),(51,x1)]=>(match ue (.i .i64) x0,uq 42 5 .u8 x1 with|some a0,some a1=>some (a0,a1)|_,_=>none)
 |_,_=>none
theorem aL1{xs H d}(h:QD xs H=some d):xs=[.ref 50 0]/\H=[(50,.box 82 [.own 51,.e (.i .i64) d.1]),(51,.nest 42 5 .u8 d.2)]:=by
 unfold QD at h;split at h
 .split at h
  .rename_i h0 h1;cases h;rw[bG h0,nU h1];exact⟨rfl,rfl⟩
  .cases h
 .cases h
def QE(N:Nat):bR:=xB QD (λd=>E9 N d.1 d.2) (λd=>Iu (zB N d.1 d.2) (zA N d.1 d.2))
theorem Yb N:aX Tryd.prog 62 (QE N):=D7 aL1 (λd h=>cS (z:=p9 N d.1 d.2) h (aL3 (aL4 N)) rfl)
def ER(a0 a1:Int)(a2:(List bQ)):aM:=(.aU [],[(50,.box 80 [.ref 52 0]),(51,.box 3 [.e (.i .i64) a0]),(52,.box 82 [.own 53,.e (.i .i64) a1]),(53,.nest 42 5 .u8 a2)])
def ES(_:Nat):Cx:=⟨Tryd.prog,99999,[],[]⟩
def Wq:Code:=Tryd.f80.body.getD .skip
theorem aIb N:aK (ES N):=cH (by kernel_rfl) .nil .nil
def Oy[aB](_:Nat)(k0:Int)(c1:UInt8)(h51_0 h52_0:Int)(h53_0:(List bQ)):O:=
 ck (decide ((0:Int)<=aA.wrap ((↑h53_0.length:Int)-(1:Int))/\aA.wrap ((↑h53_0.length:Int)-(1:Int))<(↑h53_0.length:Int)))<|
 gn h53_0 ((aA.wrap ((↑h53_0.length:Int)-(1:Int))).toNat) λ_=>
 gn h53_0 ((aA.wrap ((↑h53_0.length:Int)-(1:Int))).toNat) λy1=>
 ck (decide ((0:Int)<=aA.wrap (aA.wrap (aA.wrap (h52_0-1)-h51_0)-k0)/\aA.wrap (aA.wrap (aA.wrap (h52_0-1)-h51_0)-k0)<(↑y1.length:Int)))<|
 gn h53_0 ((aA.wrap ((↑h53_0.length:Int)-(1:Int))).toNat) λy2=>
 gn y2 ((aA.wrap (aA.wrap (aA.wrap (h52_0-1)-h51_0)-k0)).toNat) λ_=>
 some (ER h51_0 h52_0 (h53_0.set (aA.wrap ((↑h53_0.length:Int)-(1:Int))).toNat (y2.set (aA.wrap (aA.wrap (aA.wrap (h52_0-1)-h51_0)-k0)).toNat c1)))
def Ws[aB] N k0 c1 h51_0 h52_0 h53_0:=Oy N k0 c1 h51_0 h52_0 h53_0
def Wo[aB](_:Nat):Hint:=(.fT [] [] [[],[],[],[],[],[],[],[],[],[],[],[],[],[],[],[],[],[],[],[],[],[],[],[53]])
theorem aI9 N:bH (ES N) Tryd.f80.ntmps (Wo N) Wq:=bS _ _ trivial
theorem aI6[aB] N k0 c1 h51_0 h52_0 h53_0:Oy N k0 c1 h51_0 h52_0 h53_0=exec (ES N) Tryd.f80.ntmps (Wo N) Wq ⟨cA 0 [.e (.i .i64) k0,.e .u8 c1,.ref 50 0,.ref 51 0],[(50,.box 80 [.ref 52 0]),(51,.box 3 [.e (.i .i64) h51_0]),(52,.box 82 [.own 53,.e (.i .i64) h52_0]),(53,.nest 42 5 .u8 h53_0)],100⟩ (cD (ES N) Tryd.f80 true):=by kernel_rfl
def Hn(r:aM):Option (Int×Int×(List bQ)):=match r with
 |(.aU [],[(50,.box 80 [.ref 52 0]),(51,.box 3 [x0]),(52,.box 82 [.own 53,x1]),(53,x2)])=>(match ue (.i .i64) x0,ue (.i .i64) x1,uq 42 5 .u8 x2 with|some a0,some a1,some a2=>some (a0,a1,a2)|_,_,_=>none)
 |_=>none
theorem aI5{r d}(h:Hn r=some d):r=ER d.1 d.2.1 d.2.2:=by
 unfold Hn at h;split at h
 .split at h
  .rename_i h0 h1 h2;cases h;rw[bG h0,bG h1,nU h2];rfl
  .cases h
 .cases h
def nG N k0 c1 h51_0 h52_0 h53_0:=(Ws N k0 c1 h51_0 h52_0 h53_0).bind Hn
theorem aIa{N}(hc:aK (ES N)){k0 c1 h51_0 h52_0 h53_0 d}(hd:nG N k0 c1 h51_0 h52_0 h53_0=some d):cI Tryd.prog 80 [.e (.i .i64) k0,.e .u8 c1,.ref 50 0,.ref 51 0] [(50,.box 80 [.ref 52 0]),(51,.box 3 [.e (.i .i64) h51_0]),(52,.box 82 [.own 53,.e (.i .i64) h52_0]),(53,.nest 42 5 .u8 h53_0)] (ER d.1 d.2.1 d.2.2):=
 cJ hc (by kernel_rfl) (by kernel_rfl) (aI9 N) (by kernel_rfl) aI5 (aI6 N k0 c1 h51_0 h52_0 h53_0).symm.trans hd
def Ho N k0 c1 h51_0 h52_0 h53_0:=(nG N k0 c1 h51_0 h52_0 h53_0).isSome
def Hm N k0 c1 h51_0 h52_0 h53_0:=((nG N k0 c1 h51_0 h52_0 h53_0).getD (0,0,[])).1
def Hl N k0 c1 h51_0 h52_0 h53_0:=((nG N k0 c1 h51_0 h52_0 h53_0).getD (0,0,[])).2.1
def Hk N k0 c1 h51_0 h52_0 h53_0:=((nG N k0 c1 h51_0 h52_0 h53_0).getD (0,0,[])).2.2
def Ox(xs:List X)(H:XH):Option (Int×UInt8×Int×Int×(List bQ)):=match xs,H with
 |[x0,x1,.ref 50 0,.ref 51 0],[(50,.box 80 [.ref 52 0]),(51,.box 3 [x2]),(52,.box 82 [.own 53,x3]),(53,x4)]=>(match ue (.i .i64) x0,ue .u8 x1,ue (.i .i64) x2,ue (.i .i64) x3,uq 42 5 .u8 x4 with|some a0,some a1,some a2,some a3,some a4=>some (a0,a1,a2,a3,a4)|_,_,_,_,_=>none)
 |_,_=>none
theorem aI8{xs H d}(h:Ox xs H=some d):xs=[.e (.i .i64) d.1,.e .u8 d.2.1,.ref 50 0,.ref 51 0]/\H=[(50,.box 80 [.ref 52 0]),(51,.box 3 [.e (.i .i64) d.2.2.1]),(52,.box 82 [.own 53,.e (.i .i64) d.2.2.2.1]),(53,.nest 42 5 .u8 d.2.2.2.2)]:=by
 unfold Ox at h;split at h
 .split at h
  .rename_i h0 h1 h2 h3 h4;cases h;rw[bG h0,bG h1,bG h2,bG h3,nU h4];exact⟨rfl,rfl⟩
  .cases h
 .cases h
def Wp(N:Nat):bR:=xB Ox (λd=>Ho N d.1 d.2.1 d.2.2.1 d.2.2.2.1 d.2.2.2.2) (λd=>ER (Hm N d.1 d.2.1 d.2.2.1 d.2.2.2.1 d.2.2.2.2) (Hl N d.1 d.2.1 d.2.2.1 d.2.2.2.1 d.2.2.2.2) (Hk N d.1 d.2.1 d.2.2.1 d.2.2.2.1 d.2.2.2.2))
theorem aI7 N:aX Tryd.prog 80 (Wp N):=D7 aI8 (λd h=>cS (z:=nG N d.1 d.2.1 d.2.2.1 d.2.2.2.1 d.2.2.2.2) h (aIa (aIb N)) rfl)
def Hj(a0 a1:UInt8)(a2 a3:UInt8)(a4 a5:UInt8)(a6 a7:UInt8)(a8 a9:UInt8):aM:=(.agg [.e .u8 a0,.e .u8 a1,.e .u8 a2,.e .u8 a3,.e .u8 a4,.e .u8 a5,.e .u8 a6,.e .u8 a7,.e .u8 a8,.e .u8 a9],[])
def EP(_:Nat):Cx:=⟨Tryd.prog,99999,[],[]⟩
def W9:Code:=Tryd.f81.body.getD .skip
theorem aI3 N:aK (EP N):=cH (by kernel_rfl) .nil .nil
def Wn[aB](_:Nat):O:=
 some (Hj 26 1 3 9 25 17 11 27 19 10)
def w81[aB](N:Nat):O:=Wn N  
def W8[aB](_:Nat):Hint:=.d
theorem aI1 N:bH (EP N) Tryd.f81.ntmps (W8 N) W9:=bS _ _ trivial
theorem aI0[aB] N:Wn N=exec (EP N) Tryd.f81.ntmps (W8 N) W9 ⟨cA 0 [],[],100⟩ (cD (EP N) Tryd.f81 false):=by kernel_rfl
def Ov(r:aM):Option (UInt8×UInt8×UInt8×UInt8×UInt8×UInt8×UInt8×UInt8×UInt8×UInt8):=match r with
 |(.agg [x0,x1,x2,x3,x4,x5,x6,x7,x8,x9],[])=>(match ue .u8 x0,ue .u8 x1,ue .u8 x2,ue .u8 x3,ue .u8 x4,ue .u8 x5,ue .u8 x6,ue .u8 x7,ue .u8 x8,ue .u8 x9 with|some a0,some a1,some a2,some a3,some a4,some a5,some a6,some a7,some a8,some a9=>some (a0,a1,a2,a3,a4,a5,a6,a7,a8,a9)|_,_,_,_,_,_,_,_,_,_=>none)
 |_=>none
theorem aIZ{r d}(h:Ov r=some d):r=Hj d.1 d.2.1 d.2.2.1 d.2.2.2.1 d.2.2.2.2.1 d.2.2.2.2.2.1 d.2.2.2.2.2.2.1 d.2.2.2.2.2.2.2.1 d.2.2.2.2.2.2.2.2.1 d.2.2.2.2.2.2.2.2.2:=by
 unfold Ov at h;split at h
 .split at h
  .rename_i h0 h1 h2 h3 h4 h5 h6 h7 h8 h9;cases h;rw[bG h0,bG h1,bG h2,bG h3,bG h4,bG h5,bG h6,bG h7,bG h8,bG h9];rfl
  .cases h
 .cases h
def gG(N:Nat):Option (UInt8×UInt8×UInt8×UInt8×UInt8×UInt8×UInt8×UInt8×UInt8×UInt8):=(w81 N ).bind Ov
theorem aI2{N}(hc:aK (EP N)){d}(hd:gG N=some d):cI Tryd.prog 81 [] [] (Hj d.1 d.2.1 d.2.2.1 d.2.2.2.1 d.2.2.2.2.1 d.2.2.2.2.2.1 d.2.2.2.2.2.2.1 d.2.2.2.2.2.2.2.1 d.2.2.2.2.2.2.2.2.1 d.2.2.2.2.2.2.2.2.2):=
 cJ hc (by kernel_rfl) (by kernel_rfl) (aI1 N) (by kernel_rfl) aIZ (aI0 N).symm.trans hd
def EO(N:Nat):Bool:=(gG N ).isSome
def Bq(N:Nat):UInt8:=((gG N ).getD (0,0,0,0,0,0,0,0,0,0)).1
def Bp(N:Nat):UInt8:=((gG N ).getD (0,0,0,0,0,0,0,0,0,0)).2.1
def Bo(N:Nat):UInt8:=((gG N ).getD (0,0,0,0,0,0,0,0,0,0)).2.2.1
def Bn(N:Nat):UInt8:=((gG N ).getD (0,0,0,0,0,0,0,0,0,0)).2.2.2.1
def Bm(N:Nat):UInt8:=((gG N ).getD (0,0,0,0,0,0,0,0,0,0)).2.2.2.2.1
def Bl(N:Nat):UInt8:=((gG N ).getD (0,0,0,0,0,0,0,0,0,0)).2.2.2.2.2.1
def Bk(N:Nat):UInt8:=((gG N ).getD (0,0,0,0,0,0,0,0,0,0)).2.2.2.2.2.2.1
def Bj(N:Nat):UInt8:=((gG N ).getD (0,0,0,0,0,0,0,0,0,0)).2.2.2.2.2.2.2.1
def Bi(N:Nat):UInt8:=((gG N ).getD (0,0,0,0,0,0,0,0,0,0)).2.2.2.2.2.2.2.2.1
def Bh(N:Nat):UInt8:=((gG N ).getD (0,0,0,0,0,0,0,0,0,0)).2.2.2.2.2.2.2.2.2
def Ow(N:Nat):bR:=E0 (EO N ,Hj (Bq N ) (Bp N ) (Bo N ) (Bn N ) (Bm N ) (Bl N ) (Bk N ) (Bj N ) (Bi N ) (Bh N ))
theorem W7 N:aX Tryd.prog 81 (Ow N):=aX.e0 (λh=>cS (z:=gG N ) h (aI2 (aI3 N)) rfl)
def E8(a0:Int)(a1:(List bQ)):aM:=(.aU [],[(50,.box 82 [.own 51,.e (.i .i64) a0]),(51,.nest 42 5 .u8 a1)])
def sA(N:Nat):Cx:=⟨Tryd.prog,99999,[(80,Wp N),(81,Ow N)],[]⟩
def Pw:Code:=Tryd.f63.body.getD .skip
theorem aLX N:aK (sA N):=cH (by kernel_rfl) (.cons (by kernel_rfl) (aI7 N) (.cons (by kernel_rfl) (W7 N) .nil)) .nil
def CF[aB](N:Nat)(self:Int->Int->Int->(List bQ)->Int->O)(k0:Int->(List bQ)->O)(x0_0 x0_1 x0_2:Int)(x0_3:(List bQ))(x0_4:Int):O:=
 br (decide (x0_1=0)||decide (0<x0_0))
  (ck (EO N)<|
  ck true <|
  gx [Bq N,Bp N,Bo N,Bn N,Bm N,Bl N,Bk N,Bj N,Bi N,Bh N] (x0_0.tmod (10:Int)) λy3=>
  ck (Ho N x0_1 y3 x0_4 x0_2 x0_3)<|
  ck true <|
  self (aA.wrap (x0_0.tdiv (10:Int))) (aA.wrap (x0_1+1)) (Hl N x0_1 y3 x0_4 x0_2 x0_3) (Hk N x0_1 y3 x0_4 x0_2 x0_3) (Hm N x0_1 y3 x0_4 x0_2 x0_3))
  (k0 x0_2 x0_3)
def Pv:Code:=cE [1,1,1,0,0] Pw
def Y7:Nm:=⟨[1,6,7],[],[]⟩
def yZ(x:Int×Int×Int×(List bQ)×Int):Sg:=⟨[(1,.e (.i .i64) x.1),(6,.fn 80 [.ref 0 0,.ref 1 0]),(7,.e (.i .i64) x.2.1)],[(50,.box 82 [.own 51,.e (.i .i64) x.2.2.1]),(51,.nest 42 5 .u8 x.2.2.2.1),(0,.box 80 [.ref 50 0]),(1,.box 3 [.e (.i .i64) x.2.2.2.2])],100⟩
def Ir(σ:Sg):Int×Int×Int×(List bQ)×Int:=(aC (.i .i64) 1 0 σ,aC (.i .i64) 7 0 σ,bP (.i .i64) 50 1 σ,n4 .u8 51 σ,bP (.i .i64) 1 0 σ)
theorem aLQ:∀x,Ir (yZ x)=x:=λ_=>by kernel_rfl
def It(y:Int×(List bQ)):Exit×Sg:=((.exit 0),⟨[],[(50,.box 82 [.own 51,.e (.i .i64) y.1]),(51,.nest 42 5 .u8 y.2)],100⟩)
def aLO(_:Exit)(σ:Sg):Int×(List bQ):=(bP (.i .i64) 50 1 σ,n4 .u8 51 σ)
def aLN:List (Exit×Nm):=[((.exit 0),⟨[],[],[]⟩)]
def yY[aB](N:Nat):Nat->(Int×Int×Int×(List bQ)×Int)->((Int×(List bQ))->O)->((Unit)->O)->((Unit)->O)->O
 |0,_,_,_,_=>none
 |n+1,x,k0,k1,k2=>CF N (λv0 v1 v2 v3 v4=>yY N n (v0,v1,v2,v3,v4) k0 k1 k2) (λy0 y1=>k0 (y0,y1)) x.1 x.2.1 x.2.2.1 x.2.2.2.1 x.2.2.2.2
def Y6[aB] N a0 a1 a2 a3 a4 (k0:Int->(List bQ)->O):=yY N N (a0,a1,a2,a3,a4) (λy=>k0 y.1 y.2) (λ_=>none) (λ_=>none)
def Y5[aB] N a0 a1 a2 a3 a4 (k0:Int->(List bQ)->O):=aP yZ Ir (yY N N) (yZ (a0,a1,a2,a3,a4)) (λy=>k0 y.1 y.2) (λ_=>none) (λ_=>none)
theorem aLW[aB] N:Y5 N=Y6 N:=funext λ_=>funext λ_=>funext λ_=>funext λ_=>funext λ_=>funext λ_=>cL aLQ _ _ _ _
theorem aLR[aB](N:Nat)(self:Sg->O)(K:Exit->Sg->O)(x:Int×Int×Int×(List bQ)×Int):CF N (λv0 v1 v2 v3 v4=>self (yZ (v0,v1,v2,v3,v4))) (λy0 y1=>K (It (y0,y1)).1 (It (y0,y1)).2) x.1 x.2.1 x.2.2.1 x.2.2.2.1 x.2.2.2.2=exec (sA N) Tryd.f63.ntmps .d Pv (yZ x) (cZ Y7 aLN self K):=by kernel_rfl
theorem aLY N (hc:aK (sA N)):cF (sA N) Tryd.f63.ntmps (.loop Pv) It (aN 1) (aN 2) (aP yZ Ir (yY N N)):=
 dD hc (cX Pv) (eC aLO (.exit 0) (λ_=>by kernel_rfl) (λ_=>rfl) (by kernel_rfl)) (n:=N) (λx K=>dE (yY N) (λ_ _ _ _=>rfl) (λn K ih x=>by
  refine dK ?_ (aLR N _ K x);simp only[<-ih];rfl) N x K)
def QB[aB](_:Nat)(in0:Int->Int->Int->(List bQ)->Int->(Int->(List bQ)->O)->O)(n1 left2 h50_0:Int)(h51_0:(List bQ)):O:=
 in0 n1 0 h50_0 h51_0 left2
  (λz4 z5=>
   some (E8 z4 z5))
def Ya[aB] N n1 left2 h50_0 h51_0:=QB N (Y6 N) n1 left2 h50_0 h51_0
def Y8[aB](N:Nat):Hint:=(.seq .d (.seq .d (.seq .d (.block (.sub Y7 _ _ _ It (aN 1) (aN 2) (aP yZ Ir (yY N N)))))))
theorem aLU N (hc:aK (sA N)):bH (sA N) Tryd.f63.ntmps (Y8 N) Pw:=bS _ _ (aF trivial (aF trivial (aF trivial (aLY N hc))))
theorem aLS[aB] N n1 left2 h50_0 h51_0:QB N (Y5 N) n1 left2 h50_0 h51_0=exec (sA N) Tryd.f63.ntmps (Y8 N) Pw ⟨cA 0 [.ref 50 0,.e (.i .i64) n1,.e (.i .i64) left2],[(50,.box 82 [.own 51,.e (.i .i64) h50_0]),(51,.nest 42 5 .u8 h51_0)],100⟩ (cD (sA N) Tryd.f63 true):=by kernel_rfl
def Iq(r:aM):Option (Int×(List bQ)):=match r with
 |(.aU [],[(50,.box 82 [.own 51,x0]),(51,x1)])=>(match ue (.i .i64) x0,uq 42 5 .u8 x1 with|some a0,some a1=>some (a0,a1)|_,_=>none)
 |_=>none
theorem aLP{r d}(h:Iq r=some d):r=E8 d.1 d.2:=by
 unfold Iq at h;split at h
 .split at h
  .rename_i h0 h1;cases h;rw[bG h0,nU h1];rfl
  .cases h
 .cases h
def p7 N n1 left2 h50_0 h51_0:=(Ya N n1 left2 h50_0 h51_0).bind Iq
theorem aLV{N}(hc:aK (sA N)){n1 left2 h50_0 h51_0 d}(hd:p7 N n1 left2 h50_0 h51_0=some d):cI Tryd.prog 63 [.ref 50 0,.e (.i .i64) n1,.e (.i .i64) left2] [(50,.box 82 [.own 51,.e (.i .i64) h50_0]),(51,.nest 42 5 .u8 h51_0)] (E8 d.1 d.2):=
 cJ hc (by kernel_rfl) (by kernel_rfl) (aLU N hc) (by kernel_rfl) aLP (λhr=>(aLS N n1 left2 h50_0 h51_0).symm.trans (by rw[aLW N];exact hr)) hd
def CE N n1 left2 h50_0 h51_0:=(p7 N n1 left2 h50_0 h51_0).isSome
def CD N n1 left2 h50_0 h51_0:=((p7 N n1 left2 h50_0 h51_0).getD (0,[])).1
def p8 N n1 left2 h50_0 h51_0:=((p7 N n1 left2 h50_0 h51_0).getD (0,[])).2
def Pu(xs:List X)(H:XH):Option (Int×Int×Int×(List bQ)):=match xs,H with
 |[.ref 50 0,x0,x1],[(50,.box 82 [.own 51,x2]),(51,x3)]=>(match ue (.i .i64) x0,ue (.i .i64) x1,ue (.i .i64) x2,uq 42 5 .u8 x3 with|some a0,some a1,some a2,some a3=>some (a0,a1,a2,a3)|_,_,_,_=>none)
 |_,_=>none
theorem aLT{xs H d}(h:Pu xs H=some d):xs=[.ref 50 0,.e (.i .i64) d.1,.e (.i .i64) d.2.1]/\H=[(50,.box 82 [.own 51,.e (.i .i64) d.2.2.1]),(51,.nest 42 5 .u8 d.2.2.2)]:=by
 unfold Pu at h;split at h
 .split at h
  .rename_i h0 h1 h2 h3;cases h;rw[bG h0,bG h1,bG h2,nU h3];exact⟨rfl,rfl⟩
  .cases h
 .cases h
def Is(N:Nat):bR:=xB Pu (λd=>CE N d.1 d.2.1 d.2.2.1 d.2.2.2) (λd=>E8 (CD N d.1 d.2.1 d.2.2.1 d.2.2.2) (p8 N d.1 d.2.1 d.2.2.1 d.2.2.2))
theorem Pt N:aX Tryd.prog 63 (Is N):=D7 aLT (λd h=>cS (z:=p7 N d.1 d.2.1 d.2.2.1 d.2.2.2) h (aLV (aLX N)) rfl)
def Io(a0:Int)(a1:(List bQ)):aM:=(.aU [],[(50,.box 82 [.own 100,.e (.i .i64) a0]),(100,.nest 42 5 .u8 a1)])
def E7(N:Nat):Cx:=⟨Tryd.prog,99999,[(62,QE N),(63,Is N)],[]⟩
def Y0:Code:=Tryd.f64.body.getD .skip
theorem aLL N:aK (E7 N):=cH (by kernel_rfl) (.cons (by kernel_rfl) (Yb N) (.cons (by kernel_rfl) (Pt N) .nil)) .nil
def Ps[aB](N:Nat)(n1 left2 h50_0:Int)(h51_0:(List bQ)):O:=
 ck (E9 N h50_0 h51_0)<|
 ck (CE N n1 left2 (zB N h50_0 h51_0) (zA N h50_0 h51_0))<|
 some (Io (CD N n1 left2 (zB N h50_0 h51_0) (zA N h50_0 h51_0)) (p8 N n1 left2 (zB N h50_0 h51_0) (zA N h50_0 h51_0)))
def Y4[aB] N n1 left2 h50_0 h51_0:=Ps N n1 left2 h50_0 h51_0
def YZ[aB](_:Nat):Hint:=.d
theorem aLJ N:bH (E7 N) Tryd.f64.ntmps (YZ N) Y0:=bS _ _ trivial
theorem aLH[aB] N n1 left2 h50_0 h51_0:Ps N n1 left2 h50_0 h51_0=exec (E7 N) Tryd.f64.ntmps (YZ N) Y0 ⟨cA 0 [.ref 50 0,.e (.i .i64) n1,.e (.i .i64) left2],[(50,.box 82 [.own 51,.e (.i .i64) h50_0]),(51,.nest 42 5 .u8 h51_0)],100⟩ (cD (E7 N) Tryd.f64 true):=by kernel_rfl
def Pp(r:aM):Option (Int×(List bQ)):=match r with
 |(.aU [],[(50,.box 82 [.own 100,x0]),(100,x1)])=>(match ue (.i .i64) x0,uq 42 5 .u8 x1 with|some a0,some a1=>some (a0,a1)|_,_=>none)
 |_=>none
theorem aLG{r d}(h:Pp r=some d):r=Io d.1 d.2:=by
 unfold Pp at h;split at h
 .split at h
  .rename_i h0 h1;cases h;rw[bG h0,nU h1];rfl
  .cases h
 .cases h
def oI N n1 left2 h50_0 h51_0:=(Y4 N n1 left2 h50_0 h51_0).bind Pp
theorem aLK{N}(hc:aK (E7 N)){n1 left2 h50_0 h51_0 d}(hd:oI N n1 left2 h50_0 h51_0=some d):cI Tryd.prog 64 [.ref 50 0,.e (.i .i64) n1,.e (.i .i64) left2] [(50,.box 82 [.own 51,.e (.i .i64) h50_0]),(51,.nest 42 5 .u8 h51_0)] (Io d.1 d.2):=
 cJ hc (by kernel_rfl) (by kernel_rfl) (aLJ N) (by kernel_rfl) aLG (aLH N n1 left2 h50_0 h51_0).symm.trans hd
def kM N n1 left2 h50_0 h51_0:=(oI N n1 left2 h50_0 h51_0).isSome
def cU N n1 left2 h50_0 h51_0:=((oI N n1 left2 h50_0 h51_0).getD (0,[])).1
def cO N n1 left2 h50_0 h51_0:=((oI N n1 left2 h50_0 h51_0).getD (0,[])).2
def Pr(xs:List X)(H:XH):Option (Int×Int×Int×(List bQ)):=match xs,H with
 |[.ref 50 0,x0,x1],[(50,.box 82 [.own 51,x2]),(51,x3)]=>(match ue (.i .i64) x0,ue (.i .i64) x1,ue (.i .i64) x2,uq 42 5 .u8 x3 with|some a0,some a1,some a2,some a3=>some (a0,a1,a2,a3)|_,_,_,_=>none)
 |_,_=>none
theorem aLI{xs H d}(h:Pr xs H=some d):xs=[.ref 50 0,.e (.i .i64) d.1,.e (.i .i64) d.2.1]/\H=[(50,.box 82 [.own 51,.e (.i .i64) d.2.2.1]),(51,.nest 42 5 .u8 d.2.2.2)]:=by
 unfold Pr at h;split at h
 .split at h
  .rename_i h0 h1 h2 h3;cases h;rw[bG h0,bG h1,bG h2,nU h3];exact⟨rfl,rfl⟩
  .cases h
 .cases h
def Ip(N:Nat):bR:=xB Pr (λd=>kM N d.1 d.2.1 d.2.2.1 d.2.2.2) (λd=>Io (cU N d.1 d.2.1 d.2.2.1 d.2.2.2) (cO N d.1 d.2.1 d.2.2.1 d.2.2.2))
theorem Pq N:aX Tryd.prog 64 (Ip N):=D7 aLI (λd h=>cS (z:=oI N d.1 d.2.1 d.2.2.1 d.2.2.2) h (aLK (aLL N)) rfl)
def Im(a0:Int)(a1:(List bQ)):aM:=(.aU [],[(50,.box 82 [.own 51,.e (.i .i64) a0]),(51,.nest 42 5 .u8 a1)])
def E6(_:Nat):Cx:=⟨Tryd.prog,99999,[],[]⟩
def YT:Code:=Tryd.f65.body.getD .skip
theorem aLF N:aK (E6 N):=cH (by kernel_rfl) .nil .nil
def Po[aB](_:Nat)(c1:UInt8)(h50_0:Int)(h51_0:(List bQ)):O:=
 ck (decide ((0:Int)<=aA.wrap ((↑h51_0.length:Int)-(1:Int))/\aA.wrap ((↑h51_0.length:Int)-(1:Int))<(↑h51_0.length:Int)))<|
 gn h51_0 ((aA.wrap ((↑h51_0.length:Int)-(1:Int))).toNat) λ_=>
 gn h51_0 ((aA.wrap ((↑h51_0.length:Int)-(1:Int))).toNat) λy1=>
 ck (decide ((0:Int)<=(0:Int)/\(0:Int)<(↑y1.length:Int)))<|
 gn h51_0 ((aA.wrap ((↑h51_0.length:Int)-(1:Int))).toNat) λy2=>
 gn y2 0 λ_=>
 some (Im h50_0 (h51_0.set (aA.wrap ((↑h51_0.length:Int)-(1:Int))).toNat (y2.set (0:Nat) c1)))
def YY[aB] N c1 h50_0 h51_0:=Po N c1 h50_0 h51_0
def YS[aB](_:Nat):Hint:=(.fT [] [] [[],[],[],[],[],[],[],[],[],[],[],[],[],[],[51]])
theorem aLD N:bH (E6 N) Tryd.f65.ntmps (YS N) YT:=bS _ _ trivial
theorem aLB[aB] N c1 h50_0 h51_0:Po N c1 h50_0 h51_0=exec (E6 N) Tryd.f65.ntmps (YS N) YT ⟨cA 0 [.ref 50 0,.e .u8 c1],[(50,.box 82 [.own 51,.e (.i .i64) h50_0]),(51,.nest 42 5 .u8 h51_0)],100⟩ (cD (E6 N) Tryd.f65 true):=by kernel_rfl
def Pl(r:aM):Option (Int×(List bQ)):=match r with
 |(.aU [],[(50,.box 82 [.own 51,x0]),(51,x1)])=>(match ue (.i .i64) x0,uq 42 5 .u8 x1 with|some a0,some a1=>some (a0,a1)|_,_=>none)
 |_=>none
theorem aLA{r d}(h:Pl r=some d):r=Im d.1 d.2:=by
 unfold Pl at h;split at h
 .split at h
  .rename_i h0 h1;cases h;rw[bG h0,nU h1];rfl
  .cases h
 .cases h
def p6 N c1 h50_0 h51_0:=(YY N c1 h50_0 h51_0).bind Pl
theorem aLE{N}(hc:aK (E6 N)){c1 h50_0 h51_0 d}(hd:p6 N c1 h50_0 h51_0=some d):cI Tryd.prog 65 [.ref 50 0,.e .u8 c1] [(50,.box 82 [.own 51,.e (.i .i64) h50_0]),(51,.nest 42 5 .u8 h51_0)] (Im d.1 d.2):=
 cJ hc (by kernel_rfl) (by kernel_rfl) (aLD N) (by kernel_rfl) aLA (aLB N c1 h50_0 h51_0).symm.trans hd
def yX N c1 h50_0 h51_0:=(p6 N c1 h50_0 h51_0).isSome
def iN N c1 h50_0 h51_0:=((p6 N c1 h50_0 h51_0).getD (0,[])).1
def iM N c1 h50_0 h51_0:=((p6 N c1 h50_0 h51_0).getD (0,[])).2
def Pm(xs:List X)(H:XH):Option (UInt8×Int×(List bQ)):=match xs,H with
 |[.ref 50 0,x0],[(50,.box 82 [.own 51,x1]),(51,x2)]=>(match ue .u8 x0,ue (.i .i64) x1,uq 42 5 .u8 x2 with|some a0,some a1,some a2=>some (a0,a1,a2)|_,_,_=>none)
 |_,_=>none
theorem aLC{xs H d}(h:Pm xs H=some d):xs=[.ref 50 0,.e .u8 d.1]/\H=[(50,.box 82 [.own 51,.e (.i .i64) d.2.1]),(51,.nest 42 5 .u8 d.2.2)]:=by
 unfold Pm at h;split at h
 .split at h
  .rename_i h0 h1 h2;cases h;rw[bG h0,bG h1,nU h2];exact⟨rfl,rfl⟩
  .cases h
 .cases h
def Pn(N:Nat):bR:=xB Pm (λd=>yX N d.1 d.2.1 d.2.2) (λd=>Im (iN N d.1 d.2.1 d.2.2) (iM N d.1 d.2.1 d.2.2))
theorem YR N:aX Tryd.prog 65 (Pn N):=D7 aLC (λd h=>cS (z:=p6 N d.1 d.2.1 d.2.2) h (aLE (aLF N)) rfl)
def Hc(a0:bQ):aM:=(.own 100,[(100,.row 5 .u8 a0 false)])
def kL(N:Nat):Cx:=⟨Tryd.prog,99999,[(91,Vp N)],[]⟩
def EN:Code:=Tryd.f82.body.getD .skip
theorem aIQ N:aK (kL N):=cH (by kernel_rfl) (.cons (by kernel_rfl) (aHK N) .nil) .nil
def W6[aB](_:Nat)(k0:bQ->Int->O)(x0_0:bQ)(x0_1:Int):O:=
 br (decide (x0_1<0))
  (none)
  (k0 x0_0 x0_1)
def Ou:Code:=cE [1,0] EN
def aIJ:Nm:=⟨[0,1,4],[],[]⟩
def Bg(x:bQ×Int):Sg:=⟨[(0,.e (.sl .u8) x.1),(1,.e (.i .i64) x.2),(4,.bI)],[],100⟩
def Hb(σ:Sg):bQ×Int:=(aC (.sl .u8) 0 0 σ,aC (.i .i64) 1 0 σ)
theorem aIC:∀x,Hb (Bg x)=x:=λ_=>by kernel_rfl
def Hi(y:bQ×Int):Exit×Sg:=(.normal,⟨[(0,.e (.sl .u8) y.1),(1,.e (.i .i64) y.2),(4,.bI)],[],100⟩)
def aHy(_:Exit)(σ:Sg):bQ×Int:=(aC (.sl .u8) 0 0 σ,aC (.i .i64) 1 0 σ)
def aHv:List (Exit×Nm):=[(.normal,⟨[0,1,4],[],[]⟩)]
def Hf[aB](N:Nat)(_:Nat)(x:bQ×Int)(k0:(bQ×Int)->O)(_:(Unit)->O)(_:(Unit)->O):O:=W6 N (λy0 y1=>k0 (y0,y1)) x.1 x.2
def WW[aB] N a0 a1 (k0:bQ->Int->O):=Hf N N (a0,a1) (λy=>k0 y.1 y.2) (λ_=>none) (λ_=>none)
def WT[aB] N a0 a1 (k0:bQ->Int->O):=aP Bg Hb (Hf N N) (Bg (a0,a1)) (λy=>k0 y.1 y.2) (λ_=>none) (λ_=>none)
theorem aIP[aB] N:WT N=WW N:=funext λ_=>funext λ_=>funext λ_=>cL aIC _ _ _ _
theorem aIF[aB](N:Nat)(K:Exit->Sg->O)(x:bQ×Int):W6 N (λy0 y1=>K (Hi (y0,y1)).1 (Hi (y0,y1)).2) x.1 x.2=exec (kL N) Tryd.f82.ntmps .d Ou (Bg x) (kR aHv K):=by kernel_rfl
theorem aIX N (hc:aK (kL N)):cF (kL N) Tryd.f82.ntmps Ou Hi (aN 1) (aN 2) (aP Bg Hb (Hf N N)):=
 mG hc (cX Ou) (eC aHy .normal (λ_=>by kernel_rfl) (λ_=>rfl) (by kernel_rfl)) (λx K=>by
  exact aIF N K x)
def W5[aB](_:Nat)(k0:bQ->Int->O)(x3_0:bQ)(x3_1 x3_2:Int):O:=
 br (decide (0<x3_1)||decide (9223372036854775807<x3_2))
  (none)
  (k0 x3_0 x3_2)
def Ot:Code:=cE [1,1,1,0] EN
def aII:Nm:=⟨[0,4,5,6],[],[]⟩
def Bf(x:bQ×Int×Int):Sg:=⟨[(0,.e (.sl .u8) x.1),(4,.bI),(5,.e (.i .u64) x.2.1),(6,.e (.i .u64) x.2.2)],[],100⟩
def Ha(σ:Sg):bQ×Int×Int:=(aC (.sl .u8) 0 0 σ,aC (.i .u64) 5 0 σ,aC (.i .u64) 6 0 σ)
theorem aIB:∀x,Ha (Bf x)=x:=λ_=>by kernel_rfl
def Hh(y:bQ×Int):Exit×Sg:=(.normal,⟨[(0,.e (.sl .u8) y.1),(4,.bI),(6,.e (.i .u64) y.2)],[],100⟩)
def aHx(_:Exit)(σ:Sg):bQ×Int:=(aC (.sl .u8) 0 0 σ,aC (.i .u64) 6 0 σ)
def aHu:List (Exit×Nm):=[(.normal,⟨[0,4,6],[],[]⟩)]
def He[aB](N:Nat)(_:Nat)(x:bQ×Int×Int)(k0:(bQ×Int)->O)(_:(Unit)->O)(_:(Unit)->O):O:=W5 N (λy0 y1=>k0 (y0,y1)) x.1 x.2.1 x.2.2
def WV[aB] N a0 a1 a2 (k0:bQ->Int->O):=He N N (a0,a1,a2) (λy=>k0 y.1 y.2) (λ_=>none) (λ_=>none)
def WS[aB] N a0 a1 a2 (k0:bQ->Int->O):=aP Bf Ha (He N N) (Bf (a0,a1,a2)) (λy=>k0 y.1 y.2) (λ_=>none) (λ_=>none)
theorem aIO[aB] N:WS N=WV N:=funext λ_=>funext λ_=>funext λ_=>funext λ_=>cL aIB _ _ _ _
theorem aIE[aB](N:Nat)(K:Exit->Sg->O)(x:bQ×Int×Int):W5 N (λy0 y1=>K (Hh (y0,y1)).1 (Hh (y0,y1)).2) x.1 x.2.1 x.2.2=exec (kL N) Tryd.f82.ntmps .d Ot (Bf x) (kR aHu K):=by kernel_rfl
theorem aIW N (hc:aK (kL N)):cF (kL N) Tryd.f82.ntmps Ot Hh (aN 1) (aN 2) (aP Bf Ha (He N N)):=
 mG hc (cX Ot) (eC aHx .normal (λ_=>by kernel_rfl) (λ_=>rfl) (by kernel_rfl)) (λx K=>by
  exact aIE N K x)
def W4[aB](_:Nat)(self:Int->bQ->O)(k0:bQ->O)(x6_0:Int)(x6_1:bQ):O:=
 br (decide (x6_0<(↑x6_1.length:Int)))
  (ck (dX x6_1.length (some x6_0) none)<|
  ck (dX x6_1.length none (some x6_0))<|
  ck (decide ((0:Nat)+(jX x6_1.length (some x6_0)-(0:Nat))<=x6_1.length))<|
  ck (decide (jV (some x6_0)+(jX x6_1.length none-jV (some x6_0))<=x6_1.length))<|
  self (aA.wrap (x6_0+(↑(min (tT (jX x6_1.length (some x6_0)-(0:Nat)) (OQ (0:Nat) x6_1)).length (jX x6_1.length none-jV (some x6_0))):Int))) (tT (jV (some x6_0)) x6_1++tT (jX x6_1.length none-jV (some x6_0)) (tT (jX x6_1.length (some x6_0)-(0:Nat)) (OQ (0:Nat) x6_1))++OQ (jV (some x6_0)+min (tT (jX x6_1.length (some x6_0)-(0:Nat)) (OQ (0:Nat) x6_1)).length (jX x6_1.length none-jV (some x6_0))) x6_1))
  (k0 x6_1)
def Oq:Code:=cE [1,1,1,1,1,1,0,0,0] EN
def WX:Nm:=⟨[4,7,8],[],[]⟩
def yC(x:Int×bQ):Sg:=⟨[(4,.bI),(7,.own 0),(8,.e (.i .i64) x.1)],[(0,.row 5 .u8 x.2 false)],100⟩
def H9(σ:Sg):Int×bQ:=(aC (.i .i64) 8 0 σ,c9 .u8 0 σ)
theorem aIA:∀x,H9 (yC x)=x:=λ_=>by kernel_rfl
def Hg(y:bQ):Exit×Sg:=((.exit 0),⟨[(4,.bI),(7,.own 0)],[(0,.row 5 .u8 y false)],100⟩)
def aHw(_:Exit)(σ:Sg):bQ:=c9 .u8 0 σ
def aHt:List (Exit×Nm):=[((.exit 0),⟨[4,7],[],[]⟩)]
def Be[aB](N:Nat):Nat->(Int×bQ)->((bQ)->O)->((Unit)->O)->((Unit)->O)->O
 |0,_,_,_,_=>none
 |n+1,x,k0,k1,k2=>W4 N (λv0 v1=>Be N n (v0,v1) k0 k1 k2) (λy0=>k0 y0) x.1 x.2
def WU[aB] N a0 a1 (k0:bQ->O):=Be N N (a0,a1) (λy=>k0 y) (λ_=>none) (λ_=>none)
def WR[aB] N a0 a1 (k0:bQ->O):=aP yC H9 (Be N N) (yC (a0,a1)) (λy=>k0 y) (λ_=>none) (λ_=>none)
theorem aIN[aB] N:WR N=WU N:=funext λ_=>funext λ_=>funext λ_=>cL aIA _ _ _ _
def WY[aB](_:Nat):Hint:=(.seq .d (.block (.fT [] [] [[],[],[],[],[],[],[],[0],[],[]])))
theorem aIK N:bH (kL N) Tryd.f82.ntmps (WY N) Oq:=bS _ _ (aF trivial trivial)
theorem aID[aB](N:Nat)(self:Sg->O)(K:Exit->Sg->O)(x:Int×bQ):W4 N (λv0 v1=>self (yC (v0,v1))) (λy0=>K (Hg y0).1 (Hg y0).2) x.1 x.2=exec (kL N) Tryd.f82.ntmps (WY N) Oq (yC x) (cZ WX aHt self K):=by kernel_rfl
theorem aIV N (hc:aK (kL N)):cF (kL N) Tryd.f82.ntmps (.loop Oq) Hg (aN 1) (aN 2) (aP yC H9 (Be N N)):=
 dD hc (aIK N) (eC aHw (.exit 0) (λ_=>by kernel_rfl) (λ_=>rfl) (by kernel_rfl)) (n:=N) (λx K=>dE (Be N) (λ_ _ _ _=>rfl) (λn K ih x=>by
  refine dK ?_ (aID N _ K x);simp only[<-ih];rfl) N x K)
def W3[aB](N:Nat)(in0:bQ->Int->(bQ->Int->O)->O)(in1:bQ->Int->Int->(bQ->Int->O)->O)(in2:Int->bQ->(bQ->O)->O)(x0:bQ)(count1:Int):O:=
 in0 x0 count1
  (λz1 z2=>
   ck (O4 N (IntKind.u64.wrap (↑z1.length:Int)) (IntKind.u64.wrap z2))<|
   in1 z1 (Vo N (IntKind.u64.wrap (↑z1.length:Int)) (IntKind.u64.wrap z2)) (Vn N (IntKind.u64.wrap (↑z1.length:Int)) (IntKind.u64.wrap z2))
    (λz4 z5=>
     ck (decide ((0:Int)<=aA.wrap z5))<|
     ck (b9 (aA.wrap z5).toNat (1:Nat))<|
     ck (decide ((0:Nat)+(bY (aA.wrap z5).toNat (0:UInt8)).length<=(bY (aA.wrap z5).toNat (0:UInt8)).length))<|
     in2 ((↑(min z4.length (bY (aA.wrap z5).toNat (0:UInt8)).length):Int)) (tT (0:Nat) (bY (aA.wrap z5).toNat (0:UInt8))++tT (bY (aA.wrap z5).toNat (0:UInt8)).length z4++OQ ((0:Nat)+min z4.length (bY (aA.wrap z5).toNat (0:UInt8)).length) (bY (aA.wrap z5).toNat (0:UInt8)))
      (λz7=>
       some (Hc z7))))
def w82[aB] N x0 count1:=W3 N (WW N) (WV N) (WU N) x0 count1
def WZ[aB](N:Nat):Hint:=(.seq .d (.seq (.sub aIJ _ _ _ Hi (aN 1) (aN 2) (aP Bg Hb (Hf N N))) (.seq .d (.seq (.sub aII _ _ _ Hh (aN 1) (aN 2) (aP Bf Ha (He N N))) (.seq .d (.seq .d (.seq (.block (.sub WX _ _ _ Hg (aN 1) (aN 2) (aP yC H9 (Be N N)))) .d)))))))
theorem aIL N (hc:aK (kL N)):bH (kL N) Tryd.f82.ntmps (WZ N) EN:=bS _ _ (aF trivial (aF (aIX N hc) (aF trivial (aF (aIW N hc) (aF trivial (aF trivial (aF (aIV N hc) trivial)))))))
theorem aIG[aB] N x0 count1:W3 N (WT N) (WS N) (WR N) x0 count1=exec (kL N) Tryd.f82.ntmps (WZ N) EN ⟨cA 0 [.e (.sl .u8) x0,.e (.i .i64) count1],[],100⟩ (cD (kL N) Tryd.f82 true):=by kernel_rfl
def Oo(r:aM):Option (bQ):=match r with
 |(.own 100,[(100,x0)])=>(match ur 5 .u8 false x0 with|some a0=>some a0|_=>none)
 |_=>none
theorem aHz{r d}(h:Oo r=some d):r=Hc (d):=by
 unfold Oo at h;split at h
 .split at h
  .rename_i h0;cases h;rw[aVw h0];rfl
  .cases h
 .cases h
def uG N x0 count1:=(w82 N x0 count1).bind Oo
theorem aIM{N}(hc:aK (kL N)){x0 count1 d}(hd:uG N x0 count1=some d):cI Tryd.prog 82 [.e (.sl .u8) x0,.e (.i .i64) count1] [] (Hc (d)):=
 cJ hc (by kernel_rfl) (by kernel_rfl) (aIL N hc) (by kernel_rfl) aHz (λhr=>(aIG N x0 count1).symm.trans (by rw[aIP N,aIO N,aIN N];exact hr)) hd
def Hd N x0 count1:=(uG N x0 count1).isSome
def EM N x0 count1:=((uG N x0 count1).getD [])
def W0(N:Nat):bR:=E2 (.sl .u8) (.i .i64) (λx0 x1=>(Hd N x0 x1,Hc (EM N x0 x1)))
theorem aIH N:aX Tryd.prog 82 (W0 N):=aX.e2 (λx0 x1 h=>cS (z:=uG N x0 x1) h (aIM (aIQ N)) rfl)
def Il(a0:Int)(a1:(List bQ)):aM:=(.aU [],[(50,.box 82 [.own 100,.e (.i .i64) a0]),(100,.nest 42 5 .u8 a1)])
def E5(N:Nat):Cx:=⟨Tryd.prog,99999,[(82,W0 N)],[]⟩
def YP:Code:=Tryd.f66.body.getD .skip
theorem aKz N:aK (E5 N):=cH (by kernel_rfl) (.cons (by kernel_rfl) (aIH N) .nil) .nil
def Pk[aB](N:Nat)(h50_0:Int)(h51_0:(List bQ)):O:=
 ck (Hd N [(18:UInt8)] h50_0)<|
 ck (b9 (h51_0.length+[EM N [(18:UInt8)] h50_0].length) (24:Nat))<|
 some (Il h50_0 (h51_0++[EM N [(18:UInt8)] h50_0]))
def YQ[aB] N h50_0 h51_0:=Pk N h50_0 h51_0
def YO[aB](_:Nat):Hint:=(.fT [] [] [[],[],[],[],[],[],[],[],[],[],[],[188,180],[196,51,188],[],[],[50]])
theorem aKx N:bH (E5 N) Tryd.f66.ntmps (YO N) YP:=bS _ _ trivial
theorem aKv[aB] N h50_0 h51_0:Pk N h50_0 h51_0=exec (E5 N) Tryd.f66.ntmps (YO N) YP ⟨cA 0 [.ref 50 0],[(50,.box 82 [.own 51,.e (.i .i64) h50_0]),(51,.nest 42 5 .u8 h51_0)],100⟩ (cD (E5 N) Tryd.f66 true):=by kernel_rfl
def Pc(r:aM):Option (Int×(List bQ)):=match r with
 |(.aU [],[(50,.box 82 [.own 100,x0]),(100,x1)])=>(match ue (.i .i64) x0,uq 42 5 .u8 x1 with|some a0,some a1=>some (a0,a1)|_,_=>none)
 |_=>none
theorem aKu{r d}(h:Pc r=some d):r=Il d.1 d.2:=by
 unfold Pc at h;split at h
 .split at h
  .rename_i h0 h1;cases h;rw[bG h0,nU h1];rfl
  .cases h
 .cases h
def pZ N h50_0 h51_0:=(YQ N h50_0 h51_0).bind Pc
theorem aKy{N}(hc:aK (E5 N)){h50_0 h51_0 d}(hd:pZ N h50_0 h51_0=some d):cI Tryd.prog 66 [.ref 50 0] [(50,.box 82 [.own 51,.e (.i .i64) h50_0]),(51,.nest 42 5 .u8 h51_0)] (Il d.1 d.2):=
 cJ hc (by kernel_rfl) (by kernel_rfl) (aKx N) (by kernel_rfl) aKu (aKv N h50_0 h51_0).symm.trans hd
def uP N h50_0 h51_0:=(pZ N h50_0 h51_0).isSome
def nK N h50_0 h51_0:=((pZ N h50_0 h51_0).getD (0,[])).1
def nJ N h50_0 h51_0:=((pZ N h50_0 h51_0).getD (0,[])).2
def Pd(xs:List X)(H:XH):Option (Int×(List bQ)):=match xs,H with
 |[.ref 50 0],[(50,.box 82 [.own 51,x0]),(51,x1)]=>(match ue (.i .i64) x0,uq 42 5 .u8 x1 with|some a0,some a1=>some (a0,a1)|_,_=>none)
 |_,_=>none
theorem aKw{xs H d}(h:Pd xs H=some d):xs=[.ref 50 0]/\H=[(50,.box 82 [.own 51,.e (.i .i64) d.1]),(51,.nest 42 5 .u8 d.2)]:=by
 unfold Pd at h;split at h
 .split at h
  .rename_i h0 h1;cases h;rw[bG h0,nU h1];exact⟨rfl,rfl⟩
  .cases h
 .cases h
def Pe(N:Nat):bR:=xB Pd (λd=>uP N d.1 d.2) (λd=>Il (nK N d.1 d.2) (nJ N d.1 d.2))
theorem YN N:aX Tryd.prog 66 (Pe N):=D7 aKw (λd h=>cS (z:=pZ N d.1 d.2) h (aKy (aKz N)) rfl)
end
end Go.Proofs
