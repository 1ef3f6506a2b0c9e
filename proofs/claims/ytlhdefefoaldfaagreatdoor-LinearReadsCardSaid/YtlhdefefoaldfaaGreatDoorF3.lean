/- What functions do: the reference. Conditions are in the theorems. -/
import Derived.Test.YtlhdefefoaldfaaGreatDoorE7
import Derived.Test.YtlhdefefoaldfaaGreatDoorProg
import Derived.KernelRfl
import Derived.Test.YtlhdefefoaldfaaGreatDoorF0
open And renaming intro->aH
open Eq renaming trans->gM
open Go.IntKind renaming i64->aB
open Option renaming isSome_iff_exists->sB
/- What functions do. -/
namespace Go.Proofs
noncomputable section
open Go.Ax Go.Ax.aA Go.RowKit Go.Ab
open Go
abbrev lF:=List UInt8
def AY(a0:Int):aC:=(.e (.i .i64) a0,[])
def GO(_:Nat):Cx:=⟨Tryz.prog,25,[],[]⟩
def aDs:Code:=Tryz.f23.body.getD .skip
theorem aUo N:aD (GO N):=bZ (by kernel_rfl) .nil .nil
def TI[aA](_:Nat)(n0 most1:Int):O:=
 br (decide (n0<0))
  (br (decide (most1<1))
   (some (AY 0))
   (ck (decide (most1≠0))<|
   some (AY ((aB.wrap (-aB.wrap (n0+1))).tmod most1))))
  (br (decide (most1<1))
   (some (AY 0))
   (ck (decide (most1≠0))<|
   some (AY (n0.tmod most1))))
def w23[aA] N n0 most1:=TI N n0 most1
def aDr[aA](_:Nat):Hint:=.d
theorem aUm N:bJ (GO N) Tryz.f23.ntmps (aDr N) aDs:=bR _ _ trivial
theorem aUl[aA] N n0 most1:TI N n0 most1=exec (GO N) Tryz.f23.ntmps (aDr N) aDs ⟨bW 0 [.e (.i .i64) n0,.e (.i .i64) most1],[],100⟩ (bX (GO N) Tryz.f23 false):=by kernel_rfl
def TF(r:aC):Option (Int):=match r with
 |(x0,[])=>(match ue (.i .i64) x0 with|some a0=>some a0|_=>none)
 |_=>none
theorem aUk{r d}(h:TF r=some d):r=AY (d):=by
 unfold TF at h;split at h
 .split at h
  .rename_i h0;cases h;rw[aE h0];rfl
  .cases h
 .cases h
def DC N n0 most1:=(w23 N n0 most1).bind TF
theorem aUn{N}(hc:aD (GO N)){n0 most1 d}(hd:DC N n0 most1=some d):cB Tryz.prog 23 [.e (.i .i64) n0,.e (.i .i64) most1] [] (AY (d)):=
 cD hc (by kernel_rfl) (by kernel_rfl) (aUm N) (by kernel_rfl) aUk (aUl N n0 most1).symm.trans hd
def AZ N n0 most1:=(DC N n0 most1).isSome
def oL N n0 most1:=((DC N n0 most1).getD 0)
def TG(N:Nat):bK:=E2 (.i .i64) (.i .i64) (λx0 x1=>(AZ N x0 x1,AY (oL N x0 x1)))
theorem aDq N:aK Tryz.prog 23 (TG N):=aK.e2 (λx0 x1 h=>cV (z:=DC N x0 x1) h (aUn (aUo N)) rfl)
def Ep(a0:Int):aC:=(.e (.i .i64) a0,[])
def Er(N:Nat):Cx:=⟨Tryz.prog,25,[(23,TG N)],[]⟩
def Yy:Code:=Tryz.f85.body.getD .skip
theorem aL1 N:aD (Er N):=bZ (by kernel_rfl) (.cons (by kernel_rfl) (aDq N) .nil) .nil
def Pw[aA](N:Nat)(l0:(List Int))(i1 most2:Int):O:=
 br (decide (i1<0)||decide ((↑l0.length:Int)<=i1))
  (some (Ep 0))
  (gx l0 i1 λy0=>
  ck (AZ N y0 most2)<|
  some (Ep (oL N y0 most2)))
def ZA[aA] N l0 i1 most2:=Pw N l0 i1 most2
def Yw[aA](_:Nat):Hint:=.d
theorem aLZ N:bJ (Er N) Tryz.f85.ntmps (Yw N) Yy:=bR _ _ trivial
theorem aLX[aA] N l0 i1 most2:Pw N l0 i1 most2=exec (Er N) Tryz.f85.ntmps (Yw N) Yy ⟨bW 0 [.e (.sl (.i .i64)) l0,.e (.i .i64) i1,.e (.i .i64) most2],[],100⟩ (bX (Er N) Tryz.f85 false):=by kernel_rfl
def Pv(r:aC):Option (Int):=match r with
 |(x0,[])=>(match ue (.i .i64) x0 with|some a0=>some a0|_=>none)
 |_=>none
theorem aLW{r d}(h:Pv r=some d):r=Ep (d):=by
 unfold Pv at h;split at h
 .split at h
  .rename_i h0;cases h;rw[aE h0];rfl
  .cases h
 .cases h
def Bk N l0 i1 most2:=(ZA N l0 i1 most2).bind Pv
theorem aL0{N}(hc:aD (Er N)){l0 i1 most2 d}(hd:Bk N l0 i1 most2=some d):cB Tryz.prog 85 [.e (.sl (.i .i64)) l0,.e (.i .i64) i1,.e (.i .i64) most2] [] (Ep (d)):=
 cD hc (by kernel_rfl) (by kernel_rfl) (aLZ N) (by kernel_rfl) aLW (aLX N l0 i1 most2).symm.trans hd
def JO N l0 i1 most2:=(Bk N l0 i1 most2).isSome
def JN N l0 i1 most2:=((Bk N l0 i1 most2).getD 0)
def Yx(N:Nat):bK:=E3 (.sl (.i .i64)) (.i .i64) (.i .i64) (λx0 x1 x2=>(JO N x0 x1 x2,Ep (JN N x0 x1 x2)))
theorem aLY N:aK Tryz.prog 85 (Yx N):=aK.e3 (λx0 x1 x2 h=>cV (z:=Bk N x0 x1 x2) h (aL0 (aL1 N)) rfl)
def Kp(a0:Int)(a1:(List Int))(a2:Int):aC:=(.e (.i .i64) a0,[(50,.box 77 [.e (.sl (.i .i64)) a1,.e (.i .i64) a2])])
def Fe(N:Nat):Cx:=⟨Tryz.prog,25,[(85,Yx N)],[]⟩
def aB7:Code:=Tryz.f55.body.getD .skip
theorem aQJ N:aD (Fe N):=bZ (by kernel_rfl) (.cons (by kernel_rfl) (aLY N) .nil) .nil
def Rb[aA](N:Nat)(n1:Int)(g0:(List Int))(g1:Int):O:=
 ck (JO N g0 (aB.wrap (aB.wrap (g1+1)-(1:Int))) n1)<|
 some (Kp (JN N g0 (aB.wrap (aB.wrap (g1+1)-(1:Int))) n1) g0 (aB.wrap (g1+1)))
def w55[aA] N n1 g0 g1:=Rb N n1 g0 g1
def aB6[aA](_:Nat):Hint:=.d
theorem aQH N:bJ (Fe N) Tryz.f55.ntmps (aB6 N) aB7:=bR _ _ trivial
theorem aQF[aA] N n1 g0 g1:Rb N n1 g0 g1=exec (Fe N) Tryz.f55.ntmps (aB6 N) aB7 ⟨bW 0 [.ref 50 0,.e (.i .i64) n1],[(50,.box 77 [.e (.sl (.i .i64)) g0,.e (.i .i64) g1])],100⟩ (bX (Fe N) Tryz.f55 false):=by kernel_rfl
def RX(r:aC):Option (Int×(List Int)×Int):=match r with
 |(x0,[(50,.box 77 [x1,x2])])=>(match ue (.i .i64) x0,ue (.sl (.i .i64)) x1,ue (.i .i64) x2 with|some a0,some a1,some a2=>some (a0,a1,a2)|_,_,_=>none)
 |_=>none
theorem aQE{r d}(h:RX r=some d):r=Kp d.1 d.2.1 d.2.2:=by
 unfold RX at h;split at h
 .split at h
  .rename_i h0 h1 h2;cases h;rw[aE h0,aE h1,aE h2];rfl
  .cases h
 .cases h
def vQ N n1 g0 g1:=(w55 N n1 g0 g1).bind RX
theorem aQI{N}(hc:aD (Fe N)){n1 g0 g1 d}(hd:vQ N n1 g0 g1=some d):cB Tryz.prog 55 [.ref 50 0,.e (.i .i64) n1] [(50,.box 77 [.e (.sl (.i .i64)) g0,.e (.i .i64) g1])] (Kp d.1 d.2.1 d.2.2):=
 cD hc (by kernel_rfl) (by kernel_rfl) (aQH N) (by kernel_rfl) aQE (aQF N n1 g0 g1).symm.trans hd
def vR N n1 g0 g1:=(vQ N n1 g0 g1).isSome
def sU N n1 g0 g1:=((vQ N n1 g0 g1).getD (0,[],0)).1
def iD N n1 g0 g1:=((vQ N n1 g0 g1).getD (0,[],0)).2.1
def iC N n1 g0 g1:=((vQ N n1 g0 g1).getD (0,[],0)).2.2
def RY(xs:List X)(H:XH):Option (Int×(List Int)×Int):=match xs,H with
 |[.ref 50 0,x0],[(50,.box 77 [x1,x2])]=>(match ue (.i .i64) x0,ue (.sl (.i .i64)) x1,ue (.i .i64) x2 with|some a0,some a1,some a2=>some (a0,a1,a2)|_,_,_=>none)
 |_,_=>none
theorem aQG{xs H d}(h:RY xs H=some d):xs=[.ref 50 0,.e (.i .i64) d.1]/\H=[(50,.box 77 [.e (.sl (.i .i64)) d.2.1,.e (.i .i64) d.2.2])]:=by
 unfold RY at h;split at h
 .split at h
  .rename_i h0 h1 h2;cases h;rw[aE h0,aE h1,aE h2];exact⟨rfl,rfl⟩
  .cases h
 .cases h
def RZ(N:Nat):bK:=eU RY (λd=>vR N d.1 d.2.1 d.2.2) (λd=>Kp (sU N d.1 d.2.1 d.2.2) (iD N d.1 d.2.1 d.2.2) (iC N d.1 d.2.1 d.2.2))
theorem aB5 N:aK Tryz.prog 55 (RZ N):=eH aQG (λd h=>cV (z:=vQ N d.1 d.2.1 d.2.2) h (aQI (aQJ N)) rfl)
def mW(a0 a1:Int)(a2:(List Ex))(a3:(List Int))(a4:Int):aC:=(.agg [.e (.i .i64) a0,.e (.i .i64) a1,.e (.sl .ex) a2],[(50,.box 77 [.e (.sl (.i .i64)) a3,.e (.i .i64) a4])])
def Ki(xs:List X)(H:XH):Option (Int×(List Int)×Int):=match xs,H with
 |[.ref 50 0,x0],[(50,.box 77 [x1,x2])]=>(match ue (.i .i64) x0,ue (.sl (.i .i64)) x1,ue (.i .i64) x2 with|some a0,some a1,some a2=>some (a0,a1,a2)|_,_,_=>none)
 |_,_=>none
theorem aBU{xs H d}(h:Ki xs H=some d):xs=[.ref 50 0,.e (.i .i64) d.1]/\H=[(50,.box 77 [.e (.sl (.i .i64)) d.2.1,.e (.i .i64) d.2.2])]:=by
 unfold Ki at h;split at h
 .split at h
  .rename_i h0 h1 h2;cases h;rw[aE h0,aE h1,aE h2];exact⟨rfl,rfl⟩
  .cases h
 .cases h
abbrev kN:=Nat×((Int->(List Int)->Int->Option (Int×Int×(List Ex)×(List Int)×Int)))
def RW(N:kN):bK:=eU Ki (λd=>(N.2 d.1 d.2.1 d.2.2).isSome) (λd=>mW (((N.2 d.1 d.2.1 d.2.2).getD (0,0,[],[],0)).1) (((N.2 d.1 d.2.1 d.2.2).getD (0,0,[],[],0)).2.1) (((N.2 d.1 d.2.1 d.2.2).getD (0,0,[],[],0)).2.2.1) (((N.2 d.1 d.2.1 d.2.2).getD (0,0,[],[],0)).2.2.2.1) (((N.2 d.1 d.2.1 d.2.2).getD (0,0,[],[],0)).2.2.2.2))
def jJ(N:kN):Cx:=⟨Tryz.prog,25,[(56,RW N),(55,RZ N.1)],[]⟩
def CX:Code:=Tryz.f56.body.getD .skip
theorem aPz N (hw49:aK Tryz.prog 56 (RW N)):aD (jJ N):=bZ (by kernel_rfl) (.cons (by kernel_rfl) hw49 (.cons (by kernel_rfl) (aB5 N.1) .nil)) .nil
def RU[aA](_:kN)(k0:Int->Int->(List Int)->Int->Int->Int->O)(x0_0 x0_1:Int)(x0_2:(List Int))(x0_3 x0_4 x0_5:Int):O:=
 br (decide (x0_0<=1)||decide ((↑x0_2.length:Int)<x0_3))
  (ck true <|
  k0 x0_0 (x0_1.tmod (4:Int)) x0_2 x0_3 x0_4 x0_5)
  (k0 x0_0 x0_1 x0_2 x0_3 x0_4 x0_5)
def RS:Code:=cP [1,1,0] CX
def aPt:Nm:=⟨[0,1,4,5],[],[]⟩
def C1(x:Int×Int×(List Int)×Int×Int×Int):Sg:=⟨[(0,.ref 50 0),(1,.e (.i .i64) x.1),(4,.ref 0 0),(5,.e (.i .i64) x.2.1)],[(50,.box 77 [.e (.sl (.i .i64)) x.2.2.1,.e (.i .i64) x.2.2.2.1]),(0,.box 25 [.e (.i .i64) x.2.2.2.2.1,.e (.i .i64) x.2.2.2.2.2,.cH])],100⟩
def Ke(σ:Sg):Int×Int×(List Int)×Int×Int×Int:=(aW (.i .i64) 1 0 σ,aW (.i .i64) 5 0 σ,aL (.sl (.i .i64)) 50 0 σ,aL (.i .i64) 50 1 σ,aL (.i .i64) 0 0 σ,aL (.i .i64) 0 1 σ)
theorem aPj:∀x,Ke (C1 x)=x:=λ_=>by kernel_rfl
def Ko(y:Int×Int×(List Int)×Int×Int×Int):Exit×Sg:=(.normal,⟨[(0,.ref 50 0),(1,.e (.i .i64) y.1),(4,.ref 0 0),(5,.e (.i .i64) y.2.1)],[(50,.box 77 [.e (.sl (.i .i64)) y.2.2.1,.e (.i .i64) y.2.2.2.1]),(0,.box 25 [.e (.i .i64) y.2.2.2.2.1,.e (.i .i64) y.2.2.2.2.2,.cH])],100⟩)
def aPe(_:Exit)(σ:Sg):Int×Int×(List Int)×Int×Int×Int:=(aW (.i .i64) 1 0 σ,aW (.i .i64) 5 0 σ,aL (.sl (.i .i64)) 50 0 σ,aL (.i .i64) 50 1 σ,aL (.i .i64) 0 0 σ,aL (.i .i64) 0 1 σ)
def aP9:List (Exit×Nm):=[(.normal,⟨[0,1,4,5],[],[]⟩)]
def Fc[aA](N:kN)(_:Nat)(x:Int×Int×(List Int)×Int×Int×Int)(k0:(Int×Int×(List Int)×Int×Int×Int)->O)(_:(Unit)->O)(_:(Unit)->O):O:=RU N (λy0 y1 y2 y3 y4 y5=>k0 (y0,y1,y2,y3,y4,y5)) x.1 x.2.1 x.2.2.1 x.2.2.2.1 x.2.2.2.2.1 x.2.2.2.2.2
def RO[aA] N a0 a1 a2 a3 a4 a5 (k0:Int->Int->(List Int)->Int->Int->Int->O):=Fc N N.1 (a0,a1,a2,a3,a4,a5) (λy=>k0 y.1 y.2.1 y.2.2.1 y.2.2.2.1 y.2.2.2.2.1 y.2.2.2.2.2) (λ_=>none) (λ_=>none)
def aBT[aA] N a0 a1 a2 a3 a4 a5 (k0:Int->Int->(List Int)->Int->Int->Int->O):=bB C1 Ke (Fc N N.1) (C1 (a0,a1,a2,a3,a4,a5)) (λy=>k0 y.1 y.2.1 y.2.2.1 y.2.2.2.1 y.2.2.2.2.1 y.2.2.2.2.2) (λ_=>none) (λ_=>none)
theorem aPy[aA] N:aBT N=RO N:=funext λ_=>funext λ_=>funext λ_=>funext λ_=>funext λ_=>funext λ_=>funext λ_=>dD aPj _ _ _ _
theorem aPn[aA](N:kN)(K:Exit->Sg->O)(x:Int×Int×(List Int)×Int×Int×Int):RU N (λy0 y1 y2 y3 y4 y5=>K (Ko (y0,y1,y2,y3,y4,y5)).1 (Ko (y0,y1,y2,y3,y4,y5)).2) x.1 x.2.1 x.2.2.1 x.2.2.2.1 x.2.2.2.2.1 x.2.2.2.2.2=exec (jJ N) Tryz.f56.ntmps .d RS (C1 x) (iH aP9 K):=by kernel_rfl
theorem aQD N (hc:aD (jJ N)):cU (jJ N) Tryz.f56.ntmps RS Ko (aV 1) (aV 2) (bB C1 Ke (Fc N N.1)):=
 jL hc (cT RS) (fF aPe .normal (λ_=>by kernel_rfl) (λ_=>rfl) (by kernel_rfl)) (λx K=>by
  exact aPn N K x)
def aB3[aA](_:kN)(k0:Int->Int->Int->Bool->(List Int)->Int->Int->Int->O)(x74_0 x74_1 x74_2:Int)(x74_3:(List Int))(x74_4 x74_5 x74_6:Int):O:=
 br (decide (x74_2=0))
  (k0 x74_0 x74_1 x74_2 (decide (x74_2=0)) x74_3 x74_4 x74_5 x74_6)
  (k0 x74_0 x74_1 x74_2 (decide (x74_2=1)) x74_3 x74_4 x74_5 x74_6)
def RR:Code:=cP [1,1,1,0,1,0,0] CX
def aPs:Nm:=⟨[0,1,4,5,27],[],[]⟩
def C0(x:Int×Int×Int×(List Int)×Int×Int×Int):Sg:=⟨[(0,.ref 50 0),(1,.e (.i .i64) x.1),(4,.ref 0 0),(5,.e (.i .i64) x.2.1),(27,.e (.i .i64) x.2.2.1)],[(50,.box 77 [.e (.sl (.i .i64)) x.2.2.2.1,.e (.i .i64) x.2.2.2.2.1]),(0,.box 25 [.e (.i .i64) x.2.2.2.2.2.1,.e (.i .i64) x.2.2.2.2.2.2,.cH])],100⟩
def Kc(σ:Sg):Int×Int×Int×(List Int)×Int×Int×Int:=(aW (.i .i64) 1 0 σ,aW (.i .i64) 5 0 σ,aW (.i .i64) 27 0 σ,aL (.sl (.i .i64)) 50 0 σ,aL (.i .i64) 50 1 σ,aL (.i .i64) 0 0 σ,aL (.i .i64) 0 1 σ)
theorem aPi:∀x,Kc (C0 x)=x:=λ_=>by kernel_rfl
def Kn(y:Int×Int×Int×Bool×(List Int)×Int×Int×Int):Exit×Sg:=(.normal,⟨[(0,.ref 50 0),(1,.e (.i .i64) y.1),(4,.ref 0 0),(5,.e (.i .i64) y.2.1),(27,.e (.i .i64) y.2.2.1),(28,.e .bo y.2.2.2.1)],[(50,.box 77 [.e (.sl (.i .i64)) y.2.2.2.2.1,.e (.i .i64) y.2.2.2.2.2.1]),(0,.box 25 [.e (.i .i64) y.2.2.2.2.2.2.1,.e (.i .i64) y.2.2.2.2.2.2.2,.cH])],100⟩)
def aPd(_:Exit)(σ:Sg):Int×Int×Int×Bool×(List Int)×Int×Int×Int:=(aW (.i .i64) 1 0 σ,aW (.i .i64) 5 0 σ,aW (.i .i64) 27 0 σ,aW .bo 28 0 σ,aL (.sl (.i .i64)) 50 0 σ,aL (.i .i64) 50 1 σ,aL (.i .i64) 0 0 σ,aL (.i .i64) 0 1 σ)
def aP8:List (Exit×Nm):=[(.normal,⟨[0,1,4,5,27,28],[],[]⟩)]
def Kh[aA](N:kN)(_:Nat)(x:Int×Int×Int×(List Int)×Int×Int×Int)(k0:(Int×Int×Int×Bool×(List Int)×Int×Int×Int)->O)(_:(Unit)->O)(_:(Unit)->O):O:=aB3 N (λy0 y1 y2 y3 y4 y5 y6 y7=>k0 (y0,y1,y2,y3,y4,y5,y6,y7)) x.1 x.2.1 x.2.2.1 x.2.2.2.1 x.2.2.2.2.1 x.2.2.2.2.2.1 x.2.2.2.2.2.2
def RN[aA] N a0 a1 a2 a3 a4 a5 a6 (k0:Int->Int->Int->Bool->(List Int)->Int->Int->Int->O):=Kh N N.1 (a0,a1,a2,a3,a4,a5,a6) (λy=>k0 y.1 y.2.1 y.2.2.1 y.2.2.2.1 y.2.2.2.2.1 y.2.2.2.2.2.1 y.2.2.2.2.2.2.1 y.2.2.2.2.2.2.2) (λ_=>none) (λ_=>none)
def RL[aA] N a0 a1 a2 a3 a4 a5 a6 (k0:Int->Int->Int->Bool->(List Int)->Int->Int->Int->O):=bB C0 Kc (Kh N N.1) (C0 (a0,a1,a2,a3,a4,a5,a6)) (λy=>k0 y.1 y.2.1 y.2.2.1 y.2.2.2.1 y.2.2.2.2.1 y.2.2.2.2.2.1 y.2.2.2.2.2.2.1 y.2.2.2.2.2.2.2) (λ_=>none) (λ_=>none)
theorem aBZ[aA] N:RL N=RN N:=funext λ_=>funext λ_=>funext λ_=>funext λ_=>funext λ_=>funext λ_=>funext λ_=>funext λ_=>dD aPi _ _ _ _
theorem aPm[aA](N:kN)(K:Exit->Sg->O)(x:Int×Int×Int×(List Int)×Int×Int×Int):aB3 N (λy0 y1 y2 y3 y4 y5 y6 y7=>K (Kn (y0,y1,y2,y3,y4,y5,y6,y7)).1 (Kn (y0,y1,y2,y3,y4,y5,y6,y7)).2) x.1 x.2.1 x.2.2.1 x.2.2.2.1 x.2.2.2.2.1 x.2.2.2.2.2.1 x.2.2.2.2.2.2=exec (jJ N) Tryz.f56.ntmps .d RR (C0 x) (iH aP8 K):=by kernel_rfl
theorem aQC N (hc:aD (jJ N)):cU (jJ N) Tryz.f56.ntmps RR Kn (aV 1) (aV 2) (bB C0 Kc (Kh N N.1)):=
 jL hc (cT RR) (fF aPd .normal (λ_=>by kernel_rfl) (λ_=>rfl) (by kernel_rfl)) (λx K=>by
  exact aPm N K x)
def aB2[aA](_:kN)(k0:Int->Int->Int->Bool->(List Int)->Int->Int->Int->O)(x84_0 x84_1 x84_2:Int)(x84_3:(List Int))(x84_4 x84_5 x84_6:Int):O:=
 br (decide (x84_2=2))
  (k0 x84_0 x84_1 x84_2 (decide (x84_2=2)) x84_3 x84_4 x84_5 x84_6)
  (k0 x84_0 x84_1 x84_2 (decide (x84_2=3)) x84_3 x84_4 x84_5 x84_6)
def RQ:Code:=cP [1,1,1,0,1,0,1,1,0] CX
def aPr:Nm:=⟨[0,1,4,5,27],[],[]⟩
def CZ(x:Int×Int×Int×(List Int)×Int×Int×Int):Sg:=⟨[(0,.ref 50 0),(1,.e (.i .i64) x.1),(4,.ref 0 0),(5,.e (.i .i64) x.2.1),(27,.e (.i .i64) x.2.2.1)],[(50,.box 77 [.e (.sl (.i .i64)) x.2.2.2.1,.e (.i .i64) x.2.2.2.2.1]),(0,.box 25 [.e (.i .i64) x.2.2.2.2.2.1,.e (.i .i64) x.2.2.2.2.2.2,.cH])],100⟩
def Kb(σ:Sg):Int×Int×Int×(List Int)×Int×Int×Int:=(aW (.i .i64) 1 0 σ,aW (.i .i64) 5 0 σ,aW (.i .i64) 27 0 σ,aL (.sl (.i .i64)) 50 0 σ,aL (.i .i64) 50 1 σ,aL (.i .i64) 0 0 σ,aL (.i .i64) 0 1 σ)
theorem aPh:∀x,Kb (CZ x)=x:=λ_=>by kernel_rfl
def Km(y:Int×Int×Int×Bool×(List Int)×Int×Int×Int):Exit×Sg:=(.normal,⟨[(0,.ref 50 0),(1,.e (.i .i64) y.1),(4,.ref 0 0),(5,.e (.i .i64) y.2.1),(27,.e (.i .i64) y.2.2.1),(37,.e .bo y.2.2.2.1)],[(50,.box 77 [.e (.sl (.i .i64)) y.2.2.2.2.1,.e (.i .i64) y.2.2.2.2.2.1]),(0,.box 25 [.e (.i .i64) y.2.2.2.2.2.2.1,.e (.i .i64) y.2.2.2.2.2.2.2,.cH])],100⟩)
def aPc(_:Exit)(σ:Sg):Int×Int×Int×Bool×(List Int)×Int×Int×Int:=(aW (.i .i64) 1 0 σ,aW (.i .i64) 5 0 σ,aW (.i .i64) 27 0 σ,aW .bo 37 0 σ,aL (.sl (.i .i64)) 50 0 σ,aL (.i .i64) 50 1 σ,aL (.i .i64) 0 0 σ,aL (.i .i64) 0 1 σ)
def aP7:List (Exit×Nm):=[(.normal,⟨[0,1,4,5,27,37],[],[]⟩)]
def Kg[aA](N:kN)(_:Nat)(x:Int×Int×Int×(List Int)×Int×Int×Int)(k0:(Int×Int×Int×Bool×(List Int)×Int×Int×Int)->O)(_:(Unit)->O)(_:(Unit)->O):O:=aB2 N (λy0 y1 y2 y3 y4 y5 y6 y7=>k0 (y0,y1,y2,y3,y4,y5,y6,y7)) x.1 x.2.1 x.2.2.1 x.2.2.2.1 x.2.2.2.2.1 x.2.2.2.2.2.1 x.2.2.2.2.2.2
def RM[aA] N a0 a1 a2 a3 a4 a5 a6 (k0:Int->Int->Int->Bool->(List Int)->Int->Int->Int->O):=Kg N N.1 (a0,a1,a2,a3,a4,a5,a6) (λy=>k0 y.1 y.2.1 y.2.2.1 y.2.2.2.1 y.2.2.2.2.1 y.2.2.2.2.2.1 y.2.2.2.2.2.2.1 y.2.2.2.2.2.2.2) (λ_=>none) (λ_=>none)
def RJ[aA] N a0 a1 a2 a3 a4 a5 a6 (k0:Int->Int->Int->Bool->(List Int)->Int->Int->Int->O):=bB CZ Kb (Kg N N.1) (CZ (a0,a1,a2,a3,a4,a5,a6)) (λy=>k0 y.1 y.2.1 y.2.2.1 y.2.2.2.1 y.2.2.2.2.1 y.2.2.2.2.2.1 y.2.2.2.2.2.2.1 y.2.2.2.2.2.2.2) (λ_=>none) (λ_=>none)
theorem aBY[aA] N:RJ N=RM N:=funext λ_=>funext λ_=>funext λ_=>funext λ_=>funext λ_=>funext λ_=>funext λ_=>funext λ_=>dD aPh _ _ _ _
theorem aPl[aA](N:kN)(K:Exit->Sg->O)(x:Int×Int×Int×(List Int)×Int×Int×Int):aB2 N (λy0 y1 y2 y3 y4 y5 y6 y7=>K (Km (y0,y1,y2,y3,y4,y5,y6,y7)).1 (Km (y0,y1,y2,y3,y4,y5,y6,y7)).2) x.1 x.2.1 x.2.2.1 x.2.2.2.1 x.2.2.2.2.1 x.2.2.2.2.2.1 x.2.2.2.2.2.2=exec (jJ N) Tryz.f56.ntmps .d RQ (CZ x) (iH aP7 K):=by kernel_rfl
theorem aQB N (hc:aD (jJ N)):cU (jJ N) Tryz.f56.ntmps RQ Km (aV 1) (aV 2) (bB CZ Kb (Kg N N.1)):=
 jL hc (cT RQ) (fF aPc .normal (λ_=>by kernel_rfl) (λ_=>rfl) (by kernel_rfl)) (λx K=>by
  exact aPl N K x)
def aB1[aA](N:kN)(in1:Int->Int->Int->(List Int)->Int->Int->Int->(Int->Int->Int->Bool->(List Int)->Int->Int->Int->O)->O)(in2:Int->Int->Int->(List Int)->Int->Int->Int->(Int->Int->Int->Bool->(List Int)->Int->Int->Int->O)->O)(k0:(List Int)->Int->Int->Int->(List Ex)->O)(k1:Int->Int->(List Int)->Int->Int->Int->O)(x7_0 x7_1:Int)(x7_2:(List Int))(x7_3 x7_4 x7_5:Int):O:=
 in1 x7_0 x7_1 x7_1 x7_2 x7_3 x7_4 x7_5
  (λz75 z76 z77 z78 z79 z80 z81 z82=>
   br z78
    (ck (vR N.1 (6:Int) z79 z80)<|
    gx [(0:Int),(1:Int),(2:Int),(10:Int),(47:Int),(999999:Int)] (sU N.1 (6:Int) z79 z80) λy83=>
    k0 (iD N.1 (6:Int) z79 z80) (iC N.1 (6:Int) z79 z80) 0 y83 [])
    (in2 z75 z76 z77 z79 z80 z81 z82
     (λz85 z86 z87 z88 z89 z90 z91 z92=>
      br z88
       (ck (vR N.1 (5:Int) z89 z90)<|
       gx [(0:Int),(1:Int),(2:Int),(23:Int),(25:Int)] (sU N.1 (5:Int) z89 z90) λy93=>
       k0 (iD N.1 (5:Int) z89 z90) (iC N.1 (5:Int) z89 z90) 1 y93 [])
       (br (decide (z87=4))
        (br (decide (z87=4))
         (gx [(2:Int),(8:Int)] (aB.wrap (z86-4)) λy94=>
         ck ((N.2 (aB.wrap (z85-1)) z89 z90).isSome)<|
         k0 (((N.2 (aB.wrap (z85-1)) z89 z90).getD ((0:Int),(0:Int),[],[],(0:Int))).2.2.2.1) (((N.2 (aB.wrap (z85-1)) z89 z90).getD ((0:Int),(0:Int),[],[],(0:Int))).2.2.2.2) y94 0 [Ex.mk ((N.2 (aB.wrap (z85-1)) z89 z90).getD ((0:Int),(0:Int),[],[],(0:Int))).1 ((N.2 (aB.wrap (z85-1)) z89 z90).getD ((0:Int),(0:Int),[],[],(0:Int))).2.1 ((N.2 (aB.wrap (z85-1)) z89 z90).getD ((0:Int),(0:Int),[],[],(0:Int))).2.2.1])
         (k1 z85 z86 z89 z90 z91 z92))
        (br (decide (z87=5))
         (gx [(2:Int),(8:Int)] (aB.wrap (z86-4)) λy95=>
         ck ((N.2 (aB.wrap (z85-1)) z89 z90).isSome)<|
         k0 (((N.2 (aB.wrap (z85-1)) z89 z90).getD ((0:Int),(0:Int),[],[],(0:Int))).2.2.2.1) (((N.2 (aB.wrap (z85-1)) z89 z90).getD ((0:Int),(0:Int),[],[],(0:Int))).2.2.2.2) y95 0 [Ex.mk ((N.2 (aB.wrap (z85-1)) z89 z90).getD ((0:Int),(0:Int),[],[],(0:Int))).1 ((N.2 (aB.wrap (z85-1)) z89 z90).getD ((0:Int),(0:Int),[],[],(0:Int))).2.1 ((N.2 (aB.wrap (z85-1)) z89 z90).getD ((0:Int),(0:Int),[],[],(0:Int))).2.2.1])
         (k1 z85 z86 z89 z90 z91 z92))))))
def RP:Code:=cP [1,1,1,0] CX
def aPq:Nm:=⟨[0,1,4,5],[],[]⟩
def CY(x:Int×Int×(List Int)×Int×Int×Int):Sg:=⟨[(0,.ref 50 0),(1,.e (.i .i64) x.1),(4,.ref 0 0),(5,.e (.i .i64) x.2.1)],[(50,.box 77 [.e (.sl (.i .i64)) x.2.2.1,.e (.i .i64) x.2.2.2.1]),(0,.box 25 [.e (.i .i64) x.2.2.2.2.1,.e (.i .i64) x.2.2.2.2.2,.cH])],100⟩
def Ka(σ:Sg):Int×Int×(List Int)×Int×Int×Int:=(aW (.i .i64) 1 0 σ,aW (.i .i64) 5 0 σ,aL (.sl (.i .i64)) 50 0 σ,aL (.i .i64) 50 1 σ,aL (.i .i64) 0 0 σ,aL (.i .i64) 0 1 σ)
theorem aPg:∀x,Ka (CY x)=x:=λ_=>by kernel_rfl
def Kl(y:(List Int)×Int×Int×Int×(List Ex)):Exit×Sg:=(.ret,⟨[(4,.ref 0 0)],[(50,.box 77 [.e (.sl (.i .i64)) y.1,.e (.i .i64) y.2.1]),(0,.box 25 [.e (.i .i64) y.2.2.1,.e (.i .i64) y.2.2.2.1,.own 1]),(1,.row 25 .ex y.2.2.2.2 true)],100⟩)
def aPb(_:Exit)(σ:Sg):(List Int)×Int×Int×Int×(List Ex):=(aL (.sl (.i .i64)) 50 0 σ,aL (.i .i64) 50 1 σ,aL (.i .i64) 0 0 σ,aL (.i .i64) 0 1 σ,fX .ex 1 σ)
def Kk(y:Int×Int×(List Int)×Int×Int×Int):Exit×Sg:=(.normal,⟨[(0,.ref 50 0),(1,.e (.i .i64) y.1),(4,.ref 0 0),(5,.e (.i .i64) y.2.1)],[(50,.box 77 [.e (.sl (.i .i64)) y.2.2.1,.e (.i .i64) y.2.2.2.1]),(0,.box 25 [.e (.i .i64) y.2.2.2.2.1,.e (.i .i64) y.2.2.2.2.2,.cH])],100⟩)
def aPa(_:Exit)(σ:Sg):Int×Int×(List Int)×Int×Int×Int:=(aW (.i .i64) 1 0 σ,aW (.i .i64) 5 0 σ,aL (.sl (.i .i64)) 50 0 σ,aL (.i .i64) 50 1 σ,aL (.i .i64) 0 0 σ,aL (.i .i64) 0 1 σ)
def aP6:List (Exit×Nm):=[(.ret,⟨[4],[],[.OI 4 2 (.row 25 .ex [] true)]⟩),(.normal,⟨[0,1,4,5],[],[]⟩)]
def Kf[aA](N:kN)(_:Nat)(x:Int×Int×(List Int)×Int×Int×Int)(k0:((List Int)×Int×Int×Int×(List Ex))->O)(k1:(Int×Int×(List Int)×Int×Int×Int)->O)(_:(Unit)->O):O:=aB1 N (RN N) (RM N) (λy0 y1 y2 y3 y4=>k0 (y0,y1,y2,y3,y4)) (λy0 y1 y2 y3 y4 y5=>k1 (y0,y1,y2,y3,y4,y5)) x.1 x.2.1 x.2.2.1 x.2.2.2.1 x.2.2.2.2.1 x.2.2.2.2.2
def lJ[aA] N a0 a1 a2 a3 a4 a5 (k0:(List Int)->Int->Int->Int->(List Ex)->O) (k1:Int->Int->(List Int)->Int->Int->Int->O):=Kf N N.1 (a0,a1,a2,a3,a4,a5) (λy=>k0 y.1 y.2.1 y.2.2.1 y.2.2.2.1 y.2.2.2.2) (λy=>k1 y.1 y.2.1 y.2.2.1 y.2.2.2.1 y.2.2.2.2.1 y.2.2.2.2.2) (λ_=>none)
def aBS[aA] N a0 a1 a2 a3 a4 a5 (k0:(List Int)->Int->Int->Int->(List Ex)->O) (k1:Int->Int->(List Int)->Int->Int->Int->O):=bB CY Ka (Kf N N.1) (CY (a0,a1,a2,a3,a4,a5)) (λy=>k0 y.1 y.2.1 y.2.2.1 y.2.2.2.1 y.2.2.2.2) (λy=>k1 y.1 y.2.1 y.2.2.1 y.2.2.2.1 y.2.2.2.2.1 y.2.2.2.2.2) (λ_=>none)
theorem aPx[aA] N:aBS N=lJ N:=funext λ_=>funext λ_=>funext λ_=>funext λ_=>funext λ_=>funext λ_=>funext λ_=>funext λ_=>dD aPg _ _ _ _
def aBV[aA](N:kN):Hint:=(.seq .d (.block (.seq (.sub aPs _ _ _ Kn (aV 1) (aV 2) (bB C0 Kc (Kh N N.1))) (.cond .d (.seq (.sub aPr _ _ _ Km (aV 1) (aV 2) (bB CZ Kb (Kg N N.1))) (.cond .d (.seq .d (.cond (.seq (.gO [] [] [[],[],[],[],[],[],[],[],[50],[],[],[0]]) .d) .d))))))))
theorem aPu N (hc:aD (jJ N)):bJ (jJ N) Tryz.f56.ntmps (aBV N) RP:=bR _ _ (aH trivial (aH (aQC N hc) (aH trivial (aH (aQB N hc) (aH trivial (aH trivial (aH (aH trivial trivial) trivial)))))))
theorem aPk[aA](N:kN)(K:Exit->Sg->O)(x:Int×Int×(List Int)×Int×Int×Int):aB1 N (RL N) (RJ N) (λy0 y1 y2 y3 y4=>K (Kl (y0,y1,y2,y3,y4)).1 (Kl (y0,y1,y2,y3,y4)).2) (λy0 y1 y2 y3 y4 y5=>K (Kk (y0,y1,y2,y3,y4,y5)).1 (Kk (y0,y1,y2,y3,y4,y5)).2) x.1 x.2.1 x.2.2.1 x.2.2.2.1 x.2.2.2.2.1 x.2.2.2.2.2=exec (jJ N) Tryz.f56.ntmps (aBV N) RP (CY x) (iH aP6 K):=by kernel_rfl
theorem aQA N (hc:aD (jJ N)):cU (jJ N) Tryz.f56.ntmps RP Kl Kk (aV 2) (bB CY Ka (Kf N N.1)):=
 jL hc (aPu N hc) (kS aPb aPa .ret .normal (λ_=>by kernel_rfl) (λ_=>by kernel_rfl) (λ_=>rfl) (λ_=>rfl) (by kernel_rfl)) (λx K=>by
  have q:=aPk N K x;rw[aBZ N,aBY N]at q;exact q)
def RT[aA](N:kN)(in0:Int->Int->(List Int)->Int->Int->Int->(Int->Int->(List Int)->Int->Int->Int->O)->O)(_in1:Int->Int->Int->(List Int)->Int->Int->Int->(Int->Int->Int->Bool->(List Int)->Int->Int->Int->O)->O)(_in2:Int->Int->Int->(List Int)->Int->Int->Int->(Int->Int->Int->Bool->(List Int)->Int->Int->Int->O)->O)(in3:Int->Int->(List Int)->Int->Int->Int->((List Int)->Int->Int->Int->(List Ex)->O)->(Int->Int->(List Int)->Int->Int->Int->O)->O)(depth1:Int)(g0:(List Int))(g1:Int):O:=
 ck (vR N.1 (12:Int) g0 g1)<|
 in0 depth1 (sU N.1 (12:Int) g0 g1) (iD N.1 (12:Int) g0 g1) (iC N.1 (12:Int) g0 g1) 0 0
  (λz1 z2 z3 z4 z5 z6=>
   in3 z1 z2 z3 z4 z5 z6
    (λz96 z97 z98 z99 z100=>
     some (mW (z98) (z99) (z100) z96 z97))
    (λz101 z102 z103 z104 _ _=>
     gx [(3:Int),(4:Int),(5:Int),(6:Int),(7:Int),(4:Int)] (aB.wrap (z102-6)) λy107=>
     ck ((N.2 (aB.wrap (z101-1)) z103 z104).isSome)<|
     ck ((N.2 (aB.wrap (z101-1)) ((N.2 (aB.wrap (z101-1)) z103 z104).getD ((0:Int),(0:Int),[],[],(0:Int))).2.2.2.1 ((N.2 (aB.wrap (z101-1)) z103 z104).getD ((0:Int),(0:Int),[],[],(0:Int))).2.2.2.2).isSome)<|
     some (mW (y107) 0 ([Ex.mk ((N.2 (aB.wrap (z101-1)) z103 z104).getD ((0:Int),(0:Int),[],[],(0:Int))).1 ((N.2 (aB.wrap (z101-1)) z103 z104).getD ((0:Int),(0:Int),[],[],(0:Int))).2.1 ((N.2 (aB.wrap (z101-1)) z103 z104).getD ((0:Int),(0:Int),[],[],(0:Int))).2.2.1,Ex.mk ((N.2 (aB.wrap (z101-1)) ((N.2 (aB.wrap (z101-1)) z103 z104).getD ((0:Int),(0:Int),[],[],(0:Int))).2.2.2.1 ((N.2 (aB.wrap (z101-1)) z103 z104).getD ((0:Int),(0:Int),[],[],(0:Int))).2.2.2.2).getD ((0:Int),(0:Int),[],[],(0:Int))).1 ((N.2 (aB.wrap (z101-1)) ((N.2 (aB.wrap (z101-1)) z103 z104).getD ((0:Int),(0:Int),[],[],(0:Int))).2.2.2.1 ((N.2 (aB.wrap (z101-1)) z103 z104).getD ((0:Int),(0:Int),[],[],(0:Int))).2.2.2.2).getD ((0:Int),(0:Int),[],[],(0:Int))).2.1 ((N.2 (aB.wrap (z101-1)) ((N.2 (aB.wrap (z101-1)) z103 z104).getD ((0:Int),(0:Int),[],[],(0:Int))).2.2.2.1 ((N.2 (aB.wrap (z101-1)) z103 z104).getD ((0:Int),(0:Int),[],[],(0:Int))).2.2.2.2).getD ((0:Int),(0:Int),[],[],(0:Int))).2.2.1]) (((N.2 (aB.wrap (z101-1)) ((N.2 (aB.wrap (z101-1)) z103 z104).getD ((0:Int),(0:Int),[],[],(0:Int))).2.2.2.1 ((N.2 (aB.wrap (z101-1)) z103 z104).getD ((0:Int),(0:Int),[],[],(0:Int))).2.2.2.2).getD ((0:Int),(0:Int),[],[],(0:Int))).2.2.2.1) (((N.2 (aB.wrap (z101-1)) ((N.2 (aB.wrap (z101-1)) z103 z104).getD ((0:Int),(0:Int),[],[],(0:Int))).2.2.2.1 ((N.2 (aB.wrap (z101-1)) z103 z104).getD ((0:Int),(0:Int),[],[],(0:Int))).2.2.2.2).getD ((0:Int),(0:Int),[],[],(0:Int))).2.2.2.2))))
def w56[aA] N depth1 g0 g1:=RT N (RO N) (RN N) (RM N) (lJ N) depth1 g0 g1
def aBW[aA](N:kN):Hint:=(.seq .d (.seq .d (.seq (.sub aPt _ _ _ Ko (aV 1) (aV 2) (bB C1 Ke (Fc N N.1))) (.seq (.sub aPq _ _ _ Kl Kk (aV 2) (bB CY Ka (Kf N N.1))) .d))))
theorem aPv N (hc:aD (jJ N)):bJ (jJ N) Tryz.f56.ntmps (aBW N) CX:=bR _ _ (aH trivial (aH trivial (aH (aQD N hc) (aH (aQA N hc) trivial))))
theorem aPo[aA] N depth1 g0 g1:RT N (aBT N) (RL N) (RJ N) (aBS N) depth1 g0 g1=exec (jJ N) Tryz.f56.ntmps (aBW N) CX ⟨bW 0 [.ref 50 0,.e (.i .i64) depth1],[(50,.box 77 [.e (.sl (.i .i64)) g0,.e (.i .i64) g1])],100⟩ (bX (jJ N) Tryz.f56 false):=by kernel_rfl
def zV(r:aC):Option (Int×Int×(List Ex)×(List Int)×Int):=match r with
 |(.agg [x0,x1,x2],[(50,.box 77 [x3,x4])])=>(match ue (.i .i64) x0,ue (.i .i64) x1,ue (.sl .ex) x2,ue (.sl (.i .i64)) x3,ue (.i .i64) x4 with|some a0,some a1,some a2,some a3,some a4=>some (a0,a1,a2,a3,a4)|_,_,_,_,_=>none)
 |_=>none
theorem aPf{r d}(h:zV r=some d):r=mW d.1 d.2.1 d.2.2.1 d.2.2.2.1 d.2.2.2.2:=by
 unfold zV at h;split at h
 .split at h
  .rename_i h0 h1 h2 h3 h4;cases h;rw[aE h0,aE h1,aE h2,aE h3,aE h4];rfl
  .cases h
 .cases h
def Fb N depth1 g0 g1:=(w56 N depth1 g0 g1).bind zV
theorem aPw{N}(hc:aD (jJ N)){depth1 g0 g1 d}(hd:Fb N depth1 g0 g1=some d):cB Tryz.prog 56 [.ref 50 0,.e (.i .i64) depth1] [(50,.box 77 [.e (.sl (.i .i64)) g0,.e (.i .i64) g1])] (mW d.1 d.2.1 d.2.2.1 d.2.2.2.1 d.2.2.2.2):=
 cD hc (by kernel_rfl) (by kernel_rfl) (aPv N hc) (by kernel_rfl) aPf (λhr=>(aPo N depth1 g0 g1).symm.trans (by rw[aPy N,aBZ N,aBY N,aPx N];exact hr)) hd
def cM(N:Nat):Nat->(Int->(List Int)->Int->Option (Int×Int×(List Ex)×(List Int)×Int))
 |0=>λ_ _ _=>none
 |n+1=>λdepth1 g0 g1=>Fb (N,cM N n) depth1 g0 g1
theorem aBX(N:Nat):∀n,aK Tryz.prog 56 (RW (N,cM N n))
 |0=>eH aBU (λ_ h=>by cases h)
 |n+1=>
   have ih:=aBX N n
   eH aBU (λd h=>oV (zz:=Fb (N,cM N n) d.1 d.2.1 d.2.2) (R:=λy=>mW y.1 y.2.1 y.2.2.1 y.2.2.2.1 y.2.2.2.2) (d0:=(0,0,[],[],0)) (λ_ hy=>aPw (aPz (N,cM N n) ih) hy) h)
def CW N depth1 g0 g1:=((cM N N) depth1 g0 g1).isSome
def CV N depth1 g0 g1:=(((cM N N) depth1 g0 g1).getD (0,0,[],[],0)).1
def CU N depth1 g0 g1:=(((cM N N) depth1 g0 g1).getD (0,0,[],[],0)).2.1
def CT N depth1 g0 g1:=(((cM N N) depth1 g0 g1).getD (0,0,[],[],0)).2.2.1
def zU N depth1 g0 g1:=(((cM N N) depth1 g0 g1).getD (0,0,[],[],0)).2.2.2.1
def zT N depth1 g0 g1:=(((cM N N) depth1 g0 g1).getD (0,0,[],[],0)).2.2.2.2
def aB0(N:Nat):bK:=eU Ki (λd=>CW N d.1 d.2.1 d.2.2) (λd=>mW (CV N d.1 d.2.1 d.2.2) (CU N d.1 d.2.1 d.2.2) (CT N d.1 d.2.1 d.2.2) (zU N d.1 d.2.1 d.2.2) (zT N d.1 d.2.1 d.2.2))
theorem aPp N:aK Tryz.prog 56 (aB0 N):=aBX N N
def GJ(a0 a1:Int)(a2:(List Ex)):aC:=(.agg [.e (.i .i64) a0,.e (.i .i64) a1,.e (.sl .ex) a2],[])
def GK(N:Nat):Cx:=⟨Tryz.prog,25,[(55,RZ N),(56,aB0 N)],[]⟩
def aD6:Code:=Tryz.f33.body.getD .skip
theorem aUF N:aD (GK N):=bZ (by kernel_rfl) (.cons (by kernel_rfl) (aB5 N) (.cons (by kernel_rfl) (aPp N) .nil)) .nil
def Su[aA](N:Nat)(l0:(List Int))(depth1:Int):O:=
 ck (vR N (6:Int) l0 (0:Int))<|
 br (decide ((1:Int)<sU N (6:Int) l0 (0:Int))||decide (max (1:Int) (min (5:Int) depth1)<(2:Int)))
  (ck (CW N (max (1:Int) (min (5:Int) depth1)) (iD N (6:Int) l0 (0:Int)) (iC N (6:Int) l0 (0:Int)))<|
  some (GJ ((CV N (max (1:Int) (min (5:Int) depth1)) (iD N (6:Int) l0 (0:Int)) (iC N (6:Int) l0 (0:Int)))) ((CU N (max (1:Int) (min (5:Int) depth1)) (iD N (6:Int) l0 (0:Int)) (iC N (6:Int) l0 (0:Int)))) ((CT N (max (1:Int) (min (5:Int) depth1)) (iD N (6:Int) l0 (0:Int)) (iC N (6:Int) l0 (0:Int))))))
  (ck (CW N (aB.wrap (max (1:Int) (min (5:Int) depth1)-(1:Int))) (iD N (6:Int) l0 (0:Int)) (iC N (6:Int) l0 (0:Int)))<|
  ck (CW N (aB.wrap (max (1:Int) (min (5:Int) depth1)-(1:Int))) (zU N (aB.wrap (max (1:Int) (min (5:Int) depth1)-(1:Int))) (iD N (6:Int) l0 (0:Int)) (iC N (6:Int) l0 (0:Int))) (zT N (aB.wrap (max (1:Int) (min (5:Int) depth1)-(1:Int))) (iD N (6:Int) l0 (0:Int)) (iC N (6:Int) l0 (0:Int))))<|
  some (GJ ((aB.wrap ((9:Int)+sU N (6:Int) l0 (0:Int)))) 0 ([Ex.mk (CV N (aB.wrap (max (1:Int) (min (5:Int) depth1)-(1:Int))) (iD N (6:Int) l0 (0:Int)) (iC N (6:Int) l0 (0:Int))) (CU N (aB.wrap (max (1:Int) (min (5:Int) depth1)-(1:Int))) (iD N (6:Int) l0 (0:Int)) (iC N (6:Int) l0 (0:Int))) (CT N (aB.wrap (max (1:Int) (min (5:Int) depth1)-(1:Int))) (iD N (6:Int) l0 (0:Int)) (iC N (6:Int) l0 (0:Int))),Ex.mk (CV N (aB.wrap (max (1:Int) (min (5:Int) depth1)-(1:Int))) (zU N (aB.wrap (max (1:Int) (min (5:Int) depth1)-(1:Int))) (iD N (6:Int) l0 (0:Int)) (iC N (6:Int) l0 (0:Int))) (zT N (aB.wrap (max (1:Int) (min (5:Int) depth1)-(1:Int))) (iD N (6:Int) l0 (0:Int)) (iC N (6:Int) l0 (0:Int)))) (CU N (aB.wrap (max (1:Int) (min (5:Int) depth1)-(1:Int))) (zU N (aB.wrap (max (1:Int) (min (5:Int) depth1)-(1:Int))) (iD N (6:Int) l0 (0:Int)) (iC N (6:Int) l0 (0:Int))) (zT N (aB.wrap (max (1:Int) (min (5:Int) depth1)-(1:Int))) (iD N (6:Int) l0 (0:Int)) (iC N (6:Int) l0 (0:Int)))) (CT N (aB.wrap (max (1:Int) (min (5:Int) depth1)-(1:Int))) (zU N (aB.wrap (max (1:Int) (min (5:Int) depth1)-(1:Int))) (iD N (6:Int) l0 (0:Int)) (iC N (6:Int) l0 (0:Int))) (zT N (aB.wrap (max (1:Int) (min (5:Int) depth1)-(1:Int))) (iD N (6:Int) l0 (0:Int)) (iC N (6:Int) l0 (0:Int))))])))
def w33[aA] N l0 depth1:=Su N l0 depth1
def aD4[aA](_:Nat):Hint:=.d
theorem aUD N:bJ (GK N) Tryz.f33.ntmps (aD4 N) aD6:=bR _ _ trivial
theorem aUB[aA] N l0 depth1:Su N l0 depth1=exec (GK N) Tryz.f33.ntmps (aD4 N) aD6 ⟨bW 0 [.e (.sl (.i .i64)) l0,.e (.i .i64) depth1],[],100⟩ (bX (GK N) Tryz.f33 false):=by kernel_rfl
def Ss(r:aC):Option (Int×Int×(List Ex)):=match r with
 |(.agg [x0,x1,x2],[])=>(match ue (.i .i64) x0,ue (.i .i64) x1,ue (.sl .ex) x2 with|some a0,some a1,some a2=>some (a0,a1,a2)|_,_,_=>none)
 |_=>none
theorem aUA{r d}(h:Ss r=some d):r=GJ d.1 d.2.1 d.2.2:=by
 unfold Ss at h;split at h
 .split at h
  .rename_i h0 h1 h2;cases h;rw[aE h0,aE h1,aE h2];rfl
  .cases h
 .cases h
def wB N l0 depth1:=(w33 N l0 depth1).bind Ss
theorem aUE{N}(hc:aD (GK N)){l0 depth1 d}(hd:wB N l0 depth1=some d):cB Tryz.prog 33 [.e (.sl (.i .i64)) l0,.e (.i .i64) depth1] [] (GJ d.1 d.2.1 d.2.2):=
 cD hc (by kernel_rfl) (by kernel_rfl) (aUD N) (by kernel_rfl) aUA (aUB N l0 depth1).symm.trans hd
def MV N l0 depth1:=(wB N l0 depth1).isSome
def Cw N l0 depth1:=((wB N l0 depth1).getD (0,0,[])).1
def Cv N l0 depth1:=((wB N l0 depth1).getD (0,0,[])).2.1
def Cu N l0 depth1:=((wB N l0 depth1).getD (0,0,[])).2.2
def aD5(N:Nat):bK:=E2 (.sl (.i .i64)) (.i .i64) (λx0 x1=>(MV N x0 x1,GJ (Cw N x0 x1) (Cv N x0 x1) (Cu N x0 x1)))
theorem aUC N:aK Tryz.prog 33 (aD5 N):=aK.e2 (λx0 x1 h=>cV (z:=wB N x0 x1) h (aUE (aUF N)) rfl)
abbrev w9T:=Nat×(Int->Int->(List Ex)->Int->Int->Int->Option (Int×Int×(List Ex)))
def mU(a0:Int):aC:=(.e (.i .i64) a0,[])
abbrev oH:=Nat×(Int->Int->(List Ex)->Option (Int))
def sT(N:oH):Cx:=⟨Tryz.prog,25,[(62,E1 .ex (λx0=>((N.2 (Ex.op x0) (Ex.num x0) (Ex.kids x0)).isSome,mU (((N.2 (Ex.op x0) (Ex.num x0) (Ex.kids x0)).getD 0)))))],[]⟩
def RA:Code:=Tryz.f62.body.getD .skip
theorem aOz N (hs:aK Tryz.prog 62 (E1 .ex (λx0=>((N.2 (Ex.op x0) (Ex.num x0) (Ex.kids x0)).isSome,mU (((N.2 (Ex.op x0) (Ex.num x0) (Ex.kids x0)).getD 0)))))):aD (sT N):=bZ (by kernel_rfl) (.cons (by kernel_rfl) hs .nil) .nil
def CQ[aA](N:oH)(self:Int->Int->O)(k0:Int->O)(_x0_2 _x0_3:Int)(x0_4:(List Ex))(x0_0 x0_1:Int):O:=
 br (decide (x0_1<(↑x0_4.length:Int)))
  (gx x0_4 x0_1 λy3=>
  ck ((N.2 y3.op y3.num y3.kids).isSome)<|
  self (aB.wrap (x0_0+(N.2 y3.op y3.num y3.kids).getD (0:Int))) (aB.wrap (x0_1+1)))
  (k0 x0_0)
def Qz:Code:=cP [1,1,0,1,0,0] RA
def aAt:Nm:=⟨[1,3,4],[],[]⟩
def zQ(x:Int×Int×Int×Int×(List Ex)):Sg:=⟨[(1,.ref 0 0),(3,.e (.i .i64) x.1),(4,.e (.i .i64) x.2.1)],[(0,.box 25 [.e (.i .i64) x.2.2.1,.e (.i .i64) x.2.2.2.1,.e (.sl .ex) x.2.2.2.2])],100⟩
def KU(σ:Sg):Int×Int×Int×Int×(List Ex):=(aW (.i .i64) 3 0 σ,aW (.i .i64) 4 0 σ,aL (.i .i64) 0 0 σ,aL (.i .i64) 0 1 σ,aL (.sl .ex) 0 2 σ)
theorem aOs:∀x,KU (zQ x)=x:=λ_=>by kernel_rfl
def KW(y:Int):Exit×Sg:=((.exit 0),⟨[(3,.e (.i .i64) y)],[],100⟩)
def aOq(_:Exit)(σ:Sg):Int:=aW (.i .i64) 3 0 σ
def aOp:List (Exit×Nm):=[((.exit 0),⟨[3],[],[]⟩)]
def zP[aA](N:oH):Nat->(Int×Int×Int×Int×(List Ex))->((Int)->O)->((Unit)->O)->((Unit)->O)->O
 |0,_,_,_,_=>none
 |n+1,x,k0,k1,k2=>CQ N (λv0 v1=>zP N n (v0,v1,x.2.2.1,x.2.2.2.1,x.2.2.2.2) k0 k1 k2) (λy0=>k0 y0) x.2.2.1 x.2.2.2.1 x.2.2.2.2 x.1 x.2.1
def Qy[aA] N a0 a1 a2 a3 a4 (k0:Int->O):=zP N N.1 (a0,a1,a2,a3,a4) (λy=>k0 y) (λ_=>none) (λ_=>none)
def aAs[aA] N a0 a1 a2 a3 a4 (k0:Int->O):=bB zQ KU (zP N N.1) (zQ (a0,a1,a2,a3,a4)) (λy=>k0 y) (λ_=>none) (λ_=>none)
theorem aOy[aA] N:aAs N=Qy N:=funext λ_=>funext λ_=>funext λ_=>funext λ_=>funext λ_=>funext λ_=>dD aOs _ _ _ _
theorem aOt[aA](N:oH)(self:Sg->O)(K:Exit->Sg->O)(x:Int×Int×Int×Int×(List Ex)):CQ N (λv0 v1=>self (zQ (v0,v1,x.2.2.1,x.2.2.2.1,x.2.2.2.2))) (λy0=>K (KW y0).1 (KW y0).2) x.2.2.1 x.2.2.2.1 x.2.2.2.2 x.1 x.2.1=exec (sT N) Tryz.f62.ntmps .d Qz (zQ x) (fE aAt aOp self K):=by kernel_rfl
theorem aPC N (hc:aD (sT N)):cU (sT N) Tryz.f62.ntmps (.loop Qz) KW (aV 1) (aV 2) (bB zQ KU (zP N N.1)):=
 fW hc (cT Qz) (fF aOq (.exit 0) (λ_=>by kernel_rfl) (λ_=>rfl) (by kernel_rfl)) (n:=N.1) (λx K=>fY (zP N) (λ_ _ _ _=>rfl) (λn K ih x=>by
  refine gM ?_ (aOt N _ K x);simp only[<-ih];rfl) N.1 x K)
def RC[aA](_:oH)(in0:Int->Int->Int->Int->(List Ex)->(Int->O)->O)(A B:Int)(C:(List Ex)):O:=
 in0 1 0 A B C
  (λz4=>
   some (mU z4))
def w62[aA] N A B C:=RC N (Qy N) A B C
def aAu[aA](N:oH):Hint:=(.seq .d (.seq .d (.seq (.seq .d (.block (.sub aAt _ _ _ KW (aV 1) (aV 2) (bB zQ KU (zP N N.1))))) .d)))
theorem aOw N (hc:aD (sT N)):bJ (sT N) Tryz.f62.ntmps (aAu N) RA:=bR _ _ (aH trivial (aH trivial (aH (aH trivial (aPC N hc)) trivial)))
theorem aOu[aA] N A B C:RC N (aAs N) A B C=exec (sT N) Tryz.f62.ntmps (aAu N) RA ⟨bW 0 [.agg [.e (.i .i64) A,.e (.i .i64) B,.e (.sl .ex) C]],[],100⟩ (bX (sT N) Tryz.f62 false):=by kernel_rfl
def F2(r:aC):Option (Int):=match r with
 |(x0,[])=>(match ue (.i .i64) x0 with|some a0=>some a0|_=>none)
 |_=>none
theorem aOr{r d}(h:F2 r=some d):r=mU (d):=by
 unfold F2 at h;split at h
 .split at h
  .rename_i h0;cases h;rw[aE h0];rfl
  .cases h
 .cases h
def KT N A B C:=(w62 N A B C).bind F2
theorem aOx{N}(hc:aD (sT N)){A B C d}(hd:KT N A B C=some d):cB Tryz.prog 62 [.agg [.e (.i .i64) A,.e (.i .i64) B,.e (.sl .ex) C]] [] (mU (d)):=
 cD hc (by kernel_rfl) (by kernel_rfl) (aOw N hc) (by kernel_rfl) aOr (λhr=>(aOu N A B C).symm.trans (by rw[aOy N];exact hr)) hd
def lZ(N:Nat):Nat->Int->Int->(List Ex)->Option (Int)
 |0,_,_,_=>none
 |n+1,A,B,C=>KT (N,lZ N n) A B C
theorem aAx(N:Nat):∀n,aK Tryz.prog 62 (E1 .ex (λx0=>((lZ N n (Ex.op x0) (Ex.num x0) (Ex.kids x0)).isSome,mU (((lZ N n (Ex.op x0) (Ex.num x0) (Ex.kids x0)).getD 0)))))
 |0=>aK.e1 (λ_ h=>by cases h)
 |n+1=>aK.e1 (λx0 h=>by
   obtain⟨d,hd⟩:=sB.1 h;have hd':lZ N (n+1) (Ex.op x0) (Ex.num x0) (Ex.kids x0)=some d:=hd;have e:mU (((lZ N (n+1) (Ex.op x0) (Ex.num x0) (Ex.kids x0)).getD 0))=mU (d):=by rw[hd'];rfl
   show cK _ _ _ _ (mU (((lZ N (n+1) (Ex.op x0) (Ex.num x0) (Ex.kids x0)).getD 0))).1.D (HA (mU (((lZ N (n+1) (Ex.op x0) (Ex.num x0) (Ex.kids x0)).getD 0))).2);rw[e];exact aOx (N:=(N,lZ N n)) (aOz (N,lZ N n) (aAx N n)) hd')
def KV N A B C:=(lZ N N A B C).isSome
def F1 N A B C:=((lZ N N A B C).getD 0)
def aAv(N:Nat):bK:=E1 .ex (λx0=>(KV N (Ex.op x0) (Ex.num x0) (Ex.kids x0),mU (F1 N (Ex.op x0) (Ex.num x0) (Ex.kids x0))))
theorem aOv N:aK Tryz.prog 62 (aAv N):=aAx N N
def mT(a0:Int):aC:=(.e (.i .i64) a0,[])
def sS(N:oH):Cx:=⟨Tryz.prog,25,[(63,E1 .ex (λx0=>((N.2 (Ex.op x0) (Ex.num x0) (Ex.kids x0)).isSome,mT (((N.2 (Ex.op x0) (Ex.num x0) (Ex.kids x0)).getD 0)))))],[]⟩
def Qv:Code:=Tryz.f63.body.getD .skip
theorem aOl N (hs:aK Tryz.prog 63 (E1 .ex (λx0=>((N.2 (Ex.op x0) (Ex.num x0) (Ex.kids x0)).isSome,mT (((N.2 (Ex.op x0) (Ex.num x0) (Ex.kids x0)).getD 0)))))):aD (sS N):=bZ (by kernel_rfl) (.cons (by kernel_rfl) hs .nil) .nil
def CP[aA](N:oH)(self:Int->Int->O)(k0:Int->O)(_x0_2 _x0_3:Int)(x0_4:(List Ex))(x0_0 x0_1:Int):O:=
 br (decide (x0_1<(↑x0_4.length:Int)))
  (gx x0_4 x0_1 λy3=>
  ck ((N.2 y3.op y3.num y3.kids).isSome)<|
  self (max x0_0 ((N.2 y3.op y3.num y3.kids).getD (0:Int))) (aB.wrap (x0_1+1)))
  (k0 x0_0)
def Qu:Code:=cP [1,1,0,1,0,0] Qv
def aAm:Nm:=⟨[1,3,4],[],[]⟩
def zO(x:Int×Int×Int×Int×(List Ex)):Sg:=⟨[(1,.ref 0 0),(3,.e (.i .i64) x.1),(4,.e (.i .i64) x.2.1)],[(0,.box 25 [.e (.i .i64) x.2.2.1,.e (.i .i64) x.2.2.2.1,.e (.sl .ex) x.2.2.2.2])],100⟩
def KQ(σ:Sg):Int×Int×Int×Int×(List Ex):=(aW (.i .i64) 3 0 σ,aW (.i .i64) 4 0 σ,aL (.i .i64) 0 0 σ,aL (.i .i64) 0 1 σ,aL (.sl .ex) 0 2 σ)
theorem aOe:∀x,KQ (zO x)=x:=λ_=>by kernel_rfl
def KS(y:Int):Exit×Sg:=((.exit 0),⟨[(3,.e (.i .i64) y)],[],100⟩)
def aOc(_:Exit)(σ:Sg):Int:=aW (.i .i64) 3 0 σ
def aOb:List (Exit×Nm):=[((.exit 0),⟨[3],[],[]⟩)]
def zN[aA](N:oH):Nat->(Int×Int×Int×Int×(List Ex))->((Int)->O)->((Unit)->O)->((Unit)->O)->O
 |0,_,_,_,_=>none
 |n+1,x,k0,k1,k2=>CP N (λv0 v1=>zN N n (v0,v1,x.2.2.1,x.2.2.2.1,x.2.2.2.2) k0 k1 k2) (λy0=>k0 y0) x.2.2.1 x.2.2.2.1 x.2.2.2.2 x.1 x.2.1
def Qt[aA] N a0 a1 a2 a3 a4 (k0:Int->O):=zN N N.1 (a0,a1,a2,a3,a4) (λy=>k0 y) (λ_=>none) (λ_=>none)
def aAl[aA] N a0 a1 a2 a3 a4 (k0:Int->O):=bB zO KQ (zN N N.1) (zO (a0,a1,a2,a3,a4)) (λy=>k0 y) (λ_=>none) (λ_=>none)
theorem aOk[aA] N:aAl N=Qt N:=funext λ_=>funext λ_=>funext λ_=>funext λ_=>funext λ_=>funext λ_=>dD aOe _ _ _ _
theorem aOf[aA](N:oH)(self:Sg->O)(K:Exit->Sg->O)(x:Int×Int×Int×Int×(List Ex)):CP N (λv0 v1=>self (zO (v0,v1,x.2.2.1,x.2.2.2.1,x.2.2.2.2))) (λy0=>K (KS y0).1 (KS y0).2) x.2.2.1 x.2.2.2.1 x.2.2.2.2 x.1 x.2.1=exec (sS N) Tryz.f63.ntmps .d Qu (zO x) (fE aAm aOb self K):=by kernel_rfl
theorem aOo N (hc:aD (sS N)):cU (sS N) Tryz.f63.ntmps (.loop Qu) KS (aV 1) (aV 2) (bB zO KQ (zN N N.1)):=
 fW hc (cT Qu) (fF aOc (.exit 0) (λ_=>by kernel_rfl) (λ_=>rfl) (by kernel_rfl)) (n:=N.1) (λx K=>fY (zN N) (λ_ _ _ _=>rfl) (λn K ih x=>by
  refine gM ?_ (aOf N _ K x);simp only[<-ih];rfl) N.1 x K)
def Qx[aA](_:oH)(in0:Int->Int->Int->Int->(List Ex)->(Int->O)->O)(A B:Int)(C:(List Ex)):O:=
 in0 0 0 A B C
  (λz4=>
   some (mT (aB.wrap (z4+1))))
def w63[aA] N A B C:=Qx N (Qt N) A B C
def aAn[aA](N:oH):Hint:=(.seq .d (.seq .d (.seq (.seq .d (.block (.sub aAm _ _ _ KS (aV 1) (aV 2) (bB zO KQ (zN N N.1))))) .d)))
theorem aOi N (hc:aD (sS N)):bJ (sS N) Tryz.f63.ntmps (aAn N) Qv:=bR _ _ (aH trivial (aH trivial (aH (aH trivial (aOo N hc)) trivial)))
theorem aOg[aA] N A B C:Qx N (aAl N) A B C=exec (sS N) Tryz.f63.ntmps (aAn N) Qv ⟨bW 0 [.agg [.e (.i .i64) A,.e (.i .i64) B,.e (.sl .ex) C]],[],100⟩ (bX (sS N) Tryz.f63 false):=by kernel_rfl
def F0(r:aC):Option (Int):=match r with
 |(x0,[])=>(match ue (.i .i64) x0 with|some a0=>some a0|_=>none)
 |_=>none
theorem aOd{r d}(h:F0 r=some d):r=mT (d):=by
 unfold F0 at h;split at h
 .split at h
  .rename_i h0;cases h;rw[aE h0];rfl
  .cases h
 .cases h
def KO N A B C:=(w63 N A B C).bind F0
theorem aOj{N}(hc:aD (sS N)){A B C d}(hd:KO N A B C=some d):cB Tryz.prog 63 [.agg [.e (.i .i64) A,.e (.i .i64) B,.e (.sl .ex) C]] [] (mT (d)):=
 cD hc (by kernel_rfl) (by kernel_rfl) (aOi N hc) (by kernel_rfl) aOd (λhr=>(aOg N A B C).symm.trans (by rw[aOk N];exact hr)) hd
def lY(N:Nat):Nat->Int->Int->(List Ex)->Option (Int)
 |0,_,_,_=>none
 |n+1,A,B,C=>KO (N,lY N n) A B C
theorem aAq(N:Nat):∀n,aK Tryz.prog 63 (E1 .ex (λx0=>((lY N n (Ex.op x0) (Ex.num x0) (Ex.kids x0)).isSome,mT (((lY N n (Ex.op x0) (Ex.num x0) (Ex.kids x0)).getD 0)))))
 |0=>aK.e1 (λ_ h=>by cases h)
 |n+1=>aK.e1 (λx0 h=>by
   obtain⟨d,hd⟩:=sB.1 h;have hd':lY N (n+1) (Ex.op x0) (Ex.num x0) (Ex.kids x0)=some d:=hd;have e:mT (((lY N (n+1) (Ex.op x0) (Ex.num x0) (Ex.kids x0)).getD 0))=mT (d):=by rw[hd'];rfl
   show cK _ _ _ _ (mT (((lY N (n+1) (Ex.op x0) (Ex.num x0) (Ex.kids x0)).getD 0))).1.D (HA (mT (((lY N (n+1) (Ex.op x0) (Ex.num x0) (Ex.kids x0)).getD 0))).2);rw[e];exact aOj (N:=(N,lY N n)) (aOl (N,lY N n) (aAq N n)) hd')
def KR N A B C:=(lY N N A B C).isSome
def KP N A B C:=((lY N N A B C).getD 0)
def aAo(N:Nat):bK:=E1 .ex (λx0=>(KR N (Ex.op x0) (Ex.num x0) (Ex.kids x0),mT (KP N (Ex.op x0) (Ex.num x0) (Ex.kids x0))))
theorem aOh N:aK Tryz.prog 63 (aAo N):=aAq N N
def yS(a0:Int):aC:=(.e (.i .i64) a0,[])
def jI(_:Nat):Cx:=⟨Tryz.prog,25,[],[]⟩
def Bf:Code:=Tryz.f91.body.getD .skip
theorem aKy N:aD (jI N):=bZ (by kernel_rfl) .nil .nil
def Pq[aA](_:Nat)(k0:Int->Bool->O)(x17_0:Int):O:=
 br (decide (x17_0=0))
  (k0 x17_0 (decide (x17_0=0)))
  (k0 x17_0 (decide (x17_0=1)))
def Pn:Code:=cP [1,0,1,0,0] Bf
def aKt:Nm:=⟨[3],[],[]⟩
def Bj(x:Int):Sg:=⟨[(3,.e (.i .i64) x)],[],100⟩
def Iu(σ:Sg):Int:=aW (.i .i64) 3 0 σ
theorem aKj:∀x,Iu (Bj x)=x:=λ_=>by kernel_rfl
def JB(y:Int×Bool):Exit×Sg:=(.normal,⟨[(3,.e (.i .i64) y.1),(4,.e .bo y.2)],[],100⟩)
def aKe(_:Exit)(σ:Sg):Int×Bool:=(aW (.i .i64) 3 0 σ,aW .bo 4 0 σ)
def aK9:List (Exit×Nm):=[(.normal,⟨[3,4],[],[]⟩)]
def El[aA](N _:Nat)(x:Int)(k0:(Int×Bool)->O)(_:(Unit)->O)(_:(Unit)->O):O:=Pq N (λy0 y1=>k0 (y0,y1)) x
def Ei[aA] N a0 (k0:Int->Bool->O):=El N N a0 (λy=>k0 y.1 y.2) (λ_=>none) (λ_=>none)
def Pj[aA] N a0 (k0:Int->Bool->O):=bB Bj Iu (El N N) (Bj a0) (λy=>k0 y.1 y.2) (λ_=>none) (λ_=>none)
theorem Ym[aA] N:Pj N=Ei N:=funext λ_=>funext λ_=>dD aKj _ _ _ _
theorem aKn[aA](N:Nat)(K:Exit->Sg->O)(x:Int):Pq N (λy0 y1=>K (JB (y0,y1)).1 (JB (y0,y1)).2) x=exec (jI N) Tryz.f91.ntmps .d Pn (Bj x) (iH aK9 K):=by kernel_rfl
theorem aLE N (hc:aD (jI N)):cU (jI N) Tryz.f91.ntmps Pn JB (aV 1) (aV 2) (bB Bj Iu (El N N)):=
 jL hc (cT Pn) (fF aKe .normal (λ_=>by kernel_rfl) (λ_=>rfl) (by kernel_rfl)) (λx K=>by
  exact aKn N K x)
def Pp[aA](_:Nat)(k0:Int->Bool->O)(x20_0:Int):O:=
 br (decide (x20_0=2))
  (k0 x20_0 (decide (x20_0=2)))
  (k0 x20_0 (decide (x20_0=8)))
def Pm:Code:=cP [1,0,1,0,1,1,0] Bf
def aKs:Nm:=⟨[3],[],[]⟩
def Bi(x:Int):Sg:=⟨[(3,.e (.i .i64) x)],[],100⟩
def It(σ:Sg):Int:=aW (.i .i64) 3 0 σ
theorem aKi:∀x,It (Bi x)=x:=λ_=>by kernel_rfl
def JA(y:Int×Bool):Exit×Sg:=(.normal,⟨[(3,.e (.i .i64) y.1),(7,.e .bo y.2)],[],100⟩)
def aKd(_:Exit)(σ:Sg):Int×Bool:=(aW (.i .i64) 3 0 σ,aW .bo 7 0 σ)
def aK8:List (Exit×Nm):=[(.normal,⟨[3,7],[],[]⟩)]
def Ek[aA](N _:Nat)(x:Int)(k0:(Int×Bool)->O)(_:(Unit)->O)(_:(Unit)->O):O:=Pp N (λy0 y1=>k0 (y0,y1)) x
def Eh[aA] N a0 (k0:Int->Bool->O):=Ek N N a0 (λy=>k0 y.1 y.2) (λ_=>none) (λ_=>none)
def Ph[aA] N a0 (k0:Int->Bool->O):=bB Bi It (Ek N N) (Bi a0) (λy=>k0 y.1 y.2) (λ_=>none) (λ_=>none)
theorem Yl[aA] N:Ph N=Eh N:=funext λ_=>funext λ_=>dD aKi _ _ _ _
theorem aKm[aA](N:Nat)(K:Exit->Sg->O)(x:Int):Pp N (λy0 y1=>K (JA (y0,y1)).1 (JA (y0,y1)).2) x=exec (jI N) Tryz.f91.ntmps .d Pm (Bi x) (iH aK8 K):=by kernel_rfl
theorem aLD N (hc:aD (jI N)):cU (jI N) Tryz.f91.ntmps Pm JA (aV 1) (aV 2) (bB Bi It (Ek N N)):=
 jL hc (cT Pm) (fF aKd .normal (λ_=>by kernel_rfl) (λ_=>rfl) (by kernel_rfl)) (λx K=>by
  exact aKm N K x)
def Po[aA](_:Nat)(k0:Bool->O)(x23_0:Int):O:=
 br (decide (x23_0=3))
  (k0 (decide (x23_0=3)))
  (br (decide (x23_0=4))
   (k0 (decide (x23_0=4)))
   (br (decide (x23_0=5))
    (k0 (decide (x23_0=5)))
    (br (decide (x23_0=6))
     (k0 (decide (x23_0=6)))
     (br (decide (x23_0=7))
      (k0 (decide (x23_0=7)))
      (br (decide (x23_0=9))
       (k0 (decide (x23_0=9)))
       (k0 (decide (x23_0=10))))))))
def Pl:Code:=cP [1,0,1,0,1,1,1,1,0] Bf
def aKr:Nm:=⟨[3],[],[]⟩
def Bh(x:Int):Sg:=⟨[(3,.e (.i .i64) x)],[],100⟩
def Is(σ:Sg):Int:=aW (.i .i64) 3 0 σ
theorem aKh:∀x,Is (Bh x)=x:=λ_=>by kernel_rfl
def Iz(y:Bool):Exit×Sg:=(.normal,⟨[(10,.e .bo y)],[],100⟩)
def aKc(_:Exit)(σ:Sg):Bool:=aW .bo 10 0 σ
def aK7:List (Exit×Nm):=[(.normal,⟨[10],[],[]⟩)]
def Ej[aA](N _:Nat)(x:Int)(k0:(Bool)->O)(_:(Unit)->O)(_:(Unit)->O):O:=Po N (λy0=>k0 y0) x
def Eg[aA] N a0 (k0:Bool->O):=Ej N N a0 (λy=>k0 y) (λ_=>none) (λ_=>none)
def Pg[aA] N a0 (k0:Bool->O):=bB Bh Is (Ej N N) (Bh a0) (λy=>k0 y) (λ_=>none) (λ_=>none)
theorem Yk[aA] N:Pg N=Eg N:=funext λ_=>funext λ_=>dD aKh _ _ _ _
theorem aKl[aA](N:Nat)(K:Exit->Sg->O)(x:Int):Po N (λy0=>K (Iz y0).1 (Iz y0).2) x=exec (jI N) Tryz.f91.ntmps .d Pl (Bh x) (iH aK7 K):=by kernel_rfl
theorem aLC N (hc:aD (jI N)):cU (jI N) Tryz.f91.ntmps Pl Iz (aV 1) (aV 2) (bB Bh Is (Ej N N)):=
 jL hc (cT Pl) (fF aKc .normal (λ_=>by kernel_rfl) (λ_=>rfl) (by kernel_rfl)) (λx K=>by
  exact aKl N K x)
def JC[aA](_:Nat)(in0:Int->(Int->Bool->O)->O)(in1:Int->(Int->Bool->O)->O)(in2:Int->(Bool->O)->O)(k0:Int->O)(k1:Unit->O)(x0_0:Int):O:=
 in0 x0_0
  (λz18 z19=>
   br z19
    (k0 0)
    (in1 z18
     (λz21 z22=>
      br z22
       (k0 1)
       (in2 z21
        (λz24=>
         br z24
          (k0 2)
          (k1 ()))))))
def Pk:Code:=cP [1,0] Bf
def aKq:Nm:=⟨[0],[],[]⟩
def Bg(x:Int):Sg:=⟨[(0,.e (.i .i64) x)],[],100⟩
def Ir(σ:Sg):Int:=aW (.i .i64) 0 0 σ
theorem aKg:∀x,Ir (Bg x)=x:=λ_=>by kernel_rfl
def Iy(y:Int):Exit×Sg:=(.ret,⟨[(2,.e (.i .i64) y)],[],100⟩)
def aKb(_:Exit)(σ:Sg):Int:=aW (.i .i64) 2 0 σ
def Ix(_:Unit):Exit×Sg:=(.normal,⟨[],[],100⟩)
def aKa(_:Exit)(_:Sg):Unit:=()
def aK6:List (Exit×Nm):=[(.ret,⟨[2],[],[]⟩),(.normal,⟨[],[],[]⟩)]
def Iw[aA](N _:Nat)(x:Int)(k0:(Int)->O)(k1:(Unit)->O)(_:(Unit)->O):O:=JC N (Ei N) (Eh N) (Eg N) (λy0=>k0 y0) (λ(_:Unit)=>k1 ()) x
def Yh[aA] N a0 (k0:Int->O) (k1:Unit->O):=Iw N N a0 (λy=>k0 y) (λy=>k1 y) (λ_=>none)
def Yg[aA] N a0 (k0:Int->O) (k1:Unit->O):=bB Bg Ir (Iw N N) (Bg a0) (λy=>k0 y) (λy=>k1 y) (λ_=>none)
theorem aKx[aA] N:Yg N=Yh N:=funext λ_=>funext λ_=>funext λ_=>dD aKg _ _ _ _
def Yi[aA](N:Nat):Hint:=(.seq .d (.block (.seq (.sub aKt _ _ _ JB (aV 1) (aV 2) (bB Bj Iu (El N N))) (.cond .d (.seq (.sub aKs _ _ _ JA (aV 1) (aV 2) (bB Bi It (Ek N N))) (.cond .d (.seq (.sub aKr _ _ _ Iz (aV 1) (aV 2) (bB Bh Is (Ej N N))) .d)))))))
theorem aKu N (hc:aD (jI N)):bJ (jI N) Tryz.f91.ntmps (Yi N) Pk:=bR _ _ (aH trivial (aH (aLE N hc) (aH trivial (aH (aLD N hc) (aH trivial (aH (aLC N hc) trivial))))))
theorem aKk[aA](N:Nat)(K:Exit->Sg->O)(x:Int):JC N (Pj N) (Ph N) (Pg N) (λy0=>K (Iy y0).1 (Iy y0).2) (λ(_:Unit)=>K (Ix ()).1 (Ix ()).2) x=exec (jI N) Tryz.f91.ntmps (Yi N) Pk (Bg x) (iH aK6 K):=by kernel_rfl
theorem aLB N (hc:aD (jI N)):cU (jI N) Tryz.f91.ntmps Pk Iy Ix (aV 2) (bB Bg Ir (Iw N N)):=
 jL hc (aKu N hc) (kS aKb aKa .ret .normal (λ_=>by kernel_rfl) (λ_=>by kernel_rfl) (λ_=>rfl) (λ_=>rfl) (by kernel_rfl)) (λx K=>by
  have q:=aKk N K x;rw[Ym N,Yl N,Yk N]at q;exact q)
def Yp[aA](_:Nat)(_in0:Int->(Int->Bool->O)->O)(_in1:Int->(Int->Bool->O)->O)(_in2:Int->(Bool->O)->O)(in3:Int->(Int->O)->(Unit->O)->O)(cQ:Int):O:=
 in3 cQ
  (λqS=>
   some (yS qS))
  (λ(_:Unit)=>
   some (yS ((-1:Int))))
def w91[aA] N cQ:=Yp N (Ei N) (Eh N) (Eg N) (Yh N) cQ
def Yj[aA](N:Nat):Hint:=(.seq .d (.seq (.sub aKq _ _ _ Iy Ix (aV 2) (bB Bg Ir (Iw N N))) .d))
theorem aKv N (hc:aD (jI N)):bJ (jI N) Tryz.f91.ntmps (Yj N) Bf:=bR _ _ (aH trivial (aH (aLB N hc) trivial))
theorem aKo[aA] N cQ:Yp N (Pj N) (Ph N) (Pg N) (Yg N) cQ=exec (jI N) Tryz.f91.ntmps (Yj N) Bf ⟨bW 0 [.e (.i .i64) cQ],[],100⟩ (bX (jI N) Tryz.f91 false):=by kernel_rfl
def Iq(r:aC):Option (Int):=match r with
 |(x0,[])=>(match ue (.i .i64) x0 with|some a0=>some a0|_=>none)
 |_=>none
theorem aKf{r d}(h:Iq r=some d):r=yS (d):=by
 unfold Iq at h;split at h
 .split at h
  .rename_i h0;cases h;rw[aE h0];rfl
  .cases h
 .cases h
def Ef N cQ:=(w91 N cQ).bind Iq
theorem aKw{N}(hc:aD (jI N)){cQ d}(hd:Ef N cQ=some d):cB Tryz.prog 91 [.e (.i .i64) cQ] [] (yS (d)):=
 cD hc (by kernel_rfl) (by kernel_rfl) (aKv N hc) (by kernel_rfl) aKf (λhr=>(aKo N cQ).symm.trans (by rw[Ym N,Yl N,Yk N,aKx N];exact hr)) hd
def Iv N cQ:=(Ef N cQ).isSome
def Ip N cQ:=((Ef N cQ).getD 0)
def Yn(N:Nat):bK:=E1 (.i .i64) (λx0=>(Iv N x0,yS (Ip N x0)))
theorem aKp N:aK Tryz.prog 91 (Yn N):=aK.e1 (λx0 h=>cV (z:=Ef N x0) h (aKw (aKy N)) rfl)
def kM(a0:Bool):aC:=(.e .bo a0,[])
abbrev oG:=Nat×(Int->Int->(List Ex)->Bool->Option (Bool))
def lH(N:oG):Cx:=⟨Tryz.prog,25,[(64,E2 .ex .bo (λx0 x1=>((N.2 (Ex.op x0) (Ex.num x0) (Ex.kids x0) x1).isSome,kM (((N.2 (Ex.op x0) (Ex.num x0) (Ex.kids x0) x1).getD false))))),(91,Yn N.1)],[]⟩
def FZ:Code:=Tryz.f64.body.getD .skip
theorem aO7 N (hs:aK Tryz.prog 64 (E2 .ex .bo (λx0 x1=>((N.2 (Ex.op x0) (Ex.num x0) (Ex.kids x0) x1).isSome,kM (((N.2 (Ex.op x0) (Ex.num x0) (Ex.kids x0) x1).getD false)))))):aD (lH N):=bZ (by kernel_rfl) (.cons (by kernel_rfl) hs (.cons (by kernel_rfl) (aKp N.1) .nil)) .nil
def Qs[aA](_:oG)(k0:Int->Int->Int->(List Ex)->O)(x0_0 x0_1 x0_2:Int)(x0_3:(List Ex)):O:=
 br (decide (x0_1=0))
  (k0 999999 x0_1 x0_2 x0_3)
  (k0 x0_0 x0_1 x0_2 x0_3)
def Qp:Code:=cP [1,1,1,0] FZ
def aO1:Nm:=⟨[2,5],[],[]⟩
def CN(x:Int×Int×Int×(List Ex)):Sg:=⟨[(2,.ref 0 0),(5,.e (.i .i64) x.1)],[(0,.box 25 [.e (.i .i64) x.2.1,.e (.i .i64) x.2.2.1,.e (.sl .ex) x.2.2.2])],100⟩
def KH(σ:Sg):Int×Int×Int×(List Ex):=(aW (.i .i64) 5 0 σ,aL (.i .i64) 0 0 σ,aL (.i .i64) 0 1 σ,aL (.sl .ex) 0 2 σ)
theorem aOU:∀x,KH (CN x)=x:=λ_=>by kernel_rfl
def KN(y:Int×Int×Int×(List Ex)):Exit×Sg:=(.normal,⟨[(2,.ref 0 0),(5,.e (.i .i64) y.1)],[(0,.box 25 [.e (.i .i64) y.2.1,.e (.i .i64) y.2.2.1,.e (.sl .ex) y.2.2.2])],100⟩)
def aOQ(_:Exit)(σ:Sg):Int×Int×Int×(List Ex):=(aW (.i .i64) 5 0 σ,aL (.i .i64) 0 0 σ,aL (.i .i64) 0 1 σ,aL (.sl .ex) 0 2 σ)
def aOM:List (Exit×Nm):=[(.normal,⟨[2,5],[],[]⟩)]
def FY[aA](N:oG)(_:Nat)(x:Int×Int×Int×(List Ex))(k0:(Int×Int×Int×(List Ex))->O)(_:(Unit)->O)(_:(Unit)->O):O:=Qs N (λy0 y1 y2 y3=>k0 (y0,y1,y2,y3)) x.1 x.2.1 x.2.2.1 x.2.2.2
def Qm[aA] N a0 a1 a2 a3 (k0:Int->Int->Int->(List Ex)->O):=FY N N.1 (a0,a1,a2,a3) (λy=>k0 y.1 y.2.1 y.2.2.1 y.2.2.2) (λ_=>none) (λ_=>none)
def aAd[aA] N a0 a1 a2 a3 (k0:Int->Int->Int->(List Ex)->O):=bB CN KH (FY N N.1) (CN (a0,a1,a2,a3)) (λy=>k0 y.1 y.2.1 y.2.2.1 y.2.2.2) (λ_=>none) (λ_=>none)
theorem aO6[aA] N:aAd N=Qm N:=funext λ_=>funext λ_=>funext λ_=>funext λ_=>funext λ_=>dD aOU _ _ _ _
theorem aOX[aA](N:oG)(K:Exit->Sg->O)(x:Int×Int×Int×(List Ex)):Qs N (λy0 y1 y2 y3=>K (KN (y0,y1,y2,y3)).1 (KN (y0,y1,y2,y3)).2) x.1 x.2.1 x.2.2.1 x.2.2.2=exec (lH N) Tryz.f64.ntmps .d Qp (CN x) (iH aOM K):=by kernel_rfl
theorem aOa N (hc:aD (lH N)):cU (lH N) Tryz.f64.ntmps Qp KN (aV 1) (aV 2) (bB CN KH (FY N N.1)):=
 jL hc (cT Qp) (fF aOQ .normal (λ_=>by kernel_rfl) (λ_=>rfl) (by kernel_rfl)) (λx K=>by
  exact aOX N K x)
def Qr[aA](_:oG)(k0:Int->Int->Int->(List Ex)->O)(x5_0 x5_1 x5_2:Int)(x5_3:(List Ex)):O:=
 br (decide (x5_1=1))
  (k0 25 x5_1 x5_2 x5_3)
  (k0 x5_0 x5_1 x5_2 x5_3)
def Qo:Code:=cP [1,1,1,1,0] FZ
def aO0:Nm:=⟨[2,5],[],[]⟩
def CM(x:Int×Int×Int×(List Ex)):Sg:=⟨[(2,.ref 0 0),(5,.e (.i .i64) x.1)],[(0,.box 25 [.e (.i .i64) x.2.1,.e (.i .i64) x.2.2.1,.e (.sl .ex) x.2.2.2])],100⟩
def KG(σ:Sg):Int×Int×Int×(List Ex):=(aW (.i .i64) 5 0 σ,aL (.i .i64) 0 0 σ,aL (.i .i64) 0 1 σ,aL (.sl .ex) 0 2 σ)
theorem aOT:∀x,KG (CM x)=x:=λ_=>by kernel_rfl
def KM(y:Int×Int×Int×(List Ex)):Exit×Sg:=(.normal,⟨[(2,.ref 0 0),(5,.e (.i .i64) y.1)],[(0,.box 25 [.e (.i .i64) y.2.1,.e (.i .i64) y.2.2.1,.e (.sl .ex) y.2.2.2])],100⟩)
def aOP(_:Exit)(σ:Sg):Int×Int×Int×(List Ex):=(aW (.i .i64) 5 0 σ,aL (.i .i64) 0 0 σ,aL (.i .i64) 0 1 σ,aL (.sl .ex) 0 2 σ)
def aOL:List (Exit×Nm):=[(.normal,⟨[2,5],[],[]⟩)]
def FX[aA](N:oG)(_:Nat)(x:Int×Int×Int×(List Ex))(k0:(Int×Int×Int×(List Ex))->O)(_:(Unit)->O)(_:(Unit)->O):O:=Qr N (λy0 y1 y2 y3=>k0 (y0,y1,y2,y3)) x.1 x.2.1 x.2.2.1 x.2.2.2
def Ql[aA] N a0 a1 a2 a3 (k0:Int->Int->Int->(List Ex)->O):=FX N N.1 (a0,a1,a2,a3) (λy=>k0 y.1 y.2.1 y.2.2.1 y.2.2.2) (λ_=>none) (λ_=>none)
def aAc[aA] N a0 a1 a2 a3 (k0:Int->Int->Int->(List Ex)->O):=bB CM KG (FX N N.1) (CM (a0,a1,a2,a3)) (λy=>k0 y.1 y.2.1 y.2.2.1 y.2.2.2) (λ_=>none) (λ_=>none)
theorem aO5[aA] N:aAc N=Ql N:=funext λ_=>funext λ_=>funext λ_=>funext λ_=>funext λ_=>dD aOT _ _ _ _
theorem aOW[aA](N:oG)(K:Exit->Sg->O)(x:Int×Int×Int×(List Ex)):Qr N (λy0 y1 y2 y3=>K (KM (y0,y1,y2,y3)).1 (KM (y0,y1,y2,y3)).2) x.1 x.2.1 x.2.2.1 x.2.2.2=exec (lH N) Tryz.f64.ntmps .d Qo (CM x) (iH aOL K):=by kernel_rfl
theorem aO9 N (hc:aD (lH N)):cU (lH N) Tryz.f64.ntmps Qo KM (aV 1) (aV 2) (bB CM KG (FX N N.1)):=
 jL hc (cT Qo) (fF aOP .normal (λ_=>by kernel_rfl) (λ_=>rfl) (by kernel_rfl)) (λx K=>by
  exact aOW N K x)
def CO[aA](N:oG)(self:Int->O)(k0:Bool->O)(k1:Unit->O)(_x10_1 _x10_2:Int)(x10_3:(List Ex))(x10_0:Int):O:=
 br (decide (x10_0<(↑x10_3.length:Int)))
  (gx x10_3 x10_0 λy13=>
  ck ((N.2 y13.op y13.num y13.kids false).isSome)<|
  br (!(N.2 y13.op y13.num y13.kids false).getD false)
   (k0 false)
   (self (aB.wrap (x10_0+1))))
  (k1 ())
def Qn:Code:=cP [1,1,1,1,1,1,0,1,0,0] FZ
def aAe:Nm:=⟨[2,6],[],[]⟩
def zM(x:Int×Int×Int×(List Ex)):Sg:=⟨[(2,.ref 0 0),(6,.e (.i .i64) x.1)],[(0,.box 25 [.e (.i .i64) x.2.1,.e (.i .i64) x.2.2.1,.e (.sl .ex) x.2.2.2])],100⟩
def KF(σ:Sg):Int×Int×Int×(List Ex):=(aW (.i .i64) 6 0 σ,aL (.i .i64) 0 0 σ,aL (.i .i64) 0 1 σ,aL (.sl .ex) 0 2 σ)
theorem aOS:∀x,KF (zM x)=x:=λ_=>by kernel_rfl
def KL(y:Bool):Exit×Sg:=(.ret,⟨[(4,.e .bo y)],[],100⟩)
def aOO(_:Exit)(σ:Sg):Bool:=aW .bo 4 0 σ
def KK(_:Unit):Exit×Sg:=((.exit 0),⟨[],[],100⟩)
def aON(_:Exit)(_:Sg):Unit:=()
def aOK:List (Exit×Nm):=[(.ret,⟨[4],[],[]⟩),((.exit 0),⟨[],[],[]⟩)]
def zL[aA](N:oG):Nat->(Int×Int×Int×(List Ex))->((Bool)->O)->((Unit)->O)->((Unit)->O)->O
 |0,_,_,_,_=>none
 |n+1,x,k0,k1,k2=>CO N (λv0=>zL N n (v0,x.2.1,x.2.2.1,x.2.2.2) k0 k1 k2) (λy0=>k0 y0) (λ(_:Unit)=>k1 ()) x.2.1 x.2.2.1 x.2.2.2 x.1
def KJ[aA] N a0 a1 a2 a3 (k0:Bool->O) (k1:Unit->O):=zL N N.1 (a0,a1,a2,a3) (λy=>k0 y) (λy=>k1 y) (λ_=>none)
def aAb[aA] N a0 a1 a2 a3 (k0:Bool->O) (k1:Unit->O):=bB zM KF (zL N N.1) (zM (a0,a1,a2,a3)) (λy=>k0 y) (λy=>k1 y) (λ_=>none)
theorem aO4[aA] N:aAb N=KJ N:=funext λ_=>funext λ_=>funext λ_=>funext λ_=>funext λ_=>funext λ_=>dD aOS _ _ _ _
theorem aOV[aA](N:oG)(self:Sg->O)(K:Exit->Sg->O)(x:Int×Int×Int×(List Ex)):CO N (λv0=>self (zM (v0,x.2.1,x.2.2.1,x.2.2.2))) (λy0=>K (KL y0).1 (KL y0).2) (λ(_:Unit)=>K (KK ()).1 (KK ()).2) x.2.1 x.2.2.1 x.2.2.2 x.1=exec (lH N) Tryz.f64.ntmps .d Qn (zM x) (fE aAe aOK self K):=by kernel_rfl
theorem aO8 N (hc:aD (lH N)):cU (lH N) Tryz.f64.ntmps (.loop Qn) KL KK (aV 2) (bB zM KF (zL N N.1)):=
 fW hc (cT Qn) (kS aOO aON .ret (.exit 0) (λ_=>by kernel_rfl) (λ_=>by kernel_rfl) (λ_=>rfl) (λ_=>rfl) (by kernel_rfl)) (n:=N.1) (λx K=>fY (zL N) (λ_ _ _ _=>rfl) (λn K ih x=>by
  refine gM ?_ (aOV N _ K x);simp only[<-ih];rfl) N.1 x K)
def Qq[aA](N:oG)(in0:Int->Int->Int->(List Ex)->(Int->Int->Int->(List Ex)->O)->O)(in1:Int->Int->Int->(List Ex)->(Int->Int->Int->(List Ex)->O)->O)(in2:Int->Int->Int->(List Ex)->(Bool->O)->(Unit->O)->O)(A B:Int)(C:(List Ex))(root1:Bool):O:=
 ck (Iv N.1 A)<|
 br (decide ((↑C.length:Int)≠Ip N.1 A)||!root1&&decide ((9:Int)<=A))
  (some (kM false))
  (in0 0 A B C
   (λz1 z2 z3 z4=>
    in1 z1 z2 z3 z4
     (λz6 z7 z8 z9=>
      br (decide (z8<0)||decide (z6<z8))
       (some (kM false))
       (in2 0 z7 z8 z9
        (λz14=>
         some (kM z14))
        (λ(_:Unit)=>
         some (kM true))))))
def w64[aA] N A B C root1:=Qq N (Qm N) (Ql N) (KJ N) A B C root1
def aAf[aA](N:oG):Hint:=(.seq .d (.seq .d (.seq .d (.seq (.sub aO1 _ _ _ KN (aV 1) (aV 2) (bB CN KH (FY N N.1))) (.seq (.sub aO0 _ _ _ KM (aV 1) (aV 2) (bB CM KG (FX N N.1))) (.seq .d (.seq (.seq .d (.block (.sub aAe _ _ _ KL KK (aV 2) (bB zM KF (zL N N.1))))) .d)))))))
theorem aO2 N (hc:aD (lH N)):bJ (lH N) Tryz.f64.ntmps (aAf N) FZ:=bR _ _ (aH trivial (aH trivial (aH trivial (aH (aOa N hc) (aH (aO9 N hc) (aH trivial (aH (aH trivial (aO8 N hc)) trivial)))))))
theorem aOY[aA] N A B C root1:Qq N (aAd N) (aAc N) (aAb N) A B C root1=exec (lH N) Tryz.f64.ntmps (aAf N) FZ ⟨bW 0 [.agg [.e (.i .i64) A,.e (.i .i64) B,.e (.sl .ex) C],.e .bo root1],[],100⟩ (bX (lH N) Tryz.f64 false):=by kernel_rfl
def FW(r:aC):Option (Bool):=match r with
 |(x0,[])=>(match ue .bo x0 with|some a0=>some a0|_=>none)
 |_=>none
theorem aOR{r d}(h:FW r=some d):r=kM (d):=by
 unfold FW at h;split at h
 .split at h
  .rename_i h0;cases h;rw[aE h0];rfl
  .cases h
 .cases h
def KD N A B C root1:=(w64 N A B C root1).bind FW
theorem aO3{N}(hc:aD (lH N)){A B C root1 d}(hd:KD N A B C root1=some d):cB Tryz.prog 64 [.agg [.e (.i .i64) A,.e (.i .i64) B,.e (.sl .ex) C],.e .bo root1] [] (kM (d)):=
 cD hc (by kernel_rfl) (by kernel_rfl) (aO2 N hc) (by kernel_rfl) aOR (λhr=>(aOY N A B C root1).symm.trans (by rw[aO6 N,aO5 N,aO4 N];exact hr)) hd
def lI(N:Nat):Nat->Int->Int->(List Ex)->Bool->Option (Bool)
 |0,_,_,_,_=>none
 |n+1,A,B,C,root1=>KD (N,lI N n) A B C root1
theorem aAj(N:Nat):∀n,aK Tryz.prog 64 (E2 .ex .bo (λx0 x1=>((lI N n (Ex.op x0) (Ex.num x0) (Ex.kids x0) x1).isSome,kM (((lI N n (Ex.op x0) (Ex.num x0) (Ex.kids x0) x1).getD false)))))
 |0=>aK.e2 (λ_ _ h=>by cases h)
 |n+1=>aK.e2 (λx0 x1 h=>by
   obtain⟨d,hd⟩:=sB.1 h;have hd':lI N (n+1) (Ex.op x0) (Ex.num x0) (Ex.kids x0) x1=some d:=hd;have e:kM (((lI N (n+1) (Ex.op x0) (Ex.num x0) (Ex.kids x0) x1).getD false))=kM (d):=by rw[hd'];rfl
   show cK _ _ _ _ (kM (((lI N (n+1) (Ex.op x0) (Ex.num x0) (Ex.kids x0) x1).getD false))).1.D (HA (kM (((lI N (n+1) (Ex.op x0) (Ex.num x0) (Ex.kids x0) x1).getD false))).2);rw[e];exact aO3 (N:=(N,lI N n)) (aO7 (N,lI N n) (aAj N n)) hd')
def KI N A B C root1:=(lI N N A B C root1).isSome
def KE N A B C root1:=((lI N N A B C root1).getD false)
def aAg(N:Nat):bK:=E2 .ex .bo (λx0 x1=>(KI N (Ex.op x0) (Ex.num x0) (Ex.kids x0) x1,kM (KE N (Ex.op x0) (Ex.num x0) (Ex.kids x0) x1)))
theorem aOZ N:aK Tryz.prog 64 (aAg N):=aAj N N
def Cs(a0:Int):aC:=(.e (.i .i64) a0,[])
def GD(N:Nat):Cx:=⟨Tryz.prog,25,[(62,aAv N),(63,aAo N),(64,aAg N)],[]⟩
def aDQ:Code:=Tryz.f36.body.getD .skip
theorem aTe N:aD (GD N):=bZ (by kernel_rfl) (.cons (by kernel_rfl) (aOv N) (.cons (by kernel_rfl) (aOh N) (.cons (by kernel_rfl) (aOZ N) .nil))) .nil
def Sk[aA](N:Nat)(A B:Int)(C:(List Ex)):O:=
 ck (KV N A B C)<|
 ck (!!decide ((256:Int)<F1 N A B C)||KR N A B C)<|
 br (decide ((256:Int)<F1 N A B C)||decide ((16:Int)<KP N A B C))
  (some (Cs 4))
  (ck (KI N A B C true)<|
  br (!KE N A B C true)
   (some (Cs 1))
   (some (Cs 0)))
def w36[aA] N A B C:=Sk N A B C
def aDP[aA](_:Nat):Hint:=.d
theorem aTc N:bJ (GD N) Tryz.f36.ntmps (aDP N) aDQ:=bR _ _ trivial
theorem aTb[aA] N A B C:Sk N A B C=exec (GD N) Tryz.f36.ntmps (aDP N) aDQ ⟨bW 0 [.agg [.e (.i .i64) A,.e (.i .i64) B,.e (.sl .ex) C]],[],100⟩ (bX (GD N) Tryz.f36 false):=by kernel_rfl
def Sf(r:aC):Option (Int):=match r with
 |(x0,[])=>(match ue (.i .i64) x0 with|some a0=>some a0|_=>none)
 |_=>none
theorem aTa{r d}(h:Sf r=some d):r=Cs (d):=by
 unfold Sf at h;split at h
 .split at h
  .rename_i h0;cases h;rw[aE h0];rfl
  .cases h
 .cases h
def GC N A B C:=(w36 N A B C).bind Sf
theorem aTd{N}(hc:aD (GD N)){A B C d}(hd:GC N A B C=some d):cB Tryz.prog 36 [.agg [.e (.i .i64) A,.e (.i .i64) B,.e (.sl .ex) C]] [] (Cs (d)):=
 cD hc (by kernel_rfl) (by kernel_rfl) (aTc N) (by kernel_rfl) aTa (aTb N A B C).symm.trans hd
def AQ N A B C:=(GC N A B C).isSome
def v8 N A B C:=((GC N A B C).getD 0)
def MM(N:Nat):bK:=E1 .ex (λx0=>(AQ N (Ex.op x0) (Ex.num x0) (Ex.kids x0),Cs (v8 N (Ex.op x0) (Ex.num x0) (Ex.kids x0))))
theorem Sh N:aK Tryz.prog 36 (MM N):=aK.e1 (λ_ h=>cV h (aTd (aTe N)) rfl)
def oB(a0:lF):aC:=(.e .tx a0,[])
abbrev Pf:=Nat×(Int->Option (lF))
def Ee(N:Pf):Cx:=⟨Tryz.prog,25,[(92,E1 (.i .i64) (λx0=>((N.2 x0).isSome,oB (((N.2 x0).getD [])))))],[]⟩
def Yd:Code:=Tryz.f92.body.getD .skip
theorem aK3 N (hs:aK Tryz.prog 92 (E1 (.i .i64) (λx0=>((N.2 x0).isSome,oB (((N.2 x0).getD [])))))):aD (Ee N):=bZ (by kernel_rfl) (.cons (by kernel_rfl) hs .nil) .nil
def Io[aA](N:Pf)(n0:Int):O:=
 br (decide (n0<10))
  (some (oB [dV (aB.wrap ((48:Int)+n0))]))
  (ck true <|
  ck ((N.2 (aB.wrap (n0.tdiv (10:Int)))).isSome)<|
  ck true <|
  ck (decide ((↑((N.2 (aB.wrap (n0.tdiv (10:Int)))).getD []).length:Int)+(↑[dV (aB.wrap ((48:Int)+n0.tmod (10:Int)))].length:Int)<=(9223372036854775807:Int)))<|
  some (oB ((N.2 (aB.wrap (n0.tdiv (10:Int)))).getD []++[dV (aB.wrap ((48:Int)+n0.tmod (10:Int)))])))
def w92[aA] N n0:=Io N n0
def Yb[aA](_:Pf):Hint:=.d
theorem aK1 N:bJ (Ee N) Tryz.f92.ntmps (Yb N) Yd:=bR _ _ trivial
theorem aKZ[aA] N n0:Io N n0=exec (Ee N) Tryz.f92.ntmps (Yb N) Yd ⟨bW 0 [.e (.i .i64) n0],[],100⟩ (bX (Ee N) Tryz.f92 false):=by kernel_rfl
def Il(r:aC):Option (lF):=match r with
 |(x0,[])=>(match ue .tx x0 with|some a0=>some a0|_=>none)
 |_=>none
theorem aKY{r d}(h:Il r=some d):r=oB (d):=by
 unfold Il at h;split at h
 .split at h
  .rename_i h0;cases h;rw[aE h0];rfl
  .cases h
 .cases h
def Ya N n0:=(w92 N n0).bind Il
theorem aK2{N}(hc:aD (Ee N)){n0 d}(hd:Ya N n0=some d):cB Tryz.prog 92 [.e (.i .i64) n0] [] (oB (d)):=
 cD hc (by kernel_rfl) (by kernel_rfl) (aK1 N) (by kernel_rfl) aKY (aKZ N n0).symm.trans hd
def lV(N:Nat):Nat->Int->Option (lF)
 |0,_=>none
 |n+1,n0=>Ya (N,lV N n) n0
theorem Yf(N:Nat):∀n,aK Tryz.prog 92 (E1 (.i .i64) (λx0=>((lV N n x0).isSome,oB (((lV N n x0).getD [])))))
 |0=>aK.e1 (λ_ h=>by cases h)
 |n+1=>aK.e1 (λx0 h=>by
   obtain⟨d,hd⟩:=sB.1 h;have hd':lV N (n+1) x0=some d:=hd;have e:oB (((lV N (n+1) x0).getD []))=oB (d):=by rw[hd'];rfl
   show cK _ _ _ _ (oB (((lV N (n+1) x0).getD []))).1.D (HA (oB (((lV N (n+1) x0).getD []))).2);rw[e];exact aK2 (N:=(N,lV N n)) (aK3 (N,lV N n) (Yf N n)) hd')
def Im N n0:=(lV N N n0).isSome
def Ik N n0:=((lV N N n0).getD [])
def Yc(N:Nat):bK:=E1 (.i .i64) (λx0=>(Im N x0,oB (Ik N x0)))
theorem aK0 N:aK Tryz.prog 92 (Yc N):=Yf N N
def E9(a0:Int):aC:=(.e (.i .i64) a0,[])
def kJ(_:Nat):Cx:=⟨Tryz.prog,25,[],[]⟩
def Ea:Code:=Tryz.f94.body.getD .skip
theorem aKM N:aD (kJ N):=bZ (by kernel_rfl) .nil .nil
def Y5[aA](_:Nat)(k0:Int->Bool->O)(x13_0:Int):O:=
 br (decide (x13_0=9))
  (k0 x13_0 (decide (x13_0=9)))
  (k0 x13_0 (decide (x13_0=10)))
def Pc:Code:=cP [1,0,1,0,0] Ea
def aKH:Nm:=⟨[3],[],[]⟩
def Be(x:Int):Sg:=⟨[(3,.e (.i .i64) x)],[],100⟩
def I9(σ:Sg):Int:=aW (.i .i64) 3 0 σ
theorem aKA:∀x,I9 (Be x)=x:=λ_=>by kernel_rfl
def Ii(y:Int×Bool):Exit×Sg:=(.normal,⟨[(3,.e (.i .i64) y.1),(4,.e .bo y.2)],[],100⟩)
def aJw(_:Exit)(σ:Sg):Int×Bool:=(aW (.i .i64) 3 0 σ,aW .bo 4 0 σ)
def aJs:List (Exit×Nm):=[(.normal,⟨[3,4],[],[]⟩)]
def Ie[aA](N _:Nat)(x:Int)(k0:(Int×Bool)->O)(_:(Unit)->O)(_:(Unit)->O):O:=Y5 N (λy0 y1=>k0 (y0,y1)) x
def P8[aA] N a0 (k0:Int->Bool->O):=Ie N N a0 (λy=>k0 y.1 y.2) (λ_=>none) (λ_=>none)
def P6[aA] N a0 (k0:Int->Bool->O):=bB Be I9 (Ie N N) (Be a0) (λy=>k0 y.1 y.2) (λ_=>none) (λ_=>none)
theorem YY[aA] N:P6 N=P8 N:=funext λ_=>funext λ_=>dD aKA _ _ _ _
theorem aKD[aA](N:Nat)(K:Exit->Sg->O)(x:Int):Y5 N (λy0 y1=>K (Ii (y0,y1)).1 (Ii (y0,y1)).2) x=exec (kJ N) Tryz.f94.ntmps .d Pc (Be x) (iH aJs K):=by kernel_rfl
theorem aKQ N (hc:aD (kJ N)):cU (kJ N) Tryz.f94.ntmps Pc Ii (aV 1) (aV 2) (bB Be I9 (Ie N N)):=
 jL hc (cT Pc) (fF aJw .normal (λ_=>by kernel_rfl) (λ_=>rfl) (by kernel_rfl)) (λx K=>by
  exact aKD N K x)
def Y4[aA](_:Nat)(k0:Int->Bool->O)(x16_0:Int):O:=
 br (decide (x16_0=3))
  (k0 x16_0 (decide (x16_0=3)))
  (k0 x16_0 (decide (x16_0=4)))
def Pb:Code:=cP [1,0,1,0,1,1,0] Ea
def aKG:Nm:=⟨[3],[],[]⟩
def Bd(x:Int):Sg:=⟨[(3,.e (.i .i64) x)],[],100⟩
def I8(σ:Sg):Int:=aW (.i .i64) 3 0 σ
theorem aJz:∀x,I8 (Bd x)=x:=λ_=>by kernel_rfl
def Ih(y:Int×Bool):Exit×Sg:=(.normal,⟨[(3,.e (.i .i64) y.1),(7,.e .bo y.2)],[],100⟩)
def aJv(_:Exit)(σ:Sg):Int×Bool:=(aW (.i .i64) 3 0 σ,aW .bo 7 0 σ)
def aJr:List (Exit×Nm):=[(.normal,⟨[3,7],[],[]⟩)]
def Ic[aA](N _:Nat)(x:Int)(k0:(Int×Bool)->O)(_:(Unit)->O)(_:(Unit)->O):O:=Y4 N (λy0 y1=>k0 (y0,y1)) x
def P7[aA] N a0 (k0:Int->Bool->O):=Ic N N a0 (λy=>k0 y.1 y.2) (λ_=>none) (λ_=>none)
def P5[aA] N a0 (k0:Int->Bool->O):=bB Bd I8 (Ic N N) (Bd a0) (λy=>k0 y.1 y.2) (λ_=>none) (λ_=>none)
theorem YX[aA] N:P5 N=P7 N:=funext λ_=>funext λ_=>dD aJz _ _ _ _
theorem aKC[aA](N:Nat)(K:Exit->Sg->O)(x:Int):Y4 N (λy0 y1=>K (Ih (y0,y1)).1 (Ih (y0,y1)).2) x=exec (kJ N) Tryz.f94.ntmps .d Pb (Bd x) (iH aJr K):=by kernel_rfl
theorem aKP N (hc:aD (kJ N)):cU (kJ N) Tryz.f94.ntmps Pb Ih (aV 1) (aV 2) (bB Bd I8 (Ic N N)):=
 jL hc (cT Pb) (fF aJv .normal (λ_=>by kernel_rfl) (λ_=>rfl) (by kernel_rfl)) (λx K=>by
  exact aKC N K x)
def Y0[aA](_:Nat)(in0:Int->(Int->Bool->O)->O)(in1:Int->(Int->Bool->O)->O)(k0:Int->O)(k1:Unit->O)(x0_0:Int):O:=
 in0 x0_0
  (λz14 z15=>
   br z15
    (k0 0)
    (in1 z14
     (λz17 z18=>
      br z18
       (k0 1)
       (br (decide (z17=5))
        (br (decide (z17=5))
         (k0 2)
         (br (decide (z17=2))
          (br (decide (z17=2))
           (k0 3)
           (k1 ()))
          (br (decide (z17=7))
           (k0 3)
           (k1 ()))))
        (br (decide (z17=6))
         (k0 2)
         (br (decide (z17=2))
          (br (decide (z17=2))
           (k0 3)
           (k1 ()))
          (br (decide (z17=7))
           (k0 3)
           (k1 ()))))))))
def Pa:Code:=cP [1,0] Ea
def aKF:Nm:=⟨[0],[],[]⟩
def Bc(x:Int):Sg:=⟨[(0,.e (.i .i64) x)],[],100⟩
def I7(σ:Sg):Int:=aW (.i .i64) 0 0 σ
theorem aJy:∀x,I7 (Bc x)=x:=λ_=>by kernel_rfl
def Ig(y:Int):Exit×Sg:=(.ret,⟨[(2,.e (.i .i64) y)],[],100⟩)
def aJu(_:Exit)(σ:Sg):Int:=aW (.i .i64) 2 0 σ
def If(_:Unit):Exit×Sg:=(.normal,⟨[],[],100⟩)
def aJt(_:Exit)(_:Sg):Unit:=()
def aJq:List (Exit×Nm):=[(.ret,⟨[2],[],[]⟩),(.normal,⟨[],[],[]⟩)]
def Ib[aA](N _:Nat)(x:Int)(k0:(Int)->O)(k1:(Unit)->O)(_:(Unit)->O):O:=Y0 N (P8 N) (P7 N) (λy0=>k0 y0) (λ(_:Unit)=>k1 ()) x
def YU[aA] N a0 (k0:Int->O) (k1:Unit->O):=Ib N N a0 (λy=>k0 y) (λy=>k1 y) (λ_=>none)
def YS[aA] N a0 (k0:Int->O) (k1:Unit->O):=bB Bc I7 (Ib N N) (Bc a0) (λy=>k0 y) (λy=>k1 y) (λ_=>none)
theorem aKL[aA] N:YS N=YU N:=funext λ_=>funext λ_=>funext λ_=>dD aJy _ _ _ _
def YV[aA](N:Nat):Hint:=(.seq .d (.block (.seq (.sub aKH _ _ _ Ii (aV 1) (aV 2) (bB Be I9 (Ie N N))) (.cond .d (.seq (.sub aKG _ _ _ Ih (aV 1) (aV 2) (bB Bd I8 (Ic N N))) .d)))))
theorem aKI N (hc:aD (kJ N)):bJ (kJ N) Tryz.f94.ntmps (YV N) Pa:=bR _ _ (aH trivial (aH (aKQ N hc) (aH trivial (aH (aKP N hc) trivial))))
theorem aKB[aA](N:Nat)(K:Exit->Sg->O)(x:Int):Y0 N (P6 N) (P5 N) (λy0=>K (Ig y0).1 (Ig y0).2) (λ(_:Unit)=>K (If ()).1 (If ()).2) x=exec (kJ N) Tryz.f94.ntmps (YV N) Pa (Bc x) (iH aJq K):=by kernel_rfl
theorem aKO N (hc:aD (kJ N)):cU (kJ N) Tryz.f94.ntmps Pa Ig If (aV 2) (bB Bc I7 (Ib N N)):=
 jL hc (aKI N hc) (kS aJu aJt .ret .normal (λ_=>by kernel_rfl) (λ_=>by kernel_rfl) (λ_=>rfl) (λ_=>rfl) (by kernel_rfl)) (λx K=>by
  have q:=aKB N K x;rw[YY N,YX N]at q;exact q)
def YZ[aA](_:Nat)(_in0:Int->(Int->Bool->O)->O)(_in1:Int->(Int->Bool->O)->O)(in2:Int->(Int->O)->(Unit->O)->O)(cQ:Int):O:=
 in2 cQ
  (λz19=>
   some (E9 z19))
  (λ(_:Unit)=>
   some (E9 4))
def w94[aA] N cQ:=YZ N (P8 N) (P7 N) (YU N) cQ
def YW[aA](N:Nat):Hint:=(.seq .d (.seq (.sub aKF _ _ _ Ig If (aV 2) (bB Bc I7 (Ib N N))) .d))
theorem aKJ N (hc:aD (kJ N)):bJ (kJ N) Tryz.f94.ntmps (YW N) Ea:=bR _ _ (aH trivial (aH (aKO N hc) trivial))
theorem aKE[aA] N cQ:YZ N (P6 N) (P5 N) (YS N) cQ=exec (kJ N) Tryz.f94.ntmps (YW N) Ea ⟨bW 0 [.e (.i .i64) cQ],[],100⟩ (bX (kJ N) Tryz.f94 false):=by kernel_rfl
def P4(r:aC):Option (Int):=match r with
 |(x0,[])=>(match ue (.i .i64) x0 with|some a0=>some a0|_=>none)
 |_=>none
theorem aJx{r d}(h:P4 r=some d):r=E9 (d):=by
 unfold P4 at h;split at h
 .split at h
  .rename_i h0;cases h;rw[aE h0];rfl
  .cases h
 .cases h
def I6 N cQ:=(w94 N cQ).bind P4
theorem aKK{N}(hc:aD (kJ N)){cQ d}(hd:I6 N cQ=some d):cB Tryz.prog 94 [.e (.i .i64) cQ] [] (E9 (d)):=
 cD hc (by kernel_rfl) (by kernel_rfl) (aKJ N hc) (by kernel_rfl) aJx (λhr=>(aKE N cQ).symm.trans (by rw[YY N,YX N,aKL N];exact hr)) hd
def Ia N cQ:=(I6 N cQ).isSome
def E8 N cQ:=((I6 N cQ).getD 0)
def P9(N:Nat):bK:=E1 (.i .i64) (λx0=>(Ia N x0,E9 (E8 N x0)))
theorem YT N:aK Tryz.prog 94 (P9 N):=aK.e1 (λx0 h=>cV (z:=I6 N x0) h (aKK (aKM N)) rfl)
def qU(a0:lF):aC:=(.e .tx a0,[])
def E7(_:Nat):Cx:=⟨Tryz.prog,25,[],[]⟩
def YQ:Code:=Tryz.f95.body.getD .skip
theorem aJn N:aD (E7 N):=bZ (by kernel_rfl) .nil .nil
def YR[aA](_:Nat)(cQ:Int):O:=
 br (decide (cQ=3))
  (some (qU [(43:UInt8)]))
  (br (decide (cQ=4))
   (some (qU [(45:UInt8)]))
   (br (decide (cQ=5))
    (some (qU [(42:UInt8)]))
    (br (decide (cQ=6))
     (some (qU [(47:UInt8)]))
     (br (decide (cQ=7))
      (some (qU [(94:UInt8)]))
      (br (decide (cQ=9))
       (some (qU [(61:UInt8)]))
       (some (qU [(60:UInt8)])))))))
def w95[aA] N cQ:=YR N cQ
def YO[aA](_:Nat):Hint:=.d
theorem aJl N:bJ (E7 N) Tryz.f95.ntmps (YO N) YQ:=bR _ _ trivial
theorem aJj[aA] N cQ:YR N cQ=exec (E7 N) Tryz.f95.ntmps (YO N) YQ ⟨bW 0 [.e (.i .i64) cQ],[],100⟩ (bX (E7 N) Tryz.f95 false):=by kernel_rfl
def P3(r:aC):Option (lF):=match r with
 |(x0,[])=>(match ue .tx x0 with|some a0=>some a0|_=>none)
 |_=>none
theorem aJi{r d}(h:P3 r=some d):r=qU (d):=by
 unfold P3 at h;split at h
 .split at h
  .rename_i h0;cases h;rw[aE h0];rfl
  .cases h
 .cases h
def I4 N cQ:=(w95 N cQ).bind P3
theorem aJm{N}(hc:aD (E7 N)){cQ d}(hd:I4 N cQ=some d):cB Tryz.prog 95 [.e (.i .i64) cQ] [] (qU (d)):=
 cD hc (by kernel_rfl) (by kernel_rfl) (aJl N) (by kernel_rfl) aJi (aJj N cQ).symm.trans hd
def I5 N cQ:=(I4 N cQ).isSome
def vD N cQ:=((I4 N cQ).getD [])
def YP(N:Nat):bK:=E1 (.i .i64) (λx0=>(I5 N x0,qU (vD N x0)))
theorem aJk N:aK Tryz.prog 95 (YP N):=aK.e1 (λx0 h=>cV (z:=I4 N x0) h (aJm (aJn N)) rfl)
def mS(a0:lF):aC:=(.e .tx a0,[])
def Ji(xs:List X)(H:XH):Option (Int×Int×(List Ex)):=match xs,H with
 |[.agg [x0,x1,x2]],[]=>(match ue (.i .i64) x0,ue (.i .i64) x1,ue (.sl .ex) x2 with|some a0,some a1,some a2=>some (a0,a1,a2)|_,_,_=>none)
 |_,_=>none
theorem Zz{xs H d}(h:Ji xs H=some d):xs=[.agg [.e (.i .i64) d.1,.e (.i .i64) d.2.1,.e (.sl .ex) d.2.2]]/\H=[]:=by
 unfold Ji at h;split at h
 .split at h
  .rename_i h0 h1 h2;cases h;rw[aE h0,aE h1,aE h2];exact⟨rfl,rfl⟩
  .cases h
 .cases h
abbrev pL:=Nat×((Int->Int->(List Ex)->Option (lF))×(Int->Int->(List Ex)->Int->Option (lF)))
def FJ(N:pL):bK:=eU Ji (λd=>(N.2.1 d.1 d.2.1 d.2.2).isSome) (λd=>mS (((N.2.1 d.1 d.2.1 d.2.2).getD [])))
def yR(a0:lF):aC:=(.e .tx a0,[])
def Pe(xs:List X)(H:XH):Option (Int×Int×(List Ex)×Int):=match xs,H with
 |[.agg [x0,x1,x2],x3],[]=>(match ue (.i .i64) x0,ue (.i .i64) x1,ue (.sl .ex) x2,ue (.i .i64) x3 with|some a0,some a1,some a2,some a3=>some (a0,a1,a2,a3)|_,_,_,_=>none)
 |_,_=>none
theorem Y6{xs H d}(h:Pe xs H=some d):xs=[.agg [.e (.i .i64) d.1,.e (.i .i64) d.2.1,.e (.sl .ex) d.2.2.1],.e (.i .i64) d.2.2.2]/\H=[]:=by
 unfold Pe at h;split at h
 .split at h
  .rename_i h0 h1 h2 h3;cases h;rw[aE h0,aE h1,aE h2,aE h3];exact⟨rfl,rfl⟩
  .cases h
 .cases h
def Ed(N:pL):bK:=eU Pe (λd=>(N.2.2 d.1 d.2.1 d.2.2.1 d.2.2.2).isSome) (λd=>yR (((N.2.2 d.1 d.2.1 d.2.2.1 d.2.2.2).getD [])))
def sO(N:pL):Cx:=⟨Tryz.prog,25,[(71,FJ N),(93,Ed N),(92,Yc N.1),(94,P9 N.1),(95,YP N.1)],[]⟩
def Q5:Code:=Tryz.f71.body.getD .skip
theorem aNW N (hw51:aK Tryz.prog 71 (FJ N)) (hw82:aK Tryz.prog 93 (Ed N)):aD (sO N):=bZ (by kernel_rfl) (.cons (by kernel_rfl) hw51 (.cons (by kernel_rfl) hw82 (.cons (by kernel_rfl) (aK0 N.1) (.cons (by kernel_rfl) (YT N.1) (.cons (by kernel_rfl) (aJk N.1) .nil))))) .nil
def Q6[aA](_:pL)(k0:Int->Int->Int->Int->(List Ex)->O)(x4_0 x4_1 x4_2 x4_3:Int)(x4_4:(List Ex)):O:=
 br (decide (x4_0=0))
  (k0 x4_0 1 x4_2 x4_3 x4_4)
  (k0 x4_0 x4_1 x4_2 x4_3 x4_4)
def Q4:Code:=cP [1,1,1,1,0] Q5
def aNS:Nm:=⟨[1,3,4],[],[]⟩
def CK(x:Int×Int×Int×Int×(List Ex)):Sg:=⟨[(1,.ref 0 0),(3,.e (.i .i64) x.1),(4,.e (.i .i64) x.2.1)],[(0,.box 25 [.e (.i .i64) x.2.2.1,.e (.i .i64) x.2.2.2.1,.e (.sl .ex) x.2.2.2.2])],100⟩
def Jg(σ:Sg):Int×Int×Int×Int×(List Ex):=(aW (.i .i64) 3 0 σ,aW (.i .i64) 4 0 σ,aL (.i .i64) 0 0 σ,aL (.i .i64) 0 1 σ,aL (.sl .ex) 0 2 σ)
theorem aNO:∀x,Jg (CK x)=x:=λ_=>by kernel_rfl
def Jj(y:Int×Int×Int×Int×(List Ex)):Exit×Sg:=(.normal,⟨[(1,.ref 0 0),(3,.e (.i .i64) y.1),(4,.e (.i .i64) y.2.1)],[(0,.box 25 [.e (.i .i64) y.2.2.1,.e (.i .i64) y.2.2.2.1,.e (.sl .ex) y.2.2.2.2])],100⟩)
def aNM(_:Exit)(σ:Sg):Int×Int×Int×Int×(List Ex):=(aW (.i .i64) 3 0 σ,aW (.i .i64) 4 0 σ,aL (.i .i64) 0 0 σ,aL (.i .i64) 0 1 σ,aL (.sl .ex) 0 2 σ)
def aNL:List (Exit×Nm):=[(.normal,⟨[1,3,4],[],[]⟩)]
def FH[aA](N:pL)(_:Nat)(x:Int×Int×Int×Int×(List Ex))(k0:(Int×Int×Int×Int×(List Ex))->O)(_:(Unit)->O)(_:(Unit)->O):O:=Q6 N (λy0 y1 y2 y3 y4=>k0 (y0,y1,y2,y3,y4)) x.1 x.2.1 x.2.2.1 x.2.2.2.1 x.2.2.2.2
def Q3[aA] N a0 a1 a2 a3 a4 (k0:Int->Int->Int->Int->(List Ex)->O):=FH N N.1 (a0,a1,a2,a3,a4) (λy=>k0 y.1 y.2.1 y.2.2.1 y.2.2.2.1 y.2.2.2.2) (λ_=>none) (λ_=>none)
def Zy[aA] N a0 a1 a2 a3 a4 (k0:Int->Int->Int->Int->(List Ex)->O):=bB CK Jg (FH N N.1) (CK (a0,a1,a2,a3,a4)) (λy=>k0 y.1 y.2.1 y.2.2.1 y.2.2.2.1 y.2.2.2.2) (λ_=>none) (λ_=>none)
theorem aNV[aA] N:Zy N=Q3 N:=funext λ_=>funext λ_=>funext λ_=>funext λ_=>funext λ_=>funext λ_=>dD aNO _ _ _ _
theorem aNP[aA](N:pL)(K:Exit->Sg->O)(x:Int×Int×Int×Int×(List Ex)):Q6 N (λy0 y1 y2 y3 y4=>K (Jj (y0,y1,y2,y3,y4)).1 (Jj (y0,y1,y2,y3,y4)).2) x.1 x.2.1 x.2.2.1 x.2.2.2.1 x.2.2.2.2=exec (sO N) Tryz.f71.ntmps .d Q4 (CK x) (iH aNL K):=by kernel_rfl
theorem aNX N (hc:aD (sO N)):cU (sO N) Tryz.f71.ntmps Q4 Jj (aV 1) (aV 2) (bB CK Jg (FH N N.1)):=
 jL hc (cT Q4) (fF aNM .normal (λ_=>by kernel_rfl) (λ_=>rfl) (by kernel_rfl)) (λx K=>by
  exact aNP N K x)
def Jk[aA](N:pL)(in0:Int->Int->Int->Int->(List Ex)->(Int->Int->Int->Int->(List Ex)->O)->O)(A B:Int)(C:(List Ex)):O:=
 br (decide (A=(0:Int)))
  (ck (Im N.1 B)<|
  some (mS (Ik N.1 B)))
  (br (decide (A=(1:Int)))
   (some (mS [dV (aB.wrap ((97:Int)+B))]))
   (br (decide (A=(2:Int)))
    (gx C 0 λy0=>
    ck ((N.snd.2 y0.op y0.num y0.kids (3:Int)).isSome)<|
    ck (decide ((1:Int)+(↑((N.snd.2 y0.op y0.num y0.kids (3:Int)).getD []).length:Int)<=(9223372036854775807:Int)))<|
    some (mS ([(45:UInt8)]++(N.snd.2 y0.op y0.num y0.kids (3:Int)).getD [])))
    (br (decide (A=(8:Int)))
     (gx C 0 λy1=>
     ck ((N.snd.2 y1.op y1.num y1.kids (1:Int)).isSome)<|
     ck (decide ((2:Int)+(↑((N.snd.2 y1.op y1.num y1.kids (1:Int)).getD []).length:Int)<=(9223372036854775807:Int)))<|
     ck (decide ((↑([(82:UInt8),(40:UInt8)]++(N.snd.2 y1.op y1.num y1.kids (1:Int)).getD []).length:Int)+(1:Int)<=(9223372036854775807:Int)))<|
     some (mS ([(82:UInt8),(40:UInt8)]++(N.snd.2 y1.op y1.num y1.kids (1:Int)).getD []++[(41:UInt8)])))
     (br (decide (A=(7:Int)))
      (gx C 0 λy2=>
      ck ((N.snd.2 y2.op y2.num y2.kids (4:Int)).isSome)<|
      ck (decide ((↑((N.snd.2 y2.op y2.num y2.kids (4:Int)).getD []).length:Int)+(1:Int)<=(9223372036854775807:Int)))<|
      gx C 1 λy3=>
      ck ((N.snd.2 y3.op y3.num y3.kids (3:Int)).isSome)<|
      ck (decide ((↑((N.snd.2 y2.op y2.num y2.kids (4:Int)).getD []++[(94:UInt8)]).length:Int)+(↑((N.snd.2 y3.op y3.num y3.kids (3:Int)).getD []).length:Int)<=(9223372036854775807:Int)))<|
      some (mS ((N.snd.2 y2.op y2.num y2.kids (4:Int)).getD []++[(94:UInt8)]++(N.snd.2 y3.op y3.num y3.kids (3:Int)).getD [])))
      (ck (Ia N.1 A)<|
      in0 (E8 N.1 A) (E8 N.1 A) A B C
       (λz5 z6 z7 _ z9=>
        gx z9 0 λy10=>
        ck ((N.snd.2 y10.op y10.num y10.kids z6).isSome)<|
        ck (I5 N.1 z7)<|
        ck (decide ((↑((N.snd.2 y10.op y10.num y10.kids z6).getD []).length:Int)+(↑(vD N.1 z7).length:Int)<=(9223372036854775807:Int)))<|
        gx z9 1 λy11=>
        ck ((N.snd.2 y11.op y11.num y11.kids (aB.wrap (z5+1))).isSome)<|
        ck (decide ((↑((N.snd.2 y10.op y10.num y10.kids z6).getD []++vD N.1 z7).length:Int)+(↑((N.snd.2 y11.op y11.num y11.kids (aB.wrap (z5+1))).getD []).length:Int)<=(9223372036854775807:Int)))<|
        some (mS ((N.snd.2 y10.op y10.num y10.kids z6).getD []++vD N.1 z7++(N.snd.2 y11.op y11.num y11.kids (aB.wrap (z5+1))).getD []))))))))
def w71[aA] N A B C:=Jk N (Q3 N) A B C
def aAA[aA](N:pL):Hint:=(.seq .d (.seq .d (.seq .d (.seq .d (.seq (.sub aNS _ _ _ Jj (aV 1) (aV 2) (bB CK Jg (FH N N.1))) .d)))))
theorem aNT N (hc:aD (sO N)):bJ (sO N) Tryz.f71.ntmps (aAA N) Q5:=bR _ _ (aH trivial (aH trivial (aH trivial (aH trivial (aH (aNX N hc) trivial)))))
theorem aNQ[aA] N A B C:Jk N (Zy N) A B C=exec (sO N) Tryz.f71.ntmps (aAA N) Q5 ⟨bW 0 [.agg [.e (.i .i64) A,.e (.i .i64) B,.e (.sl .ex) C]],[],100⟩ (bX (sO N) Tryz.f71 false):=by kernel_rfl
def CI(r:aC):Option (lF):=match r with
 |(x0,[])=>(match ue .tx x0 with|some a0=>some a0|_=>none)
 |_=>none
theorem aNN{r d}(h:CI r=some d):r=mS (d):=by
 unfold CI at h;split at h
 .split at h
  .rename_i h0;cases h;rw[aE h0];rfl
  .cases h
 .cases h
def Q2 N A B C:=(w71 N A B C).bind CI
theorem aNU{N}(hc:aD (sO N)){A B C d}(hd:Q2 N A B C=some d):cB Tryz.prog 71 [.agg [.e (.i .i64) A,.e (.i .i64) B,.e (.sl .ex) C]] [] (mS (d)):=
 cD hc (by kernel_rfl) (by kernel_rfl) (aNT N hc) (by kernel_rfl) aNN (λhr=>(aNQ N A B C).symm.trans (by rw[aNV N];exact hr)) hd
def Ec(N:pL):Cx:=⟨Tryz.prog,25,[(71,FJ N),(93,Ed N),(94,P9 N.1)],[]⟩
def Y8:Code:=Tryz.f93.body.getD .skip
theorem aKW N (hw51:aK Tryz.prog 71 (FJ N)) (hw82:aK Tryz.prog 93 (Ed N)):aD (Ec N):=bZ (by kernel_rfl) (.cons (by kernel_rfl) hw51 (.cons (by kernel_rfl) hw82 (.cons (by kernel_rfl) (YT N.1) .nil))) .nil
def Ij[aA](N:pL)(A B:Int)(C:(List Ex))(level1:Int):O:=
 ck ((N.snd.1 A B C).isSome)<|
 ck (Ia N.1 A)<|
 br (decide (E8 N.1 A<level1))
  (ck (decide ((1:Int)+(↑((N.snd.1 A B C).getD []).length:Int)<=(9223372036854775807:Int)))<|
  ck (decide ((↑([(40:UInt8)]++(N.snd.1 A B C).getD []).length:Int)+(1:Int)<=(9223372036854775807:Int)))<|
  some (yR ([(40:UInt8)]++(N.snd.1 A B C).getD []++[(41:UInt8)])))
  (some (yR ((N.snd.1 A B C).getD [])))
def w93[aA] N A B C level1:=Ij N A B C level1
def Y7[aA](_:pL):Hint:=.d
theorem aKU N:bJ (Ec N) Tryz.f93.ntmps (Y7 N) Y8:=bR _ _ trivial
theorem aKT[aA] N A B C level1:Ij N A B C level1=exec (Ec N) Tryz.f93.ntmps (Y7 N) Y8 ⟨bW 0 [.agg [.e (.i .i64) A,.e (.i .i64) B,.e (.sl .ex) C],.e (.i .i64) level1],[],100⟩ (bX (Ec N) Tryz.f93 false):=by kernel_rfl
def Eb(r:aC):Option (lF):=match r with
 |(x0,[])=>(match ue .tx x0 with|some a0=>some a0|_=>none)
 |_=>none
theorem aKS{r d}(h:Eb r=some d):r=yR (d):=by
 unfold Eb at h;split at h
 .split at h
  .rename_i h0;cases h;rw[aE h0];rfl
  .cases h
 .cases h
def Pd N A B C level1:=(w93 N A B C level1).bind Eb
theorem aKV{N}(hc:aD (Ec N)){A B C level1 d}(hd:Pd N A B C level1=some d):cB Tryz.prog 93 [.agg [.e (.i .i64) A,.e (.i .i64) B,.e (.sl .ex) C],.e (.i .i64) level1] [] (yR (d)):=
 cD hc (by kernel_rfl) (by kernel_rfl) (aKU N) (by kernel_rfl) aKS (aKT N A B C level1).symm.trans hd
def gH(N:Nat):Nat->(Int->Int->(List Ex)->Option (lF))×(Int->Int->(List Ex)->Int->Option (lF))
 |0=>(λ_ _ _=>none,λ_ _ _ _=>none)
 |n+1=>(λA B C=>Q2 (N,gH N n) A B C,λA B C level1=>Pd (N,gH N n) A B C level1)
theorem aAB(N:Nat):∀n,aK Tryz.prog 71 (FJ (N,gH N n))/\aK Tryz.prog 93 (Ed (N,gH N n))
 |0=>⟨eH Zz (λ_ h=>by cases h),eH Y6 (λ_ h=>by cases h)⟩
 |n+1=>
   have ih:=aAB N n
   ⟨eH Zz (λd h=>oV (zz:=Q2 (N,gH N n) d.1 d.2.1 d.2.2) (R:=λy=>mS (y)) (d0:=[]) (λ_ hy=>aNU (aNW (N,gH N n) ih.1 ih.2) hy) h),eH Y6 (λd h=>oV (zz:=Pd (N,gH N n) d.1 d.2.1 d.2.2.1 d.2.2.2) (R:=λy=>yR (y)) (d0:=[]) (λ_ hy=>aKV (aKW (N,gH N n) ih.1 ih.2) hy) h)⟩
def Jh N A B C:=((gH N N).1 A B C).isSome
def Jf N A B C:=(((gH N N).1 A B C).getD [])
def aAC(N:Nat):bK:=eU Ji (λd=>Jh N d.1 d.2.1 d.2.2) (λd=>mS (Jf N d.1 d.2.1 d.2.2))
theorem aNR N:aK Tryz.prog 71 (aAC N):=(aAB N N).1
def Fw(a0:lF):aC:=(.e .tx a0,[])
def Fx(N:Nat):Cx:=⟨Tryz.prog,25,[(36,MM N),(71,aAC N)],[]⟩
def aDE:Code:=Tryz.f38.body.getD .skip
theorem aTC N:aD (Fx N):=bZ (by kernel_rfl) (.cons (by kernel_rfl) (Sh N) (.cons (by kernel_rfl) (aNR N) .nil)) .nil
def Ly[aA](N:Nat)(A B:Int)(C:(List Ex)):O:=
 ck (AQ N A B C)<|
 br (decide (v8 N A B C≠(0:Int)))
  (some (Fw []))
  (ck (Jh N A B C)<|
  some (Fw (Jf N A B C)))
def w38[aA] N A B C:=Ly N A B C
def aDC[aA](_:Nat):Hint:=.d
theorem aTA N:bJ (Fx N) Tryz.f38.ntmps (aDC N) aDE:=bR _ _ trivial
theorem aSy[aA] N A B C:Ly N A B C=exec (Fx N) Tryz.f38.ntmps (aDC N) aDE ⟨bW 0 [.agg [.e (.i .i64) A,.e (.i .i64) B,.e (.sl .ex) C]],[],100⟩ (bX (Fx N) Tryz.f38 false):=by kernel_rfl
def Lw(r:aC):Option (lF):=match r with
 |(x0,[])=>(match ue .tx x0 with|some a0=>some a0|_=>none)
 |_=>none
theorem aSx{r d}(h:Lw r=some d):r=Fw (d):=by
 unfold Lw at h;split at h
 .split at h
  .rename_i h0;cases h;rw[aE h0];rfl
  .cases h
 .cases h
def Lv N A B C:=(w38 N A B C).bind Lw
theorem aTB{N}(hc:aD (Fx N)){A B C d}(hd:Lv N A B C=some d):cB Tryz.prog 38 [.agg [.e (.i .i64) A,.e (.i .i64) B,.e (.sl .ex) C]] [] (Fw (d)):=
 cD hc (by kernel_rfl) (by kernel_rfl) (aTA N) (by kernel_rfl) aSx (aSy N A B C).symm.trans hd
def Lx N A B C:=(Lv N A B C).isSome
def Fv N A B C:=((Lv N A B C).getD [])
def aDD(N:Nat):bK:=E1 .ex (λx0=>(Lx N (Ex.op x0) (Ex.num x0) (Ex.kids x0),Fw (Fv N (Ex.op x0) (Ex.num x0) (Ex.kids x0))))
theorem aSz N:aK Tryz.prog 38 (aDD N):=aK.e1 (λ_ h=>cV h (aTB (aTC N)) rfl)
def nB(a0:Bool):aC:=(.e .bo a0,[])
abbrev DD:=Nat×(Int->Int->(List Ex)->Int->Int->(List Ex)->Option (Bool))
def tG(N:DD):Cx:=⟨Tryz.prog,25,[(22,E2 .ex .ex (λx0 x1=>((N.2 (Ex.op x0) (Ex.num x0) (Ex.kids x0) (Ex.op x1) (Ex.num x1) (Ex.kids x1)).isSome,nB (((N.2 (Ex.op x0) (Ex.num x0) (Ex.kids x0) (Ex.op x1) (Ex.num x1) (Ex.kids x1)).getD false)))))],[]⟩
def TM:Code:=Tryz.f22.body.getD .skip
theorem aUz N (hs:aK Tryz.prog 22 (E2 .ex .ex (λx0 x1=>((N.2 (Ex.op x0) (Ex.num x0) (Ex.kids x0) (Ex.op x1) (Ex.num x1) (Ex.kids x1)).isSome,nB (((N.2 (Ex.op x0) (Ex.num x0) (Ex.kids x0) (Ex.op x1) (Ex.num x1) (Ex.kids x1)).getD false)))))):aD (tG N):=bZ (by kernel_rfl) (.cons (by kernel_rfl) hs .nil) .nil
def DE[aA](N:DD)(self:Int->O)(k0:Bool->O)(k1:Unit->O)(_x0_1 _x0_2:Int)(x0_3:(List Ex))(_x0_4 _x0_5:Int)(x0_6:(List Ex))(x0_0:Int):O:=
 br (decide (x0_0<(↑x0_3.length:Int)))
  (gx x0_3 x0_0 λy5=>
  gx x0_6 x0_0 λy6=>
  ck ((N.2 y5.op y5.num y5.kids y6.op y6.num y6.kids).isSome)<|
  br (!(N.2 y5.op y5.num y5.kids y6.op y6.num y6.kids).getD false)
   (k0 false)
   (self (aB.wrap (x0_0+1))))
  (k1 ())
def TL:Code:=cP [1,1,0,1,0,0] TM
def aDx:Nm:=⟨[2,3,5],[],[]⟩
def A1(x:Int×Int×Int×(List Ex)×Int×Int×(List Ex)):Sg:=⟨[(2,.ref 0 0),(3,.ref 1 0),(5,.e (.i .i64) x.1)],[(0,.box 25 [.e (.i .i64) x.2.1,.e (.i .i64) x.2.2.1,.e (.sl .ex) x.2.2.2.1]),(1,.box 25 [.e (.i .i64) x.2.2.2.2.1,.e (.i .i64) x.2.2.2.2.2.1,.e (.sl .ex) x.2.2.2.2.2.2])],100⟩
def Ma(σ:Sg):Int×Int×Int×(List Ex)×Int×Int×(List Ex):=(aW (.i .i64) 5 0 σ,aL (.i .i64) 0 0 σ,aL (.i .i64) 0 1 σ,aL (.sl .ex) 0 2 σ,aL (.i .i64) 1 0 σ,aL (.i .i64) 1 1 σ,aL (.sl .ex) 1 2 σ)
theorem aUt:∀x,Ma (A1 x)=x:=λ_=>by kernel_rfl
def Md(y:Bool):Exit×Sg:=(.ret,⟨[(4,.e .bo y)],[],100⟩)
def aUr(_:Exit)(σ:Sg):Bool:=aW .bo 4 0 σ
def Mc(_:Unit):Exit×Sg:=((.exit 0),⟨[],[],100⟩)
def aUq(_:Exit)(_:Sg):Unit:=()
def aUp:List (Exit×Nm):=[(.ret,⟨[4],[],[]⟩),((.exit 0),⟨[],[],[]⟩)]
def A0[aA](N:DD):Nat->(Int×Int×Int×(List Ex)×Int×Int×(List Ex))->((Bool)->O)->((Unit)->O)->((Unit)->O)->O
 |0,_,_,_,_=>none
 |n+1,x,k0,k1,k2=>DE N (λv0=>A0 N n (v0,x.2.1,x.2.2.1,x.2.2.2.1,x.2.2.2.2.1,x.2.2.2.2.2.1,x.2.2.2.2.2.2) k0 k1 k2) (λy0=>k0 y0) (λ(_:Unit)=>k1 ()) x.2.1 x.2.2.1 x.2.2.2.1 x.2.2.2.2.1 x.2.2.2.2.2.1 x.2.2.2.2.2.2 x.1
def TJ[aA] N a0 a1 a2 a3 a4 a5 a6 (k0:Bool->O) (k1:Unit->O):=A0 N N.1 (a0,a1,a2,a3,a4,a5,a6) (λy=>k0 y) (λy=>k1 y) (λ_=>none)
def aDv[aA] N a0 a1 a2 a3 a4 a5 a6 (k0:Bool->O) (k1:Unit->O):=bB A1 Ma (A0 N N.1) (A1 (a0,a1,a2,a3,a4,a5,a6)) (λy=>k0 y) (λy=>k1 y) (λ_=>none)
theorem aUy[aA] N:aDv N=TJ N:=funext λ_=>funext λ_=>funext λ_=>funext λ_=>funext λ_=>funext λ_=>funext λ_=>funext λ_=>funext λ_=>dD aUt _ _ _ _
theorem aUu[aA](N:DD)(self:Sg->O)(K:Exit->Sg->O)(x:Int×Int×Int×(List Ex)×Int×Int×(List Ex)):DE N (λv0=>self (A1 (v0,x.2.1,x.2.2.1,x.2.2.2.1,x.2.2.2.2.1,x.2.2.2.2.2.1,x.2.2.2.2.2.2))) (λy0=>K (Md y0).1 (Md y0).2) (λ(_:Unit)=>K (Mc ()).1 (Mc ()).2) x.2.1 x.2.2.1 x.2.2.2.1 x.2.2.2.2.1 x.2.2.2.2.2.1 x.2.2.2.2.2.2 x.1=exec (tG N) Tryz.f22.ntmps .d TL (A1 x) (fE aDx aUp self K):=by kernel_rfl
theorem aVC N (hc:aD (tG N)):cU (tG N) Tryz.f22.ntmps (.loop TL) Md Mc (aV 2) (bB A1 Ma (A0 N N.1)):=
 fW hc (cT TL) (kS aUr aUq .ret (.exit 0) (λ_=>by kernel_rfl) (λ_=>by kernel_rfl) (λ_=>rfl) (λ_=>rfl) (by kernel_rfl)) (n:=N.1) (λx K=>fY (A0 N) (λ_ _ _ _=>rfl) (λn K ih x=>by
  refine gM ?_ (aUu N _ K x);simp only[<-ih];rfl) N.1 x K)
def TO[aA](_:DD)(in0:Int->Int->Int->(List Ex)->Int->Int->(List Ex)->(Bool->O)->(Unit->O)->O)(a0_0 a0_1:Int)(a0_2:(List Ex))(b1_0 b1_1:Int)(b1_2:(List Ex)):O:=
 br (decide (a0_0≠b1_0)||decide (a0_1≠b1_1)||decide ((↑a0_2.length:Int)≠(↑b1_2.length:Int)))
  (some (nB false))
  (in0 0 a0_0 a0_1 a0_2 b1_0 b1_1 b1_2
   (λz7=>
    some (nB z7))
   (λ(_:Unit)=>
    some (nB true)))
def w22[aA] N a0_0 a0_1 a0_2 b1_0 b1_1 b1_2:=TO N (TJ N) a0_0 a0_1 a0_2 b1_0 b1_1 b1_2
def aDy[aA](N:DD):Hint:=(.seq .d (.seq .d (.seq (.seq .d (.block (.sub aDx _ _ _ Md Mc (aV 2) (bB A1 Ma (A0 N N.1))))) .d)))
theorem aUw N (hc:aD (tG N)):bJ (tG N) Tryz.f22.ntmps (aDy N) TM:=bR _ _ (aH trivial (aH trivial (aH (aH trivial (aVC N hc)) trivial)))
theorem aUv[aA] N a0_0 a0_1 a0_2 b1_0 b1_1 b1_2:TO N (aDv N) a0_0 a0_1 a0_2 b1_0 b1_1 b1_2=exec (tG N) Tryz.f22.ntmps (aDy N) TM ⟨bW 0 [.agg [.e (.i .i64) a0_0,.e (.i .i64) a0_1,.e (.sl .ex) a0_2],.agg [.e (.i .i64) b1_0,.e (.i .i64) b1_1,.e (.sl .ex) b1_2]],[],100⟩ (bX (tG N) Tryz.f22 false):=by kernel_rfl
def M9(r:aC):Option (Bool):=match r with
 |(x0,[])=>(match ue .bo x0 with|some a0=>some a0|_=>none)
 |_=>none
theorem aUs{r d}(h:M9 r=some d):r=nB (d):=by
 unfold M9 at h;split at h
 .split at h
  .rename_i h0;cases h;rw[aE h0];rfl
  .cases h
 .cases h
def M7 N a0_0 a0_1 a0_2 b1_0 b1_1 b1_2:=(w22 N a0_0 a0_1 a0_2 b1_0 b1_1 b1_2).bind M9
theorem aUx{N}(hc:aD (tG N)){a0_0 a0_1 a0_2 b1_0 b1_1 b1_2 d}(hd:M7 N a0_0 a0_1 a0_2 b1_0 b1_1 b1_2=some d):cB Tryz.prog 22 [.agg [.e (.i .i64) a0_0,.e (.i .i64) a0_1,.e (.sl .ex) a0_2],.agg [.e (.i .i64) b1_0,.e (.i .i64) b1_1,.e (.sl .ex) b1_2]] [] (nB (d)):=
 cD hc (by kernel_rfl) (by kernel_rfl) (aUw N hc) (by kernel_rfl) aUs (λhr=>(aUv N a0_0 a0_1 a0_2 b1_0 b1_1 b1_2).symm.trans (by rw[aUy N];exact hr)) hd
def nC(N:Nat):Nat->Int->Int->(List Ex)->Int->Int->(List Ex)->Option (Bool)
 |0,_,_,_,_,_,_=>none
 |n+1,a0_0,a0_1,a0_2,b1_0,b1_1,b1_2=>M7 (N,nC N n) a0_0 a0_1 a0_2 b1_0 b1_1 b1_2
theorem aEA(N:Nat):∀n,aK Tryz.prog 22 (E2 .ex .ex (λx0 x1=>((nC N n (Ex.op x0) (Ex.num x0) (Ex.kids x0) (Ex.op x1) (Ex.num x1) (Ex.kids x1)).isSome,nB (((nC N n (Ex.op x0) (Ex.num x0) (Ex.kids x0) (Ex.op x1) (Ex.num x1) (Ex.kids x1)).getD false)))))
 |0=>aK.e2 (λ_ _ h=>by cases h)
 |n+1=>aK.e2 (λx0 x1 h=>by
   obtain⟨d,hd⟩:=sB.1 h;have hd':nC N (n+1) (Ex.op x0) (Ex.num x0) (Ex.kids x0) (Ex.op x1) (Ex.num x1) (Ex.kids x1)=some d:=hd;have e:nB (((nC N (n+1) (Ex.op x0) (Ex.num x0) (Ex.kids x0) (Ex.op x1) (Ex.num x1) (Ex.kids x1)).getD false))=nB (d):=by rw[hd'];rfl
   show cK _ _ _ _ (nB (((nC N (n+1) (Ex.op x0) (Ex.num x0) (Ex.kids x0) (Ex.op x1) (Ex.num x1) (Ex.kids x1)).getD false))).1.D (HA (nB (((nC N (n+1) (Ex.op x0) (Ex.num x0) (Ex.kids x0) (Ex.op x1) (Ex.num x1) (Ex.kids x1)).getD false))).2);rw[e];exact aUx (N:=(N,nC N n)) (aUz (N,nC N n) (aEA N n)) hd')
def Mb N a0_0 a0_1 a0_2 b1_0 b1_1 b1_2:=(nC N N a0_0 a0_1 a0_2 b1_0 b1_1 b1_2).isSome
def M8 N a0_0 a0_1 a0_2 b1_0 b1_1 b1_2:=((nC N N a0_0 a0_1 a0_2 b1_0 b1_1 b1_2).getD false)
def TK(N:Nat):bK:=E2 .ex .ex (λx0 x1=>(Mb N (Ex.op x0) (Ex.num x0) (Ex.kids x0) (Ex.op x1) (Ex.num x1) (Ex.kids x1),nB (M8 N (Ex.op x0) (Ex.num x0) (Ex.kids x0) (Ex.op x1) (Ex.num x1) (Ex.kids x1))))
theorem aDw N:aK Tryz.prog 22 (TK N):=aEA N N
end
end Go.Proofs
/- What functions do. -/
namespace Go.Proofs
noncomputable section
open Go.Ax Go.Ax.aA Go.RowKit Go.Ab
open Go
def DJ(a0:Bool):aC:=(.e .bo a0,[])
def tI(_:Nat):Cx:=⟨Tryz.prog,25,[],[]⟩
def Ta:Code:=Tryz.f15.body.getD .skip
theorem aVp N:aD (tI N):=bZ (by kernel_rfl) .nil .nil
def aE3[aA](_:Nat)(self:Int->O)(k0:Bool->O)(k1:Unit->O)(x0_0 x0_1:(List Int))(x0_2:Int):O:=
 br (decide (x0_2<(↑x0_0.length:Int)))
  (gx x0_0 x0_2 λy5=>
  gx x0_1 x0_2 λy6=>
  br (decide (y5≠y6))
   (k0 false)
   (self (aB.wrap (x0_2+1))))
  (k1 ())
def T9:Code:=cP [1,1,0,1,0,0] Ta
def aEZ:Nm:=⟨[0,1,5],[],[]⟩
def A3(x:(List Int)×(List Int)×Int):Sg:=⟨[(0,.e (.sl (.i .i64)) x.1),(1,.e (.sl (.i .i64)) x.2.1),(5,.e (.i .i64) x.2.2)],[],100⟩
def Ml(σ:Sg):(List Int)×(List Int)×Int:=(aW (.sl (.i .i64)) 0 0 σ,aW (.sl (.i .i64)) 1 0 σ,aW (.i .i64) 5 0 σ)
theorem aVh:∀x,Ml (A3 x)=x:=λ_=>by kernel_rfl
def Mn(y:Bool):Exit×Sg:=(.ret,⟨[(4,.e .bo y)],[],100⟩)
def aVf(_:Exit)(σ:Sg):Bool:=aW .bo 4 0 σ
def Mm(_:Unit):Exit×Sg:=((.exit 0),⟨[],[],100⟩)
def aVe(_:Exit)(_:Sg):Unit:=()
def aVd:List (Exit×Nm):=[(.ret,⟨[4],[],[]⟩),((.exit 0),⟨[],[],[]⟩)]
def DK[aA](N:Nat):Nat->((List Int)×(List Int)×Int)->((Bool)->O)->((Unit)->O)->((Unit)->O)->O
 |0,_,_,_,_=>none
 |n+1,x,k0,k1,k2=>aE3 N (λv0=>DK N n (x.1,x.2.1,v0) k0 k1 k2) (λy0=>k0 y0) (λ(_:Unit)=>k1 ()) x.1 x.2.1 x.2.2
def aEY[aA] N a0 a1 a2 (k0:Bool->O) (k1:Unit->O):=DK N N (a0,a1,a2) (λy=>k0 y) (λy=>k1 y) (λ_=>none)
def aEX[aA] N a0 a1 a2 (k0:Bool->O) (k1:Unit->O):=bB A3 Ml (DK N N) (A3 (a0,a1,a2)) (λy=>k0 y) (λy=>k1 y) (λ_=>none)
theorem aVo[aA] N:aEX N=aEY N:=funext λ_=>funext λ_=>funext λ_=>funext λ_=>funext λ_=>dD aVh _ _ _ _
theorem aVi[aA](N:Nat)(self:Sg->O)(K:Exit->Sg->O)(x:(List Int)×(List Int)×Int):aE3 N (λv0=>self (A3 (x.1,x.2.1,v0))) (λy0=>K (Mn y0).1 (Mn y0).2) (λ(_:Unit)=>K (Mm ()).1 (Mm ()).2) x.1 x.2.1 x.2.2=exec (tI N) Tryz.f15.ntmps .d T9 (A3 x) (fE aEZ aVd self K):=by kernel_rfl
theorem aVq N (hc:aD (tI N)):cU (tI N) Tryz.f15.ntmps (.loop T9) Mn Mm (aV 2) (bB A3 Ml (DK N N)):=
 fW hc (cT T9) (kS aVf aVe .ret (.exit 0) (λ_=>by kernel_rfl) (λ_=>by kernel_rfl) (λ_=>rfl) (λ_=>rfl) (by kernel_rfl)) (n:=N) (λx K=>fY (DK N) (λ_ _ _ _=>rfl) (λn K ih x=>by
  refine gM ?_ (aVi N _ K x);simp only[<-ih];rfl) N x K)
def aE2[aA](_:Nat)(in0:(List Int)->(List Int)->Int->(Bool->O)->(Unit->O)->O)(a0 b1:(List Int)):O:=
 br (decide ((↑a0.length:Int)≠(↑b1.length:Int)))
  (some (DJ false))
  (in0 a0 b1 0
   (λz7=>
    some (DJ z7))
   (λ(_:Unit)=>
    some (DJ true)))
def w15[aA] N a0 b1:=aE2 N (aEY N) a0 b1
def aE0[aA](N:Nat):Hint:=(.seq .d (.seq .d (.seq (.seq .d (.block (.sub aEZ _ _ _ Mn Mm (aV 2) (bB A3 Ml (DK N N))))) .d)))
theorem aVm N (hc:aD (tI N)):bJ (tI N) Tryz.f15.ntmps (aE0 N) Ta:=bR _ _ (aH trivial (aH trivial (aH (aH trivial (aVq N hc)) trivial)))
theorem aVj[aA] N a0 b1:aE2 N (aEX N) a0 b1=exec (tI N) Tryz.f15.ntmps (aE0 N) Ta ⟨bW 0 [.e (.sl (.i .i64)) a0,.e (.sl (.i .i64)) b1],[],100⟩ (bX (tI N) Tryz.f15 false):=by kernel_rfl
def T7(r:aC):Option (Bool):=match r with
 |(x0,[])=>(match ue .bo x0 with|some a0=>some a0|_=>none)
 |_=>none
theorem aVg{r d}(h:T7 r=some d):r=DJ (d):=by
 unfold T7 at h;split at h
 .split at h
  .rename_i h0;cases h;rw[aE h0];rfl
  .cases h
 .cases h
def Mk N a0 b1:=(w15 N a0 b1).bind T7
theorem aVn{N}(hc:aD (tI N)){a0 b1 d}(hd:Mk N a0 b1=some d):cB Tryz.prog 15 [.e (.sl (.i .i64)) a0,.e (.sl (.i .i64)) b1] [] (DJ (d)):=
 cD hc (by kernel_rfl) (by kernel_rfl) (aVm N hc) (by kernel_rfl) aVg (λhr=>(aVj N a0 b1).symm.trans (by rw[aVo N];exact hr)) hd
def aVk N a0 b1:=(Mk N a0 b1).isSome
def aVc N a0 b1:=((Mk N a0 b1).getD false)
def aE1(N:Nat):bK:=E2 (.sl (.i .i64)) (.sl (.i .i64)) (λx0 x1=>(aVk N x0 x1,DJ (aVc N x0 x1)))
theorem aVl N:aK Tryz.prog 15 (aE1 N):=aK.e2 (λx0 x1 h=>cV (z:=Mk N x0 x1) h (aVn (aVp N)) rfl)
end
end Go.Proofs
