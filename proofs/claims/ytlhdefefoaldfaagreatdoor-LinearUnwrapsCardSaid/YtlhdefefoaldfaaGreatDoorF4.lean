/- What functions do: the reader of the reference. Conditions are in the theorems. -/
import Derived.Test.YtlhdefefoaldfaaGreatDoorE7
import Derived.Test.YtlhdefefoaldfaaGreatDoorProg
import Derived.KernelRfl
import Derived.Test.YtlhdefefoaldfaaGreatDoorF0
import Derived.Test.YtlhdefefoaldfaaGreatDoorF3
open And renaming intro->aG
open Eq renaming trans->fK
open Go.IntKind renaming i64->aC
/- What functions do. -/
namespace Go.Proofs
noncomputable section
open Go.Ax Go.Ax.aA Go.RowKit Go.Ab
open Go
abbrev bB:=List UInt8
def GR(a0:bB)(a1:Int)(a2:Bool):aE:=(.bD [],[(50,.box 104 [.e .tx a0,.e (.i .i64) a1,.e .bo a2])])
def tJ(_:Nat):Cx:=⟨Tryz.prog,25,[],[]⟩
def TD:Code:=Tryz.f81.body.getD .skip
theorem aPp N:aF (tJ N):=bY (by kernel_rfl) .nil .nil
def Ce[aA](_:Nat)(self:Int->O)(k0:bB->Int->Bool->O)(x0_0:bB)(x0_2:Bool)(x0_1:Int):O:=
 gc (decide (x0_1<(↑x0_0.length:Int))) 0 x0_0 x0_1 λy3=>
 br (decide (x0_1<(↑x0_0.length:Int))&&decide (y3=32))
  (self (aC.wrap (x0_1+1)))
  (k0 x0_0 x0_1 x0_2)
def TC:Code:=cK [0,0] TD
def aC1:Nm:=⟨[0],[],[]⟩
def AF(x:bB×Int×Bool):Sg:=⟨[(0,.ref 50 0)],[(50,.box 104 [.e .tx x.1,.e (.i .i64) x.2.1,.e .bo x.2.2])],100⟩
def Kw(σ:Sg):bB×Int×Bool:=(aL .tx 50 0 σ,aL (.i .i64) 50 1 σ,aL .bo 50 2 σ)
theorem aPi:∀x,Kw (AF x)=x:=λ_=>by kernel_rfl
def Ky(y:bB×Int×Bool):Exit×Sg:=((.exit 0),⟨[],[(50,.box 104 [.e .tx y.1,.e (.i .i64) y.2.1,.e .bo y.2.2])],100⟩)
def aPg(_:Exit)(σ:Sg):bB×Int×Bool:=(aL .tx 50 0 σ,aL (.i .i64) 50 1 σ,aL .bo 50 2 σ)
def aPf:List (Exit×Nm):=[((.exit 0),⟨[],[],[]⟩)]
def AE[aA](N:Nat):Nat->(bB×Int×Bool)->((bB×Int×Bool)->O)->((Unit)->O)->((Unit)->O)->O
 |0,_,_,_,_=>none
 |n+1,x,k0,k1,k2=>Ce N (λv0=>AE N n (x.1,v0,x.2.2) k0 k1 k2) (λy0 y1 y2=>k0 (y0,y1,y2)) x.1 x.2.2 x.2.1
def aC0[aA] N a0 a1 a2 (k0:bB->Int->Bool->O):=AE N N (a0,a1,a2) (λy=>k0 y.1 y.2.1 y.2.2) (λ_=>none) (λ_=>none)
def aCY[aA] N a0 a1 a2 (k0:bB->Int->Bool->O):=aY AF Kw (AE N N) (AF (a0,a1,a2)) (λy=>k0 y.1 y.2.1 y.2.2) (λ_=>none) (λ_=>none)
theorem aPo[aA] N:aCY N=aC0 N:=funext λ_=>funext λ_=>funext λ_=>funext λ_=>cW aPi _ _ _ _
theorem aPj[aA](N:Nat)(self:Sg->O)(K:Exit->Sg->O)(x:bB×Int×Bool):Ce N (λv0=>self (AF (x.1,v0,x.2.2))) (λy0 y1 y2=>K (Ky (y0,y1,y2)).1 (Ky (y0,y1,y2)).2) x.1 x.2.2 x.2.1=exec (tJ N) Tryz.f81.ntmps .d TC (AF x) (eN aC1 aPf self K):=by kernel_rfl
theorem aPq N (hc:aF (tJ N)):cN (tJ N) Tryz.f81.ntmps (.loop TC) Ky (aW 1) (aW 2) (aY AF Kw (AE N N)):=
 eV hc (cO TC) (eZ aPg (.exit 0) (λ_=>by kernel_rfl) (λ_=>rfl) (by kernel_rfl)) (n:=N) (λx K=>eW (AE N) (λ_ _ _ _=>rfl) (λn K ih x=>by
  refine fK ?_ (aPj N _ K x);simp only[<-ih];rfl) N x K)
def aC8[aA](_:Nat)(in0:bB->Int->Bool->(bB->Int->Bool->O)->O)(g0:bB)(g1:Int)(g2:Bool):O:=
 in0 g0 g1 g2
  (λz4 z5 z6=>
   some (GR z4 z5 z6))
def w81[aA] N g0 g1 g2:=aC8 N (aC0 N) g0 g1 g2
def aC2[aA](N:Nat):Hint:=(.block (.sub aC1 _ _ _ Ky (aW 1) (aW 2) (aY AF Kw (AE N N))))
theorem aPm N (hc:aF (tJ N)):bJ (tJ N) Tryz.f81.ntmps (aC2 N) TD:=bO _ _ (aPq N hc)
theorem aPk[aA] N g0 g1 g2:aC8 N (aCY N) g0 g1 g2=exec (tJ N) Tryz.f81.ntmps (aC2 N) TD ⟨bU 0 [.ref 50 0],[(50,.box 104 [.e .tx g0,.e (.i .i64) g1,.e .bo g2])],100⟩ (bX (tJ N) Tryz.f81 false):=by kernel_rfl
def Kv(r:aE):Option (bB×Int×Bool):=match r with
 |(.bD [],[(50,.box 104 [x0,x1,x2])])=>(match ue .tx x0,ue (.i .i64) x1,ue .bo x2 with|some a0,some a1,some a2=>some (a0,a1,a2)|_,_,_=>none)
 |_=>none
theorem aPh{r d}(h:Kv r=some d):r=GR d.1 d.2.1 d.2.2:=by
 unfold Kv at h;split at h
 .split at h
  .rename_i h0 h1 h2;cases h;rw[aH h0,aH h1,aH h2];rfl
  .cases h
 .cases h
def AD N g0 g1 g2:=(w81 N g0 g1 g2).bind Kv
theorem aPn{N}(hc:aF (tJ N)){g0 g1 g2 d}(hd:AD N g0 g1 g2=some d):cB Tryz.prog 81 [.ref 50 0] [(50,.box 104 [.e .tx g0,.e (.i .i64) g1,.e .bo g2])] (GR d.1 d.2.1 d.2.2):=
 cD hc (by kernel_rfl) (by kernel_rfl) (aPm N hc) (by kernel_rfl) aPh (λhr=>(aPk N g0 g1 g2).symm.trans (by rw[aPo N];exact hr)) hd
def GS N g0 g1 g2:=(AD N g0 g1 g2).isSome
def wL N g0 g1 g2:=((AD N g0 g1 g2).getD ([],0,false)).1
def wK N g0 g1 g2:=((AD N g0 g1 g2).getD ([],0,false)).2.1
def Cd N g0 g1 g2:=((AD N g0 g1 g2).getD ([],0,false)).2.2
def TA(xs:List X)(H:XH):Option (bB×Int×Bool):=match xs,H with
 |[.ref 50 0],[(50,.box 104 [x0,x1,x2])]=>(match ue .tx x0,ue (.i .i64) x1,ue .bo x2 with|some a0,some a1,some a2=>some (a0,a1,a2)|_,_,_=>none)
 |_,_=>none
theorem aPl{xs H d}(h:TA xs H=some d):xs=[.ref 50 0]/\H=[(50,.box 104 [.e .tx d.1,.e (.i .i64) d.2.1,.e .bo d.2.2])]:=by
 unfold TA at h;split at h
 .split at h
  .rename_i h0 h1 h2;cases h;rw[aH h0,aH h1,aH h2];exact⟨rfl,rfl⟩
  .cases h
 .cases h
def TB(N:Nat):bK:=fD TA (λd=>GS N d.1 d.2.1 d.2.2) (λd=>GR (wL N d.1 d.2.1 d.2.2) (wK N d.1 d.2.1 d.2.2) (Cd N d.1 d.2.1 d.2.2))
theorem aCZ N:aM Tryz.prog 81 (TB N):=eO aPl (λd h=>cY (z:=AD N d.1 d.2.1 d.2.2) h (aPn (aPp N)) rfl)
def Ih(a0:UInt8)(a1:bB)(a2:Int)(a3:Bool):aE:=(.e .u8 a0,[(50,.box 104 [.e .tx a1,.e (.i .i64) a2,.e .bo a3])])
def Ij(N:Nat):Cx:=⟨Tryz.prog,25,[(81,TB N)],[]⟩
def aJ3:Code:=Tryz.f101.body.getD .skip
theorem a3d N:aF (Ij N):=bY (by kernel_rfl) (.cons (by kernel_rfl) (aCZ N) .nil) .nil
def QD[aA](N:Nat)(g0:bB)(g1:Int)(g2:Bool):O:=
 ck (GS N g0 g1 g2)<|
 br (decide ((↑(wL N g0 g1 g2).length:Int)<=wK N g0 g1 g2))
  (some (Ih 0 (wL N g0 g1 g2) (wK N g0 g1 g2) (Cd N g0 g1 g2)))
  (gx (wL N g0 g1 g2) (wK N g0 g1 g2) λy0=>
  some (Ih y0 (wL N g0 g1 g2) (wK N g0 g1 g2) (Cd N g0 g1 g2)))
def a3e[aA] N g0 g1 g2:=QD N g0 g1 g2
def aJ2[aA](_:Nat):Hint:=.d
theorem a3b N:bJ (Ij N) Tryz.f101.ntmps (aJ2 N) aJ3:=bO _ _ trivial
theorem a39[aA] N g0 g1 g2:QD N g0 g1 g2=exec (Ij N) Tryz.f101.ntmps (aJ2 N) aJ3 ⟨bU 0 [.ref 50 0],[(50,.box 104 [.e .tx g0,.e (.i .i64) g1,.e .bo g2])],100⟩ (bX (Ij N) Tryz.f101 false):=by kernel_rfl
def QC(r:aE):Option (UInt8×bB×Int×Bool):=match r with
 |(x0,[(50,.box 104 [x1,x2,x3])])=>(match ue .u8 x0,ue .tx x1,ue (.i .i64) x2,ue .bo x3 with|some a0,some a1,some a2,some a3=>some (a0,a1,a2,a3)|_,_,_,_=>none)
 |_=>none
theorem a38{r d}(h:QC r=some d):r=Ih d.1 d.2.1 d.2.2.1 d.2.2.2:=by
 unfold QC at h;split at h
 .split at h
  .rename_i h0 h1 h2 h3;cases h;rw[aH h0,aH h1,aH h2,aH h3];rfl
  .cases h
 .cases h
def xT N g0 g1 g2:=(a3e N g0 g1 g2).bind QC
theorem a3c{N}(hc:aF (Ij N)){g0 g1 g2 d}(hd:xT N g0 g1 g2=some d):cB Tryz.prog 101 [.ref 50 0] [(50,.box 104 [.e .tx g0,.e (.i .i64) g1,.e .bo g2])] (Ih d.1 d.2.1 d.2.2.1 d.2.2.2):=
 cD hc (by kernel_rfl) (by kernel_rfl) (a3b N) (by kernel_rfl) a38 (a39 N g0 g1 g2).symm.trans hd
def Ii N g0 g1 g2:=(xT N g0 g1 g2).isSome
def uZ N g0 g1 g2:=((xT N g0 g1 g2).getD (0,[],0,false)).1
def Bj N g0 g1 g2:=((xT N g0 g1 g2).getD (0,[],0,false)).2.1
def xU N g0 g1 g2:=((xT N g0 g1 g2).getD (0,[],0,false)).2.2.1
def Eh N g0 g1 g2:=((xT N g0 g1 g2).getD (0,[],0,false)).2.2.2
def Xv(xs:List X)(H:XH):Option (bB×Int×Bool):=match xs,H with
 |[.ref 50 0],[(50,.box 104 [x0,x1,x2])]=>(match ue .tx x0,ue (.i .i64) x1,ue .bo x2 with|some a0,some a1,some a2=>some (a0,a1,a2)|_,_,_=>none)
 |_,_=>none
theorem a3a{xs H d}(h:Xv xs H=some d):xs=[.ref 50 0]/\H=[(50,.box 104 [.e .tx d.1,.e (.i .i64) d.2.1,.e .bo d.2.2])]:=by
 unfold Xv at h;split at h
 .split at h
  .rename_i h0 h1 h2;cases h;rw[aH h0,aH h1,aH h2];exact⟨rfl,rfl⟩
  .cases h
 .cases h
def Xw(N:Nat):bK:=fD Xv (λd=>Ii N d.1 d.2.1 d.2.2) (λd=>Ih (uZ N d.1 d.2.1 d.2.2) (Bj N d.1 d.2.1 d.2.2) (xU N d.1 d.2.1 d.2.2) (Eh N d.1 d.2.1 d.2.2))
theorem aJ1 N:aM Tryz.prog 101 (Xw N):=eO a3a (λd h=>cY (z:=xT N d.1 d.2.1 d.2.2) h (a3c (a3d N)) rfl)
def AG(a0:Bool)(a1:bB)(a2:Int)(a3:Bool):aE:=(.e .bo a0,[(50,.box 104 [.e .tx a1,.e (.i .i64) a2,.e .bo a3])])
def GV(N:Nat):Cx:=⟨Tryz.prog,25,[(101,Xw N)],[]⟩
def aCa:Code:=Tryz.f80.body.getD .skip
theorem aPx N:aF (GV N):=bY (by kernel_rfl) (.cons (by kernel_rfl) (aJ1 N) .nil) .nil
def Cg[aA](N:Nat)(c1:UInt8)(g0:bB)(g1:Int)(g2:Bool):O:=
 br g2
  (br (true||decide ((↑g0.length:Int)<=g1))
   (some (AG false g0 g1 g2))
   (some (AG true g0 (aC.wrap (g1+1)) g2)))
  (ck (Ii N g0 g1 g2)<|
  br (decide (uZ N g0 g1 g2≠c1)||decide ((↑(Bj N g0 g1 g2).length:Int)<=xU N g0 g1 g2))
   (some (AG false (Bj N g0 g1 g2) (xU N g0 g1 g2) (Eh N g0 g1 g2)))
   (some (AG true (Bj N g0 g1 g2) (aC.wrap (xU N g0 g1 g2+(1:Int))) (Eh N g0 g1 g2))))
def w80[aA] N c1 g0 g1 g2:=Cg N c1 g0 g1 g2
def aC9[aA](_:Nat):Hint:=(.seq .d (.seq (.seq (.gI [1005] [] [[],[],[],[],[],[],[50],[],[],[],[],[],[],[],[],[],[],[],[],[],[],[]]) .d) .d))
theorem aPv N:bJ (GV N) Tryz.f80.ntmps (aC9 N) aCa:=bO _ _ (aG trivial (aG (aG trivial trivial) trivial))
theorem aPt[aA] N c1 g0 g1 g2:Cg N c1 g0 g1 g2=exec (GV N) Tryz.f80.ntmps (aC9 N) aCa ⟨bU 0 [.ref 50 0,.e .u8 c1],[(50,.box 104 [.e .tx g0,.e (.i .i64) g1,.e .bo g2])],100⟩ (bX (GV N) Tryz.f80 false):=by kernel_rfl
def GU(r:aE):Option (Bool×bB×Int×Bool):=match r with
 |(x0,[(50,.box 104 [x1,x2,x3])])=>(match ue .bo x0,ue .tx x1,ue (.i .i64) x2,ue .bo x3 with|some a0,some a1,some a2,some a3=>some (a0,a1,a2,a3)|_,_,_,_=>none)
 |_=>none
theorem aPs{r d}(h:GU r=some d):r=AG d.1 d.2.1 d.2.2.1 d.2.2.2:=by
 unfold GU at h;split at h
 .split at h
  .rename_i h0 h1 h2 h3;cases h;rw[aH h0,aH h1,aH h2,aH h3];rfl
  .cases h
 .cases h
def lK N c1 g0 g1 g2:=(w80 N c1 g0 g1 g2).bind GU
theorem aPw{N}(hc:aF (GV N)){c1 g0 g1 g2 d}(hd:lK N c1 g0 g1 g2=some d):cB Tryz.prog 80 [.ref 50 0,.e .u8 c1] [(50,.box 104 [.e .tx g0,.e (.i .i64) g1,.e .bo g2])] (AG d.1 d.2.1 d.2.2.1 d.2.2.2):=
 cD hc (by kernel_rfl) (by kernel_rfl) (aPv N) (by kernel_rfl) aPs (aPt N c1 g0 g1 g2).symm.trans hd
def nG N c1 g0 g1 g2:=(lK N c1 g0 g1 g2).isSome
def nF N c1 g0 g1 g2:=((lK N c1 g0 g1 g2).getD (false,[],0,false)).1
def kY N c1 g0 g1 g2:=((lK N c1 g0 g1 g2).getD (false,[],0,false)).2.1
def kX N c1 g0 g1 g2:=((lK N c1 g0 g1 g2).getD (false,[],0,false)).2.2.1
def lL N c1 g0 g1 g2:=((lK N c1 g0 g1 g2).getD (false,[],0,false)).2.2.2
def TE(xs:List X)(H:XH):Option (UInt8×bB×Int×Bool):=match xs,H with
 |[.ref 50 0,x0],[(50,.box 104 [x1,x2,x3])]=>(match ue .u8 x0,ue .tx x1,ue (.i .i64) x2,ue .bo x3 with|some a0,some a1,some a2,some a3=>some (a0,a1,a2,a3)|_,_,_,_=>none)
 |_,_=>none
theorem aPu{xs H d}(h:TE xs H=some d):xs=[.ref 50 0,.e .u8 d.1]/\H=[(50,.box 104 [.e .tx d.2.1,.e (.i .i64) d.2.2.1,.e .bo d.2.2.2])]:=by
 unfold TE at h;split at h
 .split at h
  .rename_i h0 h1 h2 h3;cases h;rw[aH h0,aH h1,aH h2,aH h3];exact⟨rfl,rfl⟩
  .cases h
 .cases h
def AH(N:Nat):bK:=fD TE (λd=>nG N d.1 d.2.1 d.2.2.1 d.2.2.2) (λd=>AG (nF N d.1 d.2.1 d.2.2.1 d.2.2.2) (kY N d.1 d.2.1 d.2.2.1 d.2.2.2) (kX N d.1 d.2.1 d.2.2.1 d.2.2.2) (lL N d.1 d.2.1 d.2.2.1 d.2.2.2))
theorem Cf N:aM Tryz.prog 80 (AH N):=eO aPu (λd h=>cY (z:=lK N d.1 d.2.1 d.2.2.1 d.2.2.2) h (aPw (aPx N)) rfl)
def B0(a0 a1:Int)(a2:(List Ex))(a3:bB)(a4:Int)(a5:Bool):aE:=(.agg [.e (.i .i64) a0,.e (.i .i64) a1,.e (.sl .ex) a2],[(50,.box 104 [.e .tx a3,.e (.i .i64) a4,.e .bo a5])])
def uO(_:Nat):Cx:=⟨Tryz.prog,25,[],[]⟩
def XX:Code:=Tryz.f118.body.getD .skip
theorem a2G N:aF (uO N):=bY (by kernel_rfl) .nil .nil
def xM[aA](_:Nat)(self:Int->Int->O)(k0:Int->Int->Int->Int->bB->Int->Bool->Int->Int->O)(x0_0 x0_1:Int)(x0_4:bB)(x0_5:Int)(x0_6:Bool)(x0_7 x0_8 x0_2 x0_3:Int):O:=
 gc (decide (x0_3<(↑x0_4.length:Int))) 0 x0_4 x0_3 λy7=>
 gc (decide (x0_3<(↑x0_4.length:Int))&&decide (48<=y7)) 0 x0_4 x0_3 λy8=>
 br (decide (x0_3<(↑x0_4.length:Int))&&decide (48<=y7)&&decide (y8<=57))
  (br (decide (aC.wrap (x0_3-x0_1)<(7:Int)))
   (gx x0_4 x0_3 λy9=>
   self (aC.wrap (aC.wrap ((10:Int)*x0_2)+aC.wrap (↑(y9-(48:UInt8)).toNat:Int))) (aC.wrap (x0_3+1)))
   (self x0_2 (aC.wrap (x0_3+1))))
  (k0 x0_0 x0_1 x0_2 x0_3 x0_4 x0_5 x0_6 x0_7 x0_8)
def XW:Code:=cK [1,1,1,1,0,0,0] XX
def aIi:Nm:=⟨[0,2,7,9,3,4,5],[],[]⟩
def B1(x:Int×Int×Int×Int×bB×Int×Bool×Int×Int):Sg:=⟨[(0,.ref 50 0),(2,.ref 0 0),(7,.ref 50 0),(9,.e (.i .i64) x.1),(3,.e (.i .i64) x.2.1),(4,.e (.i .i64) x.2.2.1),(5,.e (.i .i64) x.2.2.2.1)],[(50,.box 104 [.e .tx x.2.2.2.2.1,.e (.i .i64) x.2.2.2.2.2.1,.e .bo x.2.2.2.2.2.2.1]),(0,.box 25 [.e (.i .i64) x.2.2.2.2.2.2.2.1,.e (.i .i64) x.2.2.2.2.2.2.2.2,.cC])],100⟩
def Pj(σ:Sg):Int×Int×Int×Int×bB×Int×Bool×Int×Int:=(aO (.i .i64) 9 0 σ,aO (.i .i64) 3 0 σ,aO (.i .i64) 4 0 σ,aO (.i .i64) 5 0 σ,aL .tx 50 0 σ,aL (.i .i64) 50 1 σ,aL .bo 50 2 σ,aL (.i .i64) 0 0 σ,aL (.i .i64) 0 1 σ)
theorem a1y:∀x,Pj (B1 x)=x:=λ_=>by kernel_rfl
def Pk(y:Int×Int×Int×Int×bB×Int×Bool×Int×Int):Exit×Sg:=((.exit 0),⟨[(0,.ref 50 0),(2,.ref 0 0),(9,.e (.i .i64) y.1),(3,.e (.i .i64) y.2.1),(4,.e (.i .i64) y.2.2.1),(5,.e (.i .i64) y.2.2.2.1)],[(50,.box 104 [.e .tx y.2.2.2.2.1,.e (.i .i64) y.2.2.2.2.2.1,.e .bo y.2.2.2.2.2.2.1]),(0,.box 25 [.e (.i .i64) y.2.2.2.2.2.2.2.1,.e (.i .i64) y.2.2.2.2.2.2.2.2,.cC])],100⟩)
def a1w(_:Exit)(σ:Sg):Int×Int×Int×Int×bB×Int×Bool×Int×Int:=(aO (.i .i64) 9 0 σ,aO (.i .i64) 3 0 σ,aO (.i .i64) 4 0 σ,aO (.i .i64) 5 0 σ,aL .tx 50 0 σ,aL (.i .i64) 50 1 σ,aL .bo 50 2 σ,aL (.i .i64) 0 0 σ,aL (.i .i64) 0 1 σ)
def a1v:List (Exit×Nm):=[((.exit 0),⟨[0,2,9,3,4,5],[],[]⟩)]
def r8[aA](N:Nat):Nat->(Int×Int×Int×Int×bB×Int×Bool×Int×Int)->((Int×Int×Int×Int×bB×Int×Bool×Int×Int)->O)->((Unit)->O)->((Unit)->O)->O
 |0,_,_,_,_=>none
 |n+1,x,k0,k1,k2=>xM N (λv0 v1=>r8 N n (x.1,x.2.1,v0,v1,x.2.2.2.2.1,x.2.2.2.2.2.1,x.2.2.2.2.2.2.1,x.2.2.2.2.2.2.2.1,x.2.2.2.2.2.2.2.2) k0 k1 k2) (λy0 y1 y2 y3 y4 y5 y6 y7 y8=>k0 (y0,y1,y2,y3,y4,y5,y6,y7,y8)) x.1 x.2.1 x.2.2.2.2.1 x.2.2.2.2.2.1 x.2.2.2.2.2.2.1 x.2.2.2.2.2.2.2.1 x.2.2.2.2.2.2.2.2 x.2.2.1 x.2.2.2.1
def aIh[aA] N a0 a1 a2 a3 a4 a5 a6 a7 a8 (k0:Int->Int->Int->Int->bB->Int->Bool->Int->Int->O):=r8 N N (a0,a1,a2,a3,a4,a5,a6,a7,a8) (λy=>k0 y.1 y.2.1 y.2.2.1 y.2.2.2.1 y.2.2.2.2.1 y.2.2.2.2.2.1 y.2.2.2.2.2.2.1 y.2.2.2.2.2.2.2.1 y.2.2.2.2.2.2.2.2) (λ_=>none) (λ_=>none)
def aIg[aA] N a0 a1 a2 a3 a4 a5 a6 a7 a8 (k0:Int->Int->Int->Int->bB->Int->Bool->Int->Int->O):=aY B1 Pj (r8 N N) (B1 (a0,a1,a2,a3,a4,a5,a6,a7,a8)) (λy=>k0 y.1 y.2.1 y.2.2.1 y.2.2.2.1 y.2.2.2.2.1 y.2.2.2.2.2.1 y.2.2.2.2.2.2.1 y.2.2.2.2.2.2.2.1 y.2.2.2.2.2.2.2.2) (λ_=>none) (λ_=>none)
theorem a2F[aA] N:aIg N=aIh N:=funext λ_=>funext λ_=>funext λ_=>funext λ_=>funext λ_=>funext λ_=>funext λ_=>funext λ_=>funext λ_=>funext λ_=>cW a1y _ _ _ _
theorem a1z[aA](N:Nat)(self:Sg->O)(K:Exit->Sg->O)(x:Int×Int×Int×Int×bB×Int×Bool×Int×Int):xM N (λv0 v1=>self (B1 (x.1,x.2.1,v0,v1,x.2.2.2.2.1,x.2.2.2.2.2.1,x.2.2.2.2.2.2.1,x.2.2.2.2.2.2.2.1,x.2.2.2.2.2.2.2.2))) (λy0 y1 y2 y3 y4 y5 y6 y7 y8=>K (Pk (y0,y1,y2,y3,y4,y5,y6,y7,y8)).1 (Pk (y0,y1,y2,y3,y4,y5,y6,y7,y8)).2) x.1 x.2.1 x.2.2.2.2.1 x.2.2.2.2.2.1 x.2.2.2.2.2.2.1 x.2.2.2.2.2.2.2.1 x.2.2.2.2.2.2.2.2 x.2.2.1 x.2.2.2.1=exec (uO N) Tryz.f118.ntmps .d XW (B1 x) (eN aIi a1v self K):=by kernel_rfl
theorem a2I N (hc:aF (uO N)):cN (uO N) Tryz.f118.ntmps (.loop XW) Pk (aW 1) (aW 2) (aY B1 Pj (r8 N N)):=
 eV hc (cO XW) (eZ a1w (.exit 0) (λ_=>by kernel_rfl) (λ_=>rfl) (by kernel_rfl)) (n:=N) (λx K=>eW (r8 N) (λ_ _ _ _=>rfl) (λn K ih x=>by
  refine fK ?_ (a1z N _ K x);simp only[<-ih];rfl) N x K)
def aIl[aA](_:Nat)(in0:Int->Int->Int->Int->bB->Int->Bool->Int->Int->(Int->Int->Int->Int->bB->Int->Bool->Int->Int->O)->O)(g0:bB)(g1:Int)(g2:Bool):O:=
 in0 g1 g1 0 g1 g0 g1 g2 0 0
  (λ_ z11 z12 z13 z14 z15 z16 _ _=>
   gc (!decide ((6:Int)<aC.wrap (z13-z11))&&decide ((1:Int)<aC.wrap (z13-z11))) 0 z14 z11 λy19=>
   br (decide ((6:Int)<aC.wrap (z13-z11))||decide ((1:Int)<aC.wrap (z13-z11))&&decide (y19=48))
    (some (B0 0 0 [] z14 z15 true))
    (some (B0 0 (z12) ([]) z14 z13 z16)))
def a2J[aA] N g0 g1 g2:=aIl N (aIh N) g0 g1 g2
def aIj[aA](N:Nat):Hint:=(.seq .d (.seq .d (.seq .d (.seq .d (.seq (.block (.sub aIi _ _ _ Pk (aW 1) (aW 2) (aY B1 Pj (r8 N N)))) .d)))))
theorem a2D N (hc:aF (uO N)):bJ (uO N) Tryz.f118.ntmps (aIj N) XX:=bO _ _ (aG trivial (aG trivial (aG trivial (aG trivial (aG (a2I N hc) trivial)))))
theorem a2A[aA] N g0 g1 g2:aIl N (aIg N) g0 g1 g2=exec (uO N) Tryz.f118.ntmps (aIj N) XX ⟨bU 0 [.ref 50 0],[(50,.box 104 [.e .tx g0,.e (.i .i64) g1,.e .bo g2])],100⟩ (bX (uO N) Tryz.f118 false):=by kernel_rfl
def Ph(r:aE):Option (Int×Int×(List Ex)×bB×Int×Bool):=match r with
 |(.agg [x0,x1,x2],[(50,.box 104 [x3,x4,x5])])=>(match ue (.i .i64) x0,ue (.i .i64) x1,ue (.sl .ex) x2,ue .tx x3,ue (.i .i64) x4,ue .bo x5 with|some a0,some a1,some a2,some a3,some a4,some a5=>some (a0,a1,a2,a3,a4,a5)|_,_,_,_,_,_=>none)
 |_=>none
theorem a1x{r d}(h:Ph r=some d):r=B0 d.1 d.2.1 d.2.2.1 d.2.2.2.1 d.2.2.2.2.1 d.2.2.2.2.2:=by
 unfold Ph at h;split at h
 .split at h
  .rename_i h0 h1 h2 h3 h4 h5;cases h;rw[aH h0,aH h1,aH h2,aH h3,aH h4,aH h5];rfl
  .cases h
 .cases h
def r7 N g0 g1 g2:=(a2J N g0 g1 g2).bind Ph
theorem a2E{N}(hc:aF (uO N)){g0 g1 g2 d}(hd:r7 N g0 g1 g2=some d):cB Tryz.prog 118 [.ref 50 0] [(50,.box 104 [.e .tx g0,.e (.i .i64) g1,.e .bo g2])] (B0 d.1 d.2.1 d.2.2.1 d.2.2.2.1 d.2.2.2.2.1 d.2.2.2.2.2):=
 cD hc (by kernel_rfl) (by kernel_rfl) (a2D N hc) (by kernel_rfl) a1x (λhr=>(a2A N g0 g1 g2).symm.trans (by rw[a2F N];exact hr)) hd
def XU N g0 g1 g2:=(r7 N g0 g1 g2).isSome
def XS N g0 g1 g2:=((r7 N g0 g1 g2).getD (0,0,[],[],0,false)).1
def XR N g0 g1 g2:=((r7 N g0 g1 g2).getD (0,0,[],[],0,false)).2.1
def XQ N g0 g1 g2:=((r7 N g0 g1 g2).getD (0,0,[],[],0,false)).2.2.1
def XP N g0 g1 g2:=((r7 N g0 g1 g2).getD (0,0,[],[],0,false)).2.2.2.1
def XN N g0 g1 g2:=((r7 N g0 g1 g2).getD (0,0,[],[],0,false)).2.2.2.2.1
def XM N g0 g1 g2:=((r7 N g0 g1 g2).getD (0,0,[],[],0,false)).2.2.2.2.2
def XV(xs:List X)(H:XH):Option (bB×Int×Bool):=match xs,H with
 |[.ref 50 0],[(50,.box 104 [x0,x1,x2])]=>(match ue .tx x0,ue (.i .i64) x1,ue .bo x2 with|some a0,some a1,some a2=>some (a0,a1,a2)|_,_,_=>none)
 |_,_=>none
theorem a2C{xs H d}(h:XV xs H=some d):xs=[.ref 50 0]/\H=[(50,.box 104 [.e .tx d.1,.e (.i .i64) d.2.1,.e .bo d.2.2])]:=by
 unfold XV at h;split at h
 .split at h
  .rename_i h0 h1 h2;cases h;rw[aH h0,aH h1,aH h2];exact⟨rfl,rfl⟩
  .cases h
 .cases h
def aIk(N:Nat):bK:=fD XV (λd=>XU N d.1 d.2.1 d.2.2) (λd=>B0 (XS N d.1 d.2.1 d.2.2) (XR N d.1 d.2.1 d.2.2) (XQ N d.1 d.2.1 d.2.2) (XP N d.1 d.2.1 d.2.2) (XN N d.1 d.2.1 d.2.2) (XM N d.1 d.2.1 d.2.2))
theorem a2B N:aM Tryz.prog 118 (aIk N):=eO a2C (λd h=>cY (z:=r7 N d.1 d.2.1 d.2.2) h (a2E (a2G N)) rfl)
def IY(a0:bB)(a1:Int)(a2:Bool):aE:=(.bD [],[(50,.box 104 [.e .tx a0,.e (.i .i64) a1,.e .bo a2])])
def I0(N:Nat):Cx:=⟨Tryz.prog,25,[(80,AH N)],[]⟩
def aIf:Code:=Tryz.f119.body.getD .skip
theorem a1t N:aF (I0 N):=bY (by kernel_rfl) (.cons (by kernel_rfl) (Cf N) .nil) .nil
def Pg[aA](N:Nat)(c1:UInt8)(g0:bB)(g1:Int)(g2:Bool):O:=
 ck (nG N c1 g0 g1 g2)<|
 br (!nF N c1 g0 g1 g2)
  (some (IY (kY N c1 g0 g1 g2) (kX N c1 g0 g1 g2) true))
  (some (IY (kY N c1 g0 g1 g2) (kX N c1 g0 g1 g2) (lL N c1 g0 g1 g2)))
def a1u[aA] N c1 g0 g1 g2:=Pg N c1 g0 g1 g2
def aId[aA](_:Nat):Hint:=.d
theorem a1r N:bJ (I0 N) Tryz.f119.ntmps (aId N) aIf:=bO _ _ trivial
theorem a1o[aA] N c1 g0 g1 g2:Pg N c1 g0 g1 g2=exec (I0 N) Tryz.f119.ntmps (aId N) aIf ⟨bU 0 [.ref 50 0,.e .u8 c1],[(50,.box 104 [.e .tx g0,.e (.i .i64) g1,.e .bo g2])],100⟩ (bX (I0 N) Tryz.f119 false):=by kernel_rfl
def Pf(r:aE):Option (bB×Int×Bool):=match r with
 |(.bD [],[(50,.box 104 [x0,x1,x2])])=>(match ue .tx x0,ue (.i .i64) x1,ue .bo x2 with|some a0,some a1,some a2=>some (a0,a1,a2)|_,_,_=>none)
 |_=>none
theorem a1n{r d}(h:Pf r=some d):r=IY d.1 d.2.1 d.2.2:=by
 unfold Pf at h;split at h
 .split at h
  .rename_i h0 h1 h2;cases h;rw[aH h0,aH h1,aH h2];rfl
  .cases h
 .cases h
def nU N c1 g0 g1 g2:=(a1u N c1 g0 g1 g2).bind Pf
theorem a1s{N}(hc:aF (I0 N)){c1 g0 g1 g2 d}(hd:nU N c1 g0 g1 g2=some d):cB Tryz.prog 119 [.ref 50 0,.e .u8 c1] [(50,.box 104 [.e .tx g0,.e (.i .i64) g1,.e .bo g2])] (IY d.1 d.2.1 d.2.2):=
 cD hc (by kernel_rfl) (by kernel_rfl) (a1r N) (by kernel_rfl) a1n (a1o N c1 g0 g1 g2).symm.trans hd
def IZ N c1 g0 g1 g2:=(nU N c1 g0 g1 g2).isSome
def IX N c1 g0 g1 g2:=((nU N c1 g0 g1 g2).getD ([],0,false)).1
def IW N c1 g0 g1 g2:=((nU N c1 g0 g1 g2).getD ([],0,false)).2.1
def IV N c1 g0 g1 g2:=((nU N c1 g0 g1 g2).getD ([],0,false)).2.2
def XL(xs:List X)(H:XH):Option (UInt8×bB×Int×Bool):=match xs,H with
 |[.ref 50 0,x0],[(50,.box 104 [x1,x2,x3])]=>(match ue .u8 x0,ue .tx x1,ue (.i .i64) x2,ue .bo x3 with|some a0,some a1,some a2,some a3=>some (a0,a1,a2,a3)|_,_,_,_=>none)
 |_,_=>none
theorem a1q{xs H d}(h:XL xs H=some d):xs=[.ref 50 0,.e .u8 d.1]/\H=[(50,.box 104 [.e .tx d.2.1,.e (.i .i64) d.2.2.1,.e .bo d.2.2.2])]:=by
 unfold XL at h;split at h
 .split at h
  .rename_i h0 h1 h2 h3;cases h;rw[aH h0,aH h1,aH h2,aH h3];exact⟨rfl,rfl⟩
  .cases h
 .cases h
def aIe(N:Nat):bK:=fD XL (λd=>IZ N d.1 d.2.1 d.2.2.1 d.2.2.2) (λd=>IY (IX N d.1 d.2.1 d.2.2.1 d.2.2.2) (IW N d.1 d.2.1 d.2.2.1 d.2.2.2) (IV N d.1 d.2.1 d.2.2.1 d.2.2.2))
theorem a1p N:aM Tryz.prog 119 (aIe N):=eO a1q (λd h=>cY (z:=nU N d.1 d.2.1 d.2.2.1 d.2.2.2) h (a1s (a1t N)) rfl)
def uS(a0 a1:Int)(a2:(List Ex))(a3:bB)(a4:Int)(a5:Bool):aE:=(.agg [.e (.i .i64) a0,.e (.i .i64) a1,.e (.sl .ex) a2],[(50,.box 104 [.e .tx a3,.e (.i .i64) a4,.e .bo a5])])
def XZ(xs:List X)(H:XH):Option (bB×Int×Bool):=match xs,H with
 |[.ref 50 0],[(50,.box 104 [x0,x1,x2])]=>(match ue .tx x0,ue (.i .i64) x1,ue .bo x2 with|some a0,some a1,some a2=>some (a0,a1,a2)|_,_,_=>none)
 |_,_=>none
theorem aIn{xs H d}(h:XZ xs H=some d):xs=[.ref 50 0]/\H=[(50,.box 104 [.e .tx d.1,.e (.i .i64) d.2.1,.e .bo d.2.2])]:=by
 unfold XZ at h;split at h
 .split at h
  .rename_i h0 h1 h2;cases h;rw[aH h0,aH h1,aH h2];exact⟨rfl,rfl⟩
  .cases h
 .cases h
abbrev iH:=Nat×((bB->Int->Bool->Option (Int×Int×(List Ex)×bB×Int×Bool))×(bB->Int->Bool->Option (Int×Int×(List Ex)×bB×Int×Bool))×(bB->Int->Bool->Option (Int×Int×(List Ex)×bB×Int×Bool))×(bB->Int->Bool->Option (Int×Int×(List Ex)×bB×Int×Bool)))
def uT(N:iH):bK:=fD XZ (λd=>(N.2.1 d.1 d.2.1 d.2.2).isSome) (λd=>uS (((N.2.1 d.1 d.2.1 d.2.2).getD (0,0,[],[],0,false)).1) (((N.2.1 d.1 d.2.1 d.2.2).getD (0,0,[],[],0,false)).2.1) (((N.2.1 d.1 d.2.1 d.2.2).getD (0,0,[],[],0,false)).2.2.1) (((N.2.1 d.1 d.2.1 d.2.2).getD (0,0,[],[],0,false)).2.2.2.1) (((N.2.1 d.1 d.2.1 d.2.2).getD (0,0,[],[],0,false)).2.2.2.2.1) (((N.2.1 d.1 d.2.1 d.2.2).getD (0,0,[],[],0,false)).2.2.2.2.2))
def xQ(a0 a1:Int)(a2:(List Ex))(a3:bB)(a4:Int)(a5:Bool):aE:=(.agg [.e (.i .i64) a0,.e (.i .i64) a1,.e (.sl .ex) a2],[(50,.box 104 [.e .tx a3,.e (.i .i64) a4,.e .bo a5])])
def Xn(xs:List X)(H:XH):Option (bB×Int×Bool):=match xs,H with
 |[.ref 50 0],[(50,.box 104 [x0,x1,x2])]=>(match ue .tx x0,ue (.i .i64) x1,ue .bo x2 with|some a0,some a1,some a2=>some (a0,a1,a2)|_,_,_=>none)
 |_,_=>none
theorem aJK{xs H d}(h:Xn xs H=some d):xs=[.ref 50 0]/\H=[(50,.box 104 [.e .tx d.1,.e (.i .i64) d.2.1,.e .bo d.2.2])]:=by
 unfold Xn at h;split at h
 .split at h
  .rename_i h0 h1 h2;cases h;rw[aH h0,aH h1,aH h2];exact⟨rfl,rfl⟩
  .cases h
 .cases h
def uW(N:iH):bK:=fD Xn (λd=>(N.2.2.1 d.1 d.2.1 d.2.2).isSome) (λd=>xQ (((N.2.2.1 d.1 d.2.1 d.2.2).getD (0,0,[],[],0,false)).1) (((N.2.2.1 d.1 d.2.1 d.2.2).getD (0,0,[],[],0,false)).2.1) (((N.2.2.1 d.1 d.2.1 d.2.2).getD (0,0,[],[],0,false)).2.2.1) (((N.2.2.1 d.1 d.2.1 d.2.2).getD (0,0,[],[],0,false)).2.2.2.1) (((N.2.2.1 d.1 d.2.1 d.2.2).getD (0,0,[],[],0,false)).2.2.2.2.1) (((N.2.2.1 d.1 d.2.1 d.2.2).getD (0,0,[],[],0,false)).2.2.2.2.2))
def Il(a0 a1:Int)(a2:(List Ex))(a3:bB)(a4:Int)(a5:Bool):aE:=(.agg [.e (.i .i64) a0,.e (.i .i64) a1,.e (.sl .ex) a2],[(50,.box 104 [.e .tx a3,.e (.i .i64) a4,.e .bo a5])])
def Xy(xs:List X)(H:XH):Option (bB×Int×Bool):=match xs,H with
 |[.ref 50 0],[(50,.box 104 [x0,x1,x2])]=>(match ue .tx x0,ue (.i .i64) x1,ue .bo x2 with|some a0,some a1,some a2=>some (a0,a1,a2)|_,_,_=>none)
 |_,_=>none
theorem aJ6{xs H d}(h:Xy xs H=some d):xs=[.ref 50 0]/\H=[(50,.box 104 [.e .tx d.1,.e (.i .i64) d.2.1,.e .bo d.2.2])]:=by
 unfold Xy at h;split at h
 .split at h
  .rename_i h0 h1 h2;cases h;rw[aH h0,aH h1,aH h2];exact⟨rfl,rfl⟩
  .cases h
 .cases h
def u0(N:iH):bK:=fD Xy (λd=>(N.2.2.2.1 d.1 d.2.1 d.2.2).isSome) (λd=>Il (((N.2.2.2.1 d.1 d.2.1 d.2.2).getD (0,0,[],[],0,false)).1) (((N.2.2.2.1 d.1 d.2.1 d.2.2).getD (0,0,[],[],0,false)).2.1) (((N.2.2.2.1 d.1 d.2.1 d.2.2).getD (0,0,[],[],0,false)).2.2.1) (((N.2.2.2.1 d.1 d.2.1 d.2.2).getD (0,0,[],[],0,false)).2.2.2.1) (((N.2.2.2.1 d.1 d.2.1 d.2.2).getD (0,0,[],[],0,false)).2.2.2.2.1) (((N.2.2.2.1 d.1 d.2.1 d.2.2).getD (0,0,[],[],0,false)).2.2.2.2.2))
def Cn(a0 a1:Int)(a2:(List Ex))(a3:bB)(a4:Int)(a5:Bool):aE:=(.agg [.e (.i .i64) a0,.e (.i .i64) a1,.e (.sl .ex) a2],[(50,.box 104 [.e .tx a3,.e (.i .i64) a4,.e .bo a5])])
def LC(xs:List X)(H:XH):Option (bB×Int×Bool):=match xs,H with
 |[.ref 50 0],[(50,.box 104 [x0,x1,x2])]=>(match ue .tx x0,ue (.i .i64) x1,ue .bo x2 with|some a0,some a1,some a2=>some (a0,a1,a2)|_,_,_=>none)
 |_,_=>none
theorem aCd{xs H d}(h:LC xs H=some d):xs=[.ref 50 0]/\H=[(50,.box 104 [.e .tx d.1,.e (.i .i64) d.2.1,.e .bo d.2.2])]:=by
 unfold LC at h;split at h
 .split at h
  .rename_i h0 h1 h2;cases h;rw[aH h0,aH h1,aH h2];exact⟨rfl,rfl⟩
  .cases h
 .cases h
def tK(N:iH):bK:=fD LC (λd=>(N.2.2.2.2 d.1 d.2.1 d.2.2).isSome) (λd=>Cn (((N.2.2.2.2 d.1 d.2.1 d.2.2).getD (0,0,[],[],0,false)).1) (((N.2.2.2.2 d.1 d.2.1 d.2.2).getD (0,0,[],[],0,false)).2.1) (((N.2.2.2.2 d.1 d.2.1 d.2.2).getD (0,0,[],[],0,false)).2.2.1) (((N.2.2.2.2 d.1 d.2.1 d.2.2).getD (0,0,[],[],0,false)).2.2.2.1) (((N.2.2.2.2 d.1 d.2.1 d.2.2).getD (0,0,[],[],0,false)).2.2.2.2.1) (((N.2.2.2.2 d.1 d.2.1 d.2.2).getD (0,0,[],[],0,false)).2.2.2.2.2))
def I4(N:iH):Cx:=⟨Tryz.prog,25,[(112,uT N),(107,uW N),(100,u0 N),(79,tK N),(101,Xw N.1),(118,aIk N.1),(80,AH N.1),(119,aIe N.1)],[]⟩
def aIq:Code:=Tryz.f112.body.getD .skip
theorem a2Q N (hw119:aM Tryz.prog 112 (uT N)) (hw109:aM Tryz.prog 107 (uW N)) (hw90:aM Tryz.prog 100 (u0 N)) (hw61:aM Tryz.prog 79 (tK N)):aF (I4 N):=bY (by kernel_rfl) (.cons (by kernel_rfl) hw119 (.cons (by kernel_rfl) hw109 (.cons (by kernel_rfl) hw90 (.cons (by kernel_rfl) hw61 (.cons (by kernel_rfl) (aJ1 N.1) (.cons (by kernel_rfl) (a2B N.1) (.cons (by kernel_rfl) (Cf N.1) (.cons (by kernel_rfl) (a1p N.1) .nil)))))))) .nil
def nV[aA](N:iH)(g0:bB)(g1:Int)(g2:Bool):O:=
 let b1:=Eh N.1 g0 g1 g2
 let b2:=Bj N.1 g0 g1 g2
 let b3:=xU N.1 g0 g1 g2
 let b4:=kY N.1 (82:UInt8) b2 b3 b1
 let b5:=kX N.1 (82:UInt8) b2 b3 b1
 let b6:=lL N.1 (82:UInt8) b2 b3 b1
 let b10:=N.snd.snd.snd.2 (IX N.1 (40:UInt8) b4 b5 b6) (IW N.1 (40:UInt8) b4 b5 b6) (IV N.1 (40:UInt8) b4 b5 b6)
 let b0:=b10.getD ((0:Int),(0:Int),[],[],(0:Int),false)
 let b7:=IX N.1 (41:UInt8) b0.2.2.2.1 b0.2.2.2.2.1 b0.2.2.2.2.2
 let b8:=IW N.1 (41:UInt8) b0.2.2.2.1 b0.2.2.2.2.1 b0.2.2.2.2.2
 let b9:=IV N.1 (41:UInt8) b0.2.2.2.1 b0.2.2.2.2.1 b0.2.2.2.2.2
 ck (Ii N.1 g0 g1 g2)<|
 br b1
  (some (uS 0 0 [] b2 b3 b1))
  (br (decide ((48:UInt8)<=uZ N.1 g0 g1 g2)&&decide (uZ N.1 g0 g1 g2<=(57:UInt8)))
   (ck (XU N.1 b2 b3 b1)<|
   some (uS ((XS N.1 b2 b3 b1)) ((XR N.1 b2 b3 b1)) ((XQ N.1 b2 b3 b1)) (XP N.1 b2 b3 b1) (XN N.1 b2 b3 b1) (XM N.1 b2 b3 b1)))
   (br (decide ((97:UInt8)<=uZ N.1 g0 g1 g2)&&decide (uZ N.1 g0 g1 g2<=(122:UInt8)))
    (some (uS 1 ((aC.wrap (↑(uZ N.1 g0 g1 g2-(97:UInt8)).toNat:Int))) ([]) b2 (aC.wrap (xU N.1 g0 g1 g2+(1:Int))) b1))
    (ck (nG N.1 (82:UInt8) b2 b3 b1)<|
    ck (IZ N.1 (40:UInt8) b4 b5 b6)<|
    ck (b10.isSome)<|
    ck (IZ N.1 (41:UInt8) b0.2.2.2.1 b0.2.2.2.2.1 b0.2.2.2.2.2)<|
    br (nF N.1 (82:UInt8) b2 b3 b1)
     (some (uS 8 0 ([Ex.mk b0.1 b0.2.1 b0.2.2.1]) b7 b8 b9))
     (some (uS b0.1 b0.2.1 b0.2.2.1 b7 b8 b9)))))
def a2R[aA] N g0 g1 g2:=nV N g0 g1 g2
def aIo[aA](_:iH):Hint:=.d
theorem a2O N:bJ (I4 N) Tryz.f112.ntmps (aIo N) aIq:=bO _ _ trivial
theorem a2N[aA] N g0 g1 g2:nV N g0 g1 g2=exec (I4 N) Tryz.f112.ntmps (aIo N) aIq ⟨bU 0 [.ref 50 0],[(50,.box 104 [.e .tx g0,.e (.i .i64) g1,.e .bo g2])],100⟩ (bX (I4 N) Tryz.f112 false):=by kernel_rfl
def uR(r:aE):Option (Int×Int×(List Ex)×bB×Int×Bool):=match r with
 |(.agg [x0,x1,x2],[(50,.box 104 [x3,x4,x5])])=>(match ue (.i .i64) x0,ue (.i .i64) x1,ue (.sl .ex) x2,ue .tx x3,ue (.i .i64) x4,ue .bo x5 with|some a0,some a1,some a2,some a3,some a4,some a5=>some (a0,a1,a2,a3,a4,a5)|_,_,_,_,_,_=>none)
 |_=>none
theorem a2M{r d}(h:uR r=some d):r=uS d.1 d.2.1 d.2.2.1 d.2.2.2.1 d.2.2.2.2.1 d.2.2.2.2.2:=by
 unfold uR at h;split at h
 .split at h
  .rename_i h0 h1 h2 h3 h4 h5;cases h;rw[aH h0,aH h1,aH h2,aH h3,aH h4,aH h5];rfl
  .cases h
 .cases h
def uQ N g0 g1 g2:=(a2R N g0 g1 g2).bind uR
theorem a2P{N}(hc:aF (I4 N)){g0 g1 g2 d}(hd:uQ N g0 g1 g2=some d):cB Tryz.prog 112 [.ref 50 0] [(50,.box 104 [.e .tx g0,.e (.i .i64) g1,.e .bo g2])] (uS d.1 d.2.1 d.2.2.1 d.2.2.2.1 d.2.2.2.2.1 d.2.2.2.2.2):=
 cD hc (by kernel_rfl) (by kernel_rfl) (a2O N) (by kernel_rfl) a2M (a2N N g0 g1 g2).symm.trans hd
def Ib(N:iH):Cx:=⟨Tryz.prog,25,[(112,uT N),(107,uW N),(100,u0 N),(79,tK N),(80,AH N.1)],[]⟩
def aJM:Code:=Tryz.f107.body.getD .skip
theorem a3E N (hw119:aM Tryz.prog 112 (uT N)) (hw109:aM Tryz.prog 107 (uW N)) (hw90:aM Tryz.prog 100 (u0 N)) (hw61:aM Tryz.prog 79 (tK N)):aF (Ib N):=bY (by kernel_rfl) (.cons (by kernel_rfl) hw119 (.cons (by kernel_rfl) hw109 (.cons (by kernel_rfl) hw90 (.cons (by kernel_rfl) hw61 (.cons (by kernel_rfl) (Cf N.1) .nil))))) .nil
def r9[aA](N:iH)(g0:bB)(g1:Int)(g2:Bool):O:=
 let b6:=N.snd.snd.1 (kY N.1 (45:UInt8) g0 g1 g2) (kX N.1 (45:UInt8) g0 g1 g2) (lL N.1 (45:UInt8) g0 g1 g2)
 let b7:=N.snd.1 (kY N.1 (45:UInt8) g0 g1 g2) (kX N.1 (45:UInt8) g0 g1 g2) (lL N.1 (45:UInt8) g0 g1 g2)
 let b8:=((0:Int),(0:Int),[],[],(0:Int),false)
 let b0:=b7.getD b8
 let b2:=b6.getD b8
 let b3:=kY N.1 (94:UInt8) b0.2.2.2.1 b0.2.2.2.2.1 b0.2.2.2.2.2
 let b4:=kX N.1 (94:UInt8) b0.2.2.2.1 b0.2.2.2.2.1 b0.2.2.2.2.2
 let b5:=lL N.1 (94:UInt8) b0.2.2.2.1 b0.2.2.2.2.1 b0.2.2.2.2.2
 let b1:=(N.snd.snd.1 b3 b4 b5).getD b8
 br g2
  (some (xQ 0 0 [] g0 g1 g2))
  (ck (nG N.1 (45:UInt8) g0 g1 g2)<|
  br (nF N.1 (45:UInt8) g0 g1 g2)
   (ck (b6.isSome)<|
   some (xQ 2 0 ([Ex.mk b2.1 b2.2.1 b2.2.2.1]) b2.2.2.2.1 b2.2.2.2.2.1 b2.2.2.2.2.2))
   (ck (b7.isSome)<|
   ck (nG N.1 (94:UInt8) b0.2.2.2.1 b0.2.2.2.2.1 b0.2.2.2.2.2)<|
   br (nF N.1 (94:UInt8) b0.2.2.2.1 b0.2.2.2.2.1 b0.2.2.2.2.2)
    (ck ((N.snd.snd.1 b3 b4 b5).isSome)<|
    some (xQ 7 0 ([Ex.mk b0.1 b0.2.1 b0.2.2.1,Ex.mk b1.1 b1.2.1 b1.2.2.1]) b1.2.2.2.1 b1.2.2.2.2.1 b1.2.2.2.2.2))
    (some (xQ b0.1 b0.2.1 b0.2.2.1 b3 b4 b5))))
def a3F[aA] N g0 g1 g2:=r9 N g0 g1 g2
def aJL[aA](_:iH):Hint:=(.seq .d (.seq .d (.seq .d (.seq .d (.seq (.seq .d (.cond (.seq (.gI [] [] [[],[],[50],[],[],[100]]) .d) .d)) .d)))))
theorem a3C N:bJ (Ib N) Tryz.f107.ntmps (aJL N) aJM:=bO _ _ (aG trivial (aG trivial (aG trivial (aG trivial (aG (aG trivial (aG (aG trivial trivial) trivial)) trivial)))))
theorem a3B[aA] N g0 g1 g2:r9 N g0 g1 g2=exec (Ib N) Tryz.f107.ntmps (aJL N) aJM ⟨bU 0 [.ref 50 0],[(50,.box 104 [.e .tx g0,.e (.i .i64) g1,.e .bo g2])],100⟩ (bX (Ib N) Tryz.f107 false):=by kernel_rfl
def Be(r:aE):Option (Int×Int×(List Ex)×bB×Int×Bool):=match r with
 |(.agg [x0,x1,x2],[(50,.box 104 [x3,x4,x5])])=>(match ue (.i .i64) x0,ue (.i .i64) x1,ue (.sl .ex) x2,ue .tx x3,ue (.i .i64) x4,ue .bo x5 with|some a0,some a1,some a2,some a3,some a4,some a5=>some (a0,a1,a2,a3,a4,a5)|_,_,_,_,_,_=>none)
 |_=>none
theorem a3A{r d}(h:Be r=some d):r=xQ d.1 d.2.1 d.2.2.1 d.2.2.2.1 d.2.2.2.2.1 d.2.2.2.2.2:=by
 unfold Be at h;split at h
 .split at h
  .rename_i h0 h1 h2 h3 h4 h5;cases h;rw[aH h0,aH h1,aH h2,aH h3,aH h4,aH h5];rfl
  .cases h
 .cases h
def xP N g0 g1 g2:=(a3F N g0 g1 g2).bind Be
theorem a3D{N}(hc:aF (Ib N)){g0 g1 g2 d}(hd:xP N g0 g1 g2=some d):cB Tryz.prog 107 [.ref 50 0] [(50,.box 104 [.e .tx g0,.e (.i .i64) g1,.e .bo g2])] (xQ d.1 d.2.1 d.2.2.1 d.2.2.2.1 d.2.2.2.2.1 d.2.2.2.2.2):=
 cD hc (by kernel_rfl) (by kernel_rfl) (a3C N) (by kernel_rfl) a3A (a3B N g0 g1 g2).symm.trans hd
def sB(N:iH):Cx:=⟨Tryz.prog,25,[(112,uT N),(107,uW N),(100,u0 N),(79,tK N),(80,AH N.1)],[]⟩
def YA:Code:=Tryz.f100.body.getD .skip
theorem a3p N (hw119:aM Tryz.prog 112 (uT N)) (hw109:aM Tryz.prog 107 (uW N)) (hw90:aM Tryz.prog 100 (u0 N)) (hw61:aM Tryz.prog 79 (tK N)):aF (sB N):=bY (by kernel_rfl) (.cons (by kernel_rfl) hw119 (.cons (by kernel_rfl) hw109 (.cons (by kernel_rfl) hw90 (.cons (by kernel_rfl) hw61 (.cons (by kernel_rfl) (Cf N.1) .nil))))) .nil
def Ei[aA](N:iH)(self:bB->Int->Bool->Int->Int->(List Ex)->O)(k0:bB->Int->Bool->Int->Int->Int->Int->(List Ex)->O)(x0_3 x0_4:Int)(x0_0:bB)(x0_1:Int)(x0_2:Bool)(x0_5 x0_6:Int)(x0_7:(List Ex)):O:=
 let b3:=kY N.1 (42:UInt8) x0_0 x0_1 x0_2
 let b4:=kX N.1 (42:UInt8) x0_0 x0_1 x0_2
 let b5:=lL N.1 (42:UInt8) x0_0 x0_1 x0_2
 let b0:=N.snd.snd.1 (kY N.1 (47:UInt8) b3 b4 b5) (kX N.1 (47:UInt8) b3 b4 b5) (lL N.1 (47:UInt8) b3 b4 b5)
 let b1:=(N.snd.snd.1 b3 b4 b5).getD ((0:Int),(0:Int),[],[],(0:Int),false)
 let b2:=b0.getD ((0:Int),(0:Int),[],[],(0:Int),false)
 br (!x0_2)
  (ck (nG N.1 (42:UInt8) x0_0 x0_1 x0_2)<|
  br (nF N.1 (42:UInt8) x0_0 x0_1 x0_2)
   (ck ((N.snd.snd.1 b3 b4 b5).isSome)<|
   self b1.2.2.2.1 b1.2.2.2.2.1 b1.2.2.2.2.2 5 0 [Ex.mk x0_5 x0_6 x0_7,Ex.mk b1.1 b1.2.1 b1.2.2.1])
   (ck (nG N.1 (47:UInt8) b3 b4 b5)<|
   br (nF N.1 (47:UInt8) b3 b4 b5)
    (ck (b0.isSome)<|
    self b2.2.2.2.1 b2.2.2.2.2.1 b2.2.2.2.2.2 6 0 [Ex.mk x0_5 x0_6 x0_7,Ex.mk b2.1 b2.2.1 b2.2.2.1])
    (k0 (kY N.1 (47:UInt8) b3 b4 b5) (kX N.1 (47:UInt8) b3 b4 b5) (lL N.1 (47:UInt8) b3 b4 b5) x0_3 x0_4 x0_5 x0_6 x0_7)))
  (k0 x0_0 x0_1 x0_2 x0_3 x0_4 x0_5 x0_6 x0_7)
def Xz:Code:=cK [1,1,0,0,0] YA
def aJ5:Nm:=⟨[0,2,3],[],[.cv 3 2 (.sl .ex)]⟩
def Bk(x:bB×Int×Bool×Int×Int×Int×Int×(List Ex)):Sg:=⟨[(0,.ref 50 0),(2,.ref 0 0),(3,.ref 1 0)],[(50,.box 104 [.e .tx x.1,.e (.i .i64) x.2.1,.e .bo x.2.2.1]),(0,.box 25 [.e (.i .i64) x.2.2.2.1,.e (.i .i64) x.2.2.2.2.1,.cC]),(1,.box 25 [.e (.i .i64) x.2.2.2.2.2.1,.e (.i .i64) x.2.2.2.2.2.2.1,.e (.sl .ex) x.2.2.2.2.2.2.2])],100⟩
def QG(σ:Sg):bB×Int×Bool×Int×Int×Int×Int×(List Ex):=(aL .tx 50 0 σ,aL (.i .i64) 50 1 σ,aL .bo 50 2 σ,aL (.i .i64) 0 0 σ,aL (.i .i64) 0 1 σ,aL (.i .i64) 1 0 σ,aL (.i .i64) 1 1 σ,aL (.sl .ex) 1 2 σ)
theorem a3i:∀x,QG (Bk x)=x:=λ_=>by kernel_rfl
def QH(y:bB×Int×Bool×Int×Int×Int×Int×(List Ex)):Exit×Sg:=((.exit 0),⟨[(2,.ref 0 0),(3,.ref 1 0)],[(50,.box 104 [.e .tx y.1,.e (.i .i64) y.2.1,.e .bo y.2.2.1]),(0,.box 25 [.e (.i .i64) y.2.2.2.1,.e (.i .i64) y.2.2.2.2.1,.cC]),(1,.box 25 [.e (.i .i64) y.2.2.2.2.2.1,.e (.i .i64) y.2.2.2.2.2.2.1,.e (.sl .ex) y.2.2.2.2.2.2.2])],100⟩)
def a3g(_:Exit)(σ:Sg):bB×Int×Bool×Int×Int×Int×Int×(List Ex):=(aL .tx 50 0 σ,aL (.i .i64) 50 1 σ,aL .bo 50 2 σ,aL (.i .i64) 0 0 σ,aL (.i .i64) 0 1 σ,aL (.i .i64) 1 0 σ,aL (.i .i64) 1 1 σ,aL (.sl .ex) 1 2 σ)
def a3f:List (Exit×Nm):=[((.exit 0),⟨[2,3],[],[]⟩)]
def nX[aA](N:iH):Nat->(bB×Int×Bool×Int×Int×Int×Int×(List Ex))->((bB×Int×Bool×Int×Int×Int×Int×(List Ex))->O)->((Unit)->O)->((Unit)->O)->O
 |0,_,_,_,_=>none
 |n+1,x,k0,k1,k2=>Ei N (λv0 v1 v2 v3 v4 v5=>nX N n (v0,v1,v2,x.2.2.2.1,x.2.2.2.2.1,v3,v4,v5) k0 k1 k2) (λy0 y1 y2 y3 y4 y5 y6 y7=>k0 (y0,y1,y2,y3,y4,y5,y6,y7)) x.2.2.2.1 x.2.2.2.2.1 x.1 x.2.1 x.2.2.1 x.2.2.2.2.2.1 x.2.2.2.2.2.2.1 x.2.2.2.2.2.2.2
def Xx[aA] N a0 a1 a2 a3 a4 a5 a6 a7 (k0:bB->Int->Bool->Int->Int->Int->Int->(List Ex)->O):=nX N N.1 (a0,a1,a2,a3,a4,a5,a6,a7) (λy=>k0 y.1 y.2.1 y.2.2.1 y.2.2.2.1 y.2.2.2.2.1 y.2.2.2.2.2.1 y.2.2.2.2.2.2.1 y.2.2.2.2.2.2.2) (λ_=>none) (λ_=>none)
def aJ4[aA] N a0 a1 a2 a3 a4 a5 a6 a7 (k0:bB->Int->Bool->Int->Int->Int->Int->(List Ex)->O):=aY Bk QG (nX N N.1) (Bk (a0,a1,a2,a3,a4,a5,a6,a7)) (λy=>k0 y.1 y.2.1 y.2.2.1 y.2.2.2.1 y.2.2.2.2.1 y.2.2.2.2.2.1 y.2.2.2.2.2.2.1 y.2.2.2.2.2.2.2) (λ_=>none) (λ_=>none)
theorem a3o[aA] N:aJ4 N=Xx N:=funext λ_=>funext λ_=>funext λ_=>funext λ_=>funext λ_=>funext λ_=>funext λ_=>funext λ_=>funext λ_=>cW a3i _ _ _ _
def aJ7[aA](_:iH):Hint:=(.seq .d (.block (.seq .d (.seq .d (.gI [] [] [[],[],[],[50],[],[],[1]])))))
theorem a3l N:bJ (sB N) Tryz.f100.ntmps (aJ7 N) Xz:=bO _ _ (aG trivial (aG trivial (aG trivial trivial)))
theorem a3j[aA](N:iH)(self:Sg->O)(K:Exit->Sg->O)(x:bB×Int×Bool×Int×Int×Int×Int×(List Ex)):Ei N (λv0 v1 v2 v3 v4 v5=>self (Bk (v0,v1,v2,x.2.2.2.1,x.2.2.2.2.1,v3,v4,v5))) (λy0 y1 y2 y3 y4 y5 y6 y7=>K (QH (y0,y1,y2,y3,y4,y5,y6,y7)).1 (QH (y0,y1,y2,y3,y4,y5,y6,y7)).2) x.2.2.2.1 x.2.2.2.2.1 x.1 x.2.1 x.2.2.1 x.2.2.2.2.2.1 x.2.2.2.2.2.2.1 x.2.2.2.2.2.2.2=exec (sB N) Tryz.f100.ntmps (aJ7 N) Xz (Bk x) (eN aJ5 a3f self K):=by kernel_rfl
theorem a3s N (hc:aF (sB N)):cN (sB N) Tryz.f100.ntmps (.loop Xz) QH (aW 1) (aW 2) (aY Bk QG (nX N N.1)):=
 eV hc (a3l N) (eZ a3g (.exit 0) (λ_=>by kernel_rfl) (λ_=>rfl) (by kernel_rfl)) (n:=N.1) (λx K=>eW (nX N) (λ_ _ _ _=>rfl) (λn K ih x=>by
  refine fK ?_ (a3j N _ K x);simp only[<-ih];rfl) N.1 x K)
def QI[aA](N:iH)(in0:bB->Int->Bool->Int->Int->Int->Int->(List Ex)->(bB->Int->Bool->Int->Int->Int->Int->(List Ex)->O)->O)(g0:bB)(g1:Int)(g2:Bool):O:=
 let b0:=(N.snd.snd.1 g0 g1 g2).getD ((0:Int),(0:Int),[],[],(0:Int),false)
 ck ((N.snd.snd.1 g0 g1 g2).isSome)<|
 in0 b0.2.2.2.1 b0.2.2.2.2.1 b0.2.2.2.2.2 0 0 b0.1 b0.2.1 b0.2.2.1
  (λz1 z2 z3 _ _ z6 z7 z8=>
   some (Il (z6) (z7) (z8) z1 z2 z3))
def a3t[aA] N g0 g1 g2:=QI N (Xx N) g0 g1 g2
def aJ8[aA](N:iH):Hint:=(.seq .d (.seq .d (.seq (.block (.sub aJ5 _ _ _ QH (aW 1) (aW 2) (aY Bk QG (nX N N.1)))) .d)))
theorem a3m N (hc:aF (sB N)):bJ (sB N) Tryz.f100.ntmps (aJ8 N) YA:=bO _ _ (aG trivial (aG trivial (aG (a3s N hc) trivial)))
theorem a3k[aA] N g0 g1 g2:QI N (aJ4 N) g0 g1 g2=exec (sB N) Tryz.f100.ntmps (aJ8 N) YA ⟨bU 0 [.ref 50 0],[(50,.box 104 [.e .tx g0,.e (.i .i64) g1,.e .bo g2])],100⟩ (bX (sB N) Tryz.f100 false):=by kernel_rfl
def QF(r:aE):Option (Int×Int×(List Ex)×bB×Int×Bool):=match r with
 |(.agg [x0,x1,x2],[(50,.box 104 [x3,x4,x5])])=>(match ue (.i .i64) x0,ue (.i .i64) x1,ue (.sl .ex) x2,ue .tx x3,ue (.i .i64) x4,ue .bo x5 with|some a0,some a1,some a2,some a3,some a4,some a5=>some (a0,a1,a2,a3,a4,a5)|_,_,_,_,_,_=>none)
 |_=>none
theorem a3h{r d}(h:QF r=some d):r=Il d.1 d.2.1 d.2.2.1 d.2.2.2.1 d.2.2.2.2.1 d.2.2.2.2.2:=by
 unfold QF at h;split at h
 .split at h
  .rename_i h0 h1 h2 h3 h4 h5;cases h;rw[aH h0,aH h1,aH h2,aH h3,aH h4,aH h5];rfl
  .cases h
 .cases h
def QE N g0 g1 g2:=(a3t N g0 g1 g2).bind QF
theorem a3n{N}(hc:aF (sB N)){g0 g1 g2 d}(hd:QE N g0 g1 g2=some d):cB Tryz.prog 100 [.ref 50 0] [(50,.box 104 [.e .tx g0,.e (.i .i64) g1,.e .bo g2])] (Il d.1 d.2.1 d.2.2.1 d.2.2.2.1 d.2.2.2.2.1 d.2.2.2.2.2):=
 cD hc (by kernel_rfl) (by kernel_rfl) (a3m N hc) (by kernel_rfl) a3h (λhr=>(a3k N g0 g1 g2).symm.trans (by rw[a3o N];exact hr)) hd
def rQ(N:iH):Cx:=⟨Tryz.prog,25,[(112,uT N),(107,uW N),(100,u0 N),(79,tK N),(80,AH N.1)],[]⟩
def TH:Code:=Tryz.f79.body.getD .skip
theorem aQK N (hw119:aM Tryz.prog 112 (uT N)) (hw109:aM Tryz.prog 107 (uW N)) (hw90:aM Tryz.prog 100 (u0 N)) (hw61:aM Tryz.prog 79 (tK N)):aF (rQ N):=bY (by kernel_rfl) (.cons (by kernel_rfl) hw119 (.cons (by kernel_rfl) hw109 (.cons (by kernel_rfl) hw90 (.cons (by kernel_rfl) hw61 (.cons (by kernel_rfl) (Cf N.1) .nil))))) .nil
def Cp[aA](N:iH)(self:bB->Int->Bool->Int->Int->(List Ex)->O)(k0:bB->Int->Bool->Int->Int->Int->Int->(List Ex)->O)(x0_3 x0_4:Int)(x0_0:bB)(x0_1:Int)(x0_2:Bool)(x0_5 x0_6:Int)(x0_7:(List Ex)):O:=
 let b3:=kY N.1 (43:UInt8) x0_0 x0_1 x0_2
 let b4:=kX N.1 (43:UInt8) x0_0 x0_1 x0_2
 let b5:=lL N.1 (43:UInt8) x0_0 x0_1 x0_2
 let b0:=N.snd.snd.snd.1 (kY N.1 (45:UInt8) b3 b4 b5) (kX N.1 (45:UInt8) b3 b4 b5) (lL N.1 (45:UInt8) b3 b4 b5)
 let b1:=(N.snd.snd.snd.1 b3 b4 b5).getD ((0:Int),(0:Int),[],[],(0:Int),false)
 let b2:=b0.getD ((0:Int),(0:Int),[],[],(0:Int),false)
 br (!x0_2)
  (ck (nG N.1 (43:UInt8) x0_0 x0_1 x0_2)<|
  br (nF N.1 (43:UInt8) x0_0 x0_1 x0_2)
   (ck ((N.snd.snd.snd.1 b3 b4 b5).isSome)<|
   self b1.2.2.2.1 b1.2.2.2.2.1 b1.2.2.2.2.2 3 0 [Ex.mk x0_5 x0_6 x0_7,Ex.mk b1.1 b1.2.1 b1.2.2.1])
   (ck (nG N.1 (45:UInt8) b3 b4 b5)<|
   br (nF N.1 (45:UInt8) b3 b4 b5)
    (ck (b0.isSome)<|
    self b2.2.2.2.1 b2.2.2.2.2.1 b2.2.2.2.2.2 4 0 [Ex.mk x0_5 x0_6 x0_7,Ex.mk b2.1 b2.2.1 b2.2.2.1])
    (k0 (kY N.1 (45:UInt8) b3 b4 b5) (kX N.1 (45:UInt8) b3 b4 b5) (lL N.1 (45:UInt8) b3 b4 b5) x0_3 x0_4 x0_5 x0_6 x0_7)))
  (k0 x0_0 x0_1 x0_2 x0_3 x0_4 x0_5 x0_6 x0_7)
def TG:Code:=cK [1,1,0,0,0] TH
def aCc:Nm:=⟨[0,2,3],[],[.cv 3 2 (.sl .ex)]⟩
def AI(x:bB×Int×Bool×Int×Int×Int×Int×(List Ex)):Sg:=⟨[(0,.ref 50 0),(2,.ref 0 0),(3,.ref 1 0)],[(50,.box 104 [.e .tx x.1,.e (.i .i64) x.2.1,.e .bo x.2.2.1]),(0,.box 25 [.e (.i .i64) x.2.2.2.1,.e (.i .i64) x.2.2.2.2.1,.cC]),(1,.box 25 [.e (.i .i64) x.2.2.2.2.2.1,.e (.i .i64) x.2.2.2.2.2.2.1,.e (.sl .ex) x.2.2.2.2.2.2.2])],100⟩
def LB(σ:Sg):bB×Int×Bool×Int×Int×Int×Int×(List Ex):=(aL .tx 50 0 σ,aL (.i .i64) 50 1 σ,aL .bo 50 2 σ,aL (.i .i64) 0 0 σ,aL (.i .i64) 0 1 σ,aL (.i .i64) 1 0 σ,aL (.i .i64) 1 1 σ,aL (.sl .ex) 1 2 σ)
theorem aQC:∀x,LB (AI x)=x:=λ_=>by kernel_rfl
def LF(y:bB×Int×Bool×Int×Int×Int×Int×(List Ex)):Exit×Sg:=((.exit 0),⟨[(2,.ref 0 0),(3,.ref 1 0)],[(50,.box 104 [.e .tx y.1,.e (.i .i64) y.2.1,.e .bo y.2.2.1]),(0,.box 25 [.e (.i .i64) y.2.2.2.1,.e (.i .i64) y.2.2.2.2.1,.cC]),(1,.box 25 [.e (.i .i64) y.2.2.2.2.2.1,.e (.i .i64) y.2.2.2.2.2.2.1,.e (.sl .ex) y.2.2.2.2.2.2.2])],100⟩)
def aQA(_:Exit)(σ:Sg):bB×Int×Bool×Int×Int×Int×Int×(List Ex):=(aL .tx 50 0 σ,aL (.i .i64) 50 1 σ,aL .bo 50 2 σ,aL (.i .i64) 0 0 σ,aL (.i .i64) 0 1 σ,aL (.i .i64) 1 0 σ,aL (.i .i64) 1 1 σ,aL (.sl .ex) 1 2 σ)
def aPz:List (Exit×Nm):=[((.exit 0),⟨[2,3],[],[]⟩)]
def nH[aA](N:iH):Nat->(bB×Int×Bool×Int×Int×Int×Int×(List Ex))->((bB×Int×Bool×Int×Int×Int×Int×(List Ex))->O)->((Unit)->O)->((Unit)->O)->O
 |0,_,_,_,_=>none
 |n+1,x,k0,k1,k2=>Cp N (λv0 v1 v2 v3 v4 v5=>nH N n (v0,v1,v2,x.2.2.2.1,x.2.2.2.2.1,v3,v4,v5) k0 k1 k2) (λy0 y1 y2 y3 y4 y5 y6 y7=>k0 (y0,y1,y2,y3,y4,y5,y6,y7)) x.2.2.2.1 x.2.2.2.2.1 x.1 x.2.1 x.2.2.1 x.2.2.2.2.2.1 x.2.2.2.2.2.2.1 x.2.2.2.2.2.2.2
def TF[aA] N a0 a1 a2 a3 a4 a5 a6 a7 (k0:bB->Int->Bool->Int->Int->Int->Int->(List Ex)->O):=nH N N.1 (a0,a1,a2,a3,a4,a5,a6,a7) (λy=>k0 y.1 y.2.1 y.2.2.1 y.2.2.2.1 y.2.2.2.2.1 y.2.2.2.2.2.1 y.2.2.2.2.2.2.1 y.2.2.2.2.2.2.2) (λ_=>none) (λ_=>none)
def aCb[aA] N a0 a1 a2 a3 a4 a5 a6 a7 (k0:bB->Int->Bool->Int->Int->Int->Int->(List Ex)->O):=aY AI LB (nH N N.1) (AI (a0,a1,a2,a3,a4,a5,a6,a7)) (λy=>k0 y.1 y.2.1 y.2.2.1 y.2.2.2.1 y.2.2.2.2.1 y.2.2.2.2.2.1 y.2.2.2.2.2.2.1 y.2.2.2.2.2.2.2) (λ_=>none) (λ_=>none)
theorem aQJ[aA] N:aCb N=TF N:=funext λ_=>funext λ_=>funext λ_=>funext λ_=>funext λ_=>funext λ_=>funext λ_=>funext λ_=>funext λ_=>cW aQC _ _ _ _
def aCe[aA](_:iH):Hint:=(.seq .d (.block (.seq .d (.seq .d (.gI [] [] [[],[],[],[50],[],[],[1]])))))
theorem aQG N:bJ (rQ N) Tryz.f79.ntmps (aCe N) TG:=bO _ _ (aG trivial (aG trivial (aG trivial trivial)))
theorem aQD[aA](N:iH)(self:Sg->O)(K:Exit->Sg->O)(x:bB×Int×Bool×Int×Int×Int×Int×(List Ex)):Cp N (λv0 v1 v2 v3 v4 v5=>self (AI (v0,v1,v2,x.2.2.2.1,x.2.2.2.2.1,v3,v4,v5))) (λy0 y1 y2 y3 y4 y5 y6 y7=>K (LF (y0,y1,y2,y3,y4,y5,y6,y7)).1 (LF (y0,y1,y2,y3,y4,y5,y6,y7)).2) x.2.2.2.1 x.2.2.2.2.1 x.1 x.2.1 x.2.2.1 x.2.2.2.2.2.1 x.2.2.2.2.2.2.1 x.2.2.2.2.2.2.2=exec (rQ N) Tryz.f79.ntmps (aCe N) TG (AI x) (eN aCc aPz self K):=by kernel_rfl
theorem aQN N (hc:aF (rQ N)):cN (rQ N) Tryz.f79.ntmps (.loop TG) LF (aW 1) (aW 2) (aY AI LB (nH N N.1)):=
 eV hc (aQG N) (eZ aQA (.exit 0) (λ_=>by kernel_rfl) (λ_=>rfl) (by kernel_rfl)) (n:=N.1) (λx K=>eW (nH N) (λ_ _ _ _=>rfl) (λn K ih x=>by
  refine fK ?_ (aQD N _ K x);simp only[<-ih];rfl) N.1 x K)
def LG[aA](N:iH)(in0:bB->Int->Bool->Int->Int->Int->Int->(List Ex)->(bB->Int->Bool->Int->Int->Int->Int->(List Ex)->O)->O)(g0:bB)(g1:Int)(g2:Bool):O:=
 let b0:=(N.snd.snd.snd.1 g0 g1 g2).getD ((0:Int),(0:Int),[],[],(0:Int),false)
 ck ((N.snd.snd.snd.1 g0 g1 g2).isSome)<|
 in0 b0.2.2.2.1 b0.2.2.2.2.1 b0.2.2.2.2.2 0 0 b0.1 b0.2.1 b0.2.2.1
  (λz1 z2 z3 _ _ z6 z7 z8=>
   some (Cn (z6) (z7) (z8) z1 z2 z3))
def w79[aA] N g0 g1 g2:=LG N (TF N) g0 g1 g2
def aCf[aA](N:iH):Hint:=(.seq .d (.seq .d (.seq (.block (.sub aCc _ _ _ LF (aW 1) (aW 2) (aY AI LB (nH N N.1)))) .d)))
theorem aQH N (hc:aF (rQ N)):bJ (rQ N) Tryz.f79.ntmps (aCf N) TH:=bO _ _ (aG trivial (aG trivial (aG (aQN N hc) trivial)))
theorem aQE[aA] N g0 g1 g2:LG N (aCb N) g0 g1 g2=exec (rQ N) Tryz.f79.ntmps (aCf N) TH ⟨bU 0 [.ref 50 0],[(50,.box 104 [.e .tx g0,.e (.i .i64) g1,.e .bo g2])],100⟩ (bX (rQ N) Tryz.f79 false):=by kernel_rfl
def LA(r:aE):Option (Int×Int×(List Ex)×bB×Int×Bool):=match r with
 |(.agg [x0,x1,x2],[(50,.box 104 [x3,x4,x5])])=>(match ue (.i .i64) x0,ue (.i .i64) x1,ue (.sl .ex) x2,ue .tx x3,ue (.i .i64) x4,ue .bo x5 with|some a0,some a1,some a2,some a3,some a4,some a5=>some (a0,a1,a2,a3,a4,a5)|_,_,_,_,_,_=>none)
 |_=>none
theorem aQB{r d}(h:LA r=some d):r=Cn d.1 d.2.1 d.2.2.1 d.2.2.2.1 d.2.2.2.2.1 d.2.2.2.2.2:=by
 unfold LA at h;split at h
 .split at h
  .rename_i h0 h1 h2 h3 h4 h5;cases h;rw[aH h0,aH h1,aH h2,aH h3,aH h4,aH h5];rfl
  .cases h
 .cases h
def Kz N g0 g1 g2:=(w79 N g0 g1 g2).bind LA
theorem aQI{N}(hc:aF (rQ N)){g0 g1 g2 d}(hd:Kz N g0 g1 g2=some d):cB Tryz.prog 79 [.ref 50 0] [(50,.box 104 [.e .tx g0,.e (.i .i64) g1,.e .bo g2])] (Cn d.1 d.2.1 d.2.2.1 d.2.2.2.1 d.2.2.2.2.1 d.2.2.2.2.2):=
 cD hc (by kernel_rfl) (by kernel_rfl) (aQH N hc) (by kernel_rfl) aQB (λhr=>(aQE N g0 g1 g2).symm.trans (by rw[aQJ N];exact hr)) hd
def iG(N:Nat):Nat->(bB->Int->Bool->Option (Int×Int×(List Ex)×bB×Int×Bool))×(bB->Int->Bool->Option (Int×Int×(List Ex)×bB×Int×Bool))×(bB->Int->Bool->Option (Int×Int×(List Ex)×bB×Int×Bool))×(bB->Int->Bool->Option (Int×Int×(List Ex)×bB×Int×Bool))
 |0=>(λ_ _ _=>none,λ_ _ _=>none,λ_ _ _=>none,λ_ _ _=>none)
 |n+1=>(λg0 g1 g2=>uQ (N,iG N n) g0 g1 g2,λg0 g1 g2=>xP (N,iG N n) g0 g1 g2,λg0 g1 g2=>QE (N,iG N n) g0 g1 g2,λg0 g1 g2=>Kz (N,iG N n) g0 g1 g2)
theorem aIp(N:Nat):∀n,aM Tryz.prog 112 (uT (N,iG N n))/\aM Tryz.prog 107 (uW (N,iG N n))/\aM Tryz.prog 100 (u0 (N,iG N n))/\aM Tryz.prog 79 (tK (N,iG N n))
 |0=>⟨eO aIn (λ_ h=>by cases h),eO aJK (λ_ h=>by cases h),eO aJ6 (λ_ h=>by cases h),eO aCd (λ_ h=>by cases h)⟩
 |n+1=>
   have ih:=aIp N n
   ⟨eO aIn (λd h=>pM (zz:=uQ (N,iG N n) d.1 d.2.1 d.2.2) (R:=λy=>uS y.1 y.2.1 y.2.2.1 y.2.2.2.1 y.2.2.2.2.1 y.2.2.2.2.2) (d0:=(0,0,[],[],0,false)) (λ_ hy=>a2P (a2Q (N,iG N n) ih.1 ih.2.1 ih.2.2.1 ih.2.2.2) hy) h),eO aJK (λd h=>pM (zz:=xP (N,iG N n) d.1 d.2.1 d.2.2) (R:=λy=>xQ y.1 y.2.1 y.2.2.1 y.2.2.2.1 y.2.2.2.2.1 y.2.2.2.2.2) (d0:=(0,0,[],[],0,false)) (λ_ hy=>a3D (a3E (N,iG N n) ih.1 ih.2.1 ih.2.2.1 ih.2.2.2) hy) h),eO aJ6 (λd h=>pM (zz:=QE (N,iG N n) d.1 d.2.1 d.2.2) (R:=λy=>Il y.1 y.2.1 y.2.2.1 y.2.2.2.1 y.2.2.2.2.1 y.2.2.2.2.2) (d0:=(0,0,[],[],0,false)) (λ_ hy=>a3n (a3p (N,iG N n) ih.1 ih.2.1 ih.2.2.1 ih.2.2.2) hy) h),eO aCd (λd h=>pM (zz:=Kz (N,iG N n) d.1 d.2.1 d.2.2) (R:=λy=>Cn y.1 y.2.1 y.2.2.1 y.2.2.2.1 y.2.2.2.2.1 y.2.2.2.2.2) (d0:=(0,0,[],[],0,false)) (λ_ hy=>aQI (aQK (N,iG N n) ih.1 ih.2.1 ih.2.2.1 ih.2.2.2) hy) h)⟩
def Co N g0 g1 g2:=((iG N N).2.2.2 g0 g1 g2).isSome
def Cm N g0 g1 g2:=(((iG N N).2.2.2 g0 g1 g2).getD (0,0,[],[],0,false)).1
def Cl N g0 g1 g2:=(((iG N N).2.2.2 g0 g1 g2).getD (0,0,[],[],0,false)).2.1
def Ck N g0 g1 g2:=(((iG N N).2.2.2 g0 g1 g2).getD (0,0,[],[],0,false)).2.2.1
def Cj N g0 g1 g2:=(((iG N N).2.2.2 g0 g1 g2).getD (0,0,[],[],0,false)).2.2.2.1
def Ci N g0 g1 g2:=(((iG N N).2.2.2 g0 g1 g2).getD (0,0,[],[],0,false)).2.2.2.2.1
def Ch N g0 g1 g2:=(((iG N N).2.2.2 g0 g1 g2).getD (0,0,[],[],0,false)).2.2.2.2.2
def aCg(N:Nat):bK:=fD LC (λd=>Co N d.1 d.2.1 d.2.2) (λd=>Cn (Cm N d.1 d.2.1 d.2.2) (Cl N d.1 d.2.1 d.2.2) (Ck N d.1 d.2.1 d.2.2) (Cj N d.1 d.2.1 d.2.2) (Ci N d.1 d.2.1 d.2.2) (Ch N d.1 d.2.1 d.2.2))
theorem aQF N:aM Tryz.prog 79 (aCg N):=(aIp N N).2.2.2
end
end Go.Proofs
/- What functions do. -/
namespace Go.Proofs
noncomputable section
open Go.Ax Go.Ax.aA Go.RowKit Go.Ab
open Go
def tX(a0 a1:Int)(a2:(List Ex))(a3 a4:Int):aE:=(.bD [.agg [.e (.i .i64) a0,.e (.i .i64) a1,.e (.sl .ex) a2],.e (.i .i64) a3,.e (.i .i64) a4],[])
def nP(N:Nat):Cx:=⟨Tryz.prog,25,[(79,aCg N),(80,AH N),(81,TB N),(36,H5 N)],[]⟩
def N8:Code:=Tryz.f45.body.getD .skip
theorem aW4 N:aF (nP N):=bY (by kernel_rfl) (.cons (by kernel_rfl) (aQF N) (.cons (by kernel_rfl) (Cf N) (.cons (by kernel_rfl) (aCZ N) (.cons (by kernel_rfl) (ON N) .nil)))) .nil
def Nb[aA](N:Nat)(k0:bB->Int->Int->Int->bB->Int->Bool->Int->Int->(List Ex)->O)(x0_0:bB)(x0_1 x0_2 x0_3:Int)(x0_4:bB)(x0_5:Int)(x0_6:Bool)(x0_7 x0_8:Int)(x0_9:(List Ex)):O:=
 let b0:=kY N (61:UInt8) x0_4 x0_5 x0_6
 let b1:=kX N (61:UInt8) x0_4 x0_5 x0_6
 let b2:=lL N (61:UInt8) x0_4 x0_5 x0_6
 let b3:=kY N (60:UInt8) b0 b1 b2
 let b4:=kX N (60:UInt8) b0 b1 b2
 let b5:=lL N (60:UInt8) b0 b1 b2
 ck (nG N (61:UInt8) x0_4 x0_5 x0_6)<|
 br (nF N (61:UInt8) x0_4 x0_5 x0_6)
  (ck (Co N b0 b1 b2)<|
  k0 x0_0 x0_1 x0_2 x0_3 (Cj N b0 b1 b2) (Ci N b0 b1 b2) (Ch N b0 b1 b2) 9 0 [Ex.mk x0_7 x0_8 x0_9,Ex.mk (Cm N b0 b1 b2) (Cl N b0 b1 b2) (Ck N b0 b1 b2)])
  (ck (nG N (60:UInt8) b0 b1 b2)<|
  br (nF N (60:UInt8) b0 b1 b2)
   (ck (Co N b3 b4 b5)<|
   k0 x0_0 x0_1 x0_2 x0_3 (Cj N b3 b4 b5) (Ci N b3 b4 b5) (Ch N b3 b4 b5) 10 0 [Ex.mk x0_7 x0_8 x0_9,Ex.mk (Cm N b3 b4 b5) (Cl N b3 b4 b5) (Ck N b3 b4 b5)])
   (k0 x0_0 x0_1 x0_2 x0_3 b3 b4 b5 x0_7 x0_8 x0_9))
def VL:Code:=cK [1,1,1,1,0] N8
def aWY:Nm:=⟨[0,2,4,5,6],[],[]⟩
def De(x:bB×Int×Int×Int×bB×Int×Bool×Int×Int×(List Ex)):Sg:=⟨[(0,.e .tx x.1),(2,.ref 0 0),(4,.e (.i .i64) x.2.1),(5,.ref 1 0),(6,.ref 2 0)],[(0,.box 25 [.e (.i .i64) x.2.2.1,.e (.i .i64) x.2.2.2.1,.cC]),(1,.box 104 [.e .tx x.2.2.2.2.1,.e (.i .i64) x.2.2.2.2.2.1,.e .bo x.2.2.2.2.2.2.1]),(2,.box 25 [.e (.i .i64) x.2.2.2.2.2.2.2.1,.e (.i .i64) x.2.2.2.2.2.2.2.2.1,.e (.sl .ex) x.2.2.2.2.2.2.2.2.2])],100⟩
def N5(σ:Sg):bB×Int×Int×Int×bB×Int×Bool×Int×Int×(List Ex):=(aO .tx 0 0 σ,aO (.i .i64) 4 0 σ,aL (.i .i64) 0 0 σ,aL (.i .i64) 0 1 σ,aL .tx 1 0 σ,aL (.i .i64) 1 1 σ,aL .bo 1 2 σ,aL (.i .i64) 2 0 σ,aL (.i .i64) 2 1 σ,aL (.sl .ex) 2 2 σ)
theorem aWS:∀x,N5 (De x)=x:=λ_=>by kernel_rfl
def Na(y:bB×Int×Int×Int×bB×Int×Bool×Int×Int×(List Ex)):Exit×Sg:=(.normal,⟨[(0,.e .tx y.1),(2,.ref 0 0),(4,.e (.i .i64) y.2.1),(5,.ref 1 0),(6,.ref 2 0)],[(0,.box 25 [.e (.i .i64) y.2.2.1,.e (.i .i64) y.2.2.2.1,.cC]),(1,.box 104 [.e .tx y.2.2.2.2.1,.e (.i .i64) y.2.2.2.2.2.1,.e .bo y.2.2.2.2.2.2.1]),(2,.box 25 [.e (.i .i64) y.2.2.2.2.2.2.2.1,.e (.i .i64) y.2.2.2.2.2.2.2.2.1,.e (.sl .ex) y.2.2.2.2.2.2.2.2.2])],100⟩)
def aWP(_:Exit)(σ:Sg):bB×Int×Int×Int×bB×Int×Bool×Int×Int×(List Ex):=(aO .tx 0 0 σ,aO (.i .i64) 4 0 σ,aL (.i .i64) 0 0 σ,aL (.i .i64) 0 1 σ,aL .tx 1 0 σ,aL (.i .i64) 1 1 σ,aL .bo 1 2 σ,aL (.i .i64) 2 0 σ,aL (.i .i64) 2 1 σ,aL (.sl .ex) 2 2 σ)
def aWN:List (Exit×Nm):=[(.normal,⟨[0,2,4,5,6],[],[.cv 6 2 (.sl .ex)]⟩)]
def Dc[aA](N _:Nat)(x:bB×Int×Int×Int×bB×Int×Bool×Int×Int×(List Ex))(k0:(bB×Int×Int×Int×bB×Int×Bool×Int×Int×(List Ex))->O)(_:(Unit)->O)(_:(Unit)->O):O:=Nb N (λy0 y1 y2 y3 y4 y5 y6 y7 y8 y9=>k0 (y0,y1,y2,y3,y4,y5,y6,y7,y8,y9)) x.1 x.2.1 x.2.2.1 x.2.2.2.1 x.2.2.2.2.1 x.2.2.2.2.2.1 x.2.2.2.2.2.2.1 x.2.2.2.2.2.2.2.1 x.2.2.2.2.2.2.2.2.1 x.2.2.2.2.2.2.2.2.2
def HM[aA] N a0 a1 a2 a3 a4 a5 a6 a7 a8 a9 (k0:bB->Int->Int->Int->bB->Int->Bool->Int->Int->(List Ex)->O):=Dc N N (a0,a1,a2,a3,a4,a5,a6,a7,a8,a9) (λy=>k0 y.1 y.2.1 y.2.2.1 y.2.2.2.1 y.2.2.2.2.1 y.2.2.2.2.2.1 y.2.2.2.2.2.2.1 y.2.2.2.2.2.2.2.1 y.2.2.2.2.2.2.2.2.1 y.2.2.2.2.2.2.2.2.2) (λ_=>none) (λ_=>none)
def aFg[aA] N a0 a1 a2 a3 a4 a5 a6 a7 a8 a9 (k0:bB->Int->Int->Int->bB->Int->Bool->Int->Int->(List Ex)->O):=aY De N5 (Dc N N) (De (a0,a1,a2,a3,a4,a5,a6,a7,a8,a9)) (λy=>k0 y.1 y.2.1 y.2.2.1 y.2.2.2.1 y.2.2.2.2.1 y.2.2.2.2.2.1 y.2.2.2.2.2.2.1 y.2.2.2.2.2.2.2.1 y.2.2.2.2.2.2.2.2.1 y.2.2.2.2.2.2.2.2.2) (λ_=>none) (λ_=>none)
theorem aW3[aA] N:aFg N=HM N:=funext λ_=>funext λ_=>funext λ_=>funext λ_=>funext λ_=>funext λ_=>funext λ_=>funext λ_=>funext λ_=>funext λ_=>funext λ_=>cW aWS _ _ _ _
def aFh[aA](_:Nat):Hint:=(.seq .d (.cond (.gI [] [] [[],[],[1],[],[],[2]]) (.seq .d (.cond (.gI [] [] [[],[],[1],[],[],[2]]) .d))))
theorem aWZ N:bJ (nP N) Tryz.f45.ntmps (aFh N) VL:=bO _ _ (aG trivial (aG trivial (aG trivial (aG trivial trivial))))
theorem aWU[aA](N:Nat)(K:Exit->Sg->O)(x:bB×Int×Int×Int×bB×Int×Bool×Int×Int×(List Ex)):Nb N (λy0 y1 y2 y3 y4 y5 y6 y7 y8 y9=>K (Na (y0,y1,y2,y3,y4,y5,y6,y7,y8,y9)).1 (Na (y0,y1,y2,y3,y4,y5,y6,y7,y8,y9)).2) x.1 x.2.1 x.2.2.1 x.2.2.2.1 x.2.2.2.2.1 x.2.2.2.2.2.1 x.2.2.2.2.2.2.1 x.2.2.2.2.2.2.2.1 x.2.2.2.2.2.2.2.2.1 x.2.2.2.2.2.2.2.2.2=exec (nP N) Tryz.f45.ntmps (aFh N) VL (De x) (hY aWN K):=by kernel_rfl
theorem aW8 N (hc:aF (nP N)):cN (nP N) Tryz.f45.ntmps VL Na (aW 1) (aW 2) (aY De N5 (Dc N N)):=
 iV hc (aWZ N) (eZ aWP .normal (λ_=>by kernel_rfl) (λ_=>rfl) (by kernel_rfl)) (λx K=>by
  exact aWU N K x)
def VM[aA](N:Nat)(k0:bB->Int->Int->Int->bB->Int->Bool->Int->Int->(List Ex)->O)(x11_0:bB)(x11_1 x11_2 x11_3:Int)(x11_4:bB)(x11_5:Int)(x11_6:Bool)(x11_7 x11_8:Int)(x11_9:(List Ex)):O:=
 br (!x11_6)
  (ck (GS N x11_4 x11_5 x11_6)<|
  k0 x11_0 x11_1 x11_2 x11_3 (wL N x11_4 x11_5 x11_6) (wK N x11_4 x11_5 x11_6) (Cd N x11_4 x11_5 x11_6) x11_7 x11_8 x11_9)
  (k0 x11_0 x11_1 x11_2 x11_3 x11_4 x11_5 x11_6 x11_7 x11_8 x11_9)
def VK:Code:=cK [1,1,1,1,1,0] N8
def aWX:Nm:=⟨[0,2,4,5,6],[],[]⟩
def Dd(x:bB×Int×Int×Int×bB×Int×Bool×Int×Int×(List Ex)):Sg:=⟨[(0,.e .tx x.1),(2,.ref 0 0),(4,.e (.i .i64) x.2.1),(5,.ref 1 0),(6,.ref 2 0)],[(0,.box 25 [.e (.i .i64) x.2.2.1,.e (.i .i64) x.2.2.2.1,.cC]),(1,.box 104 [.e .tx x.2.2.2.2.1,.e (.i .i64) x.2.2.2.2.2.1,.e .bo x.2.2.2.2.2.2.1]),(2,.box 25 [.e (.i .i64) x.2.2.2.2.2.2.2.1,.e (.i .i64) x.2.2.2.2.2.2.2.2.1,.e (.sl .ex) x.2.2.2.2.2.2.2.2.2])],100⟩
def N4(σ:Sg):bB×Int×Int×Int×bB×Int×Bool×Int×Int×(List Ex):=(aO .tx 0 0 σ,aO (.i .i64) 4 0 σ,aL (.i .i64) 0 0 σ,aL (.i .i64) 0 1 σ,aL .tx 1 0 σ,aL (.i .i64) 1 1 σ,aL .bo 1 2 σ,aL (.i .i64) 2 0 σ,aL (.i .i64) 2 1 σ,aL (.sl .ex) 2 2 σ)
theorem aWR:∀x,N4 (Dd x)=x:=λ_=>by kernel_rfl
def N9(y:bB×Int×Int×Int×bB×Int×Bool×Int×Int×(List Ex)):Exit×Sg:=(.normal,⟨[(0,.e .tx y.1),(2,.ref 0 0),(4,.e (.i .i64) y.2.1),(5,.ref 1 0),(6,.ref 2 0)],[(0,.box 25 [.e (.i .i64) y.2.2.1,.e (.i .i64) y.2.2.2.1,.cC]),(1,.box 104 [.e .tx y.2.2.2.2.1,.e (.i .i64) y.2.2.2.2.2.1,.e .bo y.2.2.2.2.2.2.1]),(2,.box 25 [.e (.i .i64) y.2.2.2.2.2.2.2.1,.e (.i .i64) y.2.2.2.2.2.2.2.2.1,.e (.sl .ex) y.2.2.2.2.2.2.2.2.2])],100⟩)
def aWO(_:Exit)(σ:Sg):bB×Int×Int×Int×bB×Int×Bool×Int×Int×(List Ex):=(aO .tx 0 0 σ,aO (.i .i64) 4 0 σ,aL (.i .i64) 0 0 σ,aL (.i .i64) 0 1 σ,aL .tx 1 0 σ,aL (.i .i64) 1 1 σ,aL .bo 1 2 σ,aL (.i .i64) 2 0 σ,aL (.i .i64) 2 1 σ,aL (.sl .ex) 2 2 σ)
def aWM:List (Exit×Nm):=[(.normal,⟨[0,2,4,5,6],[],[]⟩)]
def HN[aA](N _:Nat)(x:bB×Int×Int×Int×bB×Int×Bool×Int×Int×(List Ex))(k0:(bB×Int×Int×Int×bB×Int×Bool×Int×Int×(List Ex))->O)(_:(Unit)->O)(_:(Unit)->O):O:=VM N (λy0 y1 y2 y3 y4 y5 y6 y7 y8 y9=>k0 (y0,y1,y2,y3,y4,y5,y6,y7,y8,y9)) x.1 x.2.1 x.2.2.1 x.2.2.2.1 x.2.2.2.2.1 x.2.2.2.2.2.1 x.2.2.2.2.2.2.1 x.2.2.2.2.2.2.2.1 x.2.2.2.2.2.2.2.2.1 x.2.2.2.2.2.2.2.2.2
def N7[aA] N a0 a1 a2 a3 a4 a5 a6 a7 a8 a9 (k0:bB->Int->Int->Int->bB->Int->Bool->Int->Int->(List Ex)->O):=HN N N (a0,a1,a2,a3,a4,a5,a6,a7,a8,a9) (λy=>k0 y.1 y.2.1 y.2.2.1 y.2.2.2.1 y.2.2.2.2.1 y.2.2.2.2.2.1 y.2.2.2.2.2.2.1 y.2.2.2.2.2.2.2.1 y.2.2.2.2.2.2.2.2.1 y.2.2.2.2.2.2.2.2.2) (λ_=>none) (λ_=>none)
def aFf[aA] N a0 a1 a2 a3 a4 a5 a6 a7 a8 a9 (k0:bB->Int->Int->Int->bB->Int->Bool->Int->Int->(List Ex)->O):=aY Dd N4 (HN N N) (Dd (a0,a1,a2,a3,a4,a5,a6,a7,a8,a9)) (λy=>k0 y.1 y.2.1 y.2.2.1 y.2.2.2.1 y.2.2.2.2.1 y.2.2.2.2.2.1 y.2.2.2.2.2.2.1 y.2.2.2.2.2.2.2.1 y.2.2.2.2.2.2.2.2.1 y.2.2.2.2.2.2.2.2.2) (λ_=>none) (λ_=>none)
theorem aW2[aA] N:aFf N=N7 N:=funext λ_=>funext λ_=>funext λ_=>funext λ_=>funext λ_=>funext λ_=>funext λ_=>funext λ_=>funext λ_=>funext λ_=>funext λ_=>cW aWR _ _ _ _
theorem aWT[aA](N:Nat)(K:Exit->Sg->O)(x:bB×Int×Int×Int×bB×Int×Bool×Int×Int×(List Ex)):VM N (λy0 y1 y2 y3 y4 y5 y6 y7 y8 y9=>K (N9 (y0,y1,y2,y3,y4,y5,y6,y7,y8,y9)).1 (N9 (y0,y1,y2,y3,y4,y5,y6,y7,y8,y9)).2) x.1 x.2.1 x.2.2.1 x.2.2.2.1 x.2.2.2.2.1 x.2.2.2.2.2.1 x.2.2.2.2.2.2.1 x.2.2.2.2.2.2.2.1 x.2.2.2.2.2.2.2.2.1 x.2.2.2.2.2.2.2.2.2=exec (nP N) Tryz.f45.ntmps .d VK (Dd x) (hY aWM K):=by kernel_rfl
theorem aW7 N (hc:aF (nP N)):cN (nP N) Tryz.f45.ntmps VK N9 (aW 1) (aW 2) (aY Dd N4 (HN N N)):=
 iV hc (cO VK) (eZ aWO .normal (λ_=>by kernel_rfl) (λ_=>rfl) (by kernel_rfl)) (λx K=>by
  exact aWT N K x)
def Df[aA](N:Nat)(in0:bB->Int->Int->Int->bB->Int->Bool->Int->Int->(List Ex)->(bB->Int->Int->Int->bB->Int->Bool->Int->Int->(List Ex)->O)->O)(in1:bB->Int->Int->Int->bB->Int->Bool->Int->Int->(List Ex)->(bB->Int->Int->Int->bB->Int->Bool->Int->Int->(List Ex)->O)->O)(s0:bB):O:=
 let b0:=some (tX 0 0 [] 0 4)
 br (decide ((8192:Int)<(↑s0.length:Int)))
  b0
  (ck (Co N s0 (0:Int) false)<|
  in0 s0 0 0 0 (Cj N s0 (0:Int) false) (Ci N s0 (0:Int) false) (Ch N s0 (0:Int) false) (Cm N s0 (0:Int) false) (Cl N s0 (0:Int) false) (Ck N s0 (0:Int) false)
   (λz1 z2 z3 z4 z5 z6 z7 z8 z9 z10=>
    in1 z1 z2 z3 z4 z5 z6 z7 z8 z9 z10
     (λz12 _ _ _ _ z17 z18 z19 z20 z21=>
      br (z18||decide (z17<(↑z12.length:Int)))
       (some (tX 0 0 [] z17 2))
       (ck (xF N z19 z20 z21)<|
       br (decide (rX N z19 z20 z21≠(0:Int)))
        b0
        (some (tX (z19) (z20) (z21) 0 0))))))
def w45[aA] N s0:=Df N (HM N) (N7 N) s0
def aFi[aA](N:Nat):Hint:=(.seq .d (.seq .d (.seq .d (.seq .d (.seq (.sub aWY _ _ _ Na (aW 1) (aW 2) (aY De N5 (Dc N N))) (.seq (.sub aWX _ _ _ N9 (aW 1) (aW 2) (aY Dd N4 (HN N N))) (.seq (.seq .d (.cond (.seq (.gI [] [] [[],[],[],[],[],[0],[],[]]) .d) .d)) .d)))))))
theorem aW0 N (hc:aF (nP N)):bJ (nP N) Tryz.f45.ntmps (aFi N) N8:=bO _ _ (aG trivial (aG trivial (aG trivial (aG trivial (aG (aW8 N hc) (aG (aW7 N hc) (aG (aG trivial (aG (aG trivial trivial) trivial)) trivial)))))))
theorem aWV[aA] N s0:Df N (aFg N) (aFf N) s0=exec (nP N) Tryz.f45.ntmps (aFi N) N8 ⟨bU 0 [.e .tx s0],[],100⟩ (bX (nP N) Tryz.f45 false):=by kernel_rfl
def w4(r:aE):Option (Int×Int×(List Ex)×Int×Int):=match r with
 |(.bD [.agg [x0,x1,x2],x3,x4],[])=>(match ue (.i .i64) x0,ue (.i .i64) x1,ue (.sl .ex) x2,ue (.i .i64) x3,ue (.i .i64) x4 with|some a0,some a1,some a2,some a3,some a4=>some (a0,a1,a2,a3,a4)|_,_,_,_,_=>none)
 |_=>none
theorem aWQ{r d}(h:w4 r=some d):r=tX d.1 d.2.1 d.2.2.1 d.2.2.2.1 d.2.2.2.2:=by
 unfold w4 at h;split at h
 .split at h
  .rename_i h0 h1 h2 h3 h4;cases h;rw[aH h0,aH h1,aH h2,aH h3,aH h4];rfl
  .cases h
 .cases h
def o8 N s0:=(w45 N s0).bind w4
theorem aW1{N}(hc:aF (nP N)){s0 d}(hd:o8 N s0=some d):cB Tryz.prog 45 [.e .tx s0] [] (tX d.1 d.2.1 d.2.2.1 d.2.2.2.1 d.2.2.2.2):=
 cD hc (by kernel_rfl) (by kernel_rfl) (aW0 N hc) (by kernel_rfl) aWQ (λhr=>(aWV N s0).symm.trans (by rw[aW3 N,aW2 N];exact hr)) hd
def N6 N s0:=(o8 N s0).isSome
def N3 N s0:=((o8 N s0).getD (0,0,[],0,0)).1
def N2 N s0:=((o8 N s0).getD (0,0,[],0,0)).2.1
def N1 N s0:=((o8 N s0).getD (0,0,[],0,0)).2.2.1
def aWL N s0:=((o8 N s0).getD (0,0,[],0,0)).2.2.2.1
def N0 N s0:=((o8 N s0).getD (0,0,[],0,0)).2.2.2.2
def aFj(N:Nat):bK:=E1 .tx (λx0=>(N6 N x0,tX (N3 N x0) (N2 N x0) (N1 N x0) (aWL N x0) (N0 N x0)))
theorem aWW N:aM Tryz.prog 45 (aFj N):=aM.e1 (λx0 h=>cY (z:=o8 N x0) h (aW1 (aW4 N)) rfl)
end
end Go.Proofs
