/- What the reference of package linear does. Conditions are in the theorems. -/
import Derived.Test.YtlhdefefoaldfaaGreatDoorE7
import Derived.Test.YtlhdefefoaldfaaGreatDoorProg
import Derived.KernelRfl
import Derived.Test.YtlhdefefoaldfaaGreatDoorF0
import Derived.Test.YtlhdefefoaldfaaGreatDoorL1
import Derived.Test.YtlhdefefoaldfaaGreatDoorF1
import Derived.Test.YtlhdefefoaldfaaGreatDoorF2
import Derived.Test.YtlhdefefoaldfaaGreatDoorF3
import Derived.Test.YtlhdefefoaldfaaGreatDoorF4
import Derived.Test.YtlhdefefoaldfaaGreatDoorF5
open And renaming intro->aG
open Eq renaming trans->fK
open Go.IntKind renaming i64->aC
/- What functions do. -/
namespace Go.Proofs
noncomputable section
open Go.Ax Go.Ax.aA Go.RowKit Go.Ab
open Go
abbrev aB:=List UInt8
def Ls(a0:Bool):aE:=(.e .bo a0,[])
def Gh(_:Nat):Cx:=⟨Tryz.prog,25,[],[]⟩
def aDu:Code:=Tryz.f65.body.getD .skip
theorem aS9 N:aF (Gh N):=bY (by kernel_rfl) .nil .nil
def aDx[aA](_:Nat)(c0:UInt8):O:=
  some (Ls (decide (48<=c0)&&decide (c0<=57)))
def w65[aA] N c0:=aDx N c0
def aDt[aA](_:Nat):Hint:=.d
theorem aS7 N:bJ (Gh N) Tryz.f65.ntmps (aDt N) aDu:=bO _ _ trivial
theorem aS6[aA] N c0:aDx N c0=exec (Gh N) Tryz.f65.ntmps (aDt N) aDu ⟨bU 0 [.e .u8 c0],[],100⟩ (bX (Gh N) Tryz.f65 false):=by kernel_rfl
def Tt(r:aE):Option (Bool):=match r with
  |(x0,[])=>(match ue .bo x0 with|some a0=>some a0|_=>none)
  |_=>none
theorem aS5{r d}(h:Tt r=some d):r=Ls (d):=by
  unfold Tt at h;split at h
  . split at h
    . rename_i h0;cases h;rw[aH h0];rfl
    . cases h
  . cases h
def Lr N c0:=(w65 N c0).bind Tt
theorem aS8{N}(hc:aF (Gh N)){c0 d}(hd:Lr N c0=some d):cB Tryz.prog 65 [.e .u8 c0] [] (Ls (d)):=
  cD hc (by kernel_rfl) (by kernel_rfl) (aS7 N) (by kernel_rfl) aS5 (aS6 N c0).symm.trans hd
def Gg N c0:=(Lr N c0).isSome
def wV N c0:=((Lr N c0).getD false)
def Tu(N:Nat):bK:=E1 .u8 (λx0=>(Gg N x0,Ls (wV N x0)))
theorem aDs N:aM Tryz.prog 65 (Tu N):=aM.e1 (λx0 h=>cY (z:=Lr N x0) h (aS8 (aS9 N)) rfl)
def Lq(a0:aB):aE:=(.e (.sl .u8) a0,[])
def Gf(_:Nat):Cx:=⟨Tryz.prog,25,[],[]⟩
def aDp:Code:=Tryz.f66.body.getD .skip
theorem aS2 N:aF (Gf N):=bY (by kernel_rfl) .nil .nil
def aDr[aA](_:Nat):O:=
  some (Lq [(26:UInt8),(1:UInt8),(3:UInt8),(9:UInt8),(25:UInt8),(17:UInt8),(11:UInt8),(27:UInt8),(19:UInt8),(10:UInt8)])
def w66[aA](N:Nat):O:=aDr N  
def aDo[aA](_:Nat):Hint:=.d
theorem aS0 N:bJ (Gf N) Tryz.f66.ntmps (aDo N) aDp:=bO _ _ trivial
theorem aSZ[aA] N:aDr N=exec (Gf N) Tryz.f66.ntmps (aDo N) aDp ⟨bU 0 [],[],100⟩ (bX (Gf N) Tryz.f66 false):=by kernel_rfl
def Tr(r:aE):Option (aB):=match r with
  |(x0,[])=>(match ue (.sl .u8) x0 with|some a0=>some a0|_=>none)
  |_=>none
theorem aSY{r d}(h:Tr r=some d):r=Lq (d):=by
  unfold Tr at h;split at h
  . split at h
    . rename_i h0;cases h;rw[aH h0];rfl
    . cases h
  . cases h
def Lp(N:Nat):Option (aB):=(w66 N ).bind Tr
theorem aS1{N}(hc:aF (Gf N)){d}(hd:Lp N=some d):cB Tryz.prog 66 [] [] (Lq (d)):=
  cD hc (by kernel_rfl) (by kernel_rfl) (aS0 N) (by kernel_rfl) aSY (aSZ N).symm.trans hd
def AZ(N:Nat):Bool:=(Lp N ).isSome
def qE(N:Nat):aB:=((Lp N ).getD [])
def Ts(N:Nat):bK:=E0 (AZ N ,Lq (qE N ))
theorem aDn N:aM Tryz.prog 66 (Ts N):=aM.e0 (λh=>cY (z:=Lp N ) h (aS1 (aS2 N)) rfl)
def Ln(a0:Bool):aE:=(.e .bo a0,[])
def Ge(_:Nat):Cx:=⟨Tryz.prog,25,[],[]⟩
def aDj:Code:=Tryz.f67.body.getD .skip
theorem aSW N:aF (Ge N):=bY (by kernel_rfl) .nil .nil
def aDm[aA](_:Nat)(c0:UInt8):O:=
  some (Ln (decide (97<=c0)&&decide (c0<=122)))
def w67[aA] N c0:=aDm N c0
def aDi[aA](_:Nat):Hint:=.d
theorem aSU N:bJ (Ge N) Tryz.f67.ntmps (aDi N) aDj:=bO _ _ trivial
theorem aST[aA] N c0:aDm N c0=exec (Ge N) Tryz.f67.ntmps (aDi N) aDj ⟨bU 0 [.e .u8 c0],[],100⟩ (bX (Ge N) Tryz.f67 false):=by kernel_rfl
def Tp(r:aE):Option (Bool):=match r with
  |(x0,[])=>(match ue .bo x0 with|some a0=>some a0|_=>none)
  |_=>none
theorem aSS{r d}(h:Tp r=some d):r=Ln (d):=by
  unfold Tp at h;split at h
  . split at h
    . rename_i h0;cases h;rw[aH h0];rfl
    . cases h
  . cases h
def Lm N c0:=(w67 N c0).bind Tp
theorem aSV{N}(hc:aF (Ge N)){c0 d}(hd:Lm N c0=some d):cB Tryz.prog 67 [.e .u8 c0] [] (Ln (d)):=
  cD hc (by kernel_rfl) (by kernel_rfl) (aSU N) (by kernel_rfl) aSS (aST N c0).symm.trans hd
def Lo N c0:=(Lm N c0).isSome
def Gc N c0:=((Lm N c0).getD false)
def Tq(N:Nat):bK:=E1 .u8 (λx0=>(Lo N x0,Ln (Gc N x0)))
theorem aDh N:aM Tryz.prog 67 (Tq N):=aM.e1 (λx0 h=>cY (z:=Lm N x0) h (aSV (aSW N)) rfl)
def Lk(a0:aB):aE:=(.e (.sl .u8) a0,[])
def Gb(_:Nat):Cx:=⟨Tryz.prog,25,[],[]⟩
def aDd:Code:=Tryz.f68.body.getD .skip
theorem aSQ N:aF (Gb N):=bY (by kernel_rfl) .nil .nil
def aDg[aA](_:Nat):O:=
  some (Lk [(1:UInt8),(3:UInt8),(9:UInt8),(25:UInt8),(17:UInt8),(11:UInt8),(27:UInt8),(19:UInt8),(10:UInt8),(26:UInt8),(5:UInt8),(7:UInt8),(13:UInt8),(29:UInt8),(21:UInt8),(15:UInt8),(31:UInt8),(23:UInt8),(14:UInt8),(30:UInt8),(37:UInt8),(39:UInt8),(58:UInt8),(45:UInt8),(61:UInt8),(53:UInt8)])
def w68[aA](N:Nat):O:=aDg N  
def aDc[aA](_:Nat):Hint:=.d
theorem aSO N:bJ (Gb N) Tryz.f68.ntmps (aDc N) aDd:=bO _ _ trivial
theorem aSN[aA] N:aDg N=exec (Gb N) Tryz.f68.ntmps (aDc N) aDd ⟨bU 0 [],[],100⟩ (bX (Gb N) Tryz.f68 false):=by kernel_rfl
def Tn(r:aE):Option (aB):=match r with
  |(x0,[])=>(match ue (.sl .u8) x0 with|some a0=>some a0|_=>none)
  |_=>none
theorem aSM{r d}(h:Tn r=some d):r=Lk (d):=by
  unfold Tn at h;split at h
  . split at h
    . rename_i h0;cases h;rw[aH h0];rfl
    . cases h
  . cases h
def Lj(N:Nat):Option (aB):=(w68 N ).bind Tn
theorem aSP{N}(hc:aF (Gb N)){d}(hd:Lj N=some d):cB Tryz.prog 68 [] [] (Lk (d)):=
  cD hc (by kernel_rfl) (by kernel_rfl) (aSO N) (by kernel_rfl) aSM (aSN N).symm.trans hd
def Ll(N:Nat):Bool:=(Lj N ).isSome
def DH(N:Nat):aB:=((Lj N ).getD [])
def To(N:Nat):bK:=E0 (Ll N ,Lk (DH N ))
theorem aDb N:aM Tryz.prog 68 (To N):=aM.e0 (λh=>cY (z:=Lj N ) h (aSP (aSQ N)) rfl)
def Ga(a0:UInt8):aE:=(.e .u8 a0,[])
def tP(_:Nat):Cx:=⟨Tryz.prog,25,[],[]⟩
def Tl:Code:=Tryz.f69.body.getD .skip
theorem aSI N:aF (tP N):=bY (by kernel_rfl) .nil .nil
def wU[aA](_:Nat)(self:Int->O)(k0:UInt8->O)(k1:Unit->O)(x0_0:UInt8)(x0_1:aB)(x0_2:Int):O:=
  br (decide (x0_2<(↑x0_1.length:Int)))
    (gx x0_1 x0_2 λy5=>
    br (decide (y5=x0_0))
      (gx [(22:UInt8),(36:UInt8),(33:UInt8),(12:UInt8),(24:UInt8),(54:UInt8),(42:UInt8),(28:UInt8),(55:UInt8),(62:UInt8)] x0_2 λy6=>
      k0 y6)
      (self (aC.wrap (x0_2+1))))
    (k1 ())
def Tk:Code:=cK [1,1,0,1,0,0] Tl
def aD5:Nm:=⟨[0,3,4],[],[]⟩
def AY(x:UInt8×aB×Int):Sg:=⟨[(0,.e .u8 x.1),(3,.e .tx x.2.1),(4,.e (.i .i64) x.2.2)],[],100⟩
def Le(σ:Sg):UInt8×aB×Int:=(aO .u8 0 0 σ,aO .tx 3 0 σ,aO (.i .i64) 4 0 σ)
theorem aSC:∀x,Le (AY x)=x:=λ_=>by kernel_rfl
def Lh(y:UInt8):Exit×Sg:=(.ret,⟨[(2,.e .u8 y)],[],100⟩)
def aSA(_:Exit)(σ:Sg):UInt8:=aO .u8 2 0 σ
def Lg(_:Unit):Exit×Sg:=((.exit 0),⟨[],[],100⟩)
def aRz(_:Exit)(_:Sg):Unit:=()
def aRy:List (Exit×Nm):=[(.ret,⟨[2],[],[]⟩),((.exit 0),⟨[],[],[]⟩)]
def wT[aA](N:Nat):Nat->(UInt8×aB×Int)->((UInt8)->O)->((Unit)->O)->((Unit)->O)->O
  |0,_,_,_,_=>none
  |n+1,x,k0,k1,k2=>wU N (λv0=>wT N n (x.1,x.2.1,v0) k0 k1 k2) (λy0=>k0 y0) (λ(_:Unit)=>k1 ()) x.1 x.2.1 x.2.2
def Lf[aA] N a0 a1 a2 (k0:UInt8->O) (k1:Unit->O):=wT N N (a0,a1,a2) (λy=>k0 y) (λy=>k1 y) (λ_=>none)
def aD3[aA] N a0 a1 a2 (k0:UInt8->O) (k1:Unit->O):=aY AY Le (wT N N) (AY (a0,a1,a2)) (λy=>k0 y) (λy=>k1 y) (λ_=>none)
theorem aSH[aA] N:aD3 N=Lf N:=funext λ_=>funext λ_=>funext λ_=>funext λ_=>funext λ_=>cW aSC _ _ _ _
theorem aSD[aA](N:Nat)(self:Sg->O)(K:Exit->Sg->O)(x:UInt8×aB×Int):wU N (λv0=>self (AY (x.1,x.2.1,v0))) (λy0=>K (Lh y0).1 (Lh y0).2) (λ(_:Unit)=>K (Lg ()).1 (Lg ()).2) x.1 x.2.1 x.2.2=exec (tP N) Tryz.f69.ntmps .d Tk (AY x) (eN aD5 aRy self K):=by kernel_rfl
theorem aSL N (hc:aF (tP N)):cN (tP N) Tryz.f69.ntmps (.loop Tk) Lh Lg (aW 2) (aY AY Le (wT N N)):=
  eV hc (cO Tk) (iS aSA aRz .ret (.exit 0) (λ_=>by kernel_rfl) (λ_=>by kernel_rfl) (λ_=>rfl) (λ_=>rfl) (by kernel_rfl)) (n:=N) (λx K=>eW (wT N) (λ_ _ _ _=>rfl) (λn K ih x=>by
    refine fK ?_ (aSD N _ K x);simp only[<-ih];rfl) N x K)
def Li[aA](_:Nat)(in0:UInt8->aB->Int->(UInt8->O)->(Unit->O)->O)(c0:UInt8):O:=
  in0 c0 [(43:UInt8),(45:UInt8),(42:UInt8),(47:UInt8),(94:UInt8),(61:UInt8),(60:UInt8),(82:UInt8),(40:UInt8),(41:UInt8)] 0
    (λz7=>
      some (Ga z7))
    (λ(_:Unit)=>
      some (Ga 0))
def Tm[aA] N c0:=Li N (Lf N) c0
def aD6[aA](N:Nat):Hint:=(.seq .d (.seq .d (.seq (.seq .d (.block (.sub aD5 _ _ _ Lh Lg (aW 2) (aY AY Le (wT N N))))) .d)))
theorem aSF N (hc:aF (tP N)):bJ (tP N) Tryz.f69.ntmps (aD6 N) Tl:=bO _ _ (aG trivial (aG trivial (aG (aG trivial (aSL N hc)) trivial)))
theorem aSE[aA] N c0:Li N (aD3 N) c0=exec (tP N) Tryz.f69.ntmps (aD6 N) Tl ⟨bU 0 [.e .u8 c0],[],100⟩ (bX (tP N) Tryz.f69 false):=by kernel_rfl
def G9(r:aE):Option (UInt8):=match r with
  |(x0,[])=>(match ue .u8 x0 with|some a0=>some a0|_=>none)
  |_=>none
theorem aSB{r d}(h:G9 r=some d):r=Ga (d):=by
  unfold G9 at h;split at h
  . split at h
    . rename_i h0;cases h;rw[aH h0];rfl
    . cases h
  . cases h
def wS N c0:=(Tm N c0).bind G9
theorem aSG{N}(hc:aF (tP N)){c0 d}(hd:wS N c0=some d):cB Tryz.prog 69 [.e .u8 c0] [] (Ga (d)):=
  cD hc (by kernel_rfl) (by kernel_rfl) (aSF N hc) (by kernel_rfl) aSB (λhr=>(aSE N c0).symm.trans (by rw[aSH N];exact hr)) hd
def AX N c0:=(wS N c0).isSome
def tO N c0:=((wS N c0).getD 0)
def Tj(N:Nat):bK:=E1 .u8 (λx0=>(AX N x0,Ga (tO N x0)))
theorem aD4 N:aM Tryz.prog 69 (Tj N):=aM.e1 (λx0 h=>cY (z:=wS N x0) h (aSG (aSI N)) rfl)
def G4(a0:Bool):aE:=(.e .bo a0,[])
def G5(N:Nat):Cx:=⟨Tryz.prog,25,[(65,Tu N),(67,Tq N)],[]⟩
def aDT:Code:=Tryz.f70.body.getD .skip
theorem aR5 N:aF (G5 N):=bY (by kernel_rfl) (.cons (by kernel_rfl) (aDs N) (.cons (by kernel_rfl) (aDh N) .nil)) .nil
def L5[aA](N:Nat)(s0:aB)(i1:Int):O:=
  let b0:=i1=(0:Int)
  let b1:=aC.wrap (i1-1)
  gc (!decide b0) 0 s0 i1 λy0=>
  gc (!decide b0&&decide (y0≠43)) 0 s0 i1 λy1=>
  gc (!decide b0&&(decide (y0≠43)&&decide (y1≠45))) 0 s0 i1 λy2=>
  gc (!decide b0&&(decide (y0≠43)&&decide (y1≠45)&&decide (y2≠42))) 0 s0 i1 λy3=>
  gc (!decide b0&&(decide (y0≠43)&&decide (y1≠45)&&decide (y2≠42)&&decide (y3≠47))) 0 s0 i1 λy4=>
  gc (!decide b0&&(decide (y0≠43)&&decide (y1≠45)&&decide (y2≠42)&&decide (y3≠47)&&decide (y4≠61))) 0 s0 i1 λy5=>
  br (decide b0||decide (y0≠43)&&decide (y1≠45)&&decide (y2≠42)&&decide (y3≠47)&&decide (y4≠61)&&decide (y5≠60))
    (some (G4 false))
    (gx s0 b1 λy6=>
    ck (Gg N y6)<|
    gc (!wV N y6) 0 s0 b1 λy7=>
    ck (!!wV N y6||Lo N y7)<|
    gc (!(wV N y6||Gc N y7)) 0 s0 b1 λy8=>
    some (G4 (wV N y6||Gc N y7||decide (y8=41))))
def Tb[aA] N s0 i1:=L5 N s0 i1
def aDR[aA](_:Nat):Hint:=.d
theorem aR3 N:bJ (G5 N) Tryz.f70.ntmps (aDR N) aDT:=bO _ _ trivial
theorem aR1[aA] N s0 i1:L5 N s0 i1=exec (G5 N) Tryz.f70.ntmps (aDR N) aDT ⟨bU 0 [.e .tx s0,.e (.i .i64) i1],[],100⟩ (bX (G5 N) Tryz.f70 false):=by kernel_rfl
def Ta(r:aE):Option (Bool):=match r with
  |(x0,[])=>(match ue .bo x0 with|some a0=>some a0|_=>none)
  |_=>none
theorem aR0{r d}(h:Ta r=some d):r=G4 (d):=by
  unfold Ta at h;split at h
  . split at h
    . rename_i h0;cases h;rw[aH h0];rfl
    . cases h
  . cases h
def tN N s0 i1:=(Tb N s0 i1).bind Ta
theorem aR4{N}(hc:aF (G5 N)){s0 i1 d}(hd:tN N s0 i1=some d):cB Tryz.prog 70 [.e .tx s0,.e (.i .i64) i1] [] (G4 (d)):=
  cD hc (by kernel_rfl) (by kernel_rfl) (aR3 N) (by kernel_rfl) aR0 (aR1 N s0 i1).symm.trans hd
def L4 N s0 i1:=(tN N s0 i1).isSome
def L3 N s0 i1:=((tN N s0 i1).getD false)
def aDS(N:Nat):bK:=E2 .tx (.i .i64) (λx0 x1=>(L4 N x0 x1,G4 (L3 N x0 x1)))
theorem aR2 N:aM Tryz.prog 70 (aDS N):=aM.e2 (λx0 x1 h=>cY (z:=tN N x0 x1) h (aR4 (aR5 N)) rfl)
def OH(a0:aB)(a1:(List Int)):aE:=(.bD [.own 100,.own 101],[(100,.row 5 .u8 a0 true),(101,.row 3 (.i .i64) a1 true)])
def j0(N:Nat):Cx:=⟨Tryz.prog,25,[(65,Tu N),(66,Ts N),(67,Tq N),(68,To N),(69,Tj N),(70,aDS N)],[]⟩
def H0:Code:=Tryz.f37.body.getD .skip
theorem aXr N:aF (j0 N):=bY (by kernel_rfl) (.cons (by kernel_rfl) (aDs N) (.cons (by kernel_rfl) (aDn N) (.cons (by kernel_rfl) (aDh N) (.cons (by kernel_rfl) (aDb N) (.cons (by kernel_rfl) (aD4 N) (.cons (by kernel_rfl) (aR2 N) .nil)))))) .nil
def OM[aA](N:Nat)(k0:aB->Int->aB->(List Int)->O)(x230_0:aB)(x230_1:Int)(x230_2:UInt8)(x230_3:aB)(x230_4:(List Int)):O:=
  ck (Gg N x230_2)<|
  br (wV N x230_2)
    (gc (!decide (x230_1=0)) 0 x230_0 (aC.wrap (x230_1-1)) λy239=>
    ck (!!decide (x230_1=0)||Gg N y239)<|
    br (decide (x230_1=0)||!wV N y239)
      (ck (cF (x230_3++[(60:UInt8)]).length (1:Nat))<|
      ck (AZ N)<|
      gx (qE N) ((↑(x230_2-(48:UInt8)).toNat:Int)) λy240=>
      ck (cF (x230_3++[(60:UInt8)]++[y240]).length (1:Nat))<|
      k0 x230_0 x230_1 (x230_3++[(60:UInt8)]++[y240]) x230_4)
      (ck (AZ N)<|
      gx (qE N) ((↑(x230_2-(48:UInt8)).toNat:Int)) λy241=>
      ck (cF (x230_3++[y241]).length (1:Nat))<|
      k0 x230_0 x230_1 (x230_3++[y241]) x230_4))
    (ck (Lo N x230_2)<|
    br (Gc N x230_2)
      (ck (Ll N)<|
      gx (DH N) ((↑(x230_2-(97:UInt8)).toNat:Int)) λy242=>
      ck (cF (x230_3++[(48:UInt8),y242]).length (1:Nat))<|
      k0 x230_0 x230_1 (x230_3++[(48:UInt8),y242]) x230_4)
      (ck (AX N x230_2)<|
      ck (cF (x230_3++[tO N x230_2]).length (1:Nat))<|
      k0 x230_0 x230_1 (x230_3++[tO N x230_2]) x230_4))
def Ve:Code:=cK [1,1,1,0,1,0,0,1,0,0,1,0] H0
def aXl:Nm:=⟨[0,2,4,5,6,7],[],[]⟩
def Dq(x:aB×Int×UInt8×aB×(List Int)):Sg:=⟨[(0,.e .tx x.1),(2,.cC),(4,.own 0),(5,.own 1),(6,.e (.i .i64) x.2.1),(7,.e .u8 x.2.2.1)],[(0,.row 5 .u8 x.2.2.2.1 true),(1,.row 3 (.i .i64) x.2.2.2.2 true)],100⟩
def OF(σ:Sg):aB×Int×UInt8×aB×(List Int):=(aO .tx 0 0 σ,aO (.i .i64) 6 0 σ,aO .u8 7 0 σ,dA .u8 0 σ,dA (.i .i64) 1 σ)
theorem aXf:∀x,OF (Dq x)=x:=λ_=>by kernel_rfl
def OL(y:aB×Int×aB×(List Int)):Exit×Sg:=(.normal,⟨[(0,.e .tx y.1),(2,.cC),(4,.own 0),(5,.own 1),(6,.e (.i .i64) y.2.1)],[(0,.row 5 .u8 y.2.2.1 true),(1,.row 3 (.i .i64) y.2.2.2 true)],100⟩)
def aXb(_:Exit)(σ:Sg):aB×Int×aB×(List Int):=(aO .tx 0 0 σ,aO (.i .i64) 6 0 σ,dA .u8 0 σ,dA (.i .i64) 1 σ)
def aX8:List (Exit×Nm):=[(.normal,⟨[0,2,4,5,6],[],[]⟩)]
def HZ[aA](N:Nat)(_:Nat)(x:aB×Int×UInt8×aB×(List Int))(k0:(aB×Int×aB×(List Int))->O)(_:(Unit)->O)(_:(Unit)->O):O:=OM N (λy0 y1 y2 y3=>k0 (y0,y1,y2,y3)) x.1 x.2.1 x.2.2.1 x.2.2.2.1 x.2.2.2.2
def HX[aA] N a0 a1 a2 a3 a4 (k0:aB->Int->aB->(List Int)->O):=HZ N N (a0,a1,a2,a3,a4) (λy=>k0 y.1 y.2.1 y.2.2.1 y.2.2.2) (λ_=>none) (λ_=>none)
def OG[aA] N a0 a1 a2 a3 a4 (k0:aB->Int->aB->(List Int)->O):=aY Dq OF (HZ N N) (Dq (a0,a1,a2,a3,a4)) (λy=>k0 y.1 y.2.1 y.2.2.1 y.2.2.2) (λ_=>none) (λ_=>none)
theorem Va[aA] N:OG N=HX N:=funext λ_=>funext λ_=>funext λ_=>funext λ_=>funext λ_=>funext λ_=>cW aXf _ _ _ _
theorem aXi[aA](N:Nat)(K:Exit->Sg->O)(x:aB×Int×UInt8×aB×(List Int)):OM N (λy0 y1 y2 y3=>K (OL (y0,y1,y2,y3)).1 (OL (y0,y1,y2,y3)).2) x.1 x.2.1 x.2.2.1 x.2.2.2.1 x.2.2.2.2=exec (j0 N) Tryz.f37.ntmps .d Ve (Dq x) (hY aX8 K):=by kernel_rfl
theorem aXw N (hc:aF (j0 N)):cN (j0 N) Tryz.f37.ntmps Ve OL (aW 1) (aW 2) (aY Dq OF (HZ N N)):=
  iV hc (cO Ve) (eZ aXb .normal (λ_=>by kernel_rfl) (λ_=>rfl) (by kernel_rfl)) (λx K=>by
    exact aXi N K x)
def Vg[aA](N:Nat)(in0:aB->Int->UInt8->aB->(List Int)->(aB->Int->aB->(List Int)->O)->O)(k0:aB->Int->aB->(List Int)->O)(x192_0:aB)(x192_1:Int)(x192_2:aB)(x192_3:(List Int)):O:=
  gx x192_0 x192_1 λy229=>
  in0 x192_0 x192_1 y229 x192_2 x192_3
    (λz243 z244 z245 z246=>
      ck (L4 N z243 z244)<|
      br (L3 N z243 z244)
        (ck (cF (z246++[(↑z245.length:Int)]).length (8:Nat))<|
        k0 z243 z244 z245 (z246++[(↑z245.length:Int)]))
        (k0 z243 z244 z245 z246))
def Vd:Code:=cK [1,1,1,0,1,0,0,1,0] H0
def aXk:Nm:=⟨[0,2,4,5,6],[],[]⟩
def Dp(x:aB×Int×aB×(List Int)):Sg:=⟨[(0,.e .tx x.1),(2,.cC),(4,.own 0),(5,.own 1),(6,.e (.i .i64) x.2.1)],[(0,.row 5 .u8 x.2.2.1 true),(1,.row 3 (.i .i64) x.2.2.2 true)],100⟩
def OE(σ:Sg):aB×Int×aB×(List Int):=(aO .tx 0 0 σ,aO (.i .i64) 6 0 σ,dA .u8 0 σ,dA (.i .i64) 1 σ)
theorem aXe:∀x,OE (Dp x)=x:=λ_=>by kernel_rfl
def OK(y:aB×Int×aB×(List Int)):Exit×Sg:=(.normal,⟨[(0,.e .tx y.1),(2,.cC),(4,.own 0),(5,.own 1),(6,.e (.i .i64) y.2.1)],[(0,.row 5 .u8 y.2.2.1 true),(1,.row 3 (.i .i64) y.2.2.2 true)],100⟩)
def aXa(_:Exit)(σ:Sg):aB×Int×aB×(List Int):=(aO .tx 0 0 σ,aO (.i .i64) 6 0 σ,dA .u8 0 σ,dA (.i .i64) 1 σ)
def aX7:List (Exit×Nm):=[(.normal,⟨[0,2,4,5,6],[],[]⟩)]
def HY[aA](N:Nat)(_:Nat)(x:aB×Int×aB×(List Int))(k0:(aB×Int×aB×(List Int))->O)(_:(Unit)->O)(_:(Unit)->O):O:=Vg N (HX N) (λy0 y1 y2 y3=>k0 (y0,y1,y2,y3)) x.1 x.2.1 x.2.2.1 x.2.2.2
def OI[aA] N a0 a1 a2 a3 (k0:aB->Int->aB->(List Int)->O):=HY N N (a0,a1,a2,a3) (λy=>k0 y.1 y.2.1 y.2.2.1 y.2.2.2) (λ_=>none) (λ_=>none)
def V8[aA] N a0 a1 a2 a3 (k0:aB->Int->aB->(List Int)->O):=aY Dp OE (HY N N) (Dp (a0,a1,a2,a3)) (λy=>k0 y.1 y.2.1 y.2.2.1 y.2.2.2) (λ_=>none) (λ_=>none)
theorem aG1[aA] N:V8 N=OI N:=funext λ_=>funext λ_=>funext λ_=>funext λ_=>funext λ_=>cW aXe _ _ _ _
def aGZ[aA](N:Nat):Hint:=(.block (.seq .d (.seq (.sub aXl _ _ _ OL (aW 1) (aW 2) (aY Dq OF (HZ N N))) .d)))
theorem aXn N (hc:aF (j0 N)):bJ (j0 N) Tryz.f37.ntmps (aGZ N) Vd:=bO _ _ (aG trivial (aG (aXw N hc) trivial))
theorem aXh[aA](N:Nat)(K:Exit->Sg->O)(x:aB×Int×aB×(List Int)):Vg N (OG N) (λy0 y1 y2 y3=>K (OK (y0,y1,y2,y3)).1 (OK (y0,y1,y2,y3)).2) x.1 x.2.1 x.2.2.1 x.2.2.2=exec (j0 N) Tryz.f37.ntmps (aGZ N) Vd (Dp x) (hY aX7 K):=by kernel_rfl
theorem aXv N (hc:aF (j0 N)):cN (j0 N) Tryz.f37.ntmps Vd OK (aW 1) (aW 2) (aY Dp OE (HY N N)):=
  iV hc (aXn N hc) (eZ aXa .normal (λ_=>by kernel_rfl) (λ_=>rfl) (by kernel_rfl)) (λx K=>by
    have q:=aXh N K x;rw[Va N]at q;exact q)
def Dr[aA](_:Nat)(_in0:aB->Int->UInt8->aB->(List Int)->(aB->Int->aB->(List Int)->O)->O)(in1:aB->Int->aB->(List Int)->(aB->Int->aB->(List Int)->O)->O)(self:aB->Int->aB->(List Int)->O)(k0:aB->(List Int)->O)(x0_0:aB)(x0_1:Int)(x0_2:aB)(x0_3:(List Int)):O:=
  br (decide (x0_1<(↑x0_0.length:Int)))
    (in1 x0_0 x0_1 x0_2 x0_3
      (λz247 z248 z249 z250=>
        self z247 (aC.wrap (z248+1)) z249 z250))
    (k0 x0_2 x0_3)
def Vc:Code:=cK [1,1,1,0,1,0,0] H0
def aGX:Nm:=⟨[0,2,4,5,6],[],[.qP 4 (.row 5 .u8 [] true),.qP 5 (.row 3 (.i .i64) [] true)]⟩
def Ay(x:aB×Int×aB×(List Int)):Sg:=⟨[(0,.e .tx x.1),(2,.cC),(4,.own 0),(5,.own 1),(6,.e (.i .i64) x.2.1)],[(0,.row 5 .u8 x.2.2.1 true),(1,.row 3 (.i .i64) x.2.2.2 true)],100⟩
def OD(σ:Sg):aB×Int×aB×(List Int):=(aO .tx 0 0 σ,aO (.i .i64) 6 0 σ,dA .u8 0 σ,dA (.i .i64) 1 σ)
theorem aXd:∀x,OD (Ay x)=x:=λ_=>by kernel_rfl
def OJ(y:aB×(List Int)):Exit×Sg:=((.exit 0),⟨[(4,.own 0),(5,.own 1)],[(0,.row 5 .u8 y.1 true),(1,.row 3 (.i .i64) y.2 true)],100⟩)
def aX9(_:Exit)(σ:Sg):aB×(List Int):=(dA .u8 0 σ,dA (.i .i64) 1 σ)
def aX6:List (Exit×Nm):=[((.exit 0),⟨[4,5],[],[]⟩)]
def Aw[aA](N:Nat):Nat->(aB×Int×aB×(List Int))->((aB×(List Int))->O)->((Unit)->O)->((Unit)->O)->O
  |0,_,_,_,_=>none
  |n+1,x,k0,k1,k2=>Dr N (HX N) (OI N) (λv0 v1 v2 v3=>Aw N n (v0,v1,v2,v3) k0 k1 k2) (λy0 y1=>k0 (y0,y1)) x.1 x.2.1 x.2.2.1 x.2.2.2
def V9[aA] N a0 a1 a2 a3 (k0:aB->(List Int)->O):=Aw N N (a0,a1,a2,a3) (λy=>k0 y.1 y.2) (λ_=>none) (λ_=>none)
def aGV[aA] N a0 a1 a2 a3 (k0:aB->(List Int)->O):=aY Ay OD (Aw N N) (Ay (a0,a1,a2,a3)) (λy=>k0 y.1 y.2) (λ_=>none) (λ_=>none)
theorem aXq[aA] N:aGV N=V9 N:=funext λ_=>funext λ_=>funext λ_=>funext λ_=>funext λ_=>cW aXd _ _ _ _
def aGY[aA](N:Nat):Hint:=(.seq .d (.seq (.sub aXk _ _ _ OK (aW 1) (aW 2) (aY Dp OE (HY N N))) .d))
theorem aXm N (hc:aF (j0 N)):bJ (j0 N) Tryz.f37.ntmps (aGY N) Vc:=bO _ _ (aG trivial (aG (aXv N hc) trivial))
theorem aXg[aA](N:Nat)(self:Sg->O)(K:Exit->Sg->O)(x:aB×Int×aB×(List Int)):Dr N (OG N) (V8 N) (λv0 v1 v2 v3=>self (Ay (v0,v1,v2,v3))) (λy0 y1=>K (OJ (y0,y1)).1 (OJ (y0,y1)).2) x.1 x.2.1 x.2.2.1 x.2.2.2=exec (j0 N) Tryz.f37.ntmps (aGY N) Vc (Ay x) (eN aGX aX6 self K):=by kernel_rfl
theorem aXu N (hc:aF (j0 N)):cN (j0 N) Tryz.f37.ntmps (.loop Vc) OJ (aW 1) (aW 2) (aY Ay OD (Aw N N)):=
  eV hc (aXm N hc) (eZ aX9 (.exit 0) (λ_=>by kernel_rfl) (λ_=>rfl) (by kernel_rfl)) (n:=N) (λx K=>eW (Aw N) (λ_ _ _ _=>rfl) (λn K ih x=>by
    refine fK ?_ (aXg N _ K x);simp only[Va N,aG1 N,<-ih];rfl) N x K)
def Vf[aA](_:Nat)(_in0:aB->Int->UInt8->aB->(List Int)->(aB->Int->aB->(List Int)->O)->O)(_in1:aB->Int->aB->(List Int)->(aB->Int->aB->(List Int)->O)->O)(in2:aB->Int->aB->(List Int)->(aB->(List Int)->O)->O)(s0:aB):O:=
  in2 s0 0 [] []
    (λz251 z252=>
      ck (cF (z251++[(63:UInt8)]).length (1:Nat))<|
      some (OH (z251++[(63:UInt8)]) z252))
def w37[aA] N s0:=Vf N (HX N) (OI N) (V9 N) s0
def aG0[aA](N:Nat):Hint:=(.seq .d (.seq .d (.seq .d (.seq (.seq .d (.block (.sub aGX _ _ _ OJ (aW 1) (aW 2) (aY Ay OD (Aw N N))))) .d))))
theorem aXo N (hc:aF (j0 N)):bJ (j0 N) Tryz.f37.ntmps (aG0 N) H0:=bO _ _ (aG trivial (aG trivial (aG trivial (aG (aG trivial (aXu N hc)) trivial))))
theorem aXj[aA] N s0:Vf N (OG N) (V8 N) (aGV N) s0=exec (j0 N) Tryz.f37.ntmps (aG0 N) H0 ⟨bU 0 [.e .tx s0],[],100⟩ (bX (j0 N) Tryz.f37 true):=by kernel_rfl
def OC(r:aE):Option (aB×(List Int)):=match r with
  |(.bD [.own 100,.own 101],[(100,x0),(101,x1)])=>(match ur 5 .u8 true x0,ur 3 (.i .i64) true x1 with|some a0,some a1=>some (a0,a1)|_,_=>none)
  |_=>none
theorem aXc{r d}(h:OC r=some d):r=OH d.1 d.2:=by
  unfold OC at h;split at h
  . split at h
    . rename_i h0 h1;cases h;rw[jF h0,jF h1];rfl
    . cases h
  . cases h
def xE N s0:=(w37 N s0).bind OC
theorem aXp{N}(hc:aF (j0 N)){s0 d}(hd:xE N s0=some d):cB Tryz.prog 37 [.e .tx s0] [] (OH d.1 d.2):=
  cD hc (by kernel_rfl) (by kernel_rfl) (aXo N hc) (by kernel_rfl) aXc (λhr=>(aXj N s0).symm.trans (by rw[Va N,aG1 N,aXq N];exact hr)) hd
def Av N s0:=(xE N s0).isSome
def OB N s0:=((xE N s0).getD ([],[])).1
def OA N s0:=((xE N s0).getD ([],[])).2
def Vb(N:Nat):bK:=E1 .tx (λx0=>(Av N x0,OH (OB N x0) (OA N x0)))
theorem aGW N:aM Tryz.prog 37 (Vb N):=aM.e1 (λx0 h=>cY (z:=xE N x0) h (aXp (aXr N)) rfl)
def IS(a0:aB)(a1:Int):aE:=(.bD [.e (.sl .u8) a0,.e (.i .i64) a1],[])
def IU(N:Nat):Cx:=⟨Tryz.prog,25,[(36,H5 N),(38,V7 N),(37,Vb N)],[]⟩
def aI9:Code:=Tryz.f11.body.getD .skip
theorem a1m N:aF (IU N):=bY (by kernel_rfl) (.cons (by kernel_rfl) (ON N) (.cons (by kernel_rfl) (aGP N) (.cons (by kernel_rfl) (aGW N) .nil))) .nil
def XK[aA](N:Nat)(e0_0 e0_1:Int)(e0_2:(List Ex)):O:=
  let b0:=Ex.mk (Ex.mk e0_0 e0_1 e0_2).op (Ex.mk e0_0 e0_1 e0_2).num (Ex.mk e0_0 e0_1 e0_2).kids
  ck (xF N b0.op b0.num b0.kids)<|
  br (decide (rX N b0.op b0.num b0.kids≠(0:Int)))
    (some (IS [] (rX N b0.op b0.num b0.kids)))
    (ck (HV N b0.op b0.num b0.kids)<|
    ck (Av N (Au N b0.op b0.num b0.kids))<|
    some (IS (OB N (Au N b0.op b0.num b0.kids)) 0))
def w11[aA] N e0_0 e0_1 e0_2:=XK N e0_0 e0_1 e0_2
def aI8[aA](_:Nat):Hint:=.d
theorem a1k N:bJ (IU N) Tryz.f11.ntmps (aI8 N) aI9:=bO _ _ trivial
theorem a1j[aA] N e0_0 e0_1 e0_2:XK N e0_0 e0_1 e0_2=exec (IU N) Tryz.f11.ntmps (aI8 N) aI9 ⟨bU 0 [.agg [.e (.i .i64) e0_0,.e (.i .i64) e0_1,.e (.sl .ex) e0_2]],[],100⟩ (bX (IU N) Tryz.f11 false):=by kernel_rfl
def XG(r:aE):Option (aB×Int):=match r with
  |(.bD [x0,x1],[])=>(match ue (.sl .u8) x0,ue (.i .i64) x1 with|some a0,some a1=>some (a0,a1)|_,_=>none)
  |_=>none
theorem a1i{r d}(h:XG r=some d):r=IS d.1 d.2:=by
  unfold XG at h;split at h
  . split at h
    . rename_i h0 h1;cases h;rw[aH h0,aH h1];rfl
    . cases h
  . cases h
def E5 N e0_0 e0_1 e0_2:=(w11 N e0_0 e0_1 e0_2).bind XG
theorem a1l{N}(hc:aF (IU N)){e0_0 e0_1 e0_2 d}(hd:E5 N e0_0 e0_1 e0_2=some d):cB Tryz.prog 11 [.agg [.e (.i .i64) e0_0,.e (.i .i64) e0_1,.e (.sl .ex) e0_2]] [] (IS d.1 d.2):=
  cD hc (by kernel_rfl) (by kernel_rfl) (a1k N) (by kernel_rfl) a1i (a1j N e0_0 e0_1 e0_2).symm.trans hd
def IT N e0_0 e0_1 e0_2:=(E5 N e0_0 e0_1 e0_2).isSome
def BZ N e0_0 e0_1 e0_2:=((E5 N e0_0 e0_1 e0_2).getD ([],0)).1
def E6 N e0_0 e0_1 e0_2:=((E5 N e0_0 e0_1 e0_2).getD ([],0)).2
def XI(N:Nat):bK:=E1 .ex (λx0=>(IT N (Ex.op x0) (Ex.num x0) (Ex.kids x0),IS (BZ N (Ex.op x0) (Ex.num x0) (Ex.kids x0)) (E6 N (Ex.op x0) (Ex.num x0) (Ex.kids x0))))
theorem aI7 N:aM Tryz.prog 11 (XI N):=aM.e1 (λ_ h=>cY h (a1l (a1m N)) rfl)
def Pa(a0:Int)(a1:(List Int)):aE:=(.bD [.own 100,.e (.i .i64) a0],[(100,.row 3 (.i .i64) a1 true)])
def a15(a0:Int):aE:=(.bD [.cC,.e (.i .i64) a0],[])
def IP(N:Nat):Cx:=⟨Tryz.prog,25,[(36,H5 N),(38,V7 N),(37,Vb N)],[]⟩
def aI1:Code:=Tryz.f13.body.getD .skip
theorem a1a N:aF (IP N):=bY (by kernel_rfl) (.cons (by kernel_rfl) (ON N) (.cons (by kernel_rfl) (aGP N) (.cons (by kernel_rfl) (aGW N) .nil))) .nil
def XC[aA](N:Nat)(e0_0 e0_1:Int)(e0_2:(List Ex)):O:=
  let b0:=Ex.mk (Ex.mk e0_0 e0_1 e0_2).op (Ex.mk e0_0 e0_1 e0_2).num (Ex.mk e0_0 e0_1 e0_2).kids
  ck (xF N b0.op b0.num b0.kids)<|
  br (decide (rX N b0.op b0.num b0.kids≠(0:Int)))
    (some (a15 (rX N b0.op b0.num b0.kids)))
    (ck (HV N b0.op b0.num b0.kids)<|
    ck (Av N (Au N b0.op b0.num b0.kids))<|
    some (Pa 0 (OA N (Au N b0.op b0.num b0.kids))))
def w13[aA] N e0_0 e0_1 e0_2:=XC N e0_0 e0_1 e0_2
def aIZ[aA](_:Nat):Hint:=.d
theorem a18 N:bJ (IP N) Tryz.f13.ntmps (aIZ N) aI1:=bO _ _ trivial
theorem a16[aA] N e0_0 e0_1 e0_2:XC N e0_0 e0_1 e0_2=exec (IP N) Tryz.f13.ntmps (aIZ N) aI1 ⟨bU 0 [.agg [.e (.i .i64) e0_0,.e (.i .i64) e0_1,.e (.sl .ex) e0_2]],[],100⟩ (bX (IP N) Tryz.f13 true):=by kernel_rfl
def XB(r:aE):Option (Int×(List Int)):=match r with
  |(.bD [.own 100,x0],[(100,x1)])=>(match ue (.i .i64) x0,ur 3 (.i .i64) true x1 with|some a0,some a1=>some (a0,a1)|_,_=>none)
  |_=>none
theorem a14{r d}(h:XB r=some d):r=Pa d.1 d.2:=by
  unfold XB at h;split at h
  . split at h
    . rename_i h0 h1;cases h;rw[aH h0,jF h1];rfl
    . cases h
  . cases h
def EY N e0_0 e0_1 e0_2:=(w13 N e0_0 e0_1 e0_2).bind XB
theorem a19{N}(hc:aF (IP N)){e0_0 e0_1 e0_2 d}(hd:EY N e0_0 e0_1 e0_2=some d):cB Tryz.prog 13 [.agg [.e (.i .i64) e0_0,.e (.i .i64) e0_1,.e (.sl .ex) e0_2]] [] (Pa d.1 d.2):=
  cD hc (by kernel_rfl) (by kernel_rfl) (a18 N) (by kernel_rfl) a14 (a16 N e0_0 e0_1 e0_2).symm.trans hd
def Pb N e0_0 e0_1 e0_2:=(EY N e0_0 e0_1 e0_2).isSome
def a13 N e0_0 e0_1 e0_2:=((EY N e0_0 e0_1 e0_2).getD (0,[])).1
def P9 N e0_0 e0_1 e0_2:=((EY N e0_0 e0_1 e0_2).getD (0,[])).2
def aI0(N:Nat):bK:=E1 .ex (λx0=>(Pb N (Ex.op x0) (Ex.num x0) (Ex.kids x0),Pa (a13 N (Ex.op x0) (Ex.num x0) (Ex.kids x0)) (P9 N (Ex.op x0) (Ex.num x0) (Ex.kids x0))))
theorem a17 N:aM Tryz.prog 13 (aI0 N):=aM.e1 (λ_ h=>cY h (a19 (a1a N)) rfl)
def HO(a0:Int):aE:=(.e (.i .i64) a0,[])
def tY(_:Nat):Cx:=⟨Tryz.prog,25,[],[]⟩
def VQ:Code:=Tryz.f44.body.getD .skip
theorem aWk N:aF (tY N):=bY (by kernel_rfl) .nil .nil
def Dh[aA](_:Nat)(self:Int->O)(k0:Int->O)(k1:Unit->O)(x0_0:aB)(x0_1:UInt8)(x0_2:Int):O:=
  br (decide (x0_2<(↑x0_0.length:Int)))
    (gx x0_0 x0_2 λy3=>
    br (decide (y3=x0_1))
      (k0 x0_2)
      (self (aC.wrap (x0_2+1))))
    (k1 ())
def VP:Code:=cK [1,0,1,0,0] VQ
def aFm:Nm:=⟨[0,1,5],[],[]⟩
def Ap(x:aB×UInt8×Int):Sg:=⟨[(0,.e (.sl .u8) x.1),(1,.e .u8 x.2.1),(5,.e (.i .i64) x.2.2)],[],100⟩
def Nd(σ:Sg):aB×UInt8×Int:=(aO (.sl .u8) 0 0 σ,aO .u8 1 0 σ,aO (.i .i64) 5 0 σ)
theorem aWe:∀x,Nd (Ap x)=x:=λ_=>by kernel_rfl
def Ng(y:Int):Exit×Sg:=(.ret,⟨[(4,.e (.i .i64) y)],[],100⟩)
def aWc(_:Exit)(σ:Sg):Int:=aO (.i .i64) 4 0 σ
def Nf(_:Unit):Exit×Sg:=((.exit 0),⟨[],[],100⟩)
def aWb(_:Exit)(_:Sg):Unit:=()
def aWa:List (Exit×Nm):=[(.ret,⟨[4],[],[]⟩),((.exit 0),⟨[],[],[]⟩)]
def Ao[aA](N:Nat):Nat->(aB×UInt8×Int)->((Int)->O)->((Unit)->O)->((Unit)->O)->O
  |0,_,_,_,_=>none
  |n+1,x,k0,k1,k2=>Dh N (λv0=>Ao N n (x.1,x.2.1,v0) k0 k1 k2) (λy0=>k0 y0) (λ(_:Unit)=>k1 ()) x.1 x.2.1 x.2.2
def VN[aA] N a0 a1 a2 (k0:Int->O) (k1:Unit->O):=Ao N N (a0,a1,a2) (λy=>k0 y) (λy=>k1 y) (λ_=>none)
def aFk[aA] N a0 a1 a2 (k0:Int->O) (k1:Unit->O):=aY Ap Nd (Ao N N) (Ap (a0,a1,a2)) (λy=>k0 y) (λy=>k1 y) (λ_=>none)
theorem aWj[aA] N:aFk N=VN N:=funext λ_=>funext λ_=>funext λ_=>funext λ_=>funext λ_=>cW aWe _ _ _ _
theorem aWf[aA](N:Nat)(self:Sg->O)(K:Exit->Sg->O)(x:aB×UInt8×Int):Dh N (λv0=>self (Ap (x.1,x.2.1,v0))) (λy0=>K (Ng y0).1 (Ng y0).2) (λ(_:Unit)=>K (Nf ()).1 (Nf ()).2) x.1 x.2.1 x.2.2=exec (tY N) Tryz.f44.ntmps .d VP (Ap x) (eN aFm aWa self K):=by kernel_rfl
theorem aWl N (hc:aF (tY N)):cN (tY N) Tryz.f44.ntmps (.loop VP) Ng Nf (aW 2) (aY Ap Nd (Ao N N)):=
  eV hc (cO VP) (iS aWc aWb .ret (.exit 0) (λ_=>by kernel_rfl) (λ_=>by kernel_rfl) (λ_=>rfl) (λ_=>rfl) (by kernel_rfl)) (n:=N) (λx K=>eW (Ao N) (λ_ _ _ _=>rfl) (λn K ih x=>by
    refine fK ?_ (aWf N _ K x);simp only[<-ih];rfl) N x K)
def VT[aA](_:Nat)(in0:aB->UInt8->Int->(Int->O)->(Unit->O)->O)(l0:aB)(c1:UInt8):O:=
  in0 l0 c1 0
    (λz4=>
      some (HO z4))
    (λ(_:Unit)=>
      some (HO ((-1:Int))))
def w44[aA] N l0 c1:=VT N (VN N) l0 c1
def aFn[aA](N:Nat):Hint:=(.seq .d (.seq (.seq .d (.block (.sub aFm _ _ _ Ng Nf (aW 2) (aY Ap Nd (Ao N N))))) .d))
theorem aWh N (hc:aF (tY N)):bJ (tY N) Tryz.f44.ntmps (aFn N) VQ:=bO _ _ (aG trivial (aG (aG trivial (aWl N hc)) trivial))
theorem aWg[aA] N l0 c1:VT N (aFk N) l0 c1=exec (tY N) Tryz.f44.ntmps (aFn N) VQ ⟨bU 0 [.e (.sl .u8) l0,.e .u8 c1],[],100⟩ (bX (tY N) Tryz.f44 false):=by kernel_rfl
def Nc(r:aE):Option (Int):=match r with
  |(x0,[])=>(match ue (.i .i64) x0 with|some a0=>some a0|_=>none)
  |_=>none
theorem aWd{r d}(h:Nc r=some d):r=HO (d):=by
  unfold Nc at h;split at h
  . split at h
    . rename_i h0;cases h;rw[aH h0];rfl
    . cases h
  . cases h
def Dg N l0 c1:=(w44 N l0 c1).bind Nc
theorem aWi{N}(hc:aF (tY N)){l0 c1 d}(hd:Dg N l0 c1=some d):cB Tryz.prog 44 [.e (.sl .u8) l0,.e .u8 c1] [] (HO (d)):=
  cD hc (by kernel_rfl) (by kernel_rfl) (aWh N hc) (by kernel_rfl) aWd (λhr=>(aWg N l0 c1).symm.trans (by rw[aWj N];exact hr)) hd
def rV N l0 c1:=(Dg N l0 c1).isSome
def lN N l0 c1:=((Dg N l0 c1).getD 0)
def VO(N:Nat):bK:=E2 (.sl .u8) .u8 (λx0 x1=>(rV N x0 x1,HO (lN N x0 x1)))
theorem aFl N:aM Tryz.prog 44 (VO N):=aM.e2 (λx0 x1 h=>cY (z:=Dg N x0 x1) h (aWi (aWk N)) rfl)
def NT(a0:aB):aE:=(.e .tx a0,[])
def k6(N:Nat):Cx:=⟨Tryz.prog,25,[(66,Ts N),(44,VO N),(68,To N),(69,Tj N)],[]⟩
def HK:Code:=Tryz.f46.body.getD .skip
theorem aWD N:aF (k6 N):=bY (by kernel_rfl) (.cons (by kernel_rfl) (aDn N) (.cons (by kernel_rfl) (aFl N) (.cons (by kernel_rfl) (aDb N) (.cons (by kernel_rfl) (aD4 N) .nil)))) .nil
def Db[aA](N:Nat)(self:aB->Int->O)(k0:aB->aB->Int->O)(x50_0 x50_1:aB)(x50_2:Int):O:=
  let b0:=aC.wrap (x50_2+1)<(↑x50_0.length:Int)
  let b1:=aC.wrap (x50_2+1)
  ck (!decide b0||AZ N)<|
  gc (decide b0) 0 x50_0 b1 λy55=>
  ck (!decide b0||rV N (qE N) y55)<|
  br (decide b0&&decide ((0:Int)<=lN N (qE N) y55))
    (ck (AZ N)<|
    gx x50_0 b1 λy56=>
    ck (rV N (qE N) y56)<|
    ck (decide ((↑x50_1.length:Int)+(↑[eD (aC.wrap ((48:Int)+lN N (qE N) y56))].length:Int)<=(9223372036854775807:Int)))<|
    self (x50_1++[eD (aC.wrap ((48:Int)+lN N (qE N) y56))]) b1)
    (k0 x50_0 x50_1 x50_2)
def VI:Code:=cK [1,1,0,1,0,0,1,0,0,1,0,0,0] HK
def aF7:Nm:=⟨[0,3,4],[],[]⟩
def An(x:aB×aB×Int):Sg:=⟨[(0,.e (.sl .u8) x.1),(3,.e .tx x.2.1),(4,.e (.i .i64) x.2.2)],[],100⟩
def NS(σ:Sg):aB×aB×Int:=(aO (.sl .u8) 0 0 σ,aO .tx 3 0 σ,aO (.i .i64) 4 0 σ)
theorem aVt:∀x,NS (An x)=x:=λ_=>by kernel_rfl
def NZ(y:aB×aB×Int):Exit×Sg:=((.exit 2),⟨[(0,.e (.sl .u8) y.1),(3,.e .tx y.2.1),(4,.e (.i .i64) y.2.2)],[],100⟩)
def aVp(_:Exit)(σ:Sg):aB×aB×Int:=(aO (.sl .u8) 0 0 σ,aO .tx 3 0 σ,aO (.i .i64) 4 0 σ)
def aVm:List (Exit×Nm):=[((.exit 2),⟨[0,3,4],[],[]⟩)]
def rU[aA](N:Nat):Nat->(aB×aB×Int)->((aB×aB×Int)->O)->((Unit)->O)->((Unit)->O)->O
  |0,_,_,_,_=>none
  |n+1,x,k0,k1,k2=>Db N (λv0 v1=>rU N n (x.1,v0,v1) k0 k1 k2) (λy0 y1 y2=>k0 (y0,y1,y2)) x.1 x.2.1 x.2.2
def NV[aA] N a0 a1 a2 (k0:aB->aB->Int->O):=rU N N (a0,a1,a2) (λy=>k0 y.1 y.2.1 y.2.2) (λ_=>none) (λ_=>none)
def VE[aA] N a0 a1 a2 (k0:aB->aB->Int->O):=aY An NS (rU N N) (An (a0,a1,a2)) (λy=>k0 y.1 y.2.1 y.2.2) (λ_=>none) (λ_=>none)
theorem aFb[aA] N:VE N=NV N:=funext λ_=>funext λ_=>funext λ_=>funext λ_=>cW aVt _ _ _ _
theorem aVw[aA](N:Nat)(self:Sg->O)(K:Exit->Sg->O)(x:aB×aB×Int):Db N (λv0 v1=>self (An (x.1,v0,v1))) (λy0 y1 y2=>K (NZ (y0,y1,y2)).1 (NZ (y0,y1,y2)).2) x.1 x.2.1 x.2.2=exec (k6 N) Tryz.f46.ntmps .d VI (An x) (eN aF7 aVm self K):=by kernel_rfl
theorem aWK N (hc:aF (k6 N)):cN (k6 N) Tryz.f46.ntmps (.loop VI) NZ (aW 1) (aW 2) (aY An NS (rU N N)):=
  eV hc (cO VI) (eZ aVp (.exit 2) (λ_=>by kernel_rfl) (λ_=>rfl) (by kernel_rfl)) (n:=N) (λx K=>eW (rU N) (λ_ _ _ _=>rfl) (λn K ih x=>by
    refine fK ?_ (aVw N _ K x);simp only[<-ih];rfl) N x K)
def Da[aA](N:Nat)(self:aB->Int->O)(k0:aB->aB->Int->Int->O)(x62_0:aB)(x62_2 _x62_3:Int)(x62_1:aB)(x62_4:Int):O:=
  br (decide (x62_4<127))
    (ck (AX N (eD x62_4))<|
    gx x62_0 x62_2 λy67=>
    gc (decide (tO N (eD x62_4)=y67)) 0 x62_0 x62_2 λy68=>
    br (decide (tO N (eD x62_4)=y67)&&decide (y68≠0))
      (ck (decide ((↑x62_1.length:Int)+(↑[eD x62_4].length:Int)<=(9223372036854775807:Int)))<|
      self (x62_1++[eD x62_4]) (aC.wrap (x62_4+1)))
      (self x62_1 (aC.wrap (x62_4+1))))
    (k0 x62_0 x62_1 x62_2 x62_4)
def VH:Code:=cK [1,1,0,1,0,0,1,0,0,1,1,1,1,1,0,0] HK
def aF6:Nm:=⟨[0,3,4,8,5],[],[]⟩
def Am(x:aB×aB×Int×Int×Int):Sg:=⟨[(0,.e (.sl .u8) x.1),(3,.e .tx x.2.1),(4,.e (.i .i64) x.2.2.1),(8,.e (.i .i64) x.2.2.2.1),(5,.e (.i .i64) x.2.2.2.2)],[],100⟩
def NR(σ:Sg):aB×aB×Int×Int×Int:=(aO (.sl .u8) 0 0 σ,aO .tx 3 0 σ,aO (.i .i64) 4 0 σ,aO (.i .i64) 8 0 σ,aO (.i .i64) 5 0 σ)
theorem aVs:∀x,NR (Am x)=x:=λ_=>by kernel_rfl
def NY(y:aB×aB×Int×Int):Exit×Sg:=((.exit 4),⟨[(0,.e (.sl .u8) y.1),(3,.e .tx y.2.1),(4,.e (.i .i64) y.2.2.1),(5,.e (.i .i64) y.2.2.2)],[],100⟩)
def aVo(_:Exit)(σ:Sg):aB×aB×Int×Int:=(aO (.sl .u8) 0 0 σ,aO .tx 3 0 σ,aO (.i .i64) 4 0 σ,aO (.i .i64) 5 0 σ)
def aVl:List (Exit×Nm):=[((.exit 4),⟨[0,3,4,5],[],[]⟩)]
def Ak[aA](N:Nat):Nat->(aB×aB×Int×Int×Int)->((aB×aB×Int×Int)->O)->((Unit)->O)->((Unit)->O)->O
  |0,_,_,_,_=>none
  |n+1,x,k0,k1,k2=>Da N (λv0 v1=>Ak N n (x.1,v0,x.2.2.1,x.2.2.2.1,v1) k0 k1 k2) (λy0 y1 y2 y3=>k0 (y0,y1,y2,y3)) x.1 x.2.2.1 x.2.2.2.1 x.2.1 x.2.2.2.2
def HJ[aA] N a0 a1 a2 a3 a4 (k0:aB->aB->Int->Int->O):=Ak N N (a0,a1,a2,a3,a4) (λy=>k0 y.1 y.2.1 y.2.2.1 y.2.2.2) (λ_=>none) (λ_=>none)
def VD[aA] N a0 a1 a2 a3 a4 (k0:aB->aB->Int->Int->O):=aY Am NR (Ak N N) (Am (a0,a1,a2,a3,a4)) (λy=>k0 y.1 y.2.1 y.2.2.1 y.2.2.2) (λ_=>none) (λ_=>none)
theorem aFa[aA] N:VD N=HJ N:=funext λ_=>funext λ_=>funext λ_=>funext λ_=>funext λ_=>funext λ_=>cW aVs _ _ _ _
theorem aVv[aA](N:Nat)(self:Sg->O)(K:Exit->Sg->O)(x:aB×aB×Int×Int×Int):Da N (λv0 v1=>self (Am (x.1,v0,x.2.2.1,x.2.2.2.1,v1))) (λy0 y1 y2 y3=>K (NY (y0,y1,y2,y3)).1 (NY (y0,y1,y2,y3)).2) x.1 x.2.2.1 x.2.2.2.1 x.2.1 x.2.2.2.2=exec (k6 N) Tryz.f46.ntmps .d VH (Am x) (eN aF6 aVl self K):=by kernel_rfl
theorem aWJ N (hc:aF (k6 N)):cN (k6 N) Tryz.f46.ntmps (.loop VH) NY (aW 1) (aW 2) (aY Am NR (Ak N N)):=
  eV hc (cO VH) (eZ aVo (.exit 4) (λ_=>by kernel_rfl) (λ_=>rfl) (by kernel_rfl)) (n:=N) (λx K=>eW (Ak N) (λ_ _ _ _=>rfl) (λn K ih x=>by
    refine fK ?_ (aVv N _ K x);simp only[<-ih];rfl) N x K)
def D9[aA](N:Nat)(in0:aB->aB->Int->(aB->aB->Int->O)->O)(in1:aB->aB->Int->Int->Int->(aB->aB->Int->Int->O)->O)(self:aB->aB->Int->O)(k0:aB->O)(x0_0 x0_1:aB)(x0_2:Int):O:=
  br (decide (x0_2<(↑x0_0.length:Int)))
    (gx x0_0 x0_2 λy49=>
    br (decide (y49=60))
      (in0 x0_0 x0_1 x0_2
        (λz57 z58 z59=>
          self z57 z58 (aC.wrap (z59+1))))
      (gx x0_0 x0_2 λy60=>
      br (decide (y60=48)&&decide (aC.wrap (x0_2+1)<(↑x0_0.length:Int)))
        (ck (Ll N)<|
        gx x0_0 (aC.wrap (x0_2+1)) λy61=>
        ck (rV N (DH N) y61)<|
        ck (decide ((↑x0_1.length:Int)+(↑[eD (aC.wrap ((97:Int)+max (lN N (DH N) y61) (0:Int)))].length:Int)<=(9223372036854775807:Int)))<|
        self x0_0 (x0_1++[eD (aC.wrap ((97:Int)+max (lN N (DH N) y61) (0:Int)))]) (aC.wrap (aC.wrap (x0_2+1)+(1:Int))))
        (in1 x0_0 x0_1 x0_2 ((↑x0_0.length:Int)) 33
          (λz69 z70 z71 _=>
            self z69 z70 (aC.wrap (z71+1))))))
    (k0 x0_1)
def VG:Code:=cK [1,1,0,1,0,0] HK
def aF5:Nm:=⟨[0,3,4],[],[]⟩
def Al(x:aB×aB×Int):Sg:=⟨[(0,.e (.sl .u8) x.1),(3,.e .tx x.2.1),(4,.e (.i .i64) x.2.2)],[],100⟩
def NQ(σ:Sg):aB×aB×Int:=(aO (.sl .u8) 0 0 σ,aO .tx 3 0 σ,aO (.i .i64) 4 0 σ)
theorem aVr:∀x,NQ (Al x)=x:=λ_=>by kernel_rfl
def NX(y:aB):Exit×Sg:=((.exit 0),⟨[(3,.e .tx y)],[],100⟩)
def aVn(_:Exit)(σ:Sg):aB:=aO .tx 3 0 σ
def aVk:List (Exit×Nm):=[((.exit 0),⟨[3],[],[]⟩)]
def wZ[aA](N:Nat):Nat->(aB×aB×Int)->((aB)->O)->((Unit)->O)->((Unit)->O)->O
  |0,_,_,_,_=>none
  |n+1,x,k0,k1,k2=>D9 N (NV N) (HJ N) (λv0 v1 v2=>wZ N n (v0,v1,v2) k0 k1 k2) (λy0=>k0 y0) x.1 x.2.1 x.2.2
def VF[aA] N a0 a1 a2 (k0:aB->O):=wZ N N (a0,a1,a2) (λy=>k0 y) (λ_=>none) (λ_=>none)
def aF4[aA] N a0 a1 a2 (k0:aB->O):=aY Al NQ (wZ N N) (Al (a0,a1,a2)) (λy=>k0 y) (λ_=>none) (λ_=>none)
theorem aWC[aA] N:aF4 N=VF N:=funext λ_=>funext λ_=>funext λ_=>funext λ_=>cW aVr _ _ _ _
def aF8[aA](N:Nat):Hint:=(.seq .d (.seq (.block (.seq .d (.cond (.block (.sub aF7 _ _ _ NZ (aW 1) (aW 2) (aY An NS (rU N N)))) (.seq .d (.cond .d (.seq .d (.block (.sub aF6 _ _ _ NY (aW 1) (aW 2) (aY Am NR (Ak N N)))))))))) .d))
theorem aVz N (hc:aF (k6 N)):bJ (k6 N) Tryz.f46.ntmps (aF8 N) VG:=bO _ _ (aG trivial (aG (aG trivial (aG (aWK N hc) (aG trivial (aG trivial (aG trivial (aWJ N hc)))))) trivial))
theorem aVu[aA](N:Nat)(self:Sg->O)(K:Exit->Sg->O)(x:aB×aB×Int):D9 N (VE N) (VD N) (λv0 v1 v2=>self (Al (v0,v1,v2))) (λy0=>K (NX y0).1 (NX y0).2) x.1 x.2.1 x.2.2=exec (k6 N) Tryz.f46.ntmps (aF8 N) VG (Al x) (eN aF5 aVk self K):=by kernel_rfl
theorem aWI N (hc:aF (k6 N)):cN (k6 N) Tryz.f46.ntmps (.loop VG) NX (aW 1) (aW 2) (aY Al NQ (wZ N N)):=
  eV hc (aVz N hc) (eZ aVn (.exit 0) (λ_=>by kernel_rfl) (λ_=>rfl) (by kernel_rfl)) (n:=N) (λx K=>eW (wZ N) (λ_ _ _ _=>rfl) (λn K ih x=>by
    refine fK ?_ (aVu N _ K x);simp only[aFb N,aFa N,<-ih];rfl) N x K)
def VJ[aA](_:Nat)(_in0:aB->aB->Int->(aB->aB->Int->O)->O)(_in1:aB->aB->Int->Int->Int->(aB->aB->Int->Int->O)->O)(in2:aB->aB->Int->(aB->O)->O)(l0:aB):O:=
  in2 l0 [] 0
    (λz73=>
      some (NT z73))
def w46[aA] N l0:=VJ N (NV N) (HJ N) (VF N) l0
def aF9[aA](N:Nat):Hint:=(.seq .d (.seq .d (.seq (.seq .d (.block (.sub aF5 _ _ _ NX (aW 1) (aW 2) (aY Al NQ (wZ N N))))) .d)))
theorem aWA N (hc:aF (k6 N)):bJ (k6 N) Tryz.f46.ntmps (aF9 N) HK:=bO _ _ (aG trivial (aG trivial (aG (aG trivial (aWI N hc)) trivial)))
theorem aVx[aA] N l0:VJ N (VE N) (VD N) (aF4 N) l0=exec (k6 N) Tryz.f46.ntmps (aF9 N) HK ⟨bU 0 [.e (.sl .u8) l0],[],100⟩ (bX (k6 N) Tryz.f46 false):=by kernel_rfl
def NP(r:aE):Option (aB):=match r with
  |(x0,[])=>(match ue .tx x0 with|some a0=>some a0|_=>none)
  |_=>none
theorem aVq{r d}(h:NP r=some d):r=NT (d):=by
  unfold NP at h;split at h
  . split at h
    . rename_i h0;cases h;rw[aH h0];rfl
    . cases h
  . cases h
def D8 N l0:=(w46 N l0).bind NP
theorem aWB{N}(hc:aF (k6 N)){l0 d}(hd:D8 N l0=some d):cB Tryz.prog 46 [.e (.sl .u8) l0] [] (NT (d)):=
  cD hc (by kernel_rfl) (by kernel_rfl) (aWA N hc) (by kernel_rfl) aVq (λhr=>(aVx N l0).symm.trans (by rw[aFb N,aFa N,aWC N];exact hr)) hd
def NU N l0:=(D8 N l0).isSome
def NO N l0:=((D8 N l0).getD [])
def aFc(N:Nat):bK:=E1 (.sl .u8) (λx0=>(NU N x0,NT (NO N x0)))
theorem aVy N:aM Tryz.prog 46 (aFc N):=aM.e1 (λx0 h=>cY (z:=D8 N x0) h (aWB (aWD N)) rfl)
def EO(a0 a1:Int)(a2:(List Ex))(a3 a4:Int):aE:=(.bD [.agg [.e (.i .i64) a0,.e (.i .i64) a1,.e (.sl .ex) a2],.e (.i .i64) a3,.e (.i .i64) a4],[])
def Hw(N:Nat):Cx:=⟨Tryz.prog,25,[(44,VO N),(46,aFc N),(45,aFj N),(11,XI N),(14,P6 N)],[]⟩
def aHp:Code:=Tryz.f21.body.getD .skip
theorem a04 N:aF (Hw N):=bY (by kernel_rfl) (.cons (by kernel_rfl) (aFl N) (.cons (by kernel_rfl) (aVy N) (.cons (by kernel_rfl) (aWW N) (.cons (by kernel_rfl) (aI7 N) (.cons (by kernel_rfl) (Wv N) .nil))))) .nil
def PU[aA](N:Nat)(l0:aB):O:=
  let b2:=aC.wrap (lN N l0 (63:UInt8)+(1:Int))
  let b3:=some (lN N l0 (63:UInt8))
  let b5:=some (EO 0 0 [] 0 2)
  let b6:=NO N (c8 l0 none b3)
  let b0:=Ex.mk (N3 N b6) (N2 N b6) (N1 N b6)
  let b1:=Ex.mk b0.op b0.num b0.kids
  let b4:=E6 N b1.op b1.num b1.kids≠(0:Int)
  ck (rV N l0 (63:UInt8))<|
  br (decide (lN N l0 (63:UInt8)<(0:Int)))
    (some (EO 0 0 [] 0 3))
    (ck (dX l0.length none b3)<|
    ck (NU N (c8 l0 none b3))<|
    ck (N6 N b6)<|
    br (decide (N0 N b6≠(0:Int)))
      b5
      (ck (IT N b1.op b1.num b1.kids)<|
      ck (!!decide b4||dX l0.length none (some b2))<|
      ck (!!decide b4||IM N (BZ N b1.op b1.num b1.kids) (c8 l0 none (some b2)))<|
      br (decide b4||!IL N (BZ N b1.op b1.num b1.kids) (c8 l0 none (some b2)))
        b5
        (some (EO (b0.op) (b0.num) (b0.kids) b2 0))))
def We[aA] N l0:=PU N l0
def aHn[aA](_:Nat):Hint:=.d
theorem a02 N:bJ (Hw N) Tryz.f21.ntmps (aHn N) aHp:=bO _ _ trivial
theorem a00[aA] N l0:PU N l0=exec (Hw N) Tryz.f21.ntmps (aHn N) aHp ⟨bU 0 [.e (.sl .u8) l0],[],100⟩ (bX (Hw N) Tryz.f21 false):=by kernel_rfl
def Wd(r:aE):Option (Int×Int×(List Ex)×Int×Int):=match r with
  |(.bD [.agg [x0,x1,x2],x3,x4],[])=>(match ue (.i .i64) x0,ue (.i .i64) x1,ue (.sl .ex) x2,ue (.i .i64) x3,ue (.i .i64) x4 with|some a0,some a1,some a2,some a3,some a4=>some (a0,a1,a2,a3,a4)|_,_,_,_,_=>none)
  |_=>none
theorem a0Z{r d}(h:Wd r=some d):r=EO d.1 d.2.1 d.2.2.1 d.2.2.2.1 d.2.2.2.2:=by
  unfold Wd at h;split at h
  . split at h
    . rename_i h0 h1 h2 h3 h4;cases h;rw[aH h0,aH h1,aH h2,aH h3,aH h4];rfl
    . cases h
  . cases h
def qH N l0:=(We N l0).bind Wd
theorem a03{N}(hc:aF (Hw N)){l0 d}(hd:qH N l0=some d):cB Tryz.prog 21 [.e (.sl .u8) l0] [] (EO d.1 d.2.1 d.2.2.1 d.2.2.2.1 d.2.2.2.2):=
  cD hc (by kernel_rfl) (by kernel_rfl) (a02 N) (by kernel_rfl) a0Z (a00 N l0).symm.trans hd
def Hv N l0:=(qH N l0).isSome
def Hu N l0:=((qH N l0).getD (0,0,[],0,0)).1
def Ht N l0:=((qH N l0).getD (0,0,[],0,0)).2.1
def Hs N l0:=((qH N l0).getD (0,0,[],0,0)).2.2.1
def a0Y N l0:=((qH N l0).getD (0,0,[],0,0)).2.2.2.1
def Hr N l0:=((qH N l0).getD (0,0,[],0,0)).2.2.2.2
def aHo(N:Nat):bK:=E1 (.sl .u8) (λx0=>(Hv N x0,EO (Hu N x0) (Ht N x0) (Hs N x0) (a0Y N x0) (Hr N x0)))
theorem a01 N:aM Tryz.prog 21 (aHo N):=aM.e1 (λx0 h=>cY (z:=qH N x0) h (a03 (a04 N)) rfl)
def BL(a0:(List aB))(a1:Int):aE:=(.bD [.e (.sl (.sl .u8)) a0,.e (.i .i64) a1],[])
def k7(N:Nat):Cx:=⟨Tryz.prog,25,[(11,XI N),(13,aI0 N)],[]⟩
def Hn:Code:=Tryz.f25.body.getD .skip
theorem aZl N:aF (k7 N):=bY (by kernel_rfl) (.cons (by kernel_rfl) (aI7 N) (.cons (by kernel_rfl) (a17 N) .nil)) .nil
def WV[aA](_:Nat)(k0:Int->aB->Int->(List Int)->(List aB)->aB->O)(x71_0:Int)(x71_1:aB)(x71_2:Int)(x71_3:(List Int))(x71_4:(List aB)):O:=
  br (decide (0<x71_2))
    (k0 x71_0 x71_1 x71_2 x71_3 x71_4 [(0:UInt8),(0:UInt8)])
    (k0 x71_0 x71_1 x71_2 x71_3 x71_4 [])
def WS:Code:=cK [1,1,1,1,1,1,1,1,0,0,0,1,0,1,0] Hn
def aZg:Nm:=⟨[1,6,8,10,11,12],[],[]⟩
def EF(x:Int×aB×Int×(List Int)×(List aB)):Sg:=⟨[(1,.e (.i .i64) x.1),(6,.e (.sl .u8) x.2.1),(8,.own 0),(10,.own 1),(11,.e (.i .i64) x.2.2.1),(12,.cC)],[(0,.row 3 (.i .i64) x.2.2.2.1 true),(1,.row 28 (.sl .u8) x.2.2.2.2 true)],100⟩
def Oz(σ:Sg):Int×aB×Int×(List Int)×(List aB):=(aO (.i .i64) 1 0 σ,aO (.sl .u8) 6 0 σ,aO (.i .i64) 11 0 σ,dA (.i .i64) 0 σ,dA (.sl .u8) 1 σ)
theorem aZb:∀x,Oz (EF x)=x:=λ_=>by kernel_rfl
def PE(y:Int×aB×Int×(List Int)×(List aB)×aB):Exit×Sg:=(.normal,⟨[(1,.e (.i .i64) y.1),(6,.e (.sl .u8) y.2.1),(8,.own 0),(10,.own 1),(11,.e (.i .i64) y.2.2.1),(12,.own 2)],[(0,.row 3 (.i .i64) y.2.2.2.1 true),(1,.row 28 (.sl .u8) y.2.2.2.2.1 true),(2,.row 5 .u8 y.2.2.2.2.2 true)],100⟩)
def aZ7(_:Exit)(σ:Sg):Int×aB×Int×(List Int)×(List aB)×aB:=(aO (.i .i64) 1 0 σ,aO (.sl .u8) 6 0 σ,aO (.i .i64) 11 0 σ,dA (.i .i64) 0 σ,dA (.sl .u8) 1 σ,dA .u8 2 σ)
def aZ3:List (Exit×Nm):=[(.normal,⟨[1,6,8,10,11,12],[],[.qP 12 (.row 5 .u8 [] true)]⟩)]
def Hm[aA](N:Nat)(_:Nat)(x:Int×aB×Int×(List Int)×(List aB))(k0:(Int×aB×Int×(List Int)×(List aB)×aB)->O)(_:(Unit)->O)(_:(Unit)->O):O:=WV N (λy0 y1 y2 y3 y4 y5=>k0 (y0,y1,y2,y3,y4,y5)) x.1 x.2.1 x.2.2.1 x.2.2.2.1 x.2.2.2.2
def Hl[aA] N a0 a1 a2 a3 a4 (k0:Int->aB->Int->(List Int)->(List aB)->aB->O):=Hm N N (a0,a1,a2,a3,a4) (λy=>k0 y.1 y.2.1 y.2.2.1 y.2.2.2.1 y.2.2.2.2.1 y.2.2.2.2.2) (λ_=>none) (λ_=>none)
def WM[aA] N a0 a1 a2 a3 a4 (k0:Int->aB->Int->(List Int)->(List aB)->aB->O):=aY EF Oz (Hm N N) (EF (a0,a1,a2,a3,a4)) (λy=>k0 y.1 y.2.1 y.2.2.1 y.2.2.2.1 y.2.2.2.2.1 y.2.2.2.2.2) (λ_=>none) (λ_=>none)
theorem aH0[aA] N:WM N=Hl N:=funext λ_=>funext λ_=>funext λ_=>funext λ_=>funext λ_=>funext λ_=>cW aZb _ _ _ _
theorem aZe[aA](N:Nat)(K:Exit->Sg->O)(x:Int×aB×Int×(List Int)×(List aB)):WV N (λy0 y1 y2 y3 y4 y5=>K (PE (y0,y1,y2,y3,y4,y5)).1 (PE (y0,y1,y2,y3,y4,y5)).2) x.1 x.2.1 x.2.2.1 x.2.2.2.1 x.2.2.2.2=exec (k7 N) Tryz.f25.ntmps .d WS (EF x) (hY aZ3 K):=by kernel_rfl
theorem aZp N (hc:aF (k7 N)):cN (k7 N) Tryz.f25.ntmps WS PE (aW 1) (aW 2) (aY EF Oz (Hm N N)):=
  iV hc (cO WS) (eZ aZ7 .normal (λ_=>by kernel_rfl) (λ_=>rfl) (by kernel_rfl)) (λx K=>by
    exact aZe N K x)
def EH[aA](_:Nat)(self:Int->Int->O)(k0:Int->aB->Int->Int->(List Int)->(List aB)->aB->O)(x78_0:Int)(x78_1:aB)(x78_2:Int)(x78_5:(List Int))(x78_6:(List aB))(x78_7:aB)(x78_3 x78_4:Int):O:=
  br (decide (x78_4<(↑x78_5.length:Int)))
    (gx x78_5 x78_4 λy85=>
    gc (decide (x78_2<y85)) 0 x78_5 x78_4 λy86=>
    br (decide (x78_2<y85)&&decide (aC.wrap (aC.wrap ((↑x78_7.length:Int)+y86)-x78_2)<=x78_0))
      (gx x78_5 x78_4 λy87=>
      self y87 (aC.wrap (x78_4+1)))
      (self x78_3 (aC.wrap (x78_4+1))))
    (k0 x78_0 x78_1 x78_2 x78_3 x78_5 x78_6 x78_7)
def WR:Code:=cK [1,1,1,1,1,1,1,1,0,0,0,1,0,1,1,1,0,1,0,0] Hn
def aHW:Nm:=⟨[1,6,8,10,11,12,13,14],[],[]⟩
def BP(x:Int×aB×Int×Int×Int×(List Int)×(List aB)×aB):Sg:=⟨[(1,.e (.i .i64) x.1),(6,.e (.sl .u8) x.2.1),(8,.own 0),(10,.own 1),(11,.e (.i .i64) x.2.2.1),(12,.own 2),(13,.e (.i .i64) x.2.2.2.1),(14,.e (.i .i64) x.2.2.2.2.1)],[(0,.row 3 (.i .i64) x.2.2.2.2.2.1 true),(1,.row 28 (.sl .u8) x.2.2.2.2.2.2.1 true),(2,.row 5 .u8 x.2.2.2.2.2.2.2 true)],100⟩
def Oy(σ:Sg):Int×aB×Int×Int×Int×(List Int)×(List aB)×aB:=(aO (.i .i64) 1 0 σ,aO (.sl .u8) 6 0 σ,aO (.i .i64) 11 0 σ,aO (.i .i64) 13 0 σ,aO (.i .i64) 14 0 σ,dA (.i .i64) 0 σ,dA (.sl .u8) 1 σ,dA .u8 2 σ)
theorem aZa:∀x,Oy (BP x)=x:=λ_=>by kernel_rfl
def PD(y:Int×aB×Int×Int×(List Int)×(List aB)×aB):Exit×Sg:=((.exit 2),⟨[(1,.e (.i .i64) y.1),(6,.e (.sl .u8) y.2.1),(8,.own 0),(10,.own 1),(11,.e (.i .i64) y.2.2.1),(12,.own 2),(13,.e (.i .i64) y.2.2.2.1)],[(0,.row 3 (.i .i64) y.2.2.2.2.1 true),(1,.row 28 (.sl .u8) y.2.2.2.2.2.1 true),(2,.row 5 .u8 y.2.2.2.2.2.2 true)],100⟩)
def aZ6(_:Exit)(σ:Sg):Int×aB×Int×Int×(List Int)×(List aB)×aB:=(aO (.i .i64) 1 0 σ,aO (.sl .u8) 6 0 σ,aO (.i .i64) 11 0 σ,aO (.i .i64) 13 0 σ,dA (.i .i64) 0 σ,dA (.sl .u8) 1 σ,dA .u8 2 σ)
def aZ2:List (Exit×Nm):=[((.exit 2),⟨[1,6,8,10,11,12,13],[],[]⟩)]
def BN[aA](N:Nat):Nat->(Int×aB×Int×Int×Int×(List Int)×(List aB)×aB)->((Int×aB×Int×Int×(List Int)×(List aB)×aB)->O)->((Unit)->O)->((Unit)->O)->O
  |0,_,_,_,_=>none
  |n+1,x,k0,k1,k2=>EH N (λv0 v1=>BN N n (x.1,x.2.1,x.2.2.1,v0,v1,x.2.2.2.2.2.1,x.2.2.2.2.2.2.1,x.2.2.2.2.2.2.2) k0 k1 k2) (λy0 y1 y2 y3 y4 y5 y6=>k0 (y0,y1,y2,y3,y4,y5,y6)) x.1 x.2.1 x.2.2.1 x.2.2.2.2.2.1 x.2.2.2.2.2.2.1 x.2.2.2.2.2.2.2 x.2.2.2.1 x.2.2.2.2.1
def PA[aA] N a0 a1 a2 a3 a4 a5 a6 a7 (k0:Int->aB->Int->Int->(List Int)->(List aB)->aB->O):=BN N N (a0,a1,a2,a3,a4,a5,a6,a7) (λy=>k0 y.1 y.2.1 y.2.2.1 y.2.2.2.1 y.2.2.2.2.1 y.2.2.2.2.2.1 y.2.2.2.2.2.2) (λ_=>none) (λ_=>none)
def WL[aA] N a0 a1 a2 a3 a4 a5 a6 a7 (k0:Int->aB->Int->Int->(List Int)->(List aB)->aB->O):=aY BP Oy (BN N N) (BP (a0,a1,a2,a3,a4,a5,a6,a7)) (λy=>k0 y.1 y.2.1 y.2.2.1 y.2.2.2.1 y.2.2.2.2.1 y.2.2.2.2.2.1 y.2.2.2.2.2.2) (λ_=>none) (λ_=>none)
theorem aHZ[aA] N:WL N=PA N:=funext λ_=>funext λ_=>funext λ_=>funext λ_=>funext λ_=>funext λ_=>funext λ_=>funext λ_=>funext λ_=>cW aZa _ _ _ _
theorem aZd[aA](N:Nat)(self:Sg->O)(K:Exit->Sg->O)(x:Int×aB×Int×Int×Int×(List Int)×(List aB)×aB):EH N (λv0 v1=>self (BP (x.1,x.2.1,x.2.2.1,v0,v1,x.2.2.2.2.2.1,x.2.2.2.2.2.2.1,x.2.2.2.2.2.2.2))) (λy0 y1 y2 y3 y4 y5 y6=>K (PD (y0,y1,y2,y3,y4,y5,y6)).1 (PD (y0,y1,y2,y3,y4,y5,y6)).2) x.1 x.2.1 x.2.2.1 x.2.2.2.2.2.1 x.2.2.2.2.2.2.1 x.2.2.2.2.2.2.2 x.2.2.2.1 x.2.2.2.2.1=exec (k7 N) Tryz.f25.ntmps .d WR (BP x) (eN aHW aZ2 self K):=by kernel_rfl
theorem aZo N (hc:aF (k7 N)):cN (k7 N) Tryz.f25.ntmps (.loop WR) PD (aW 1) (aW 2) (aY BP Oy (BN N N)):=
  eV hc (cO WR) (eZ aZ6 (.exit 2) (λ_=>by kernel_rfl) (λ_=>rfl) (by kernel_rfl)) (n:=N) (λx K=>eW (BN N) (λ_ _ _ _=>rfl) (λn K ih x=>by
    refine fK ?_ (aZd N _ K x);simp only[<-ih];rfl) N x K)
def EG[aA](_:Nat)(in0:Int->aB->Int->(List Int)->(List aB)->(Int->aB->Int->(List Int)->(List aB)->aB->O)->O)(in1:Int->aB->Int->Int->Int->(List Int)->(List aB)->aB->(Int->aB->Int->Int->(List Int)->(List aB)->aB->O)->O)(self:Int->aB->Int->(List Int)->(List aB)->O)(k0:Int->O)(k1:(List aB)->O)(x0_0:Int)(x0_1:aB)(x0_2:Int)(x0_3:(List Int))(x0_4:(List aB)):O:=
  br (decide (x0_2<(↑x0_1.length:Int)))
    (in0 x0_0 x0_1 x0_2 x0_3 x0_4
      (λz72 z73 z74 z75 z76 z77=>
        in1 z72 z73 z74 z74 0 z75 z76 z77
          (λz88 z89 z90 z91 z92 z93 z94=>
            br (decide (z91=z90))
              (k0 14)
              (ck (dX z89.length (some z90) (some z91))<|
              ck (cF (z94++c8 z89 (some z90) (some z91)).length (1:Nat))<|
              ck (cF (z93++[z94++c8 z89 (some z90) (some z91)]).length (24:Nat))<|
              self z88 z89 z91 z92 (z93++[z94++c8 z89 (some z90) (some z91)])))))
    (k1 x0_4)
def WQ:Code:=cK [1,1,1,1,1,1,1,1,0,0,0] Hn
def aHV:Nm:=⟨[1,6,8,10,11],[],[.qP 10 (.row 28 (.sl .u8) [] true)]⟩
def BO(x:Int×aB×Int×(List Int)×(List aB)):Sg:=⟨[(1,.e (.i .i64) x.1),(6,.e (.sl .u8) x.2.1),(8,.own 0),(10,.own 1),(11,.e (.i .i64) x.2.2.1)],[(0,.row 3 (.i .i64) x.2.2.2.1 true),(1,.row 28 (.sl .u8) x.2.2.2.2 true)],100⟩
def Ox(σ:Sg):Int×aB×Int×(List Int)×(List aB):=(aO (.i .i64) 1 0 σ,aO (.sl .u8) 6 0 σ,aO (.i .i64) 11 0 σ,dA (.i .i64) 0 σ,dA (.sl .u8) 1 σ)
theorem aZ9:∀x,Ox (BO x)=x:=λ_=>by kernel_rfl
def PC(y:Int):Exit×Sg:=(.ret,⟨[(4,.cC),(5,.e (.i .i64) y)],[],100⟩)
def aZ5(_:Exit)(σ:Sg):Int:=aO (.i .i64) 5 0 σ
def PB(y:(List aB)):Exit×Sg:=((.exit 0),⟨[(10,.own 0)],[(0,.row 28 (.sl .u8) y true)],100⟩)
def aZ4(_:Exit)(σ:Sg):(List aB):=dA (.sl .u8) 0 σ
def aZ1:List (Exit×Nm):=[(.ret,⟨[4,5],[],[]⟩),((.exit 0),⟨[10],[],[]⟩)]
def BM[aA](N:Nat):Nat->(Int×aB×Int×(List Int)×(List aB))->((Int)->O)->(((List aB))->O)->((Unit)->O)->O
  |0,_,_,_,_=>none
  |n+1,x,k0,k1,k2=>EG N (Hl N) (PA N) (λv0 v1 v2 v3 v4=>BM N n (v0,v1,v2,v3,v4) k0 k1 k2) (λy0=>k0 y0) (λy0=>k1 y0) x.1 x.2.1 x.2.2.1 x.2.2.2.1 x.2.2.2.2
def WN[aA] N a0 a1 a2 a3 a4 (k0:Int->O) (k1:(List aB)->O):=BM N N (a0,a1,a2,a3,a4) (λy=>k0 y) (λy=>k1 y) (λ_=>none)
def aHT[aA] N a0 a1 a2 a3 a4 (k0:Int->O) (k1:(List aB)->O):=aY BO Ox (BM N N) (BO (a0,a1,a2,a3,a4)) (λy=>k0 y) (λy=>k1 y) (λ_=>none)
theorem aZk[aA] N:aHT N=WN N:=funext λ_=>funext λ_=>funext λ_=>funext λ_=>funext λ_=>funext λ_=>funext λ_=>cW aZ9 _ _ _ _
def aHX[aA](N:Nat):Hint:=(.seq .d (.block (.seq .d (.seq (.sub aZg _ _ _ PE (aW 1) (aW 2) (aY EF Oz (Hm N N))) (.seq .d (.seq (.seq .d (.block (.sub aHW _ _ _ PD (aW 1) (aW 2) (aY BP Oy (BN N N))))) .d))))))
theorem aZh N (hc:aF (k7 N)):bJ (k7 N) Tryz.f25.ntmps (aHX N) WQ:=bO _ _ (aG trivial (aG trivial (aG (aZp N hc) (aG trivial (aG (aG trivial (aZo N hc)) trivial)))))
theorem aZc[aA](N:Nat)(self:Sg->O)(K:Exit->Sg->O)(x:Int×aB×Int×(List Int)×(List aB)):EG N (WM N) (WL N) (λv0 v1 v2 v3 v4=>self (BO (v0,v1,v2,v3,v4))) (λy0=>K (PC y0).1 (PC y0).2) (λy0=>K (PB y0).1 (PB y0).2) x.1 x.2.1 x.2.2.1 x.2.2.2.1 x.2.2.2.2=exec (k7 N) Tryz.f25.ntmps (aHX N) WQ (BO x) (eN aHV aZ1 self K):=by kernel_rfl
theorem aZn N (hc:aF (k7 N)):cN (k7 N) Tryz.f25.ntmps (.loop WQ) PC PB (aW 2) (aY BO Ox (BM N N)):=
  eV hc (aZh N hc) (iS aZ5 aZ4 .ret (.exit 0) (λ_=>by kernel_rfl) (λ_=>by kernel_rfl) (λ_=>rfl) (λ_=>rfl) (by kernel_rfl)) (n:=N) (λx K=>eW (BM N) (λ_ _ _ _=>rfl) (λn K ih x=>by
    refine fK ?_ (aZc N _ K x);simp only[aH0 N,aHZ N,<-ih];rfl) N x K)
def WU[aA](N:Nat)(_in0:Int->aB->Int->(List Int)->(List aB)->(Int->aB->Int->(List Int)->(List aB)->aB->O)->O)(_in1:Int->aB->Int->Int->Int->(List Int)->(List aB)->aB->(Int->aB->Int->Int->(List Int)->(List aB)->aB->O)->O)(in2:Int->aB->Int->(List Int)->(List aB)->(Int->O)->((List aB)->O)->O)(e0_0 e0_1:Int)(e0_2:(List Ex))(width1:Int):O:=
  let b0:=Ex.mk (Ex.mk e0_0 e0_1 e0_2).op (Ex.mk e0_0 e0_1 e0_2).num (Ex.mk e0_0 e0_1 e0_2).kids
  let b1:=P9 N b0.op b0.num b0.kids++[(↑(BZ N b0.op b0.num b0.kids).length:Int)]
  ck (IT N b0.op b0.num b0.kids)<|
  br (decide (E6 N b0.op b0.num b0.kids≠(0:Int)))
    (some (BL [] (E6 N b0.op b0.num b0.kids)))
    (br (decide (width1<4)||decide (40<width1))
      (some (BL [] 5))
      (ck (Pb N b0.op b0.num b0.kids)<|
      ck (cF b1.length (8:Nat))<|
      in2 width1 (BZ N b0.op b0.num b0.kids) 0 b1 []
        (λz95=>
          some (BL [] z95))
        (λz96=>
          some (BL z96 0))))
def w25[aA] N e0_0 e0_1 e0_2 width1:=WU N (Hl N) (PA N) (WN N) e0_0 e0_1 e0_2 width1
def aHY[aA](N:Nat):Hint:=(.seq .d (.seq .d (.seq .d (.seq .d (.seq .d (.seq .d (.seq .d (.seq .d (.seq (.block (.sub aHV _ _ _ PC PB (aW 2) (aY BO Ox (BM N N)))) .d)))))))))
theorem aZi N (hc:aF (k7 N)):bJ (k7 N) Tryz.f25.ntmps (aHY N) Hn:=bO _ _ (aG trivial (aG trivial (aG trivial (aG trivial (aG trivial (aG trivial (aG trivial (aG trivial (aG (aZn N hc) trivial)))))))))
theorem aZf[aA] N e0_0 e0_1 e0_2 width1:WU N (WM N) (WL N) (aHT N) e0_0 e0_1 e0_2 width1=exec (k7 N) Tryz.f25.ntmps (aHY N) Hn ⟨bU 0 [.agg [.e (.i .i64) e0_0,.e (.i .i64) e0_1,.e (.sl .ex) e0_2],.e (.i .i64) width1],[],100⟩ (bX (k7 N) Tryz.f25 false):=by kernel_rfl
def Ow(r:aE):Option ((List aB)×Int):=match r with
  |(.bD [x0,x1],[])=>(match ue (.sl (.sl .u8)) x0,ue (.i .i64) x1 with|some a0,some a1=>some (a0,a1)|_,_=>none)
  |_=>none
theorem aZ8{r d}(h:Ow r=some d):r=BL d.1 d.2:=by
  unfold Ow at h;split at h
  . split at h
    . rename_i h0 h1;cases h;rw[aH h0,aH h1];rfl
    . cases h
  . cases h
def EE N e0_0 e0_1 e0_2 width1:=(w25 N e0_0 e0_1 e0_2 width1).bind Ow
theorem aZj{N}(hc:aF (k7 N)){e0_0 e0_1 e0_2 width1 d}(hd:EE N e0_0 e0_1 e0_2 width1=some d):cB Tryz.prog 25 [.agg [.e (.i .i64) e0_0,.e (.i .i64) e0_1,.e (.sl .ex) e0_2],.e (.i .i64) width1] [] (BL d.1 d.2):=
  cD hc (by kernel_rfl) (by kernel_rfl) (aZi N hc) (by kernel_rfl) aZ8 (λhr=>(aZf N e0_0 e0_1 e0_2 width1).symm.trans (by rw[aH0 N,aHZ N,aZk N];exact hr)) hd
def Hk N e0_0 e0_1 e0_2 width1:=(EE N e0_0 e0_1 e0_2 width1).isSome
def xK N e0_0 e0_1 e0_2 width1:=((EE N e0_0 e0_1 e0_2 width1).getD ([],0)).1
def Hj N e0_0 e0_1 e0_2 width1:=((EE N e0_0 e0_1 e0_2 width1).getD ([],0)).2
def WO(N:Nat):bK:=E2 .ex (.i .i64) (λx0 x1=>(Hk N (Ex.op x0) (Ex.num x0) (Ex.kids x0) x1,BL (xK N (Ex.op x0) (Ex.num x0) (Ex.kids x0) x1) (Hj N (Ex.op x0) (Ex.num x0) (Ex.kids x0) x1)))
theorem aHU N:aM Tryz.prog 25 (WO N):=aM.e2 (λ_ _ h=>cY h (aZj (aZl N)) rfl)
def xL(a0:aB):aE:=(.e (.sl .u8) a0,[])
def IJ(N:Nat):Cx:=⟨Tryz.prog,25,[(23,PK N),(19,Wk N)],[]⟩
def aID:Code:=Tryz.f18.body.getD .skip
theorem a0l N:aF (IJ N):=bY (by kernel_rfl) (.cons (by kernel_rfl) (W5 N) (.cons (by kernel_rfl) (aHu N) .nil)) .nil
def Wn[aA](N:Nat)(l0:aB)(at1 how2 by3:Int):O:=
  let b0:=k8 N at1 (↑l0.length:Int)
  let b1:=some (aC.wrap (k8 N at1 (↑l0.length:Int)+(1:Int)))
  let b2:=k8 N by3 (64:Int)
  ck (uK N by3 (64:Int))<|
  br (decide ((↑l0.length:Int)=(0:Int)))
    (some (xL [eD b2]))
    (ck (uK N at1 (↑l0.length:Int))<|
    ck (IF N l0 b0)<|
    ck (uK N how2 (4:Int))<|
    br (decide (k8 N how2 (4:Int)=(0:Int)))
      (ck (cF (lP N l0 b0++[eD b2]).length (1:Nat))<|
      ck (dX l0.length b1 none)<|
      ck (cF (lP N l0 b0++[eD b2]++c8 l0 b1 none).length (1:Nat))<|
      some (xL (lP N l0 b0++[eD b2]++c8 l0 b1 none)))
      (br (decide (k8 N how2 (4:Int)=(1:Int)))
        (ck (dX l0.length b1 none)<|
        ck (cF (lP N l0 b0++c8 l0 b1 none).length (1:Nat))<|
        some (xL (lP N l0 b0++c8 l0 b1 none)))
        (br (decide (k8 N how2 (4:Int)=(2:Int)))
          (ck (cF (lP N l0 b0++[eD b2]).length (1:Nat))<|
          ck (dX l0.length (some b0) none)<|
          ck (cF (lP N l0 b0++[eD b2]++c8 l0 (some b0) none).length (1:Nat))<|
          some (xL (lP N l0 b0++[eD b2]++c8 l0 (some b0) none)))
          (gx l0 b0 λy0=>
          ck (cF (lP N l0 b0++[y0]).length (1:Nat))<|
          ck (dX l0.length (some b0) none)<|
          ck (cF (lP N l0 b0++[y0]++c8 l0 (some b0) none).length (1:Nat))<|
          some (xL (lP N l0 b0++[y0]++c8 l0 (some b0) none))))))
def w18[aA] N l0 at1 how2 by3:=Wn N l0 at1 how2 by3
def aIB[aA](_:Nat):Hint:=(.seq .d (.seq .d (.seq .d (.seq .d (.seq .d (.seq (.seq .d (.block (.seq .d (.cond (.seq (.gI [] [] [[],[],[],[292,220],[],[],[],[],[332,292],[]]) .d) (.seq .d (.cond .d (.seq .d (.cond (.seq (.gI [] [] [[],[],[],[324,220],[],[],[],[356,324],[]]) .d) .d)))))))) (.seq (.gI [] [] [[],[],[],[],[],[],[348,220],[],[],[],[380,348],[]]) .d)))))))
theorem a0j N:bJ (IJ N) Tryz.f18.ntmps (aIB N) aID:=bO _ _ (aG trivial (aG trivial (aG trivial (aG trivial (aG trivial (aG (aG trivial (aG trivial (aG (aG trivial trivial) (aG trivial (aG trivial (aG trivial (aG (aG trivial trivial) trivial))))))) (aG trivial trivial)))))))
theorem a0h[aA] N l0 at1 how2 by3:Wn N l0 at1 how2 by3=exec (IJ N) Tryz.f18.ntmps (aIB N) aID ⟨bU 0 [.e (.sl .u8) l0,.e (.i .i64) at1,.e (.i .i64) how2,.e (.i .i64) by3],[],100⟩ (bX (IJ N) Tryz.f18 false):=by kernel_rfl
def Wm(r:aE):Option (aB):=match r with
  |(x0,[])=>(match ue (.sl .u8) x0 with|some a0=>some a0|_=>none)
  |_=>none
theorem a0g{r d}(h:Wm r=some d):r=xL (d):=by
  unfold Wm at h;split at h
  . split at h
    . rename_i h0;cases h;rw[aH h0];rfl
    . cases h
  . cases h
def ES N l0 at1 how2 by3:=(w18 N l0 at1 how2 by3).bind Wm
theorem a0k{N}(hc:aF (IJ N)){l0 at1 how2 by3 d}(hd:ES N l0 at1 how2 by3=some d):cB Tryz.prog 18 [.e (.sl .u8) l0,.e (.i .i64) at1,.e (.i .i64) how2,.e (.i .i64) by3] [] (xL (d)):=
  cD hc (by kernel_rfl) (by kernel_rfl) (a0j N) (by kernel_rfl) a0g (a0h N l0 at1 how2 by3).symm.trans hd
def PY N l0 at1 how2 by3:=(ES N l0 at1 how2 by3).isSome
def II N l0 at1 how2 by3:=((ES N l0 at1 how2 by3).getD [])
def aIC(N:Nat):bK:=E4 (.sl .u8) (.i .i64) (.i .i64) (.i .i64) (λx0 x1 x2 x3=>(PY N x0 x1 x2 x3,xL (II N x0 x1 x2 x3)))
theorem a0i N:aM Tryz.prog 18 (aIC N):=aM.e4 (λx0 x1 x2 x3 h=>cY (z:=ES N x0 x1 x2 x3) h (a0k (a0l N)) rfl)
def D4(a0:Bool):aE:=(.e .bo a0,[])
def tW(N:Nat):Cx:=⟨Tryz.prog,25,[(43,Nl N)],[]⟩
def Uv:Code:=Tryz.f48.body.getD .skip
theorem aVV N:aF (tW N):=bY (by kernel_rfl) (.cons (by kernel_rfl) (VV N) .nil) .nil
def D5[aA](N:Nat)(self:Int->O)(k0:Bool->O)(k1:Unit->O)(x0_0 x0_1:(List aB))(x0_2 x0_3:Int):O:=
  br (decide (x0_3<x0_2))
    (gx x0_1 x0_3 λy5=>
    gx x0_0 x0_3 λy6=>
    ck (Nk N y5 y6)<|
    br (!Ni N y5 y6)
      (k0 false)
      (self (aC.wrap (x0_3+1))))
    (k1 ())
def Uu:Code:=cK [1,1,0,1,0,0] Uv
def aFR:Nm:=⟨[1,2,15,16,17],[],[]⟩
def Ah(x:(List aB)×(List aB)×Int×Int):Sg:=⟨[(1,.e (.sl (.sl .u8)) x.1),(2,.fn 43 []),(15,.e (.sl (.sl .u8)) x.2.1),(16,.e (.i .i64) x.2.2.1),(17,.e (.i .i64) x.2.2.2)],[],100⟩
def Ms(σ:Sg):(List aB)×(List aB)×Int×Int:=(aO (.sl (.sl .u8)) 1 0 σ,aO (.sl (.sl .u8)) 15 0 σ,aO (.i .i64) 16 0 σ,aO (.i .i64) 17 0 σ)
theorem aVO:∀x,Ms (Ah x)=x:=λ_=>by kernel_rfl
def Mw(y:Bool):Exit×Sg:=(.ret,⟨[(6,.e .bo y)],[],100⟩)
def aVM(_:Exit)(σ:Sg):Bool:=aO .bo 6 0 σ
def Mu(_:Unit):Exit×Sg:=((.exit 0),⟨[],[],100⟩)
def aVL(_:Exit)(_:Sg):Unit:=()
def aVK:List (Exit×Nm):=[(.ret,⟨[6],[],[]⟩),((.exit 0),⟨[],[],[]⟩)]
def Ag[aA](N:Nat):Nat->((List aB)×(List aB)×Int×Int)->((Bool)->O)->((Unit)->O)->((Unit)->O)->O
  |0,_,_,_,_=>none
  |n+1,x,k0,k1,k2=>D5 N (λv0=>Ag N n (x.1,x.2.1,x.2.2.1,v0) k0 k1 k2) (λy0=>k0 y0) (λ(_:Unit)=>k1 ()) x.1 x.2.1 x.2.2.1 x.2.2.2
def Ut[aA] N a0 a1 a2 a3 (k0:Bool->O) (k1:Unit->O):=Ag N N (a0,a1,a2,a3) (λy=>k0 y) (λy=>k1 y) (λ_=>none)
def aFQ[aA] N a0 a1 a2 a3 (k0:Bool->O) (k1:Unit->O):=aY Ah Ms (Ag N N) (Ah (a0,a1,a2,a3)) (λy=>k0 y) (λy=>k1 y) (λ_=>none)
theorem aVU[aA] N:aFQ N=Ut N:=funext λ_=>funext λ_=>funext λ_=>funext λ_=>funext λ_=>funext λ_=>cW aVO _ _ _ _
theorem aVP[aA](N:Nat)(self:Sg->O)(K:Exit->Sg->O)(x:(List aB)×(List aB)×Int×Int):D5 N (λv0=>self (Ah (x.1,x.2.1,x.2.2.1,v0))) (λy0=>K (Mw y0).1 (Mw y0).2) (λ(_:Unit)=>K (Mu ()).1 (Mu ()).2) x.1 x.2.1 x.2.2.1 x.2.2.2=exec (tW N) Tryz.f48.ntmps .d Uu (Ah x) (eN aFR aVK self K):=by kernel_rfl
theorem aVY N (hc:aF (tW N)):cN (tW N) Tryz.f48.ntmps (.loop Uu) Mw Mu (aW 2) (aY Ah Ms (Ag N N)):=
  eV hc (cO Uu) (iS aVM aVL .ret (.exit 0) (λ_=>by kernel_rfl) (λ_=>by kernel_rfl) (λ_=>rfl) (λ_=>rfl) (by kernel_rfl)) (n:=N) (λx K=>eW (Ag N) (λ_ _ _ _=>rfl) (λn K ih x=>by
    refine fK ?_ (aVP N _ K x);simp only[<-ih];rfl) N x K)
def Uw[aA](_:Nat)(in0:(List aB)->(List aB)->Int->Int->(Bool->O)->(Unit->O)->O)(s10 s21:(List aB)):O:=
  br (decide ((↑s10.length:Int)≠(↑s21.length:Int)))
    (some (D4 false))
    (in0 s21 s10 ((↑s10.length:Int)) 0
      (λz7=>
        some (D4 z7))
      (λ(_:Unit)=>
        some (D4 true)))
def w48[aA] N s10 s21:=Uw N (Ut N) s10 s21
def aFS[aA](N:Nat):Hint:=(.seq .d (.seq .d (.seq (.seq .d (.block (.sub aFR _ _ _ Mw Mu (aW 2) (aY Ah Ms (Ag N N))))) .d)))
theorem aVS N (hc:aF (tW N)):bJ (tW N) Tryz.f48.ntmps (aFS N) Uv:=bO _ _ (aG trivial (aG trivial (aG (aG trivial (aVY N hc)) trivial)))
theorem aVQ[aA] N s10 s21:Uw N (aFQ N) s10 s21=exec (tW N) Tryz.f48.ntmps (aFS N) Uv ⟨bU 0 [.e (.sl (.sl .u8)) s10,.e (.sl (.sl .u8)) s21,.fn 43 []],[],100⟩ (bX (tW N) Tryz.f48 false):=by kernel_rfl
def Mr(r:aE):Option (Bool):=match r with
  |(x0,[])=>(match ue .bo x0 with|some a0=>some a0|_=>none)
  |_=>none
theorem aVN{r d}(h:Mr r=some d):r=D4 (d):=by
  unfold Mr at h;split at h
  . split at h
    . rename_i h0;cases h;rw[aH h0];rfl
    . cases h
  . cases h
def D3 N s10 s21:=(w48 N s10 s21).bind Mr
theorem aVT{N}(hc:aF (tW N)){s10 s21 d}(hd:D3 N s10 s21=some d):cB Tryz.prog 48 [.e (.sl (.sl .u8)) s10,.e (.sl (.sl .u8)) s21,.fn 43 []] [] (D4 (d)):=
  cD hc (by kernel_rfl) (by kernel_rfl) (aVS N hc) (by kernel_rfl) aVN (λhr=>(aVQ N s10 s21).symm.trans (by rw[aVU N];exact hr)) hd
def Mt N s10 s21:=(D3 N s10 s21).isSome
def Mq N s10 s21:=((D3 N s10 s21).getD false)
def aFT(N:Nat):bK:=Ef2 (.sl (.sl .u8)) (.sl (.sl .u8)) 43 (λx0 x1=>(Mt N x0 x1,D4 (Mq N x0 x1)))
theorem aVR N:aM Tryz.prog 48 (aFT N):=aM.f2 (λx0 x1 h=>cY (z:=D3 N x0 x1) h (aVT (aVV N)) rfl)
def rY(a0 a1:Int)(a2:(List Ex))(a3:Int):aE:=(.bD [.agg [.e (.i .i64) a0,.e (.i .i64) a1,.e (.sl .ex) a2],.e (.i .i64) a3],[])
def o9(N:Nat):Cx:=⟨Tryz.prog,25,[(21,aHo N),(25,WO N),(26,WH N)],[]⟩
def O7:Code:=Tryz.f28.body.getD .skip
theorem aYo N:aF (o9 N):=bY (by kernel_rfl) (.cons (by kernel_rfl) (a01 N) (.cons (by kernel_rfl) (aHU N) (.cons (by kernel_rfl) (aHN N) .nil))) .nil
def xI[aA](_:Nat)(self:Int->aB->O)(k0:Int->Int->Int->O)(k1:(List aB)->Int->Int->aB->O)(x0_0:(List aB))(x0_2 x0_3 x0_1:Int)(x0_4:aB):O:=
  br (decide (x0_1<(↑x0_0.length:Int)))
    (gc (decide (0<x0_1)) [] x0_0 x0_1 λy10=>
    br (decide (0<x0_1)&&decide ((↑y10.length:Int)<(2:Int)))
      (k0 2 0 0)
      (br (decide (0<x0_1))
        (gx x0_0 x0_1 λy11=>
        ck (dX y11.length (some (2:Int)) none)<|
        ck (cF (x0_4++c8 y11 (some (2:Int)) none).length (1:Nat))<|
        self (aC.wrap (x0_1+1)) (x0_4++c8 y11 (some (2:Int)) none))
        (gx x0_0 x0_1 λy12=>
        ck (cF (x0_4++y12).length (1:Nat))<|
        self (aC.wrap (x0_1+1)) (x0_4++y12))))
    (k1 x0_0 x0_2 x0_3 x0_4)
def Vy:Code:=cK [1,1,0,1,0,0] O7
def aGx:Nm:=⟨[0,2,4,5],[],[.qP 4 (.row 5 .u8 [] true)]⟩
def BF(x:(List aB)×Int×Int×Int×aB):Sg:=⟨[(0,.e (.sl (.sl .u8)) x.1),(2,.ref 0 0),(4,.own 1),(5,.e (.i .i64) x.2.1)],[(0,.box 25 [.e (.i .i64) x.2.2.1,.e (.i .i64) x.2.2.2.1,.cC]),(1,.row 5 .u8 x.2.2.2.2 true)],100⟩
def O4(σ:Sg):(List aB)×Int×Int×Int×aB:=(aO (.sl (.sl .u8)) 0 0 σ,aO (.i .i64) 5 0 σ,aL (.i .i64) 0 0 σ,aL (.i .i64) 0 1 σ,dA .u8 1 σ)
theorem aYf:∀x,O4 (BF x)=x:=λ_=>by kernel_rfl
def Ob(y:Int×Int×Int):Exit×Sg:=(.ret,⟨[(2,.ref 0 0),(3,.e (.i .i64) y.1)],[(0,.box 25 [.e (.i .i64) y.2.1,.e (.i .i64) y.2.2,.cC])],100⟩)
def aYc(_:Exit)(σ:Sg):Int×Int×Int:=(aO (.i .i64) 3 0 σ,aL (.i .i64) 0 0 σ,aL (.i .i64) 0 1 σ)
def Oa(y:(List aB)×Int×Int×aB):Exit×Sg:=((.exit 0),⟨[(0,.e (.sl (.sl .u8)) y.1),(2,.ref 0 0),(4,.own 1)],[(0,.box 25 [.e (.i .i64) y.2.1,.e (.i .i64) y.2.2.1,.cC]),(1,.row 5 .u8 y.2.2.2 true)],100⟩)
def aYb(_:Exit)(σ:Sg):(List aB)×Int×Int×aB:=(aO (.sl (.sl .u8)) 0 0 σ,aL (.i .i64) 0 0 σ,aL (.i .i64) 0 1 σ,dA .u8 1 σ)
def aY8:List (Exit×Nm):=[(.ret,⟨[2,3],[],[]⟩),((.exit 0),⟨[0,2,4],[],[]⟩)]
def uF[aA](N:Nat):Nat->((List aB)×Int×Int×Int×aB)->((Int×Int×Int)->O)->(((List aB)×Int×Int×aB)->O)->((Unit)->O)->O
  |0,_,_,_,_=>none
  |n+1,x,k0,k1,k2=>xI N (λv0 v1=>uF N n (x.1,v0,x.2.2.1,x.2.2.2.1,v1) k0 k1 k2) (λy0 y1 y2=>k0 (y0,y1,y2)) (λy0 y1 y2 y3=>k1 (y0,y1,y2,y3)) x.1 x.2.2.1 x.2.2.2.1 x.2.1 x.2.2.2.2
def Vv[aA] N a0 a1 a2 a3 a4 (k0:Int->Int->Int->O) (k1:(List aB)->Int->Int->aB->O):=uF N N (a0,a1,a2,a3,a4) (λy=>k0 y.1 y.2.1 y.2.2) (λy=>k1 y.1 y.2.1 y.2.2.1 y.2.2.2) (λ_=>none)
def aGv[aA] N a0 a1 a2 a3 a4 (k0:Int->Int->Int->O) (k1:(List aB)->Int->Int->aB->O):=aY BF O4 (uF N N) (BF (a0,a1,a2,a3,a4)) (λy=>k0 y.1 y.2.1 y.2.2) (λy=>k1 y.1 y.2.1 y.2.2.1 y.2.2.2) (λ_=>none)
theorem aYn[aA] N:aGv N=Vv N:=funext λ_=>funext λ_=>funext λ_=>funext λ_=>funext λ_=>funext λ_=>funext λ_=>cW aYf _ _ _ _
theorem aYh[aA](N:Nat)(self:Sg->O)(K:Exit->Sg->O)(x:(List aB)×Int×Int×Int×aB):xI N (λv0 v1=>self (BF (x.1,v0,x.2.2.1,x.2.2.2.1,v1))) (λy0 y1 y2=>K (Ob (y0,y1,y2)).1 (Ob (y0,y1,y2)).2) (λy0 y1 y2 y3=>K (Oa (y0,y1,y2,y3)).1 (Oa (y0,y1,y2,y3)).2) x.1 x.2.2.1 x.2.2.2.1 x.2.1 x.2.2.2.2=exec (o9 N) Tryz.f28.ntmps .d Vy (BF x) (eN aGx aY8 self K):=by kernel_rfl
theorem aYr N (hc:aF (o9 N)):cN (o9 N) Tryz.f28.ntmps (.loop Vy) Ob Oa (aW 2) (aY BF O4 (uF N N)):=
  eV hc (cO Vy) (iS aYc aYb .ret (.exit 0) (λ_=>by kernel_rfl) (λ_=>by kernel_rfl) (λ_=>rfl) (λ_=>rfl) (by kernel_rfl)) (n:=N) (λx K=>eW (uF N) (λ_ _ _ _=>rfl) (λn K ih x=>by
    refine fK ?_ (aYh N _ K x);simp only[<-ih];rfl) N x K)
def Dz[aA](N:Nat)(self:Int->O)(k0:Int->Int->Int->(List Ex)->O)(k1:Int->Int->O)(x20_0:(List aB))(x20_2 x20_3:Int)(x20_4 x20_5:Int)(x20_6:(List Ex))(x20_1:Int):O:=
  let b0:=Ex.mk (Ex.mk x20_4 x20_5 x20_6).op (Ex.mk x20_4 x20_5 x20_6).num (Ex.mk x20_4 x20_5 x20_6).kids
  br (decide (x20_1<=40))
    (ck (Hk N b0.op b0.num b0.kids x20_1)<|
    ck (!decide (Hj N b0.op b0.num b0.kids x20_1=(0:Int))||Ot N x20_0 (xK N b0.op b0.num b0.kids x20_1))<|
    br (decide (Hj N b0.op b0.num b0.kids x20_1=(0:Int))&&Om N x20_0 (xK N b0.op b0.num b0.kids x20_1))
      (k0 0 x20_4 x20_5 x20_6)
      (self (aC.wrap (x20_1+1))))
    (k1 x20_2 x20_3)
def Vx:Code:=cK [1,1,1,1,1,0,1,0,0] O7
def aGw:Nm:=⟨[0,2,6,9],[],[]⟩
def BE(x:(List aB)×Int×Int×Int×Int×Int×(List Ex)):Sg:=⟨[(0,.e (.sl (.sl .u8)) x.1),(2,.ref 0 0),(6,.ref 1 0),(9,.e (.i .i64) x.2.1)],[(0,.box 25 [.e (.i .i64) x.2.2.1,.e (.i .i64) x.2.2.2.1,.cC]),(1,.box 25 [.e (.i .i64) x.2.2.2.2.1,.e (.i .i64) x.2.2.2.2.2.1,.e (.sl .ex) x.2.2.2.2.2.2])],100⟩
def O3(σ:Sg):(List aB)×Int×Int×Int×Int×Int×(List Ex):=(aO (.sl (.sl .u8)) 0 0 σ,aO (.i .i64) 9 0 σ,aL (.i .i64) 0 0 σ,aL (.i .i64) 0 1 σ,aL (.i .i64) 1 0 σ,aL (.i .i64) 1 1 σ,aL (.sl .ex) 1 2 σ)
theorem aYe:∀x,O3 (BE x)=x:=λ_=>by kernel_rfl
def O9(y:Int×Int×Int×(List Ex)):Exit×Sg:=(.ret,⟨[(2,.ref 0 0),(3,.e (.i .i64) y.1)],[(0,.box 25 [.e (.i .i64) y.2.1,.e (.i .i64) y.2.2.1,.e (.sl .ex) y.2.2.2])],100⟩)
def aYa(_:Exit)(σ:Sg):Int×Int×Int×(List Ex):=(aO (.i .i64) 3 0 σ,aL (.i .i64) 0 0 σ,aL (.i .i64) 0 1 σ,aL (.sl .ex) 0 2 σ)
def O8(y:Int×Int):Exit×Sg:=((.exit 2),⟨[(2,.ref 0 0)],[(0,.box 25 [.e (.i .i64) y.1,.e (.i .i64) y.2,.cC])],100⟩)
def aY9(_:Exit)(σ:Sg):Int×Int:=(aL (.i .i64) 0 0 σ,aL (.i .i64) 0 1 σ)
def aY7:List (Exit×Nm):=[(.ret,⟨[2,3],[],[]⟩),((.exit 2),⟨[2],[],[]⟩)]
def BD[aA](N:Nat):Nat->((List aB)×Int×Int×Int×Int×Int×(List Ex))->((Int×Int×Int×(List Ex))->O)->((Int×Int)->O)->((Unit)->O)->O
  |0,_,_,_,_=>none
  |n+1,x,k0,k1,k2=>Dz N (λv0=>BD N n (x.1,v0,x.2.2.1,x.2.2.2.1,x.2.2.2.2.1,x.2.2.2.2.2.1,x.2.2.2.2.2.2) k0 k1 k2) (λy0 y1 y2 y3=>k0 (y0,y1,y2,y3)) (λy0 y1=>k1 (y0,y1)) x.1 x.2.2.1 x.2.2.2.1 x.2.2.2.2.1 x.2.2.2.2.2.1 x.2.2.2.2.2.2 x.2.1
def O6[aA] N a0 a1 a2 a3 a4 a5 a6 (k0:Int->Int->Int->(List Ex)->O) (k1:Int->Int->O):=BD N N (a0,a1,a2,a3,a4,a5,a6) (λy=>k0 y.1 y.2.1 y.2.2.1 y.2.2.2) (λy=>k1 y.1 y.2) (λ_=>none)
def aGu[aA] N a0 a1 a2 a3 a4 a5 a6 (k0:Int->Int->Int->(List Ex)->O) (k1:Int->Int->O):=aY BE O3 (BD N N) (BE (a0,a1,a2,a3,a4,a5,a6)) (λy=>k0 y.1 y.2.1 y.2.2.1 y.2.2.2) (λy=>k1 y.1 y.2) (λ_=>none)
theorem aYm[aA] N:aGu N=O6 N:=funext λ_=>funext λ_=>funext λ_=>funext λ_=>funext λ_=>funext λ_=>funext λ_=>funext λ_=>funext λ_=>cW aYe _ _ _ _
theorem aYg[aA](N:Nat)(self:Sg->O)(K:Exit->Sg->O)(x:(List aB)×Int×Int×Int×Int×Int×(List Ex)):Dz N (λv0=>self (BE (x.1,v0,x.2.2.1,x.2.2.2.1,x.2.2.2.2.1,x.2.2.2.2.2.1,x.2.2.2.2.2.2))) (λy0 y1 y2 y3=>K (O9 (y0,y1,y2,y3)).1 (O9 (y0,y1,y2,y3)).2) (λy0 y1=>K (O8 (y0,y1)).1 (O8 (y0,y1)).2) x.1 x.2.2.1 x.2.2.2.1 x.2.2.2.2.1 x.2.2.2.2.2.1 x.2.2.2.2.2.2 x.2.1=exec (o9 N) Tryz.f28.ntmps .d Vx (BE x) (eN aGw aY7 self K):=by kernel_rfl
theorem aYq N (hc:aF (o9 N)):cN (o9 N) Tryz.f28.ntmps (.loop Vx) O9 O8 (aW 2) (aY BE O3 (BD N N)):=
  eV hc (cO Vx) (iS aYa aY9 .ret (.exit 2) (λ_=>by kernel_rfl) (λ_=>by kernel_rfl) (λ_=>rfl) (λ_=>rfl) (by kernel_rfl)) (n:=N) (λx K=>eW (BD N) (λ_ _ _ _=>rfl) (λn K ih x=>by
    refine fK ?_ (aYg N _ K x);simp only[<-ih];rfl) N x K)
def Vz[aA](N:Nat)(in0:(List aB)->Int->Int->Int->aB->(Int->Int->Int->O)->((List aB)->Int->Int->aB->O)->O)(in1:(List aB)->Int->Int->Int->Int->Int->(List Ex)->(Int->Int->Int->(List Ex)->O)->(Int->Int->O)->O)(p0:(List aB)):O:=
  in0 p0 0 0 0 []
    (λz13 z14 z15=>
      some (rY ((Ex.mk z14 z15 []).op) ((Ex.mk z14 z15 []).num) ((Ex.mk z14 z15 []).kids) z13))
    (λz16 z17 z18 z19=>
      ck (Hv N z19)<|
      br (decide (Hr N z19≠(0:Int)))
        (some (rY 0 0 [] 2))
        (in1 z16 4 z17 z18 (Hu N z19) (Ht N z19) (Hs N z19)
          (λz21 z22 z23 z24=>
            some (rY ((Ex.mk z22 z23 z24).op) ((Ex.mk z22 z23 z24).num) ((Ex.mk z22 z23 z24).kids) z21))
          (λ_ _=>
            some (rY 0 0 [] 2))))
def w28[aA] N p0:=Vz N (Vv N) (O6 N) p0
def aGy[aA](N:Nat):Hint:=(.seq .d (.seq .d (.seq (.seq .d (.block (.sub aGx _ _ _ Ob Oa (aW 2) (aY BF O4 (uF N N))))) (.seq .d (.seq .d (.seq (.seq .d (.block (.sub aGw _ _ _ O9 O8 (aW 2) (aY BE O3 (BD N N))))) .d))))))
theorem aYk N (hc:aF (o9 N)):bJ (o9 N) Tryz.f28.ntmps (aGy N) O7:=bO _ _ (aG trivial (aG trivial (aG (aG trivial (aYr N hc)) (aG trivial (aG trivial (aG (aG trivial (aYq N hc)) trivial))))))
theorem aYi[aA] N p0:Vz N (aGv N) (aGu N) p0=exec (o9 N) Tryz.f28.ntmps (aGy N) O7 ⟨bU 0 [.e (.sl (.sl .u8)) p0],[],100⟩ (bX (o9 N) Tryz.f28 false):=by kernel_rfl
def Hg(r:aE):Option (Int×Int×(List Ex)×Int):=match r with
  |(.bD [.agg [x0,x1,x2],x3],[])=>(match ue (.i .i64) x0,ue (.i .i64) x1,ue (.sl .ex) x2,ue (.i .i64) x3 with|some a0,some a1,some a2,some a3=>some (a0,a1,a2,a3)|_,_,_,_=>none)
  |_=>none
theorem aYd{r d}(h:Hg r=some d):r=rY d.1 d.2.1 d.2.2.1 d.2.2.2:=by
  unfold Hg at h;split at h
  . split at h
    . rename_i h0 h1 h2 h3;cases h;rw[aH h0,aH h1,aH h2,aH h3];rfl
    . cases h
  . cases h
def uE N p0:=(w28 N p0).bind Hg
theorem aYl{N}(hc:aF (o9 N)){p0 d}(hd:uE N p0=some d):cB Tryz.prog 28 [.e (.sl (.sl .u8)) p0] [] (rY d.1 d.2.1 d.2.2.1 d.2.2.2):=
  cD hc (by kernel_rfl) (by kernel_rfl) (aYk N hc) (by kernel_rfl) aYd (λhr=>(aYi N p0).symm.trans (by rw[aYn N,aYm N];exact hr)) hd
def O5 N p0:=(uE N p0).isSome
def jB N p0:=((uE N p0).getD (0,0,[],0)).1
def jA N p0:=((uE N p0).getD (0,0,[],0)).2.1
def iZ N p0:=((uE N p0).getD (0,0,[],0)).2.2.1
def Hf N p0:=((uE N p0).getD (0,0,[],0)).2.2.2
def aGz(N:Nat):bK:=E1 (.sl (.sl .u8)) (λx0=>(O5 N x0,rY (jB N x0) (jA N x0) (iZ N x0) (Hf N x0)))
theorem aYj N:aM Tryz.prog 28 (aGz N):=aM.e1 (λx0 h=>cY (z:=uE N x0) h (aYl (aYo N)) rfl)
def rZ(a0 a1:Int)(a2:(List Ex))(a3:Int):aE:=(.bD [.agg [.e (.i .i64) a0,.e (.i .i64) a1,.e (.sl .ex) a2],.e (.i .i64) a3],[])
def pA(N:Nat):Cx:=⟨Tryz.prog,25,[(20,Wh N),(24,WX N),(48,aFT N),(43,Nl N)],[]⟩
def Og:Code:=Tryz.f27.body.getD .skip
theorem aZJ N:aF (pA N):=bY (by kernel_rfl) (.cons (by kernel_rfl) (aHq N) (.cons (by kernel_rfl) (aH7 N) (.cons (by kernel_rfl) (aVR N) (.cons (by kernel_rfl) (VV N) .nil)))) .nil
def xJ[aA](_:Nat)(self:Int->Int->aB->O)(k0:Int->Int->Int->O)(k1:(List aB)->Int->Int->Int->aB->O)(x0_0:(List aB))(_x0_1:Int)(x0_3:(List aB))(x0_4 x0_6:Int)(x0_7 x0_2 x0_5:Int)(x0_8:aB):O:=
  br (decide (x0_5<x0_4))
    (gx x0_3 x0_5 λy10=>
    br (decide (0<x0_5))
      (gc (!decide ((↑y10.length:Int)<(2:Int))) 0 y10 0 λy11=>
      gc (!(decide ((↑y10.length:Int)<(2:Int))||decide (y11≠0))) 0 y10 1 λy12=>
      br (decide ((↑y10.length:Int)<(2:Int))||decide (y11≠0)||decide (y12≠0))
        (k0 2 0 0)
        (ck (dX y10.length (some (2:Int)) none)<|
        ck (cF (x0_8++c8 y10 (some (2:Int)) none).length (1:Nat))<|
        self (max x0_2 (↑y10.length:Int)) (aC.wrap (x0_5+1)) (x0_8++c8 y10 (some (2:Int)) none)))
      (ck (cF (x0_8++y10).length (1:Nat))<|
      self (max x0_2 (↑y10.length:Int)) (aC.wrap (x0_5+1)) (x0_8++y10)))
    (k1 x0_0 x0_2 x0_6 x0_7 x0_8)
def WD:Code:=cK [1,1,1,0,1,0,0] Og
def aHG:Nm:=⟨[0,2,3,4,5,14,15,16],[],[.qP 4 (.row 5 .u8 [] true)]⟩
def BI(x:(List aB)×Int×Int×(List aB)×Int×Int×Int×Int×aB):Sg:=⟨[(0,.e (.sl (.sl .u8)) x.1),(2,.ref 0 0),(3,.e (.i .i64) x.2.1),(4,.own 1),(5,.e (.i .i64) x.2.2.1),(14,.e (.sl (.sl .u8)) x.2.2.2.1),(15,.e (.i .i64) x.2.2.2.2.1),(16,.e (.i .i64) x.2.2.2.2.2.1)],[(0,.box 25 [.e (.i .i64) x.2.2.2.2.2.2.1,.e (.i .i64) x.2.2.2.2.2.2.2.1,.cC]),(1,.row 5 .u8 x.2.2.2.2.2.2.2.2 true)],100⟩
def Od(σ:Sg):(List aB)×Int×Int×(List aB)×Int×Int×Int×Int×aB:=(aO (.sl (.sl .u8)) 0 0 σ,aO (.i .i64) 3 0 σ,aO (.i .i64) 5 0 σ,aO (.sl (.sl .u8)) 14 0 σ,aO (.i .i64) 15 0 σ,aO (.i .i64) 16 0 σ,aL (.i .i64) 0 0 σ,aL (.i .i64) 0 1 σ,dA .u8 1 σ)
theorem aZA:∀x,Od (BI x)=x:=λ_=>by kernel_rfl
def Ol(y:Int×Int×Int):Exit×Sg:=(.ret,⟨[(2,.ref 0 0),(3,.e (.i .i64) y.1)],[(0,.box 25 [.e (.i .i64) y.2.1,.e (.i .i64) y.2.2,.cC])],100⟩)
def aYx(_:Exit)(σ:Sg):Int×Int×Int:=(aO (.i .i64) 3 0 σ,aL (.i .i64) 0 0 σ,aL (.i .i64) 0 1 σ)
def Oj(y:(List aB)×Int×Int×Int×aB):Exit×Sg:=((.exit 0),⟨[(0,.e (.sl (.sl .u8)) y.1),(2,.ref 0 0),(4,.own 1),(5,.e (.i .i64) y.2.1)],[(0,.box 25 [.e (.i .i64) y.2.2.1,.e (.i .i64) y.2.2.2.1,.cC]),(1,.row 5 .u8 y.2.2.2.2 true)],100⟩)
def aYw(_:Exit)(σ:Sg):(List aB)×Int×Int×Int×aB:=(aO (.sl (.sl .u8)) 0 0 σ,aO (.i .i64) 5 0 σ,aL (.i .i64) 0 0 σ,aL (.i .i64) 0 1 σ,dA .u8 1 σ)
def aYt:List (Exit×Nm):=[(.ret,⟨[2,3],[],[]⟩),((.exit 0),⟨[0,2,4,5],[],[]⟩)]
def uH[aA](N:Nat):Nat->((List aB)×Int×Int×(List aB)×Int×Int×Int×Int×aB)->((Int×Int×Int)->O)->(((List aB)×Int×Int×Int×aB)->O)->((Unit)->O)->O
  |0,_,_,_,_=>none
  |n+1,x,k0,k1,k2=>xJ N (λv0 v1 v2=>uH N n (x.1,x.2.1,v0,x.2.2.2.1,x.2.2.2.2.1,v1,x.2.2.2.2.2.2.1,x.2.2.2.2.2.2.2.1,v2) k0 k1 k2) (λy0 y1 y2=>k0 (y0,y1,y2)) (λy0 y1 y2 y3 y4=>k1 (y0,y1,y2,y3,y4)) x.1 x.2.1 x.2.2.2.1 x.2.2.2.2.1 x.2.2.2.2.2.2.1 x.2.2.2.2.2.2.2.1 x.2.2.1 x.2.2.2.2.2.1 x.2.2.2.2.2.2.2.2
def WB[aA] N a0 a1 a2 a3 a4 a5 a6 a7 a8 (k0:Int->Int->Int->O) (k1:(List aB)->Int->Int->Int->aB->O):=uH N N (a0,a1,a2,a3,a4,a5,a6,a7,a8) (λy=>k0 y.1 y.2.1 y.2.2) (λy=>k1 y.1 y.2.1 y.2.2.1 y.2.2.2.1 y.2.2.2.2) (λ_=>none)
def aHE[aA] N a0 a1 a2 a3 a4 a5 a6 a7 a8 (k0:Int->Int->Int->O) (k1:(List aB)->Int->Int->Int->aB->O):=aY BI Od (uH N N) (BI (a0,a1,a2,a3,a4,a5,a6,a7,a8)) (λy=>k0 y.1 y.2.1 y.2.2) (λy=>k1 y.1 y.2.1 y.2.2.1 y.2.2.2.1 y.2.2.2.2) (λ_=>none)
theorem aZI[aA] N:aHE N=WB N:=funext λ_=>funext λ_=>funext λ_=>funext λ_=>funext λ_=>funext λ_=>funext λ_=>funext λ_=>funext λ_=>funext λ_=>funext λ_=>cW aZA _ _ _ _
theorem aZC[aA](N:Nat)(self:Sg->O)(K:Exit->Sg->O)(x:(List aB)×Int×Int×(List aB)×Int×Int×Int×Int×aB):xJ N (λv0 v1 v2=>self (BI (x.1,x.2.1,v0,x.2.2.2.1,x.2.2.2.2.1,v1,x.2.2.2.2.2.2.1,x.2.2.2.2.2.2.2.1,v2))) (λy0 y1 y2=>K (Ol (y0,y1,y2)).1 (Ol (y0,y1,y2)).2) (λy0 y1 y2 y3 y4=>K (Oj (y0,y1,y2,y3,y4)).1 (Oj (y0,y1,y2,y3,y4)).2) x.1 x.2.1 x.2.2.2.1 x.2.2.2.2.1 x.2.2.2.2.2.2.1 x.2.2.2.2.2.2.2.1 x.2.2.1 x.2.2.2.2.2.1 x.2.2.2.2.2.2.2.2=exec (pA N) Tryz.f27.ntmps .d WD (BI x) (eN aHG aYt self K):=by kernel_rfl
theorem aZM N (hc:aF (pA N)):cN (pA N) Tryz.f27.ntmps (.loop WD) Ol Oj (aW 2) (aY BI Od (uH N N)):=
  eV hc (cO WD) (iS aYx aYw .ret (.exit 0) (λ_=>by kernel_rfl) (λ_=>by kernel_rfl) (λ_=>rfl) (λ_=>rfl) (by kernel_rfl)) (n:=N) (λx K=>eW (uH N) (λ_ _ _ _=>rfl) (λn K ih x=>by
    refine fK ?_ (aZC N _ K x);simp only[<-ih];rfl) N x K)
def EA[aA](N:Nat)(self:Int->O)(k0:Int->Int->Int->(List Ex)->O)(k1:Int->Int->O)(x21_0:(List aB))(x21_2 x21_3:Int)(x21_4 x21_5:Int)(x21_6:(List Ex))(x21_1:Int):O:=
  let b0:=Ex.mk (Ex.mk x21_4 x21_5 x21_6).op (Ex.mk x21_4 x21_5 x21_6).num (Ex.mk x21_4 x21_5 x21_6).kids
  br (decide (x21_1<=40))
    (ck (PH N b0.op b0.num b0.kids x21_1)<|
    ck (!decide (Ho N b0.op b0.num b0.kids x21_1=(0:Int))||Mt N x21_0 (Hp N b0.op b0.num b0.kids x21_1))<|
    br (decide (Ho N b0.op b0.num b0.kids x21_1=(0:Int))&&Mq N x21_0 (Hp N b0.op b0.num b0.kids x21_1))
      (k0 0 x21_4 x21_5 x21_6)
      (self (aC.wrap (x21_1+1))))
    (k1 x21_2 x21_3)
def WC:Code:=cK [1,1,1,1,1,1,0,1,0,0] Og
def aHF:Nm:=⟨[0,2,8,11],[],[]⟩
def BH(x:(List aB)×Int×Int×Int×Int×Int×(List Ex)):Sg:=⟨[(0,.e (.sl (.sl .u8)) x.1),(2,.ref 0 0),(8,.ref 1 0),(11,.e (.i .i64) x.2.1)],[(0,.box 25 [.e (.i .i64) x.2.2.1,.e (.i .i64) x.2.2.2.1,.cC]),(1,.box 25 [.e (.i .i64) x.2.2.2.2.1,.e (.i .i64) x.2.2.2.2.2.1,.e (.sl .ex) x.2.2.2.2.2.2])],100⟩
def Oc(σ:Sg):(List aB)×Int×Int×Int×Int×Int×(List Ex):=(aO (.sl (.sl .u8)) 0 0 σ,aO (.i .i64) 11 0 σ,aL (.i .i64) 0 0 σ,aL (.i .i64) 0 1 σ,aL (.i .i64) 1 0 σ,aL (.i .i64) 1 1 σ,aL (.sl .ex) 1 2 σ)
theorem aYz:∀x,Oc (BH x)=x:=λ_=>by kernel_rfl
def Oi(y:Int×Int×Int×(List Ex)):Exit×Sg:=(.ret,⟨[(2,.ref 0 0),(3,.e (.i .i64) y.1)],[(0,.box 25 [.e (.i .i64) y.2.1,.e (.i .i64) y.2.2.1,.e (.sl .ex) y.2.2.2])],100⟩)
def aYv(_:Exit)(σ:Sg):Int×Int×Int×(List Ex):=(aO (.i .i64) 3 0 σ,aL (.i .i64) 0 0 σ,aL (.i .i64) 0 1 σ,aL (.sl .ex) 0 2 σ)
def Oh(y:Int×Int):Exit×Sg:=((.exit 2),⟨[(2,.ref 0 0)],[(0,.box 25 [.e (.i .i64) y.1,.e (.i .i64) y.2,.cC])],100⟩)
def aYu(_:Exit)(σ:Sg):Int×Int:=(aL (.i .i64) 0 0 σ,aL (.i .i64) 0 1 σ)
def aYs:List (Exit×Nm):=[(.ret,⟨[2,3],[],[]⟩),((.exit 2),⟨[2],[],[]⟩)]
def BG[aA](N:Nat):Nat->((List aB)×Int×Int×Int×Int×Int×(List Ex))->((Int×Int×Int×(List Ex))->O)->((Int×Int)->O)->((Unit)->O)->O
  |0,_,_,_,_=>none
  |n+1,x,k0,k1,k2=>EA N (λv0=>BG N n (x.1,v0,x.2.2.1,x.2.2.2.1,x.2.2.2.2.1,x.2.2.2.2.2.1,x.2.2.2.2.2.2) k0 k1 k2) (λy0 y1 y2 y3=>k0 (y0,y1,y2,y3)) (λy0 y1=>k1 (y0,y1)) x.1 x.2.2.1 x.2.2.2.1 x.2.2.2.2.1 x.2.2.2.2.2.1 x.2.2.2.2.2.2 x.2.1
def Of[aA] N a0 a1 a2 a3 a4 a5 a6 (k0:Int->Int->Int->(List Ex)->O) (k1:Int->Int->O):=BG N N (a0,a1,a2,a3,a4,a5,a6) (λy=>k0 y.1 y.2.1 y.2.2.1 y.2.2.2) (λy=>k1 y.1 y.2) (λ_=>none)
def aHD[aA] N a0 a1 a2 a3 a4 a5 a6 (k0:Int->Int->Int->(List Ex)->O) (k1:Int->Int->O):=aY BH Oc (BG N N) (BH (a0,a1,a2,a3,a4,a5,a6)) (λy=>k0 y.1 y.2.1 y.2.2.1 y.2.2.2) (λy=>k1 y.1 y.2) (λ_=>none)
theorem aZH[aA] N:aHD N=Of N:=funext λ_=>funext λ_=>funext λ_=>funext λ_=>funext λ_=>funext λ_=>funext λ_=>funext λ_=>funext λ_=>cW aYz _ _ _ _
theorem aZB[aA](N:Nat)(self:Sg->O)(K:Exit->Sg->O)(x:(List aB)×Int×Int×Int×Int×Int×(List Ex)):EA N (λv0=>self (BH (x.1,v0,x.2.2.1,x.2.2.2.1,x.2.2.2.2.1,x.2.2.2.2.2.1,x.2.2.2.2.2.2))) (λy0 y1 y2 y3=>K (Oi (y0,y1,y2,y3)).1 (Oi (y0,y1,y2,y3)).2) (λy0 y1=>K (Oh (y0,y1)).1 (Oh (y0,y1)).2) x.1 x.2.2.1 x.2.2.2.1 x.2.2.2.2.1 x.2.2.2.2.2.1 x.2.2.2.2.2.2 x.2.1=exec (pA N) Tryz.f27.ntmps .d WC (BH x) (eN aHF aYs self K):=by kernel_rfl
theorem aZL N (hc:aF (pA N)):cN (pA N) Tryz.f27.ntmps (.loop WC) Oi Oh (aW 2) (aY BH Oc (BG N N)):=
  eV hc (cO WC) (iS aYv aYu .ret (.exit 2) (λ_=>by kernel_rfl) (λ_=>by kernel_rfl) (λ_=>rfl) (λ_=>rfl) (by kernel_rfl)) (n:=N) (λx K=>eW (BG N) (λ_ _ _ _=>rfl) (λn K ih x=>by
    refine fK ?_ (aZB N _ K x);simp only[<-ih];rfl) N x K)
def WE[aA](N:Nat)(in0:(List aB)->Int->Int->(List aB)->Int->Int->Int->Int->aB->(Int->Int->Int->O)->((List aB)->Int->Int->Int->aB->O)->O)(in1:(List aB)->Int->Int->Int->Int->Int->(List Ex)->(Int->Int->Int->(List Ex)->O)->(Int->Int->O)->O)(p0:(List aB)):O:=
  in0 p0 0 0 p0 ((↑p0.length:Int)) 0 0 0 []
    (λz13 z14 z15=>
      some (rZ ((Ex.mk z14 z15 []).op) ((Ex.mk z14 z15 []).num) ((Ex.mk z14 z15 []).kids) z13))
    (λz16 z17 z18 z19 z20=>
      ck (IC N z20)<|
      br (decide (Hx N z20≠(0:Int))||decide (Hy N z20≠(↑z20.length:Int))||decide (40<z17))
        (some (rZ 0 0 [] 2))
        (in1 z16 4 z18 z19 (IB N z20) (IA N z20) (Hz N z20)
          (λz22 z23 z24 kB=>
            some (rZ ((Ex.mk z23 z24 kB).op) ((Ex.mk z23 z24 kB).num) ((Ex.mk z23 z24 kB).kids) z22))
          (λ_ _=>
            some (rZ 0 0 [] 2))))
def w27[aA] N p0:=WE N (WB N) (Of N) p0
def aHH[aA](N:Nat):Hint:=(.seq .d (.seq .d (.seq .d (.seq (.seq .d (.block (.sub aHG _ _ _ Ol Oj (aW 2) (aY BI Od (uH N N))))) (.seq .d (.seq .d (.seq (.seq .d (.block (.sub aHF _ _ _ Oi Oh (aW 2) (aY BH Oc (BG N N))))) .d)))))))
theorem aZF N (hc:aF (pA N)):bJ (pA N) Tryz.f27.ntmps (aHH N) Og:=bO _ _ (aG trivial (aG trivial (aG trivial (aG (aG trivial (aZM N hc)) (aG trivial (aG trivial (aG (aG trivial (aZL N hc)) trivial)))))))
theorem aZD[aA] N p0:WE N (aHE N) (aHD N) p0=exec (pA N) Tryz.f27.ntmps (aHH N) Og ⟨bU 0 [.e (.sl (.sl .u8)) p0],[],100⟩ (bX (pA N) Tryz.f27 false):=by kernel_rfl
def Hi(r:aE):Option (Int×Int×(List Ex)×Int):=match r with
  |(.bD [.agg [x0,x1,x2],x3],[])=>(match ue (.i .i64) x0,ue (.i .i64) x1,ue (.sl .ex) x2,ue (.i .i64) x3 with|some a0,some a1,some a2,some a3=>some (a0,a1,a2,a3)|_,_,_,_=>none)
  |_=>none
theorem aYy{r d}(h:Hi r=some d):r=rZ d.1 d.2.1 d.2.2.1 d.2.2.2:=by
  unfold Hi at h;split at h
  . split at h
    . rename_i h0 h1 h2 h3;cases h;rw[aH h0,aH h1,aH h2,aH h3];rfl
    . cases h
  . cases h
def uG N p0:=(w27 N p0).bind Hi
theorem aZG{N}(hc:aF (pA N)){p0 d}(hd:uG N p0=some d):cB Tryz.prog 27 [.e (.sl (.sl .u8)) p0] [] (rZ d.1 d.2.1 d.2.2.1 d.2.2.2):=
  cD hc (by kernel_rfl) (by kernel_rfl) (aZF N hc) (by kernel_rfl) aYy (λhr=>(aZD N p0).symm.trans (by rw[aZI N,aZH N];exact hr)) hd
def Oe N p0:=(uG N p0).isSome
def jE N p0:=((uG N p0).getD (0,0,[],0)).1
def jD N p0:=((uG N p0).getD (0,0,[],0)).2.1
def jC N p0:=((uG N p0).getD (0,0,[],0)).2.2.1
def Hh N p0:=((uG N p0).getD (0,0,[],0)).2.2.2
def aHI(N:Nat):bK:=E1 (.sl (.sl .u8)) (λx0=>(Oe N x0,rZ (jE N x0) (jD N x0) (jC N x0) (Hh N x0)))
theorem aZE N:aM Tryz.prog 27 (aHI N):=aM.e1 (λx0 h=>cY (z:=uG N x0) h (aZG (aZJ N)) rfl)
end
end Go.Proofs
