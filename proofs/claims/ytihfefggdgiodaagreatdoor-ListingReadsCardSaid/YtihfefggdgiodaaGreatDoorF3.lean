/- What functions do. Conditions are in the theorems. -/
import Derived.Test.YtihfefggdgiodaaGreatDoorE7
import Derived.Test.YtihfefggdgiodaaGreatDoorProg
import Derived.KernelRfl
import Derived.Test.YtihfefggdgiodaaGreatDoorF0
import Derived.Test.YtihfefggdgiodaaGreatDoorF2
open And renaming intro->aK
open Eq renaming trans->eZ
open Go.IntKind renaming i64->aS
open Nat renaming le_of_ble_eq_true->eJ
open Option renaming bind_eq_some_iff->jK,isSome_iff_exists->pR
/- What functions do. -/
namespace Go.Proofs
noncomputable section
open Go.Ax Go.Ax.aA Go.RowKit Go.Ab
abbrev aF:=List UInt8
open Go
def DO(a0:Int):aH:=(.e (.i .i64) a0,[])
def r9(_:Nat):Cx:=⟨Tryz.prog,99999,[],[]⟩
def NB:Code:=Tryz.f60.body.getD .skip
theorem aGi N:aJ (r9 N):=cM (by kernel_rfl) .nil .nil
def HC[aA](_:Nat)(self:Int->O)(k0:Int->O)(x0_0:aF)(_x0_1 x0_2:Int):O:=
 gc (decide (0<x0_2)) 0 x0_0 (aS.wrap (x0_2-1)) λy3=>
 br (decide (0<x0_2)&&decide (y3=32))
  (self (aS.wrap (x0_2-1)))
  (k0 x0_2)
def NA:Code:=cX [1,1,0,0,0] NB
def VS:Nm:=⟨[0,2,3],[],[]⟩
def wU(x:aF×Int×Int):Sg:=⟨[(0,.e .tx x.1),(2,.e (.i .i64) x.2.1),(3,.e (.i .i64) x.2.2)],[],100⟩
def Gz(σ:Sg):aF×Int×Int:=(aG .tx 0 0 σ,aG (.i .i64) 2 0 σ,aG (.i .i64) 3 0 σ)
theorem aGc:∀x,Gz (wU x)=x:=λ_=>by kernel_rfl
def HB(y:Int):Exit×Sg:=((.exit 0),⟨[(3,.e (.i .i64) y)],[],100⟩)
def aGa(_:Exit)(σ:Sg):Int:=aG (.i .i64) 3 0 σ
def aG9:List (Exit×Nm):=[((.exit 0),⟨[3],[],[]⟩)]
def wT[aA](N:Nat):Nat->(aF×Int×Int)->((Int)->O)->((Unit)->O)->((Unit)->O)->O
 |0,_,_,_,_=>none
 |n+1,x,k0,k1,k2=>HC N (λv0=>wT N n (x.1,x.2.1,v0) k0 k1 k2) (λy0=>k0 y0) x.1 x.2.1 x.2.2
def My[aA] N a0 a1 a2 (k0:Int->O):=wT N N (a0,a1,a2) (λy=>k0 y) (λ_=>none) (λ_=>none)
def VQ[aA] N a0 a1 a2 (k0:Int->O):=aW wU Gz (wT N N) (wU (a0,a1,a2)) (λy=>k0 y) (λ_=>none) (λ_=>none)
theorem aGh[aA] N:VQ N=My N:=funext λ_=>funext λ_=>funext λ_=>funext λ_=>dY aGc _ _ _ _
theorem aGd[aA](N:Nat)(self:Sg->O)(K:Exit->Sg->O)(x:aF×Int×Int):HC N (λv0=>self (wU (x.1,x.2.1,v0))) (λy0=>K (HB y0).1 (HB y0).2) x.1 x.2.1 x.2.2=exec (r9 N) Tryz.f60.ntmps .d NA (wU x) (dQ VS aG9 self K):=by kernel_rfl
theorem aGj N (hc:aJ (r9 N)):dB (r9 N) Tryz.f60.ntmps (.loop NA) HB (aR 1) (aR 2) (aW wU Gz (wT N N)):=
 eG hc (dS NA) (iZ aGa (.exit 0) (λ_=>by kernel_rfl) (λ_=>rfl) (by kernel_rfl)) (n:=N) (λx K=>eH (wT N) (λ_ _ _ _=>rfl) (λn K ih x=>by
  refine eZ ?_ (aGd N _ K x);simp only[<-ih];rfl) N x K)
def ND[aA](_:Nat)(in0:aF->Int->Int->(Int->O)->O)(s0:aF):O:=
 in0 s0 0 ((↑s0.length:Int))
  (λz4=>
   some (DO z4))
def VY[aA] N s0:=ND N (My N) s0
def VT[aA](N:Nat):Hint:=(.seq .d (.seq .d (.seq (.block (.sub VS _ _ _ HB (aR 1) (aR 2) (aW wU Gz (wT N N)))) .d)))
theorem aGf N (hc:aJ (r9 N)):bN (r9 N) Tryz.f60.ntmps (VT N) NB:=bW _ _ (aK trivial (aK trivial (aK (aGj N hc) trivial)))
theorem aGe[aA] N s0:ND N (VQ N) s0=exec (r9 N) Tryz.f60.ntmps (VT N) NB ⟨cC 0 [.e .tx s0],[],100⟩ (cJ (r9 N) Tryz.f60 false):=by kernel_rfl
def Gy(r:aH):Option (Int):=match r with
 |(x0,[])=>(match ue (.i .i64) x0 with|some a0=>some a0|_=>none)
 |_=>none
theorem aGb{r d}(h:Gy r=some d):r=DO (d):=by
 unfold Gy at h;split at h
 .split at h
  .rename_i h0;cases h;rw[b7 h0];rfl
  .cases h
 .cases h
def BC N s0:=(VY N s0).bind Gy
theorem aGg{N}(hc:aJ (r9 N)){s0 d}(hd:BC N s0=some d):cR Tryz.prog 60 [.e .tx s0] [] (DO (d)):=
 c8 hc (by kernel_rfl) (by kernel_rfl) (aGf N hc) (by kernel_rfl) aGb (λhr=>(aGe N s0).symm.trans (by rw[aGh N];exact hr)) hd
def DP N s0:=(BC N s0).isSome
def DN N s0:=((BC N s0).getD 0)
def Mz(N:Nat):bO:=E1 .tx (λx0=>(DP N x0,DO (DN N x0)))
theorem VR N:aV Tryz.prog 60 (Mz N):=aV.e1 (λx0 h=>dO (z:=BC N x0) h (aGg (aGi N)) rfl)
def qB(a0:aF):aH:=(.e (.sl .u8) a0,[])
def DM(_:Nat):Cx:=⟨Tryz.prog,99999,[],[]⟩
def VL:Code:=Tryz.f61.body.getD .skip
theorem aG8 N:aJ (DM N):=cM (by kernel_rfl) .nil .nil
def Mx[aA](_:Nat)(c0:UInt8):O:=
 br (decide (97<=c0)&&decide (c0<=122))
  (some (qB [c0-(64:UInt8)]))
  (br (decide (64<=c0)&&decide (c0<=90))
   (some (qB [(32:UInt8),c0-(32:UInt8)]))
   (br (decide (c0=95))
    (some (qB [(32:UInt8),(1:UInt8)]))
    (br (decide (c0=96))
     (some (qB [(32:UInt8),(3:UInt8)]))
     (br (decide (123<=c0))
      (some (qB [(32:UInt8),c0-(64:UInt8)]))
      (some (qB [c0-(32:UInt8)]))))))
def VP[aA] N c0:=Mx N c0
def VK[aA](_:Nat):Hint:=.d
theorem aG6 N:bN (DM N) Tryz.f61.ntmps (VK N) VL:=bW _ _ trivial
theorem aG5[aA] N c0:Mx N c0=exec (DM N) Tryz.f61.ntmps (VK N) VL ⟨cC 0 [.e .u8 c0],[],100⟩ (cJ (DM N) Tryz.f61 false):=by kernel_rfl
def wS(r:aH):Option (aF):=match r with
 |(x0,[])=>(match ue (.sl .u8) x0 with|some a0=>some a0|_=>none)
 |_=>none
theorem aG4{r d}(h:wS r=some d):r=qB (d):=by
 unfold wS at h;split at h
 .split at h
  .rename_i h0;cases h;rw[b7 h0];rfl
  .cases h
 .cases h
def BB N c0:=(VP N c0).bind wS
theorem aG7{N}(hc:aJ (DM N)){c0 d}(hd:BB N c0=some d):cR Tryz.prog 61 [.e .u8 c0] [] (qB (d)):=
 c8 hc (by kernel_rfl) (by kernel_rfl) (aG6 N) (by kernel_rfl) aG4 (aG5 N c0).symm.trans hd
def DL N c0:=(BB N c0).isSome
def wR N c0:=((BB N c0).getD [])
def Mw(N:Nat):bO:=E1 .u8 (λx0=>(DL N x0,qB (wR N x0)))
theorem VJ N:aV Tryz.prog 61 (Mw N):=aV.e1 (λx0 h=>dO (z:=BB N x0) h (aG7 (aG8 N)) rfl)
def xY(a0:aF):aH:=(.e (.sl .u8) a0,[])
def nQ(N:Nat):Cx:=⟨Tryz.prog,99999,[(56,V7 N)],[]⟩
def Ij:Code:=Tryz.f34.body.getD .skip
theorem aKy N:aJ (nQ N):=cM (by kernel_rfl) (.cons (by kernel_rfl) (aHK N) .nil) .nil
def Io[aA](_:Nat)(self:Int->Int->O)(k0:(List aF)->Int->O)(x0_0 x0_2:(List aF))(x0_3 x0_1 x0_4:Int):O:=
 br (decide (x0_4<x0_3))
  (gx x0_2 x0_4 λy3=>
  br (decide (aS.wrap (x0_1+(↑y3.length:Int))<(0:Int)))
   (none)
   (self (aS.wrap (x0_1+(↑y3.length:Int))) (aS.wrap (x0_4+1))))
  (k0 x0_0 x0_1)
def O1:Code:=cX [1,1,0,1,0,0] Ij
def Xq:Nm:=⟨[0,3,9,10,11],[],[]⟩
def x8(x:(List aF)×Int×(List aF)×Int×Int):Sg:=⟨[(0,.e (.sl (.sl .u8)) x.1),(3,.e (.i .i64) x.2.1),(9,.e (.sl (.sl .u8)) x.2.2.1),(10,.e (.i .i64) x.2.2.2.1),(11,.e (.i .i64) x.2.2.2.2)],[],100⟩
def Ih(σ:Sg):(List aF)×Int×(List aF)×Int×Int:=(aG (.sl (.sl .u8)) 0 0 σ,aG (.i .i64) 3 0 σ,aG (.sl (.sl .u8)) 9 0 σ,aG (.i .i64) 10 0 σ,aG (.i .i64) 11 0 σ)
theorem aKq:∀x,Ih (x8 x)=x:=λ_=>by kernel_rfl
def Il(y:(List aF)×Int):Exit×Sg:=((.exit 0),⟨[(0,.e (.sl (.sl .u8)) y.1),(3,.e (.i .i64) y.2)],[],100⟩)
def aKn(_:Exit)(σ:Sg):(List aF)×Int:=(aG (.sl (.sl .u8)) 0 0 σ,aG (.i .i64) 3 0 σ)
def aKl:List (Exit×Nm):=[((.exit 0),⟨[0,3],[],[]⟩)]
def xZ[aA](N:Nat):Nat->((List aF)×Int×(List aF)×Int×Int)->(((List aF)×Int)->O)->((Unit)->O)->((Unit)->O)->O
 |0,_,_,_,_=>none
 |n+1,x,k0,k1,k2=>Io N (λv0 v1=>xZ N n (x.1,v0,x.2.2.1,x.2.2.2.1,v1) k0 k1 k2) (λy0 y1=>k0 (y0,y1)) x.1 x.2.2.1 x.2.2.2.1 x.2.1 x.2.2.2.2
def OZ[aA] N a0 a1 a2 a3 a4 (k0:(List aF)->Int->O):=xZ N N (a0,a1,a2,a3,a4) (λy=>k0 y.1 y.2) (λ_=>none) (λ_=>none)
def Xo[aA] N a0 a1 a2 a3 a4 (k0:(List aF)->Int->O):=aW x8 Ih (xZ N N) (x8 (a0,a1,a2,a3,a4)) (λy=>k0 y.1 y.2) (λ_=>none) (λ_=>none)
theorem aKx[aA] N:Xo N=OZ N:=funext λ_=>funext λ_=>funext λ_=>funext λ_=>funext λ_=>funext λ_=>dY aKq _ _ _ _
theorem aKs[aA](N:Nat)(self:Sg->O)(K:Exit->Sg->O)(x:(List aF)×Int×(List aF)×Int×Int):Io N (λv0 v1=>self (x8 (x.1,v0,x.2.2.1,x.2.2.2.1,v1))) (λy0 y1=>K (Il (y0,y1)).1 (Il (y0,y1)).2) x.1 x.2.2.1 x.2.2.2.1 x.2.1 x.2.2.2.2=exec (nQ N) Tryz.f34.ntmps .d O1 (x8 x) (dQ Xq aKl self K):=by kernel_rfl
theorem aLA N (hc:aJ (nQ N)):dB (nQ N) Tryz.f34.ntmps (.loop O1) Il (aR 1) (aR 2) (aW x8 Ih (xZ N N)):=
 eG hc (dS O1) (iZ aKn (.exit 0) (λ_=>by kernel_rfl) (λ_=>rfl) (by kernel_rfl)) (n:=N) (λx K=>eH (xZ N) (λ_ _ _ _=>rfl) (λn K ih x=>by
  refine eZ ?_ (aKs N _ K x);simp only[<-ih];rfl) N x K)
def Im[aA](_:Nat)(self:Int->aF->O)(k0:aF->O)(x6_0:(List aF))(x6_1 x6_2:Int)(x6_3:aF):O:=
 br (decide (x6_2<x6_1))
  (gx x6_0 x6_2 λy9=>
  ck (b8 (x6_3++y9).length (1:Nat))<|
  self (aS.wrap (x6_2+1)) (x6_3++y9))
  (k0 x6_3)
def O0:Code:=cX [1,1,1,1,0,1,0,0] Ij
def Xp:Nm:=⟨[6,25,26,27],[],[]⟩
def x6(x:(List aF)×Int×Int×aF):Sg:=⟨[(6,.own 0),(25,.e (.sl (.sl .u8)) x.1),(26,.e (.i .i64) x.2.1),(27,.e (.i .i64) x.2.2.1)],[(0,.row 5 .u8 x.2.2.2 true)],100⟩
def Ig(σ:Sg):(List aF)×Int×Int×aF:=(aG (.sl (.sl .u8)) 25 0 σ,aG (.i .i64) 26 0 σ,aG (.i .i64) 27 0 σ,cI .u8 0 σ)
theorem aKp:∀x,Ig (x6 x)=x:=λ_=>by kernel_rfl
def Ik(y:aF):Exit×Sg:=((.exit 2),⟨[(6,.own 0)],[(0,.row 5 .u8 y true)],100⟩)
def aKm(_:Exit)(σ:Sg):aF:=cI .u8 0 σ
def aKk:List (Exit×Nm):=[((.exit 2),⟨[6],[],[]⟩)]
def uL[aA](N:Nat):Nat->((List aF)×Int×Int×aF)->((aF)->O)->((Unit)->O)->((Unit)->O)->O
 |0,_,_,_,_=>none
 |n+1,x,k0,k1,k2=>Im N (λv0 v1=>uL N n (x.1,x.2.1,v0,v1) k0 k1 k2) (λy0=>k0 y0) x.1 x.2.1 x.2.2.1 x.2.2.2
def OY[aA] N a0 a1 a2 a3 (k0:aF->O):=uL N N (a0,a1,a2,a3) (λy=>k0 y) (λ_=>none) (λ_=>none)
def Xn[aA] N a0 a1 a2 a3 (k0:aF->O):=aW x6 Ig (uL N N) (x6 (a0,a1,a2,a3)) (λy=>k0 y) (λ_=>none) (λ_=>none)
theorem aKw[aA] N:Xn N=OY N:=funext λ_=>funext λ_=>funext λ_=>funext λ_=>funext λ_=>dY aKp _ _ _ _
theorem aKr[aA](N:Nat)(self:Sg->O)(K:Exit->Sg->O)(x:(List aF)×Int×Int×aF):Im N (λv0 v1=>self (x6 (x.1,x.2.1,v0,v1))) (λy0=>K (Ik y0).1 (Ik y0).2) x.1 x.2.1 x.2.2.1 x.2.2.2=exec (nQ N) Tryz.f34.ntmps .d O0 (x6 x) (dQ Xp aKk self K):=by kernel_rfl
theorem aKz N (hc:aJ (nQ N)):dB (nQ N) Tryz.f34.ntmps (.loop O0) Ik (aR 1) (aR 2) (aW x6 Ig (uL N N)):=
 eG hc (dS O0) (iZ aKm (.exit 2) (λ_=>by kernel_rfl) (λ_=>rfl) (by kernel_rfl)) (n:=N) (λx K=>eH (uL N) (λ_ _ _ _=>rfl) (λn K ih x=>by
  refine eZ ?_ (aKr N _ K x);simp only[<-ih];rfl) N x K)
def O4[aA](N:Nat)(in0:(List aF)->Int->(List aF)->Int->Int->((List aF)->Int->O)->O)(in1:(List aF)->Int->Int->aF->(aF->O)->O)(slices0:(List aF)):O:=
 in0 slices0 0 slices0 ((↑slices0.length:Int)) 0
  (λz4 z5=>
   ck (DS N z5)<|
   in1 z4 ((↑z4.length:Int)) 0 []
    (λz10=>
     some (xY z10)))
def Xv[aA] N slices0:=O4 N (OZ N) (OY N) slices0
def Xr[aA](N:Nat):Hint:=(.seq .d (.seq .d (.seq (.seq .d (.block (.sub Xq _ _ _ Il (aR 1) (aR 2) (aW x8 Ih (xZ N N))))) (.seq .d (.seq (.seq .d (.block (.sub Xp _ _ _ Ik (aR 1) (aR 2) (aW x6 Ig (uL N N))))) .d)))))
theorem aKu N (hc:aJ (nQ N)):bN (nQ N) Tryz.f34.ntmps (Xr N) Ij:=bW _ _ (aK trivial (aK trivial (aK (aK trivial (aLA N hc)) (aK trivial (aK (aK trivial (aKz N hc)) trivial)))))
theorem aKt[aA] N slices0:O4 N (Xo N) (Xn N) slices0=exec (nQ N) Tryz.f34.ntmps (Xr N) Ij ⟨cC 0 [.e (.sl (.sl .u8)) slices0],[],100⟩ (cJ (nQ N) Tryz.f34 false):=by kernel_rfl
def If(r:aH):Option (aF):=match r with
 |(x0,[])=>(match ue (.sl .u8) x0 with|some a0=>some a0|_=>none)
 |_=>none
theorem aKo{r d}(h:If r=some d):r=xY (d):=by
 unfold If at h;split at h
 .split at h
  .rename_i h0;cases h;rw[b7 h0];rfl
  .cases h
 .cases h
def BX N slices0:=(Xv N slices0).bind If
theorem aKv{N}(hc:aJ (nQ N)){slices0 d}(hd:BX N slices0=some d):cR Tryz.prog 34 [.e (.sl (.sl .u8)) slices0] [] (xY (d)):=
 c8 hc (by kernel_rfl) (by kernel_rfl) (aKu N hc) (by kernel_rfl) aKo (λhr=>(aKt N slices0).symm.trans (by rw[aKx N,aKw N];exact hr)) hd
def uK N slices0:=(BX N slices0).isSome
def qF N slices0:=((BX N slices0).getD [])
def Ii(N:Nat):bO:=E1 (.sl (.sl .u8)) (λx0=>(uK N x0,xY (qF N x0)))
theorem OX N:aV Tryz.prog 34 (Ii N):=aV.e1 (λx0 h=>dO (z:=BX N x0) h (aKv (aKy N)) rfl)
def wK(a0:Int):aH:=(.e (.i .i64) a0,[])
def rV(N:Nat):Cx:=⟨Tryz.prog,99999,[(55,HO N)],[]⟩
def Mc:Code:=Tryz.f72.body.getD .skip
theorem aF8 N:aJ (rV N):=cM (by kernel_rfl) (.cons (by kernel_rfl) (NR N) .nil) .nil
def Ge[aA](N:Nat)(self:Int->O)(k0:Int->O)(k1:Unit->O)(x0_0:aF)(x0_1 x0_2:Int):O:=
 br (decide (x0_2<x0_1))
  (gx x0_0 x0_2 λy3=>
  ck (sA N y3)<|
  br (oV N y3)
   (k0 x0_2)
   (self (aS.wrap (x0_2+1))))
  (k1 ())
def Mb:Code:=cX [1,0,1,0,0] Mc
def U2:Nm:=⟨[0,1,7,8],[],[]⟩
def wL(x:aF×Int×Int):Sg:=⟨[(0,.e (.sl .u8) x.1),(1,.fn 55 []),(7,.e (.i .i64) x.2.1),(8,.e (.i .i64) x.2.2)],[],100⟩
def G9(σ:Sg):aF×Int×Int:=(aG (.sl .u8) 0 0 σ,aG (.i .i64) 7 0 σ,aG (.i .i64) 8 0 σ)
theorem aF1:∀x,G9 (wL x)=x:=λ_=>by kernel_rfl
def Gc(y:Int):Exit×Sg:=(.ret,⟨[(4,.e (.i .i64) y)],[],100⟩)
def aFZ(_:Exit)(σ:Sg):Int:=aG (.i .i64) 4 0 σ
def Gb(_:Unit):Exit×Sg:=((.exit 0),⟨[],[],100⟩)
def aFY(_:Exit)(_:Sg):Unit:=()
def aFX:List (Exit×Nm):=[(.ret,⟨[4],[],[]⟩),((.exit 0),⟨[],[],[]⟩)]
def qA[aA](N:Nat):Nat->(aF×Int×Int)->((Int)->O)->((Unit)->O)->((Unit)->O)->O
 |0,_,_,_,_=>none
 |n+1,x,k0,k1,k2=>Ge N (λv0=>qA N n (x.1,x.2.1,v0) k0 k1 k2) (λy0=>k0 y0) (λ(_:Unit)=>k1 ()) x.1 x.2.1 x.2.2
def Ma[aA] N a0 a1 a2 (k0:Int->O) (k1:Unit->O):=qA N N (a0,a1,a2) (λy=>k0 y) (λy=>k1 y) (λ_=>none)
def U1[aA] N a0 a1 a2 (k0:Int->O) (k1:Unit->O):=aW wL G9 (qA N N) (wL (a0,a1,a2)) (λy=>k0 y) (λy=>k1 y) (λ_=>none)
theorem aF7[aA] N:U1 N=Ma N:=funext λ_=>funext λ_=>funext λ_=>funext λ_=>funext λ_=>dY aF1 _ _ _ _
theorem aF2[aA](N:Nat)(self:Sg->O)(K:Exit->Sg->O)(x:aF×Int×Int):Ge N (λv0=>self (wL (x.1,x.2.1,v0))) (λy0=>K (Gc y0).1 (Gc y0).2) (λ(_:Unit)=>K (Gb ()).1 (Gb ()).2) x.1 x.2.1 x.2.2=exec (rV N) Tryz.f72.ntmps .d Mb (wL x) (dQ U2 aFX self K):=by kernel_rfl
theorem aFa N (hc:aJ (rV N)):dB (rV N) Tryz.f72.ntmps (.loop Mb) Gc Gb (aR 2) (aW wL G9 (qA N N)):=
 eG hc (dS Mb) (jI aFZ aFY .ret (.exit 0) (λ_=>by kernel_rfl) (λ_=>by kernel_rfl) (λ_=>rfl) (λ_=>rfl) (by kernel_rfl)) (n:=N) (λx K=>eH (qA N) (λ_ _ _ _=>rfl) (λn K ih x=>by
  refine eZ ?_ (aF2 N _ K x);simp only[<-ih];rfl) N x K)
def Md[aA](_:Nat)(in0:aF->Int->Int->(Int->O)->(Unit->O)->O)(s0:aF):O:=
 in0 s0 ((↑s0.length:Int)) 0
  (λz4=>
   some (wK z4))
  (λ(_:Unit)=>
   some (wK ((-1:Int))))
def U6[aA] N s0:=Md N (Ma N) s0
def U3[aA](N:Nat):Hint:=(.seq .d (.seq (.seq .d (.block (.sub U2 _ _ _ Gc Gb (aR 2) (aW wL G9 (qA N N))))) .d))
theorem aF5 N (hc:aJ (rV N)):bN (rV N) Tryz.f72.ntmps (U3 N) Mc:=bW _ _ (aK trivial (aK (aK trivial (aFa N hc)) trivial))
theorem aF3[aA] N s0:Md N (U1 N) s0=exec (rV N) Tryz.f72.ntmps (U3 N) Mc ⟨cC 0 [.e (.sl .u8) s0,.fn 55 []],[],100⟩ (cJ (rV N) Tryz.f72 false):=by kernel_rfl
def DA(r:aH):Option (Int):=match r with
 |(x0,[])=>(match ue (.i .i64) x0 with|some a0=>some a0|_=>none)
 |_=>none
theorem aF0{r d}(h:DA r=some d):r=wK (d):=by
 unfold DA at h;split at h
 .split at h
  .rename_i h0;cases h;rw[b7 h0];rfl
  .cases h
 .cases h
def Aw N s0:=(U6 N s0).bind DA
theorem aF6{N}(hc:aJ (rV N)){s0 d}(hd:Aw N s0=some d):cR Tryz.prog 72 [.e (.sl .u8) s0,.fn 55 []] [] (wK (d)):=
 c8 hc (by kernel_rfl) (by kernel_rfl) (aF5 N hc) (by kernel_rfl) aF0 (λhr=>(aF3 N s0).symm.trans (by rw[aF7 N];exact hr)) hd
def Ga N s0:=(Aw N s0).isSome
def G8 N s0:=((Aw N s0).getD 0)
def U4(N:Nat):bO:=v8 (.sl .u8) 55 (λx0=>(Ga N x0,wK (G8 N x0)))
theorem aF4 N:aV Tryz.prog 72 (U4 N):=aV.f1 (λx0 h=>dO (z:=Aw N x0) h (aF6 (aF8 N)) rfl)
def HQ(a0:Bool):aH:=(.e .bo a0,[])
def DT(N:Nat):Cx:=⟨Tryz.prog,99999,[(55,HO N),(72,U4 N)],[]⟩
def Vf:Code:=Tryz.f53.body.getD .skip
theorem aH6 N:aJ (DT N):=cM (by kernel_rfl) (.cons (by kernel_rfl) (NR N) (.cons (by kernel_rfl) (aF4 N) .nil)) .nil
def NU[aA](N:Nat)(s0:aF):O:=
 ck (Ga N s0)<|
 some (HQ (decide ((0:Int)<=G8 N s0)))
def Vh[aA] N s0:=NU N s0
def Vd[aA](_:Nat):Hint:=.d
theorem aH4 N:bN (DT N) Tryz.f53.ntmps (Vd N) Vf:=bW _ _ trivial
theorem aH2[aA] N s0:NU N s0=exec (DT N) Tryz.f53.ntmps (Vd N) Vf ⟨cC 0 [.e (.sl .u8) s0,.fn 55 []],[],100⟩ (cJ (DT N) Tryz.f53 false):=by kernel_rfl
def NT(r:aH):Option (Bool):=match r with
 |(x0,[])=>(match ue .bo x0 with|some a0=>some a0|_=>none)
 |_=>none
theorem aH1{r d}(h:NT r=some d):r=HQ (d):=by
 unfold NT at h;split at h
 .split at h
  .rename_i h0;cases h;rw[b7 h0];rfl
  .cases h
 .cases h
def BH N s0:=(Vh N s0).bind NT
theorem aH5{N}(hc:aJ (DT N)){s0 d}(hd:BH N s0=some d):cR Tryz.prog 53 [.e (.sl .u8) s0,.fn 55 []] [] (HQ (d)):=
 c8 hc (by kernel_rfl) (by kernel_rfl) (aH4 N) (by kernel_rfl) aH1 (aH2 N s0).symm.trans hd
def HR N s0:=(BH N s0).isSome
def HP N s0:=((BH N s0).getD false)
def Ve(N:Nat):bO:=v8 (.sl .u8) 55 (λx0=>(HR N x0,HQ (HP N x0)))
theorem aH3 N:aV Tryz.prog 53 (Ve N):=aV.f1 (λx0 h=>dO (z:=BH N x0) h (aH5 (aH6 N)) rfl)
def Gt(a0:Bool):aH:=(.e .bo a0,[])
def DJ(_:Nat):Cx:=⟨Tryz.prog,99999,[],[]⟩
def VB:Code:=Tryz.f63.body.getD .skip
theorem aGU N:aJ (DJ N):=cM (by kernel_rfl) .nil .nil
def VD[aA](_:Nat)(s0:aF):O:=
 some (Gt (decide ((80:Int)<(↑s0.length:Int))))
def w63[aA] N s0:=VD N s0
def VA[aA](_:Nat):Hint:=.d
theorem aGS N:bN (DJ N) Tryz.f63.ntmps (VA N) VB:=bW _ _ trivial
theorem aGR[aA] N s0:VD N s0=exec (DJ N) Tryz.f63.ntmps (VA N) VB ⟨cC 0 [.e .tx s0],[],100⟩ (cJ (DJ N) Tryz.f63 false):=by kernel_rfl
def Mr(r:aH):Option (Bool):=match r with
 |(x0,[])=>(match ue .bo x0 with|some a0=>some a0|_=>none)
 |_=>none
theorem aGQ{r d}(h:Mr r=some d):r=Gt (d):=by
 unfold Mr at h;split at h
 .split at h
  .rename_i h0;cases h;rw[b7 h0];rfl
  .cases h
 .cases h
def DI N s0:=(w63 N s0).bind Mr
theorem aGT{N}(hc:aJ (DJ N)){s0 d}(hd:DI N s0=some d):cR Tryz.prog 63 [.e .tx s0] [] (Gt (d)):=
 c8 hc (by kernel_rfl) (by kernel_rfl) (aGS N) (by kernel_rfl) aGQ (aGR N s0).symm.trans hd
def r8 N s0:=(DI N s0).isSome
def r7 N s0:=((DI N s0).getD false)
def Gu(N:Nat):bO:=E1 .tx (λx0=>(r8 N x0,Gt (r7 N x0)))
theorem Ms N:aV Tryz.prog 63 (Gu N):=aV.e1 (λx0 h=>dO (z:=DI N x0) h (aGT (aGU N)) rfl)
def wG(a0:Int):aH:=(.e (.i .i64) a0,[])
def rS(N:Nat):Cx:=⟨Tryz.prog,99999,[(63,Gu N)],[]⟩
def M5:Code:=Tryz.f77.body.getD .skip
theorem aFE N:aJ (rS N):=cM (by kernel_rfl) (.cons (by kernel_rfl) (Ms N) .nil) .nil
def G3[aA](N:Nat)(self:Int->O)(k0:Int->O)(k1:Unit->O)(x0_0:(List aF))(x0_1 x0_2:Int):O:=
 br (decide (x0_2<x0_1))
  (gx x0_0 x0_2 λy3=>
  ck (r8 N y3)<|
  br (r7 N y3)
   (k0 x0_2)
   (self (aS.wrap (x0_2+1))))
  (k1 ())
def M4:Code:=cX [1,0,1,0,0] M5
def UR:Nm:=⟨[0,1,7,8],[],[]⟩
def wH(x:(List aF)×Int×Int):Sg:=⟨[(0,.e (.sl .tx) x.1),(1,.fn 63 []),(7,.e (.i .i64) x.2.1),(8,.e (.i .i64) x.2.2)],[],100⟩
def GY(σ:Sg):(List aF)×Int×Int:=(aG (.sl .tx) 0 0 σ,aG (.i .i64) 7 0 σ,aG (.i .i64) 8 0 σ)
theorem aEx:∀x,GY (wH x)=x:=λ_=>by kernel_rfl
def G2(y:Int):Exit×Sg:=(.ret,⟨[(4,.e (.i .i64) y)],[],100⟩)
def aEv(_:Exit)(σ:Sg):Int:=aG (.i .i64) 4 0 σ
def G1(_:Unit):Exit×Sg:=((.exit 0),⟨[],[],100⟩)
def aEu(_:Exit)(_:Sg):Unit:=()
def aEt:List (Exit×Nm):=[(.ret,⟨[4],[],[]⟩),((.exit 0),⟨[],[],[]⟩)]
def p9[aA](N:Nat):Nat->((List aF)×Int×Int)->((Int)->O)->((Unit)->O)->((Unit)->O)->O
 |0,_,_,_,_=>none
 |n+1,x,k0,k1,k2=>G3 N (λv0=>p9 N n (x.1,x.2.1,v0) k0 k1 k2) (λy0=>k0 y0) (λ(_:Unit)=>k1 ()) x.1 x.2.1 x.2.2
def M3[aA] N a0 a1 a2 (k0:Int->O) (k1:Unit->O):=p9 N N (a0,a1,a2) (λy=>k0 y) (λy=>k1 y) (λ_=>none)
def UQ[aA] N a0 a1 a2 (k0:Int->O) (k1:Unit->O):=aW wH GY (p9 N N) (wH (a0,a1,a2)) (λy=>k0 y) (λy=>k1 y) (λ_=>none)
theorem aFD[aA] N:UQ N=M3 N:=funext λ_=>funext λ_=>funext λ_=>funext λ_=>funext λ_=>dY aEx _ _ _ _
theorem aEy[aA](N:Nat)(self:Sg->O)(K:Exit->Sg->O)(x:(List aF)×Int×Int):G3 N (λv0=>self (wH (x.1,x.2.1,v0))) (λy0=>K (G2 y0).1 (G2 y0).2) (λ(_:Unit)=>K (G1 ()).1 (G1 ()).2) x.1 x.2.1 x.2.2=exec (rS N) Tryz.f77.ntmps .d M4 (wH x) (dQ UR aEt self K):=by kernel_rfl
theorem aFG N (hc:aJ (rS N)):dB (rS N) Tryz.f77.ntmps (.loop M4) G2 G1 (aR 2) (aW wH GY (p9 N N)):=
 eG hc (dS M4) (jI aEv aEu .ret (.exit 0) (λ_=>by kernel_rfl) (λ_=>by kernel_rfl) (λ_=>rfl) (λ_=>rfl) (by kernel_rfl)) (n:=N) (λx K=>eH (p9 N) (λ_ _ _ _=>rfl) (λn K ih x=>by
  refine eZ ?_ (aEy N _ K x);simp only[<-ih];rfl) N x K)
def M6[aA](_:Nat)(in0:(List aF)->Int->Int->(Int->O)->(Unit->O)->O)(s0:(List aF)):O:=
 in0 s0 ((↑s0.length:Int)) 0
  (λz4=>
   some (wG z4))
  (λ(_:Unit)=>
   some (wG ((-1:Int))))
def UW[aA] N s0:=M6 N (M3 N) s0
def US[aA](N:Nat):Hint:=(.seq .d (.seq (.seq .d (.block (.sub UR _ _ _ G2 G1 (aR 2) (aW wH GY (p9 N N))))) .d))
theorem aFB N (hc:aJ (rS N)):bN (rS N) Tryz.f77.ntmps (US N) M5:=bW _ _ (aK trivial (aK (aK trivial (aFG N hc)) trivial))
theorem aEz[aA] N s0:M6 N (UQ N) s0=exec (rS N) Tryz.f77.ntmps (US N) M5 ⟨cC 0 [.e (.sl .tx) s0,.fn 63 []],[],100⟩ (cJ (rS N) Tryz.f77 false):=by kernel_rfl
def Cv(r:aH):Option (Int):=match r with
 |(x0,[])=>(match ue (.i .i64) x0 with|some a0=>some a0|_=>none)
 |_=>none
theorem aEw{r d}(h:Cv r=some d):r=wG (d):=by
 unfold Cv at h;split at h
 .split at h
  .rename_i h0;cases h;rw[b7 h0];rfl
  .cases h
 .cases h
def At N s0:=(UW N s0).bind Cv
theorem aFC{N}(hc:aJ (rS N)){s0 d}(hd:At N s0=some d):cR Tryz.prog 77 [.e (.sl .tx) s0,.fn 63 []] [] (wG (d)):=
 c8 hc (by kernel_rfl) (by kernel_rfl) (aFB N hc) (by kernel_rfl) aEw (λhr=>(aEz N s0).symm.trans (by rw[aFD N];exact hr)) hd
def GZ N s0:=(At N s0).isSome
def GX N s0:=((At N s0).getD 0)
def UT(N:Nat):bO:=v8 (.sl .tx) 63 (λx0=>(GZ N x0,wG (GX N x0)))
theorem aFA N:aV Tryz.prog 77 (UT N):=aV.f1 (λx0 h=>dO (z:=At N x0) h (aFC (aFE N)) rfl)
def Gw(a0:Bool):aH:=(.e .bo a0,[])
def DK(N:Nat):Cx:=⟨Tryz.prog,99999,[(63,Gu N),(77,UT N)],[]⟩
def VG:Code:=Tryz.f62.body.getD .skip
theorem aG1 N:aJ (DK N):=cM (by kernel_rfl) (.cons (by kernel_rfl) (Ms N) (.cons (by kernel_rfl) (aFA N) .nil)) .nil
def Mu[aA](N:Nat)(s0:(List aF)):O:=
 ck (GZ N s0)<|
 some (Gw (decide ((0:Int)<=GX N s0)))
def VI[aA] N s0:=Mu N s0
def VE[aA](_:Nat):Hint:=.d
theorem aGZ N:bN (DK N) Tryz.f62.ntmps (VE N) VG:=bW _ _ trivial
theorem aGX[aA] N s0:Mu N s0=exec (DK N) Tryz.f62.ntmps (VE N) VG ⟨cC 0 [.e (.sl .tx) s0,.fn 63 []],[],100⟩ (cJ (DK N) Tryz.f62 false):=by kernel_rfl
def Mt(r:aH):Option (Bool):=match r with
 |(x0,[])=>(match ue .bo x0 with|some a0=>some a0|_=>none)
 |_=>none
theorem aGW{r d}(h:Mt r=some d):r=Gw (d):=by
 unfold Mt at h;split at h
 .split at h
  .rename_i h0;cases h;rw[b7 h0];rfl
  .cases h
 .cases h
def BA N s0:=(VI N s0).bind Mt
theorem aG0{N}(hc:aJ (DK N)){s0 d}(hd:BA N s0=some d):cR Tryz.prog 62 [.e (.sl .tx) s0,.fn 63 []] [] (Gw (d)):=
 c8 hc (by kernel_rfl) (by kernel_rfl) (aGZ N) (by kernel_rfl) aGW (aGX N s0).symm.trans hd
def Gx N s0:=(BA N s0).isSome
def Gv N s0:=((BA N s0).getD false)
def VF(N:Nat):bO:=v8 (.sl .tx) 63 (λx0=>(Gx N x0,Gw (Gv N x0)))
theorem aGY N:aV Tryz.prog 62 (VF N):=aV.f1 (λx0 h=>dO (z:=BA N x0) h (aG0 (aG1 N)) rfl)
def IK(a0:Bool):aH:=(.e .bo a0,[])
def Dd(_:Nat):Cx:=⟨Tryz.prog,99999,[],[]⟩
def XI:Code:=Tryz.f42.body.getD .skip
theorem aJk N:aJ (Dd N):=cM (by kernel_rfl) .nil .nil
def XJ[aA](_:Nat)(a0 b1:aF):O:=
 some (IK (decide (a0=b1)))
def w42[aA] N a0 b1:=XJ N a0 b1
def XG[aA](_:Nat):Hint:=.d
theorem aJi N:bN (Dd N) Tryz.f42.ntmps (XG N) XI:=bW _ _ trivial
theorem aJh[aA] N a0 b1:XJ N a0 b1=exec (Dd N) Tryz.f42.ntmps (XG N) XI ⟨cC 0 [.e (.sl .u8) a0,.e (.sl .u8) b1],[],100⟩ (cJ (Dd N) Tryz.f42 false):=by kernel_rfl
def OA(r:aH):Option (Bool):=match r with
 |(x0,[])=>(match ue .bo x0 with|some a0=>some a0|_=>none)
 |_=>none
theorem aJg{r d}(h:OA r=some d):r=IK (d):=by
 unfold OA at h;split at h
 .split at h
  .rename_i h0;cases h;rw[b7 h0];rfl
  .cases h
 .cases h
def Db N a0 b1:=(w42 N a0 b1).bind OA
theorem aJj{N}(hc:aJ (Dd N)){a0 b1 d}(hd:Db N a0 b1=some d):cR Tryz.prog 42 [.e (.sl .u8) a0,.e (.sl .u8) b1] [] (IK (d)):=
 c8 hc (by kernel_rfl) (by kernel_rfl) (aJi N) (by kernel_rfl) aJg (aJh N a0 b1).symm.trans hd
def sE N a0 b1:=(Db N a0 b1).isSome
def sD N a0 b1:=((Db N a0 b1).getD false)
def BQ(N:Nat):bO:=E2 (.sl .u8) (.sl .u8) (λx0 x1=>(sE N x0 x1,IK (sD N x0 x1)))
theorem Dc N:aV Tryz.prog 42 (BQ N):=aV.e2 (λx0 x1 h=>dO (z:=Db N x0 x1) h (aJj (aJk N)) rfl)
def uH(a0:Bool):aH:=(.e .bo a0,[])
def sB(N:Nat):Cx:=⟨Tryz.prog,99999,[(42,BQ N)],[]⟩
def N6:Code:=Tryz.f50.body.getD .skip
theorem aIO N:aJ (sB N):=cM (by kernel_rfl) (.cons (by kernel_rfl) (Dc N) .nil) .nil
def Hb[aA](N:Nat)(self:Int->O)(k0:Bool->O)(k1:Unit->O)(x0_0 x0_1:(List aF))(x0_2 x0_3:Int):O:=
 br (decide (x0_3<x0_2))
  (gx x0_1 x0_3 λy5=>
  gx x0_0 x0_3 λy6=>
  ck (sE N y5 y6)<|
  br (!sD N y5 y6)
   (k0 false)
   (self (aS.wrap (x0_3+1))))
  (k1 ())
def N5:Code:=cX [1,1,0,1,0,0] N6
def Vz:Nm:=⟨[1,2,15,16,17],[],[]⟩
def w8(x:(List aF)×(List aF)×Int×Int):Sg:=⟨[(1,.e (.sl (.sl .u8)) x.1),(2,.fn 42 []),(15,.e (.sl (.sl .u8)) x.2.1),(16,.e (.i .i64) x.2.2.1),(17,.e (.i .i64) x.2.2.2)],[],100⟩
def H7(σ:Sg):(List aF)×(List aF)×Int×Int:=(aG (.sl (.sl .u8)) 1 0 σ,aG (.sl (.sl .u8)) 15 0 σ,aG (.i .i64) 16 0 σ,aG (.i .i64) 17 0 σ)
theorem aIH:∀x,H7 (w8 x)=x:=λ_=>by kernel_rfl
def Ha(y:Bool):Exit×Sg:=(.ret,⟨[(6,.e .bo y)],[],100⟩)
def aIF(_:Exit)(σ:Sg):Bool:=aG .bo 6 0 σ
def H9(_:Unit):Exit×Sg:=((.exit 0),⟨[],[],100⟩)
def aIE(_:Exit)(_:Sg):Unit:=()
def aID:List (Exit×Nm):=[(.ret,⟨[6],[],[]⟩),((.exit 0),⟨[],[],[]⟩)]
def w7[aA](N:Nat):Nat->((List aF)×(List aF)×Int×Int)->((Bool)->O)->((Unit)->O)->((Unit)->O)->O
 |0,_,_,_,_=>none
 |n+1,x,k0,k1,k2=>Hb N (λv0=>w7 N n (x.1,x.2.1,x.2.2.1,v0) k0 k1 k2) (λy0=>k0 y0) (λ(_:Unit)=>k1 ()) x.1 x.2.1 x.2.2.1 x.2.2.2
def N4[aA] N a0 a1 a2 a3 (k0:Bool->O) (k1:Unit->O):=w7 N N (a0,a1,a2,a3) (λy=>k0 y) (λy=>k1 y) (λ_=>none)
def Vy[aA] N a0 a1 a2 a3 (k0:Bool->O) (k1:Unit->O):=aW w8 H7 (w7 N N) (w8 (a0,a1,a2,a3)) (λy=>k0 y) (λy=>k1 y) (λ_=>none)
theorem aIN[aA] N:Vy N=N4 N:=funext λ_=>funext λ_=>funext λ_=>funext λ_=>funext λ_=>funext λ_=>dY aIH _ _ _ _
theorem aII[aA](N:Nat)(self:Sg->O)(K:Exit->Sg->O)(x:(List aF)×(List aF)×Int×Int):Hb N (λv0=>self (w8 (x.1,x.2.1,x.2.2.1,v0))) (λy0=>K (Ha y0).1 (Ha y0).2) (λ(_:Unit)=>K (H9 ()).1 (H9 ()).2) x.1 x.2.1 x.2.2.1 x.2.2.2=exec (sB N) Tryz.f50.ntmps .d N5 (w8 x) (dQ Vz aID self K):=by kernel_rfl
theorem aIR N (hc:aJ (sB N)):dB (sB N) Tryz.f50.ntmps (.loop N5) Ha H9 (aR 2) (aW w8 H7 (w7 N N)):=
 eG hc (dS N5) (jI aIF aIE .ret (.exit 0) (λ_=>by kernel_rfl) (λ_=>by kernel_rfl) (λ_=>rfl) (λ_=>rfl) (by kernel_rfl)) (n:=N) (λx K=>eH (w7 N) (λ_ _ _ _=>rfl) (λn K ih x=>by
  refine eZ ?_ (aII N _ K x);simp only[<-ih];rfl) N x K)
def N7[aA](_:Nat)(in0:(List aF)->(List aF)->Int->Int->(Bool->O)->(Unit->O)->O)(s10 s21:(List aF)):O:=
 br (decide ((↑s10.length:Int)≠(↑s21.length:Int)))
  (some (uH false))
  (in0 s21 s10 ((↑s10.length:Int)) 0
   (λz7=>
    some (uH z7))
   (λ(_:Unit)=>
    some (uH true)))
def WG[aA] N s10 s21:=N7 N (N4 N) s10 s21
def WB[aA](N:Nat):Hint:=(.seq .d (.seq .d (.seq (.seq .d (.block (.sub Vz _ _ _ Ha H9 (aR 2) (aW w8 H7 (w7 N N))))) .d)))
theorem aIL N (hc:aJ (sB N)):bN (sB N) Tryz.f50.ntmps (WB N) N6:=bW _ _ (aK trivial (aK trivial (aK (aK trivial (aIR N hc)) trivial)))
theorem aIJ[aA] N s10 s21:N7 N (Vy N) s10 s21=exec (sB N) Tryz.f50.ntmps (WB N) N6 ⟨cC 0 [.e (.sl (.sl .u8)) s10,.e (.sl (.sl .u8)) s21,.fn 42 []],[],100⟩ (cJ (sB N) Tryz.f50 false):=by kernel_rfl
def H6(r:aH):Option (Bool):=match r with
 |(x0,[])=>(match ue .bo x0 with|some a0=>some a0|_=>none)
 |_=>none
theorem aIG{r d}(h:H6 r=some d):r=uH (d):=by
 unfold H6 at h;split at h
 .split at h
  .rename_i h0;cases h;rw[b7 h0];rfl
  .cases h
 .cases h
def BI N s10 s21:=(WG N s10 s21).bind H6
theorem aIM{N}(hc:aJ (sB N)){s10 s21 d}(hd:BI N s10 s21=some d):cR Tryz.prog 50 [.e (.sl (.sl .u8)) s10,.e (.sl (.sl .u8)) s21,.fn 42 []] [] (uH (d)):=
 c8 hc (by kernel_rfl) (by kernel_rfl) (aIL N hc) (by kernel_rfl) aIG (λhr=>(aIJ N s10 s21).symm.trans (by rw[aIN N];exact hr)) hd
def H8 N s10 s21:=(BI N s10 s21).isSome
def H5 N s10 s21:=((BI N s10 s21).getD false)
def WC(N:Nat):bO:=Tm (.sl (.sl .u8)) (.sl (.sl .u8)) 42 (λx0 x1=>(H8 N x0 x1,uH (H5 N x0 x1)))
theorem aIK N:aV Tryz.prog 50 (WC N):=aV.f2 (λx0 x1 h=>dO (z:=BI N x0 x1) h (aIM (aIO N)) rfl)
def Ie(a0:aF):aH:=(.fn 58 [.ref 100 0],[(100,.box 9 [.e .tx a0])])
def Di(_:Nat):Cx:=⟨Tryz.prog,99999,[],[]⟩
def Xk:Code:=Tryz.f36.body.getD .skip
theorem aKi N:aJ (Di N):=cM (by kernel_rfl) .nil .nil
def Xm[aA](_:Nat)(s0:aF):O:=
 some (Ie s0)
def w36[aA] N s0:=Xm N s0
def Xi[aA](_:Nat):Hint:=.d
theorem aKg N:bN (Di N) Tryz.f36.ntmps (Xi N) Xk:=bW _ _ trivial
theorem aKe[aA] N s0:Xm N s0=exec (Di N) Tryz.f36.ntmps (Xi N) Xk ⟨cC 0 [.e .tx s0],[],100⟩ (cJ (Di N) Tryz.f36 false):=by kernel_rfl
def OV(r:aH):Option (aF):=match r with
 |(.fn 58 [.ref 100 0],[(100,.box 9 [x0])])=>(match ue .tx x0 with|some a0=>some a0|_=>none)
 |_=>none
theorem aKd{r d}(h:OV r=some d):r=Ie (d):=by
 unfold OV at h;split at h
 .split at h
  .rename_i h0;cases h;rw[b7 h0];rfl
  .cases h
 .cases h
def Ic N s0:=(w36 N s0).bind OV
theorem aKh{N}(hc:aJ (Di N)){s0 d}(hd:Ic N s0=some d):cR Tryz.prog 36 [.e .tx s0] [] (Ie (d)):=
 c8 hc (by kernel_rfl) (by kernel_rfl) (aKg N) (by kernel_rfl) aKd (aKe N s0).symm.trans hd
def OW N s0:=(Ic N s0).isSome
def Dh N s0:=((Ic N s0).getD [])
def Xj(N:Nat):bO:=E1 .tx (λx0=>(OW N x0,Ie (Dh N x0)))
theorem aKf N:aV Tryz.prog 36 (Xj N):=aV.e1 (λx0 h=>dO (z:=Ic N x0) h (aKh (aKi N)) rfl)
def Gq(a0:aF):aH:=(.fn 78 [.ref 100 0],[(100,.box 9 [.e .tx a0])])
def DG(_:Nat):Cx:=⟨Tryz.prog,99999,[],[]⟩
def Uu:Code:=Tryz.f65.body.getD .skip
theorem aGJ N:aJ (DG N):=cM (by kernel_rfl) .nil .nil
def Uv[aA](_:Nat)(s0:aF):O:=
 some (Gq s0)
def w65[aA] N s0:=Uv N s0
def Ut[aA](_:Nat):Hint:=.d
theorem aGH N:bN (DG N) Tryz.f65.ntmps (Ut N) Uu:=bW _ _ trivial
theorem aGG[aA] N s0:Uv N s0=exec (DG N) Tryz.f65.ntmps (Ut N) Uu ⟨cC 0 [.e .tx s0],[],100⟩ (cJ (DG N) Tryz.f65 false):=by kernel_rfl
def Mm(r:aH):Option (aF):=match r with
 |(.fn 78 [.ref 100 0],[(100,.box 9 [x0])])=>(match ue .tx x0 with|some a0=>some a0|_=>none)
 |_=>none
theorem aGF{r d}(h:Mm r=some d):r=Gq (d):=by
 unfold Mm at h;split at h
 .split at h
  .rename_i h0;cases h;rw[b7 h0];rfl
  .cases h
 .cases h
def Gn N s0:=(w65 N s0).bind Mm
theorem aGI{N}(hc:aJ (DG N)){s0 d}(hd:Gn N s0=some d):cR Tryz.prog 65 [.e .tx s0] [] (Gq (d)):=
 c8 hc (by kernel_rfl) (by kernel_rfl) (aGH N) (by kernel_rfl) aGF (aGG N s0).symm.trans hd
def Ay N s0:=(Gn N s0).isSome
def k7 N s0:=((Gn N s0).getD [])
def Mn(N:Nat):bO:=E1 .tx (λx0=>(Ay N x0,Gq (k7 N x0)))
theorem Us N:aV Tryz.prog 65 (Mn N):=aV.e1 (λx0 h=>dO (z:=Gn N x0) h (aGI (aGJ N)) rfl)
def IM(a0:Bool):aH:=(.e .bo a0,[])
def De(N:Nat):Cx:=⟨Tryz.prog,99999,[(42,BQ N)],[]⟩
def XM:Code:=Tryz.f41.body.getD .skip
theorem aJr N:aJ (De N):=cM (by kernel_rfl) (.cons (by kernel_rfl) (Dc N) .nil) .nil
def OC[aA](N:Nat)(s0 prefix1:aF):O:=
 ck (!decide ((↑prefix1.length:Int)<=(↑s0.length:Int))||dJ s0.length none (some (↑prefix1.length:Int)))<|
 ck (!decide ((↑prefix1.length:Int)<=(↑s0.length:Int))||sE N (cA s0 none (some (↑prefix1.length:Int))) prefix1)<|
 some (IM (decide ((↑prefix1.length:Int)<=(↑s0.length:Int))&&sD N (cA s0 none (some (↑prefix1.length:Int))) prefix1))
def XR[aA] N s0 prefix1:=OC N s0 prefix1
def XK[aA](_:Nat):Hint:=.d
theorem aJp N:bN (De N) Tryz.f41.ntmps (XK N) XM:=bW _ _ trivial
theorem aJn[aA] N s0 prefix1:OC N s0 prefix1=exec (De N) Tryz.f41.ntmps (XK N) XM ⟨cC 0 [.e (.sl .u8) s0,.e (.sl .u8) prefix1],[],100⟩ (cJ (De N) Tryz.f41 false):=by kernel_rfl
def OB(r:aH):Option (Bool):=match r with
 |(x0,[])=>(match ue .bo x0 with|some a0=>some a0|_=>none)
 |_=>none
theorem aJm{r d}(h:OB r=some d):r=IM (d):=by
 unfold OB at h;split at h
 .split at h
  .rename_i h0;cases h;rw[b7 h0];rfl
  .cases h
 .cases h
def BR N s0 prefix1:=(XR N s0 prefix1).bind OB
theorem aJq{N}(hc:aJ (De N)){s0 prefix1 d}(hd:BR N s0 prefix1=some d):cR Tryz.prog 41 [.e (.sl .u8) s0,.e (.sl .u8) prefix1] [] (IM (d)):=
 c8 hc (by kernel_rfl) (by kernel_rfl) (aJp N) (by kernel_rfl) aJm (aJn N s0 prefix1).symm.trans hd
def IN N s0 prefix1:=(BR N s0 prefix1).isSome
def IL N s0 prefix1:=((BR N s0 prefix1).getD false)
def XL(N:Nat):bO:=E2 (.sl .u8) (.sl .u8) (λx0 x1=>(IN N x0 x1,IM (IL N x0 x1)))
theorem aJo N:aV Tryz.prog 41 (XL N):=aV.e2 (λx0 x1 h=>dO (z:=BR N x0 x1) h (aJq (aJr N)) rfl)
def xV(a0:Bool):aH:=(.e .bo a0,[])
def sJ(_:Nat):Cx:=⟨Tryz.prog,99999,[],[]⟩
def OT:Code:=Tryz.f37.body.getD .skip
theorem aK9 N:aJ (sJ N):=cM (by kernel_rfl) .nil .nil
def Ib[aA](_:Nat)(self:Int->O)(k0:Bool->O)(k1:Unit->O)(x0_0:aF)(x0_1:Int):O:=
 br (decide (x0_1<(↑x0_0.length:Int)))
  (gx x0_0 x0_1 λy5=>
  gc (!decide (y5<32)) 0 x0_0 x0_1 λy6=>
  br (decide (y5<32)||decide (126<y6))
   (k0 false)
   (self (aS.wrap (x0_1+1))))
  (k1 ())
def OS:Code:=cX [1,0,1,0,0] OT
def Xc:Nm:=⟨[0,3],[],[]⟩
def xX(x:aF×Int):Sg:=⟨[(0,.e .tx x.1),(3,.e (.i .i64) x.2)],[],100⟩
def I7(σ:Sg):aF×Int:=(aG .tx 0 0 σ,aG (.i .i64) 3 0 σ)
theorem aK2:∀x,I7 (xX x)=x:=λ_=>by kernel_rfl
def Ia(y:Bool):Exit×Sg:=(.ret,⟨[(2,.e .bo y)],[],100⟩)
def aK0(_:Exit)(σ:Sg):Bool:=aG .bo 2 0 σ
def I9(_:Unit):Exit×Sg:=((.exit 0),⟨[],[],100⟩)
def aKZ(_:Exit)(_:Sg):Unit:=()
def aKY:List (Exit×Nm):=[(.ret,⟨[2],[],[]⟩),((.exit 0),⟨[],[],[]⟩)]
def xW[aA](N:Nat):Nat->(aF×Int)->((Bool)->O)->((Unit)->O)->((Unit)->O)->O
 |0,_,_,_,_=>none
 |n+1,x,k0,k1,k2=>Ib N (λv0=>xW N n (x.1,v0) k0 k1 k2) (λy0=>k0 y0) (λ(_:Unit)=>k1 ()) x.1 x.2
def OR[aA] N a0 a1 (k0:Bool->O) (k1:Unit->O):=xW N N (a0,a1) (λy=>k0 y) (λy=>k1 y) (λ_=>none)
def Xb[aA] N a0 a1 (k0:Bool->O) (k1:Unit->O):=aW xX I7 (xW N N) (xX (a0,a1)) (λy=>k0 y) (λy=>k1 y) (λ_=>none)
theorem aK8[aA] N:Xb N=OR N:=funext λ_=>funext λ_=>funext λ_=>funext λ_=>dY aK2 _ _ _ _
theorem aK3[aA](N:Nat)(self:Sg->O)(K:Exit->Sg->O)(x:aF×Int):Ib N (λv0=>self (xX (x.1,v0))) (λy0=>K (Ia y0).1 (Ia y0).2) (λ(_:Unit)=>K (I9 ()).1 (I9 ()).2) x.1 x.2=exec (sJ N) Tryz.f37.ntmps .d OS (xX x) (dQ Xc aKY self K):=by kernel_rfl
theorem aKc N (hc:aJ (sJ N)):dB (sJ N) Tryz.f37.ntmps (.loop OS) Ia I9 (aR 2) (aW xX I7 (xW N N)):=
 eG hc (dS OS) (jI aK0 aKZ .ret (.exit 0) (λ_=>by kernel_rfl) (λ_=>by kernel_rfl) (λ_=>rfl) (λ_=>rfl) (by kernel_rfl)) (n:=N) (λx K=>eH (xW N) (λ_ _ _ _=>rfl) (λn K ih x=>by
  refine eZ ?_ (aK3 N _ K x);simp only[<-ih];rfl) N x K)
def OU[aA](_:Nat)(in0:aF->Int->(Bool->O)->(Unit->O)->O)(s0:aF):O:=
 in0 s0 0
  (λz7=>
   some (xV z7))
  (λ(_:Unit)=>
   some (xV true))
def Xh[aA] N s0:=OU N (OR N) s0
def Xd[aA](N:Nat):Hint:=(.seq .d (.seq (.seq .d (.block (.sub Xc _ _ _ Ia I9 (aR 2) (aW xX I7 (xW N N))))) .d))
theorem aK6 N (hc:aJ (sJ N)):bN (sJ N) Tryz.f37.ntmps (Xd N) OT:=bW _ _ (aK trivial (aK (aK trivial (aKc N hc)) trivial))
theorem aK4[aA] N s0:OU N (Xb N) s0=exec (sJ N) Tryz.f37.ntmps (Xd N) OT ⟨cC 0 [.e .tx s0],[],100⟩ (cJ (sJ N) Tryz.f37 false):=by kernel_rfl
def I6(r:aH):Option (Bool):=match r with
 |(x0,[])=>(match ue .bo x0 with|some a0=>some a0|_=>none)
 |_=>none
theorem aK1{r d}(h:I6 r=some d):r=xV (d):=by
 unfold I6 at h;split at h
 .split at h
  .rename_i h0;cases h;rw[b7 h0];rfl
  .cases h
 .cases h
def BW N s0:=(Xh N s0).bind I6
theorem aK7{N}(hc:aJ (sJ N)){s0 d}(hd:BW N s0=some d):cR Tryz.prog 37 [.e .tx s0] [] (xV (d)):=
 c8 hc (by kernel_rfl) (by kernel_rfl) (aK6 N hc) (by kernel_rfl) aK1 (λhr=>(aK4 N s0).symm.trans (by rw[aK8 N];exact hr)) hd
def I8 N s0:=(BW N s0).isSome
def I5 N s0:=((BW N s0).getD false)
def Xe(N:Nat):bO:=E1 .tx (λx0=>(I8 N x0,xV (I5 N x0)))
theorem aK5 N:aV Tryz.prog 37 (Xe N):=aV.e1 (λx0 h=>dO (z:=BW N x0) h (aK7 (aK9 N)) rfl)
def uQ(a0:Bool):aH:=(.e .bo a0,[])
def sN(_:Nat):Cx:=⟨Tryz.prog,99999,[],[]⟩
def PJ:Code:=Tryz.f24.body.getD .skip
theorem aMf N:aJ (sN N):=cM (by kernel_rfl) .nil .nil
def J5[aA](_:Nat)(self:Int->O)(k0:Bool->O)(k1:Unit->O)(x0_0 x0_1:(List Int))(x0_2:Int):O:=
 br (decide (x0_2<(↑x0_0.length:Int)))
  (gx x0_0 x0_2 λy5=>
  gx x0_1 x0_2 λy6=>
  br (decide (y5≠y6))
   (k0 false)
   (self (aS.wrap (x0_2+1))))
  (k1 ())
def PI:Code:=cX [1,1,0,1,0,0] PJ
def Yq:Nm:=⟨[0,1,5],[],[]⟩
def yP(x:(List Int)×(List Int)×Int):Sg:=⟨[(0,.e (.sl (.i .i64)) x.1),(1,.e (.sl (.i .i64)) x.2.1),(5,.e (.i .i64) x.2.2)],[],100⟩
def J2(σ:Sg):(List Int)×(List Int)×Int:=(aG (.sl (.i .i64)) 0 0 σ,aG (.sl (.i .i64)) 1 0 σ,aG (.i .i64) 5 0 σ)
theorem aM8:∀x,J2 (yP x)=x:=λ_=>by kernel_rfl
def J4(y:Bool):Exit×Sg:=(.ret,⟨[(4,.e .bo y)],[],100⟩)
def aM6(_:Exit)(σ:Sg):Bool:=aG .bo 4 0 σ
def J3(_:Unit):Exit×Sg:=((.exit 0),⟨[],[],100⟩)
def aM5(_:Exit)(_:Sg):Unit:=()
def aM4:List (Exit×Nm):=[(.ret,⟨[4],[],[]⟩),((.exit 0),⟨[],[],[]⟩)]
def yO[aA](N:Nat):Nat->((List Int)×(List Int)×Int)->((Bool)->O)->((Unit)->O)->((Unit)->O)->O
 |0,_,_,_,_=>none
 |n+1,x,k0,k1,k2=>J5 N (λv0=>yO N n (x.1,x.2.1,v0) k0 k1 k2) (λy0=>k0 y0) (λ(_:Unit)=>k1 ()) x.1 x.2.1 x.2.2
def PH[aA] N a0 a1 a2 (k0:Bool->O) (k1:Unit->O):=yO N N (a0,a1,a2) (λy=>k0 y) (λy=>k1 y) (λ_=>none)
def Yp[aA] N a0 a1 a2 (k0:Bool->O) (k1:Unit->O):=aW yP J2 (yO N N) (yP (a0,a1,a2)) (λy=>k0 y) (λy=>k1 y) (λ_=>none)
theorem aMe[aA] N:Yp N=PH N:=funext λ_=>funext λ_=>funext λ_=>funext λ_=>funext λ_=>dY aM8 _ _ _ _
theorem aM9[aA](N:Nat)(self:Sg->O)(K:Exit->Sg->O)(x:(List Int)×(List Int)×Int):J5 N (λv0=>self (yP (x.1,x.2.1,v0))) (λy0=>K (J4 y0).1 (J4 y0).2) (λ(_:Unit)=>K (J3 ()).1 (J3 ()).2) x.1 x.2.1 x.2.2=exec (sN N) Tryz.f24.ntmps .d PI (yP x) (dQ Yq aM4 self K):=by kernel_rfl
theorem aMi N (hc:aJ (sN N)):dB (sN N) Tryz.f24.ntmps (.loop PI) J4 J3 (aR 2) (aW yP J2 (yO N N)):=
 eG hc (dS PI) (jI aM6 aM5 .ret (.exit 0) (λ_=>by kernel_rfl) (λ_=>by kernel_rfl) (λ_=>rfl) (λ_=>rfl) (by kernel_rfl)) (n:=N) (λx K=>eH (yO N) (λ_ _ _ _=>rfl) (λn K ih x=>by
  refine eZ ?_ (aM9 N _ K x);simp only[<-ih];rfl) N x K)
def PK[aA](_:Nat)(in0:(List Int)->(List Int)->Int->(Bool->O)->(Unit->O)->O)(a0 b1:(List Int)):O:=
 br (decide ((↑a0.length:Int)≠(↑b1.length:Int)))
  (some (uQ false))
  (in0 a0 b1 0
   (λz7=>
    some (uQ z7))
   (λ(_:Unit)=>
    some (uQ true)))
def Yv[aA] N a0 b1:=PK N (PH N) a0 b1
def Yr[aA](N:Nat):Hint:=(.seq .d (.seq .d (.seq (.seq .d (.block (.sub Yq _ _ _ J4 J3 (aR 2) (aW yP J2 (yO N N))))) .d)))
theorem aMc N (hc:aJ (sN N)):bN (sN N) Tryz.f24.ntmps (Yr N) PJ:=bW _ _ (aK trivial (aK trivial (aK (aK trivial (aMi N hc)) trivial)))
theorem aMa[aA] N a0 b1:PK N (Yp N) a0 b1=exec (sN N) Tryz.f24.ntmps (Yr N) PJ ⟨cC 0 [.e (.sl (.i .i64)) a0,.e (.sl (.i .i64)) b1],[],100⟩ (cJ (sN N) Tryz.f24 false):=by kernel_rfl
def J1(r:aH):Option (Bool):=match r with
 |(x0,[])=>(match ue .bo x0 with|some a0=>some a0|_=>none)
 |_=>none
theorem aM7{r d}(h:J1 r=some d):r=uQ (d):=by
 unfold J1 at h;split at h
 .split at h
  .rename_i h0;cases h;rw[b7 h0];rfl
  .cases h
 .cases h
def Ba N a0 b1:=(Yv N a0 b1).bind J1
theorem aMd{N}(hc:aJ (sN N)){a0 b1 d}(hd:Ba N a0 b1=some d):cR Tryz.prog 24 [.e (.sl (.i .i64)) a0,.e (.sl (.i .i64)) b1] [] (uQ (d)):=
 c8 hc (by kernel_rfl) (by kernel_rfl) (aMc N hc) (by kernel_rfl) aM7 (λhr=>(aMa N a0 b1).symm.trans (by rw[aMe N];exact hr)) hd
def Dy N a0 b1:=(Ba N a0 b1).isSome
def Dx N a0 b1:=((Ba N a0 b1).getD false)
def Ys(N:Nat):bO:=E2 (.sl (.i .i64)) (.sl (.i .i64)) (λx0 x1=>(Dy N x0 x1,uQ (Dx N x0 x1)))
theorem aMb N:aV Tryz.prog 24 (Ys N):=aV.e2 (λx0 x1 h=>dO (z:=Ba N x0 x1) h (aMd (aMf N)) rfl)
def uM(a0:Bool):aH:=(.e .bo a0,[])
def sL(_:Nat):Cx:=⟨Tryz.prog,99999,[],[]⟩
def Oi:Code:=Tryz.f28.body.getD .skip
theorem aL8 N:aJ (sL N):=cM (by kernel_rfl) .nil .nil
def JC[aA](_:Nat)(self:Int->O)(k0:Bool->O)(k1:Unit->O)(x0_0 x0_1:(List aF))(x0_2:Int):O:=
 br (decide (x0_2<(↑x0_0.length:Int)))
  (gx x0_0 x0_2 λy5=>
  gx x0_1 x0_2 λy6=>
  br (decide (y5≠y6))
   (k0 false)
   (self (aS.wrap (x0_2+1))))
  (k1 ())
def Oh:Code:=cX [1,1,0,1,0,0] Oi
def YS:Nm:=⟨[0,1,5],[],[]⟩
def yD(x:(List aF)×(List aF)×Int):Sg:=⟨[(0,.e (.sl .tx) x.1),(1,.e (.sl .tx) x.2.1),(5,.e (.i .i64) x.2.2)],[],100⟩
def Iy(σ:Sg):(List aF)×(List aF)×Int:=(aG (.sl .tx) 0 0 σ,aG (.sl .tx) 1 0 σ,aG (.i .i64) 5 0 σ)
theorem aL1:∀x,Iy (yD x)=x:=λ_=>by kernel_rfl
def JB(y:Bool):Exit×Sg:=(.ret,⟨[(4,.e .bo y)],[],100⟩)
def aLZ(_:Exit)(σ:Sg):Bool:=aG .bo 4 0 σ
def JA(_:Unit):Exit×Sg:=((.exit 0),⟨[],[],100⟩)
def aLY(_:Exit)(_:Sg):Unit:=()
def aLX:List (Exit×Nm):=[(.ret,⟨[4],[],[]⟩),((.exit 0),⟨[],[],[]⟩)]
def yC[aA](N:Nat):Nat->((List aF)×(List aF)×Int)->((Bool)->O)->((Unit)->O)->((Unit)->O)->O
 |0,_,_,_,_=>none
 |n+1,x,k0,k1,k2=>JC N (λv0=>yC N n (x.1,x.2.1,v0) k0 k1 k2) (λy0=>k0 y0) (λ(_:Unit)=>k1 ()) x.1 x.2.1 x.2.2
def Og[aA] N a0 a1 a2 (k0:Bool->O) (k1:Unit->O):=yC N N (a0,a1,a2) (λy=>k0 y) (λy=>k1 y) (λ_=>none)
def YR[aA] N a0 a1 a2 (k0:Bool->O) (k1:Unit->O):=aW yD Iy (yC N N) (yD (a0,a1,a2)) (λy=>k0 y) (λy=>k1 y) (λ_=>none)
theorem aL7[aA] N:YR N=Og N:=funext λ_=>funext λ_=>funext λ_=>funext λ_=>funext λ_=>dY aL1 _ _ _ _
theorem aL2[aA](N:Nat)(self:Sg->O)(K:Exit->Sg->O)(x:(List aF)×(List aF)×Int):JC N (λv0=>self (yD (x.1,x.2.1,v0))) (λy0=>K (JB y0).1 (JB y0).2) (λ(_:Unit)=>K (JA ()).1 (JA ()).2) x.1 x.2.1 x.2.2=exec (sL N) Tryz.f28.ntmps .d Oh (yD x) (dQ YS aLX self K):=by kernel_rfl
theorem aLb N (hc:aJ (sL N)):dB (sL N) Tryz.f28.ntmps (.loop Oh) JB JA (aR 2) (aW yD Iy (yC N N)):=
 eG hc (dS Oh) (jI aLZ aLY .ret (.exit 0) (λ_=>by kernel_rfl) (λ_=>by kernel_rfl) (λ_=>rfl) (λ_=>rfl) (by kernel_rfl)) (n:=N) (λx K=>eH (yC N) (λ_ _ _ _=>rfl) (λn K ih x=>by
  refine eZ ?_ (aL2 N _ K x);simp only[<-ih];rfl) N x K)
def Oj[aA](_:Nat)(in0:(List aF)->(List aF)->Int->(Bool->O)->(Unit->O)->O)(a0 b1:(List aF)):O:=
 br (decide ((↑a0.length:Int)≠(↑b1.length:Int)))
  (some (uM false))
  (in0 a0 b1 0
   (λz7=>
    some (uM z7))
   (λ(_:Unit)=>
    some (uM true)))
def YX[aA] N a0 b1:=Oj N (Og N) a0 b1
def YT[aA](N:Nat):Hint:=(.seq .d (.seq .d (.seq (.seq .d (.block (.sub YS _ _ _ JB JA (aR 2) (aW yD Iy (yC N N))))) .d)))
theorem aL5 N (hc:aJ (sL N)):bN (sL N) Tryz.f28.ntmps (YT N) Oi:=bW _ _ (aK trivial (aK trivial (aK (aK trivial (aLb N hc)) trivial)))
theorem aL3[aA] N a0 b1:Oj N (YR N) a0 b1=exec (sL N) Tryz.f28.ntmps (YT N) Oi ⟨cC 0 [.e (.sl .tx) a0,.e (.sl .tx) b1],[],100⟩ (cJ (sL N) Tryz.f28 false):=by kernel_rfl
def Ix(r:aH):Option (Bool):=match r with
 |(x0,[])=>(match ue .bo x0 with|some a0=>some a0|_=>none)
 |_=>none
theorem aL0{r d}(h:Ix r=some d):r=uM (d):=by
 unfold Ix at h;split at h
 .split at h
  .rename_i h0;cases h;rw[b7 h0];rfl
  .cases h
 .cases h
def B6 N a0 b1:=(YX N a0 b1).bind Ix
theorem aL6{N}(hc:aJ (sL N)){a0 b1 d}(hd:B6 N a0 b1=some d):cR Tryz.prog 28 [.e (.sl .tx) a0,.e (.sl .tx) b1] [] (uM (d)):=
 c8 hc (by kernel_rfl) (by kernel_rfl) (aL5 N hc) (by kernel_rfl) aL0 (λhr=>(aL3 N a0 b1).symm.trans (by rw[aL7 N];exact hr)) hd
def Iz N a0 b1:=(B6 N a0 b1).isSome
def Iw N a0 b1:=((B6 N a0 b1).getD false)
def YU(N:Nat):bO:=E2 (.sl .tx) (.sl .tx) (λx0 x1=>(Iz N x0 x1,uM (Iw N x0 x1)))
theorem aL4 N:aV Tryz.prog 28 (YU N):=aV.e2 (λx0 x1 h=>dO (z:=B6 N x0 x1) h (aL6 (aL8 N)) rfl)
def uW(a0:Bool):aH:=(.e .bo a0,[])
def sX(_:Nat):Cx:=⟨Tryz.prog,99999,[],[]⟩
def QC:Code:=Tryz.f12.body.getD .skip
theorem aOh N:aJ (sX N):=cM (by kernel_rfl) .nil .nil
def KP[aA](_:Nat)(self:Int->O)(k0:Bool->O)(k1:Unit->O)(x0_0 x0_1:aF)(x0_2:Int):O:=
 br (decide (x0_2<(↑x0_0.length:Int)))
  (gx x0_0 x0_2 λy5=>
  gx x0_1 x0_2 λy6=>
  br (decide (y5≠y6))
   (k0 false)
   (self (aS.wrap (x0_2+1))))
  (k1 ())
def QB:Code:=cX [1,1,0,1,0,0] QC
def Zw:Nm:=⟨[0,1,5],[],[]⟩
def zO(x:aF×aF×Int):Sg:=⟨[(0,.e (.sl .u8) x.1),(1,.e (.sl .u8) x.2.1),(5,.e (.i .i64) x.2.2)],[],100⟩
def KL(σ:Sg):aF×aF×Int:=(aG (.sl .u8) 0 0 σ,aG (.sl .u8) 1 0 σ,aG (.i .i64) 5 0 σ)
theorem aOb:∀x,KL (zO x)=x:=λ_=>by kernel_rfl
def KO(y:Bool):Exit×Sg:=(.ret,⟨[(4,.e .bo y)],[],100⟩)
def aO9(_:Exit)(σ:Sg):Bool:=aG .bo 4 0 σ
def KN(_:Unit):Exit×Sg:=((.exit 0),⟨[],[],100⟩)
def aO8(_:Exit)(_:Sg):Unit:=()
def aO7:List (Exit×Nm):=[(.ret,⟨[4],[],[]⟩),((.exit 0),⟨[],[],[]⟩)]
def zN[aA](N:Nat):Nat->(aF×aF×Int)->((Bool)->O)->((Unit)->O)->((Unit)->O)->O
 |0,_,_,_,_=>none
 |n+1,x,k0,k1,k2=>KP N (λv0=>zN N n (x.1,x.2.1,v0) k0 k1 k2) (λy0=>k0 y0) (λ(_:Unit)=>k1 ()) x.1 x.2.1 x.2.2
def QA[aA] N a0 a1 a2 (k0:Bool->O) (k1:Unit->O):=zN N N (a0,a1,a2) (λy=>k0 y) (λy=>k1 y) (λ_=>none)
def Zv[aA] N a0 a1 a2 (k0:Bool->O) (k1:Unit->O):=aW zO KL (zN N N) (zO (a0,a1,a2)) (λy=>k0 y) (λy=>k1 y) (λ_=>none)
theorem aOg[aA] N:Zv N=QA N:=funext λ_=>funext λ_=>funext λ_=>funext λ_=>funext λ_=>dY aOb _ _ _ _
theorem aOc[aA](N:Nat)(self:Sg->O)(K:Exit->Sg->O)(x:aF×aF×Int):KP N (λv0=>self (zO (x.1,x.2.1,v0))) (λy0=>K (KO y0).1 (KO y0).2) (λ(_:Unit)=>K (KN ()).1 (KN ()).2) x.1 x.2.1 x.2.2=exec (sX N) Tryz.f12.ntmps .d QB (zO x) (dQ Zw aO7 self K):=by kernel_rfl
theorem aOi N (hc:aJ (sX N)):dB (sX N) Tryz.f12.ntmps (.loop QB) KO KN (aR 2) (aW zO KL (zN N N)):=
 eG hc (dS QB) (jI aO9 aO8 .ret (.exit 0) (λ_=>by kernel_rfl) (λ_=>by kernel_rfl) (λ_=>rfl) (λ_=>rfl) (by kernel_rfl)) (n:=N) (λx K=>eH (zN N) (λ_ _ _ _=>rfl) (λn K ih x=>by
  refine eZ ?_ (aOc N _ K x);simp only[<-ih];rfl) N x K)
def QF[aA](_:Nat)(in0:aF->aF->Int->(Bool->O)->(Unit->O)->O)(a0 b1:aF):O:=
 br (decide ((↑a0.length:Int)≠(↑b1.length:Int)))
  (some (uW false))
  (in0 a0 b1 0
   (λz7=>
    some (uW z7))
   (λ(_:Unit)=>
    some (uW true)))
def w12[aA] N a0 b1:=QF N (QA N) a0 b1
def Zx[aA](N:Nat):Hint:=(.seq .d (.seq .d (.seq (.seq .d (.block (.sub Zw _ _ _ KO KN (aR 2) (aW zO KL (zN N N))))) .d)))
theorem aOe N (hc:aJ (sX N)):bN (sX N) Tryz.f12.ntmps (Zx N) QC:=bW _ _ (aK trivial (aK trivial (aK (aK trivial (aOi N hc)) trivial)))
theorem aOd[aA] N a0 b1:QF N (Zv N) a0 b1=exec (sX N) Tryz.f12.ntmps (Zx N) QC ⟨cC 0 [.e (.sl .u8) a0,.e (.sl .u8) b1],[],100⟩ (cJ (sX N) Tryz.f12 false):=by kernel_rfl
def KK(r:aH):Option (Bool):=match r with
 |(x0,[])=>(match ue .bo x0 with|some a0=>some a0|_=>none)
 |_=>none
theorem aOa{r d}(h:KK r=some d):r=uW (d):=by
 unfold KK at h;split at h
 .split at h
  .rename_i h0;cases h;rw[b7 h0];rfl
  .cases h
 .cases h
def Bk N a0 b1:=(w12 N a0 b1).bind KK
theorem aOf{N}(hc:aJ (sX N)){a0 b1 d}(hd:Bk N a0 b1=some d):cR Tryz.prog 12 [.e (.sl .u8) a0,.e (.sl .u8) b1] [] (uW (d)):=
 c8 hc (by kernel_rfl) (by kernel_rfl) (aOe N hc) (by kernel_rfl) aOa (λhr=>(aOd N a0 b1).symm.trans (by rw[aOg N];exact hr)) hd
def mG N a0 b1:=(Bk N a0 b1).isSome
def mF N a0 b1:=((Bk N a0 b1).getD false)
def KM(N:Nat):bO:=E2 (.sl .u8) (.sl .u8) (λx0 x1=>(mG N x0 x1,uW (mF N x0 x1)))
theorem Pz N:aV Tryz.prog 12 (KM N):=aV.e2 (λx0 x1 h=>dO (z:=Bk N x0 x1) h (aOf (aOh N)) rfl)
def uR(a0:Bool):aH:=(.e .bo a0,[])
def sO(N:Nat):Cx:=⟨Tryz.prog,99999,[(12,KM N)],[]⟩
def PO:Code:=Tryz.f23.body.getD .skip
theorem aMt N:aJ (sO N):=cM (by kernel_rfl) (.cons (by kernel_rfl) (Pz N) .nil) .nil
def Ja[aA](N:Nat)(self:Int->O)(k0:Bool->O)(k1:Unit->O)(x0_0 x0_1:(List aF))(x0_2:Int):O:=
 br (decide (x0_2<(↑x0_0.length:Int)))
  (gx x0_0 x0_2 λy5=>
  gx x0_1 x0_2 λy6=>
  ck (mG N y5 y6)<|
  br (!mF N y5 y6)
   (k0 false)
   (self (aS.wrap (x0_2+1))))
  (k1 ())
def PN:Code:=cX [1,1,0,1,0,0] PO
def Yy:Nm:=⟨[0,1,5],[],[]⟩
def yS(x:(List aF)×(List aF)×Int):Sg:=⟨[(0,.e (.sl (.sl .u8)) x.1),(1,.e (.sl (.sl .u8)) x.2.1),(5,.e (.i .i64) x.2.2)],[],100⟩
def J7(σ:Sg):(List aF)×(List aF)×Int:=(aG (.sl (.sl .u8)) 0 0 σ,aG (.sl (.sl .u8)) 1 0 σ,aG (.i .i64) 5 0 σ)
theorem aMn:∀x,J7 (yS x)=x:=λ_=>by kernel_rfl
def J9(y:Bool):Exit×Sg:=(.ret,⟨[(4,.e .bo y)],[],100⟩)
def aMl(_:Exit)(σ:Sg):Bool:=aG .bo 4 0 σ
def J8(_:Unit):Exit×Sg:=((.exit 0),⟨[],[],100⟩)
def aMk(_:Exit)(_:Sg):Unit:=()
def aMj:List (Exit×Nm):=[(.ret,⟨[4],[],[]⟩),((.exit 0),⟨[],[],[]⟩)]
def yR[aA](N:Nat):Nat->((List aF)×(List aF)×Int)->((Bool)->O)->((Unit)->O)->((Unit)->O)->O
 |0,_,_,_,_=>none
 |n+1,x,k0,k1,k2=>Ja N (λv0=>yR N n (x.1,x.2.1,v0) k0 k1 k2) (λy0=>k0 y0) (λ(_:Unit)=>k1 ()) x.1 x.2.1 x.2.2
def PL[aA] N a0 a1 a2 (k0:Bool->O) (k1:Unit->O):=yR N N (a0,a1,a2) (λy=>k0 y) (λy=>k1 y) (λ_=>none)
def Yw[aA] N a0 a1 a2 (k0:Bool->O) (k1:Unit->O):=aW yS J7 (yR N N) (yS (a0,a1,a2)) (λy=>k0 y) (λy=>k1 y) (λ_=>none)
theorem aMs[aA] N:Yw N=PL N:=funext λ_=>funext λ_=>funext λ_=>funext λ_=>funext λ_=>dY aMn _ _ _ _
theorem aMo[aA](N:Nat)(self:Sg->O)(K:Exit->Sg->O)(x:(List aF)×(List aF)×Int):Ja N (λv0=>self (yS (x.1,x.2.1,v0))) (λy0=>K (J9 y0).1 (J9 y0).2) (λ(_:Unit)=>K (J8 ()).1 (J8 ()).2) x.1 x.2.1 x.2.2=exec (sO N) Tryz.f23.ntmps .d PN (yS x) (dQ Yy aMj self K):=by kernel_rfl
theorem aMu N (hc:aJ (sO N)):dB (sO N) Tryz.f23.ntmps (.loop PN) J9 J8 (aR 2) (aW yS J7 (yR N N)):=
 eG hc (dS PN) (jI aMl aMk .ret (.exit 0) (λ_=>by kernel_rfl) (λ_=>by kernel_rfl) (λ_=>rfl) (λ_=>rfl) (by kernel_rfl)) (n:=N) (λx K=>eH (yR N) (λ_ _ _ _=>rfl) (λn K ih x=>by
  refine eZ ?_ (aMo N _ K x);simp only[<-ih];rfl) N x K)
def PS[aA](_:Nat)(in0:(List aF)->(List aF)->Int->(Bool->O)->(Unit->O)->O)(a0 b1:(List aF)):O:=
 br (decide ((↑a0.length:Int)≠(↑b1.length:Int)))
  (some (uR false))
  (in0 a0 b1 0
   (λz7=>
    some (uR z7))
   (λ(_:Unit)=>
    some (uR true)))
def ZC[aA] N a0 b1:=PS N (PL N) a0 b1
def Yz[aA](N:Nat):Hint:=(.seq .d (.seq .d (.seq (.seq .d (.block (.sub Yy _ _ _ J9 J8 (aR 2) (aW yS J7 (yR N N))))) .d)))
theorem aMq N (hc:aJ (sO N)):bN (sO N) Tryz.f23.ntmps (Yz N) PO:=bW _ _ (aK trivial (aK trivial (aK (aK trivial (aMu N hc)) trivial)))
theorem aMp[aA] N a0 b1:PS N (Yw N) a0 b1=exec (sO N) Tryz.f23.ntmps (Yz N) PO ⟨cC 0 [.e (.sl (.sl .u8)) a0,.e (.sl (.sl .u8)) b1],[],100⟩ (cJ (sO N) Tryz.f23 false):=by kernel_rfl
def J6(r:aH):Option (Bool):=match r with
 |(x0,[])=>(match ue .bo x0 with|some a0=>some a0|_=>none)
 |_=>none
theorem aMm{r d}(h:J6 r=some d):r=uR (d):=by
 unfold J6 at h;split at h
 .split at h
  .rename_i h0;cases h;rw[b7 h0];rfl
  .cases h
 .cases h
def Bb N a0 b1:=(ZC N a0 b1).bind J6
theorem aMr{N}(hc:aJ (sO N)){a0 b1 d}(hd:Bb N a0 b1=some d):cR Tryz.prog 23 [.e (.sl (.sl .u8)) a0,.e (.sl (.sl .u8)) b1] [] (uR (d)):=
 c8 hc (by kernel_rfl) (by kernel_rfl) (aMq N hc) (by kernel_rfl) aMm (λhr=>(aMp N a0 b1).symm.trans (by rw[aMs N];exact hr)) hd
def yQ N a0 b1:=(Bb N a0 b1).isSome
def Bc N a0 b1:=((Bb N a0 b1).getD false)
def PM(N:Nat):bO:=E2 (.sl (.sl .u8)) (.sl (.sl .u8)) (λx0 x1=>(yQ N x0 x1,uR (Bc N x0 x1)))
theorem Yx N:aV Tryz.prog 23 (PM N):=aV.e2 (λx0 x1 h=>dO (z:=Bb N x0 x1) h (aMr (aMt N)) rfl)
def aHX(a0:Bool):aH:=(.e .bo a0,[])
def aHZ[aA](_:Nat)(c0:UInt8):O:=
 some (aHX (decide (64<=c0)))
def w54[aA] N c0:=aHZ N c0
def aHW(r:aH):Option (Bool):=match r with
 |(x0,[])=>(match ue .bo x0 with|some a0=>some a0|_=>none)
 |_=>none
def Vc N c0:=(w54 N c0).bind aHW
def aHY N c0:=(Vc N c0).isSome
def aHV N c0:=((Vc N c0).getD false)
def Ip(a0:Bool):aH:=(.e .bo a0,[])
def Dl(N:Nat):Cx:=⟨Tryz.prog,99999,[(53,Ve N),(55,HO N)],[]⟩
def Xy:Code:=Tryz.f33.body.getD .skip
theorem aLF N:aJ (Dl N):=cM (by kernel_rfl) (.cons (by kernel_rfl) (aH3 N) (.cons (by kernel_rfl) (NR N) .nil)) .nil
def O7[aA](N:Nat)(s0:aF):O:=
 ck (HR N s0)<|
 some (Ip (!HP N s0))
def YC[aA] N s0:=O7 N s0
def Xx[aA](_:Nat):Hint:=.d
theorem aLD N:bN (Dl N) Tryz.f33.ntmps (Xx N) Xy:=bW _ _ trivial
theorem aLC[aA] N s0:O7 N s0=exec (Dl N) Tryz.f33.ntmps (Xx N) Xy ⟨cC 0 [.e .tx s0],[],100⟩ (cJ (Dl N) Tryz.f33 false):=by kernel_rfl
def O5(r:aH):Option (Bool):=match r with
 |(x0,[])=>(match ue .bo x0 with|some a0=>some a0|_=>none)
 |_=>none
theorem aLB{r d}(h:O5 r=some d):r=Ip (d):=by
 unfold O5 at h;split at h
 .split at h
  .rename_i h0;cases h;rw[b7 h0];rfl
  .cases h
 .cases h
def BY N s0:=(YC N s0).bind O5
theorem aLE{N}(hc:aJ (Dl N)){s0 d}(hd:BY N s0=some d):cR Tryz.prog 33 [.e .tx s0] [] (Ip (d)):=
 c8 hc (by kernel_rfl) (by kernel_rfl) (aLD N) (by kernel_rfl) aLB (aLC N s0).symm.trans hd
def Dk N s0:=(BY N s0).isSome
def Dj N s0:=((BY N s0).getD false)
def O6(N:Nat):bO:=E1 .tx (λx0=>(Dk N x0,Ip (Dj N x0)))
theorem Xw N:aV Tryz.prog 33 (O6 N):=aV.e1 (λx0 h=>dO (z:=BY N x0) h (aLE (aLF N)) rfl)
def Gr(a0:Bool):aH:=(.e .bo a0,[])
def DH(N:Nat):Cx:=⟨Tryz.prog,99999,[(33,O6 N)],[]⟩
def Ux:Code:=Tryz.f64.body.getD .skip
theorem aGP N:aJ (DH N):=cM (by kernel_rfl) (.cons (by kernel_rfl) (Xw N) .nil) .nil
def Mq[aA](N:Nat)(s0:aF):O:=
 ck (Dk N s0)<|
 some (Gr (!Dj N s0))
def Uz[aA] N s0:=Mq N s0
def Uw[aA](_:Nat):Hint:=.d
theorem aGN N:bN (DH N) Tryz.f64.ntmps (Uw N) Ux:=bW _ _ trivial
theorem aGM[aA] N s0:Mq N s0=exec (DH N) Tryz.f64.ntmps (Uw N) Ux ⟨cC 0 [.e .tx s0],[],100⟩ (cJ (DH N) Tryz.f64 false):=by kernel_rfl
def Mo(r:aH):Option (Bool):=match r with
 |(x0,[])=>(match ue .bo x0 with|some a0=>some a0|_=>none)
 |_=>none
theorem aGL{r d}(h:Mo r=some d):r=Gr (d):=by
 unfold Mo at h;split at h
 .split at h
  .rename_i h0;cases h;rw[b7 h0];rfl
  .cases h
 .cases h
def Az N s0:=(Uz N s0).bind Mo
theorem aGO{N}(hc:aJ (DH N)){s0 d}(hd:Az N s0=some d):cR Tryz.prog 64 [.e .tx s0] [] (Gr (d)):=
 c8 hc (by kernel_rfl) (by kernel_rfl) (aGN N) (by kernel_rfl) aGL (aGM N s0).symm.trans hd
def rZ N s0:=(Az N s0).isSome
def rY N s0:=((Az N s0).getD false)
def Gs(N:Nat):bO:=E1 .tx (λx0=>(rZ N x0,Gr (rY N x0)))
theorem Mp N:aV Tryz.prog 64 (Gs N):=aV.e1 (λx0 h=>dO (z:=Az N x0) h (aGO (aGP N)) rfl)
def uV(a0:Int):aH:=(.e (.i .i64) a0,[])
def EL(_:Nat):Cx:=⟨Tryz.prog,99999,[],[]⟩
def Zo:Code:=Tryz.f14.body.getD .skip
theorem Zn N:aJ (EL N):=cM (by kernel_rfl) .nil .nil
def Pw[aA](_:Nat)(n0 most1:Int):O:=
 br (decide (n0<0))
  (br (decide (most1<1))
   (some (uV 0))
   (ck (decide (most1≠0))<|
   some (uV ((aS.wrap (-aS.wrap (n0+1))).tmod most1))))
  (br (decide (most1<1))
   (some (uV 0))
   (ck (decide (most1≠0))<|
   some (uV (n0.tmod most1))))
def Zp[aA] N n0 most1:=Pw N n0 most1
def Zl[aA](_:Nat):Hint:=.d
theorem aOY N:bN (EL N) Tryz.f14.ntmps (Zl N) Zo:=bW _ _ trivial
theorem aOX[aA] N n0 most1:Pw N n0 most1=exec (EL N) Tryz.f14.ntmps (Zl N) Zo ⟨cC 0 [.e (.i .i64) n0,.e (.i .i64) most1],[],100⟩ (cJ (EL N) Tryz.f14 false):=by kernel_rfl
def KG(r:aH):Option (Int):=match r with
 |(x0,[])=>(match ue (.i .i64) x0 with|some a0=>some a0|_=>none)
 |_=>none
theorem aOW{r d}(h:KG r=some d):r=uV (d):=by
 unfold KG at h;split at h
 .split at h
  .rename_i h0;cases h;rw[b7 h0];rfl
  .cases h
 .cases h
def Bi N n0 most1:=(Zp N n0 most1).bind KG
theorem Zm{N}(hc:aJ (EL N)){n0 most1 d}(hd:Bi N n0 most1=some d):cR Tryz.prog 14 [.e (.i .i64) n0,.e (.i .i64) most1] [] (uV (d)):=
 c8 hc (by kernel_rfl) (by kernel_rfl) (aOY N) (by kernel_rfl) aOW (aOX N n0 most1).symm.trans hd
def o8 N n0 most1:=(Bi N n0 most1).isSome
def cG N n0 most1:=((Bi N n0 most1).getD 0)
def KH(N:Nat):bO:=E2 (.i .i64) (.i .i64) (λx0 x1=>(o8 N x0 x1,uV (cG N x0 x1)))
theorem Pu N:aV Tryz.prog 14 (KH N):=aV.e2 (λx0 x1 h=>dO (z:=Bi N x0 x1) h (Zm (Zn N)) rfl)
def B3(a0:Int):aH:=(.e (.i .i64) a0,[])
def Dm(N:Nat):Cx:=⟨Tryz.prog,99999,[(14,KH N)],[]⟩
def YF:Code:=Tryz.f32.body.getD .skip
theorem aLL N:aJ (Dm N):=cM (by kernel_rfl) (.cons (by kernel_rfl) (Pu N) .nil) .nil
def Oa[aA](N:Nat)(l0:(List Int))(i1 most2:Int):O:=
 br (decide (i1<0)||decide ((↑l0.length:Int)<=i1))
  (some (B3 0))
  (gx l0 i1 λy0=>
  ck (o8 N y0 most2)<|
  some (B3 (cG N y0 most2)))
def YH[aA] N l0 i1 most2:=Oa N l0 i1 most2
def YD[aA](_:Nat):Hint:=.d
theorem aLJ N:bN (Dm N) Tryz.f32.ntmps (YD N) YF:=bW _ _ trivial
theorem aLH[aA] N l0 i1 most2:Oa N l0 i1 most2=exec (Dm N) Tryz.f32.ntmps (YD N) YF ⟨cC 0 [.e (.sl (.i .i64)) l0,.e (.i .i64) i1,.e (.i .i64) most2],[],100⟩ (cJ (Dm N) Tryz.f32 false):=by kernel_rfl
def Iq(r:aH):Option (Int):=match r with
 |(x0,[])=>(match ue (.i .i64) x0 with|some a0=>some a0|_=>none)
 |_=>none
theorem aLG{r d}(h:Iq r=some d):r=B3 (d):=by
 unfold Iq at h;split at h
 .split at h
  .rename_i h0;cases h;rw[b7 h0];rfl
  .cases h
 .cases h
def BZ N l0 i1 most2:=(YH N l0 i1 most2).bind Iq
theorem aLK{N}(hc:aJ (Dm N)){l0 i1 most2 d}(hd:BZ N l0 i1 most2=some d):cR Tryz.prog 32 [.e (.sl (.i .i64)) l0,.e (.i .i64) i1,.e (.i .i64) most2] [] (B3 (d)):=
 c8 hc (by kernel_rfl) (by kernel_rfl) (aLJ N) (by kernel_rfl) aLG (aLH N l0 i1 most2).symm.trans hd
def B4 N l0 i1 most2:=(BZ N l0 i1 most2).isSome
def B0 N l0 i1 most2:=((BZ N l0 i1 most2).getD 0)
def YE(N:Nat):bO:=E3 (.sl (.i .i64)) (.i .i64) (.i .i64) (λx0 x1 x2=>(B4 N x0 x1 x2,B3 (B0 N x0 x1 x2)))
theorem aLI N:aV Tryz.prog 32 (YE N):=aV.e3 (λx0 x1 x2 h=>dO (z:=BZ N x0 x1 x2) h (aLK (aLL N)) rfl)
def Cq(a0:(List aF)):aH:=(.e (.sl .tx) a0,[])
def lP(N:Nat):Cx:=⟨Tryz.prog,99999,[(32,YE N)],[]⟩
def GM:Code:=Tryz.f9.body.getD .skip
theorem aE0 N:aJ (lP N):=cM (by kernel_rfl) (.cons (by kernel_rfl) (aLI N) .nil) .nil
def GQ[aA](N:Nat)(self:aF->Int->O)(k0:(List Int)->Int->Int->Int->aF->Int->(List aF)->(List aF)->O)(x36_0:(List Int))(x36_1 x36_2:Int)(x36_3 x36_5:Int)(x36_7 x36_8:(List aF))(x36_4:aF)(x36_6:Int):O:=
 br (decide (x36_6<x36_5)&&decide ((↑x36_4.length:Int)<(70:Int)))
  (ck (B4 N x36_0 (aS.wrap (aS.wrap (x36_1+1)+x36_6)) (16:Int))<|
  gx x36_7 (B0 N x36_0 (aS.wrap (aS.wrap (x36_1+1)+x36_6)) (16:Int)) λy39=>
  ck (decide ((↑x36_4.length:Int)+(↑y39.length:Int)<=(9223372036854775807:Int)))<|
  self (x36_4++y39) (aS.wrap (x36_6+1)))
  (k0 x36_0 x36_1 x36_2 x36_3 x36_4 x36_5 x36_7 x36_8)
def MT:Code:=cX [1,1,1,1,1,0,1,0,0,1,0,0,1,1,0,1,0,0] GM
def UE:Nm:=⟨[0,3,4,5,6,7,8,9,10],[],[]⟩
def wD(x:(List Int)×Int×Int×Int×aF×Int×Int×(List aF)×(List aF)):Sg:=⟨[(0,.e (.sl (.i .i64)) x.1),(3,.own 0),(4,.own 1),(5,.e (.i .i64) x.2.1),(6,.e (.i .i64) x.2.2.1),(7,.e (.i .i64) x.2.2.2.1),(8,.e .tx x.2.2.2.2.1),(9,.e (.i .i64) x.2.2.2.2.2.1),(10,.e (.i .i64) x.2.2.2.2.2.2.1)],[(0,.row 9 .tx x.2.2.2.2.2.2.2.1 true),(1,.row 9 .tx x.2.2.2.2.2.2.2.2 true)],100⟩
def GK(σ:Sg):(List Int)×Int×Int×Int×aF×Int×Int×(List aF)×(List aF):=(aG (.sl (.i .i64)) 0 0 σ,aG (.i .i64) 5 0 σ,aG (.i .i64) 6 0 σ,aG (.i .i64) 7 0 σ,aG .tx 8 0 σ,aG (.i .i64) 9 0 σ,aG (.i .i64) 10 0 σ,cI .tx 0 σ,cI .tx 1 σ)
theorem aER:∀x,GK (wD x)=x:=λ_=>by kernel_rfl
def GO(y:(List Int)×Int×Int×Int×aF×Int×(List aF)×(List aF)):Exit×Sg:=((.exit 2),⟨[(0,.e (.sl (.i .i64)) y.1),(3,.own 0),(4,.own 1),(5,.e (.i .i64) y.2.1),(6,.e (.i .i64) y.2.2.1),(7,.e (.i .i64) y.2.2.2.1),(8,.e .tx y.2.2.2.2.1),(9,.e (.i .i64) y.2.2.2.2.2.1)],[(0,.row 9 .tx y.2.2.2.2.2.2.1 true),(1,.row 9 .tx y.2.2.2.2.2.2.2 true)],100⟩)
def aEO(_:Exit)(σ:Sg):(List Int)×Int×Int×Int×aF×Int×(List aF)×(List aF):=(aG (.sl (.i .i64)) 0 0 σ,aG (.i .i64) 5 0 σ,aG (.i .i64) 6 0 σ,aG (.i .i64) 7 0 σ,aG .tx 8 0 σ,aG (.i .i64) 9 0 σ,cI .tx 0 σ,cI .tx 1 σ)
def aEM:List (Exit×Nm):=[((.exit 2),⟨[0,3,4,5,6,7,8,9],[],[]⟩)]
def rP[aA](N:Nat):Nat->((List Int)×Int×Int×Int×aF×Int×Int×(List aF)×(List aF))->(((List Int)×Int×Int×Int×aF×Int×(List aF)×(List aF))->O)->((Unit)->O)->((Unit)->O)->O
 |0,_,_,_,_=>none
 |n+1,x,k0,k1,k2=>GQ N (λv0 v1=>rP N n (x.1,x.2.1,x.2.2.1,x.2.2.2.1,v0,x.2.2.2.2.2.1,v1,x.2.2.2.2.2.2.2.1,x.2.2.2.2.2.2.2.2) k0 k1 k2) (λy0 y1 y2 y3 y4 y5 y6 y7=>k0 (y0,y1,y2,y3,y4,y5,y6,y7)) x.1 x.2.1 x.2.2.1 x.2.2.2.1 x.2.2.2.2.2.1 x.2.2.2.2.2.2.2.1 x.2.2.2.2.2.2.2.2 x.2.2.2.2.1 x.2.2.2.2.2.2.1
def Cr[aA] N a0 a1 a2 a3 a4 a5 a6 a7 a8 (k0:(List Int)->Int->Int->Int->aF->Int->(List aF)->(List aF)->O):=rP N N (a0,a1,a2,a3,a4,a5,a6,a7,a8) (λy=>k0 y.1 y.2.1 y.2.2.1 y.2.2.2.1 y.2.2.2.2.1 y.2.2.2.2.2.1 y.2.2.2.2.2.2.1 y.2.2.2.2.2.2.2) (λ_=>none) (λ_=>none)
def MQ[aA] N a0 a1 a2 a3 a4 a5 a6 a7 a8 (k0:(List Int)->Int->Int->Int->aF->Int->(List aF)->(List aF)->O):=aW wD GK (rP N N) (wD (a0,a1,a2,a3,a4,a5,a6,a7,a8)) (λy=>k0 y.1 y.2.1 y.2.2.1 y.2.2.2.1 y.2.2.2.2.1 y.2.2.2.2.2.1 y.2.2.2.2.2.2.1 y.2.2.2.2.2.2.2) (λ_=>none) (λ_=>none)
theorem UH[aA] N:MQ N=Cr N:=funext λ_=>funext λ_=>funext λ_=>funext λ_=>funext λ_=>funext λ_=>funext λ_=>funext λ_=>funext λ_=>funext λ_=>dY aER _ _ _ _
theorem aET[aA](N:Nat)(self:Sg->O)(K:Exit->Sg->O)(x:(List Int)×Int×Int×Int×aF×Int×Int×(List aF)×(List aF)):GQ N (λv0 v1=>self (wD (x.1,x.2.1,x.2.2.1,x.2.2.2.1,v0,x.2.2.2.2.2.1,v1,x.2.2.2.2.2.2.2.1,x.2.2.2.2.2.2.2.2))) (λy0 y1 y2 y3 y4 y5 y6 y7=>K (GO (y0,y1,y2,y3,y4,y5,y6,y7)).1 (GO (y0,y1,y2,y3,y4,y5,y6,y7)).2) x.1 x.2.1 x.2.2.1 x.2.2.2.1 x.2.2.2.2.2.1 x.2.2.2.2.2.2.2.1 x.2.2.2.2.2.2.2.2 x.2.2.2.2.1 x.2.2.2.2.2.2.1=exec (lP N) Tryz.f9.ntmps .d MT (wD x) (dQ UE aEM self K):=by kernel_rfl
theorem aE4 N (hc:aJ (lP N)):dB (lP N) Tryz.f9.ntmps (.loop MT) GO (aR 1) (aR 2) (aW wD GK (rP N N)):=
 eG hc (dS MT) (iZ aEO (.exit 2) (λ_=>by kernel_rfl) (λ_=>rfl) (by kernel_rfl)) (n:=N) (λx K=>eH (rP N) (λ_ _ _ _=>rfl) (λn K ih x=>by
  refine eZ ?_ (aET N _ K x);simp only[<-ih];rfl) N x K)
def GP[aA](N:Nat)(in0:(List Int)->Int->Int->Int->aF->Int->Int->(List aF)->(List aF)->((List Int)->Int->Int->Int->aF->Int->(List aF)->(List aF)->O)->O)(self:(List Int)->Int->Int->Int->(List aF)->(List aF)->O)(k0:(List aF)->O)(x0_0:(List Int))(x0_1 x0_2 x0_3:Int)(x0_4 x0_5:(List aF)):O:=
 br (decide (x0_3<x0_2))
  (ck (B4 N x0_0 x0_1 (9:Int))<|
  in0 x0_0 x0_1 x0_2 x0_3 [] (B0 N x0_0 x0_1 (9:Int)) 0 x0_4 x0_5
   (λz40 z41 z42 z43 z44 z45 z46 z47=>
    ck (b8 (z47++[z44]).length (16:Nat))<|
    self z40 (aS.wrap (aS.wrap (z41+1)+z45)) z42 (aS.wrap (z43+1)) z46 (z47++[z44])))
  (k0 x0_5)
def MS:Code:=cX [1,1,1,1,1,0,1,0,0] GM
def UD:Nm:=⟨[0,3,4,5,6,7],[],[.kG 4 (.row 9 .tx [] true)]⟩
def wC(x:(List Int)×Int×Int×Int×(List aF)×(List aF)):Sg:=⟨[(0,.e (.sl (.i .i64)) x.1),(3,.own 0),(4,.own 1),(5,.e (.i .i64) x.2.1),(6,.e (.i .i64) x.2.2.1),(7,.e (.i .i64) x.2.2.2.1)],[(0,.row 9 .tx x.2.2.2.2.1 true),(1,.row 9 .tx x.2.2.2.2.2 true)],100⟩
def GJ(σ:Sg):(List Int)×Int×Int×Int×(List aF)×(List aF):=(aG (.sl (.i .i64)) 0 0 σ,aG (.i .i64) 5 0 σ,aG (.i .i64) 6 0 σ,aG (.i .i64) 7 0 σ,cI .tx 0 σ,cI .tx 1 σ)
theorem aEQ:∀x,GJ (wC x)=x:=λ_=>by kernel_rfl
def GN(y:(List aF)):Exit×Sg:=((.exit 0),⟨[(4,.own 0)],[(0,.row 9 .tx y true)],100⟩)
def aEN(_:Exit)(σ:Sg):(List aF):=cI .tx 0 σ
def aEL:List (Exit×Nm):=[((.exit 0),⟨[4],[],[]⟩)]
def p8[aA](N:Nat):Nat->((List Int)×Int×Int×Int×(List aF)×(List aF))->(((List aF))->O)->((Unit)->O)->((Unit)->O)->O
 |0,_,_,_,_=>none
 |n+1,x,k0,k1,k2=>GP N (Cr N) (λv0 v1 v2 v3 v4 v5=>p8 N n (v0,v1,v2,v3,v4,v5) k0 k1 k2) (λy0=>k0 y0) x.1 x.2.1 x.2.2.1 x.2.2.2.1 x.2.2.2.2.1 x.2.2.2.2.2
def MR[aA] N a0 a1 a2 a3 a4 a5 (k0:(List aF)->O):=p8 N N (a0,a1,a2,a3,a4,a5) (λy=>k0 y) (λ_=>none) (λ_=>none)
def UC[aA] N a0 a1 a2 a3 a4 a5 (k0:(List aF)->O):=aW wC GJ (p8 N N) (wC (a0,a1,a2,a3,a4,a5)) (λy=>k0 y) (λ_=>none) (λ_=>none)
theorem aEZ[aA] N:UC N=MR N:=funext λ_=>funext λ_=>funext λ_=>funext λ_=>funext λ_=>funext λ_=>funext λ_=>dY aEQ _ _ _ _
def UF[aA](N:Nat):Hint:=(.seq .d (.seq (.block (.seq .d (.seq .d (.seq (.seq .d (.block (.sub UE _ _ _ GO (aR 1) (aR 2) (aW wD GK (rP N N))))) .d)))) .d))
theorem aEW N (hc:aJ (lP N)):bN (lP N) Tryz.f9.ntmps (UF N) MS:=bW _ _ (aK trivial (aK (aK trivial (aK trivial (aK (aK trivial (aE4 N hc)) trivial))) trivial))
theorem aES[aA](N:Nat)(self:Sg->O)(K:Exit->Sg->O)(x:(List Int)×Int×Int×Int×(List aF)×(List aF)):GP N (MQ N) (λv0 v1 v2 v3 v4 v5=>self (wC (v0,v1,v2,v3,v4,v5))) (λy0=>K (GN y0).1 (GN y0).2) x.1 x.2.1 x.2.2.1 x.2.2.2.1 x.2.2.2.2.1 x.2.2.2.2.2=exec (lP N) Tryz.f9.ntmps (UF N) MS (wC x) (dQ UD aEL self K):=by kernel_rfl
theorem aE3 N (hc:aJ (lP N)):dB (lP N) Tryz.f9.ntmps (.loop MS) GN (aR 1) (aR 2) (aW wC GJ (p8 N N)):=
 eG hc (aEW N hc) (iZ aEN (.exit 0) (λ_=>by kernel_rfl) (λ_=>rfl) (by kernel_rfl)) (n:=N) (λx K=>eH (p8 N) (λ_ _ _ _=>rfl) (λn K ih x=>by
  refine eZ ?_ (aES N _ K x);simp only[UH N,<-ih];rfl) N x K)
def MU[aA](N:Nat)(_in0:(List Int)->Int->Int->Int->aF->Int->Int->(List aF)->(List aF)->((List Int)->Int->Int->Int->aF->Int->(List aF)->(List aF)->O)->O)(in1:(List Int)->Int->Int->Int->(List aF)->(List aF)->((List aF)->O)->O)(l0:(List Int)):O:=
 ck (B4 N l0 (0:Int) (5:Int))<|
 in1 l0 1 (B0 N l0 (0:Int) (5:Int)) 0 [[(105:UInt8),(102:UInt8)],[(32:UInt8)],[(32:UInt8),(32:UInt8)],[(120:UInt8)],[(123:UInt8)],[(125:UInt8)],[(84:UInt8),(111:UInt8),(116:UInt8),(97:UInt8),(108:UInt8)],[(95:UInt8)],[(64:UInt8)],[(61:UInt8)],[(49:UInt8),(48:UInt8)],[(34:UInt8)],[(126:UInt8)],[(97:UInt8),(91:UInt8),(105:UInt8),(93:UInt8)],[(32:UInt8),(32:UInt8),(32:UInt8),(32:UInt8),(32:UInt8),(32:UInt8),(32:UInt8),(32:UInt8)],[(96:UInt8)]] []
  (λz48=>
   some (Cq z48))
def w9[aA] N l0:=MU N (Cr N) (MR N) l0
def UG[aA](N:Nat):Hint:=(.seq .d (.seq .d (.seq .d (.seq .d (.seq .d (.seq (.seq .d (.block (.sub UD _ _ _ GN (aR 1) (aR 2) (aW wC GJ (p8 N N))))) .d))))))
theorem aEX N (hc:aJ (lP N)):bN (lP N) Tryz.f9.ntmps (UG N) GM:=bW _ _ (aK trivial (aK trivial (aK trivial (aK trivial (aK trivial (aK (aK trivial (aE3 N hc)) trivial))))))
theorem w9q[aA] N l0:MU N (MQ N) (UC N) l0=exec (lP N) Tryz.f9.ntmps (UG N) GM ⟨cC 0 [.e (.sl (.i .i64)) l0],[],100⟩ (cJ (lP N) Tryz.f9 false):=by kernel_rfl
def GI(r:aH):Option ((List aF)):=match r with
 |(x0,[])=>(match ue (.sl .tx) x0 with|some a0=>some a0|_=>none)
 |_=>none
theorem aEP{r d}(h:GI r=some d):r=Cq (d):=by
 unfold GI at h;split at h
 .split at h
  .rename_i h0;cases h;rw[b7 h0];rfl
  .cases h
 .cases h
def Ao N l0:=(w9 N l0).bind GI
theorem aEY{N}(hc:aJ (lP N)){l0 d}(hd:Ao N l0=some d):cR Tryz.prog 9 [.e (.sl (.i .i64)) l0] [] (Cq (d)):=
 c8 hc (by kernel_rfl) (by kernel_rfl) (aEX N hc) (by kernel_rfl) aEP (λhr=>(w9q N l0).symm.trans (by rw[UH N,aEZ N];exact hr)) hd
def GL N l0:=(Ao N l0).isSome
def wB N l0:=((Ao N l0).getD [])
def UI(N:Nat):bO:=E1 (.sl (.i .i64)) (λx0=>(GL N x0,Cq (wB N x0)))
theorem aEV N:aV Tryz.prog 9 (UI N):=aV.e1 (λx0 h=>dO (z:=Ao N x0) h (aEY (aE0 N)) rfl)
def aAL(a0:Int):aH:=(.e (.i .i64) a0,[])
def aPQ[aA](N:Nat)(self:Int->O)(k0:Int->O)(k1:Unit->O)(x0_0:aF)(x0_1 x0_2:Int):O:=
 br (decide (x0_2<x0_1))
  (gx x0_0 x0_2 λy3=>
  ck (aHY N y3)<|
  br (aHV N y3)
   (k0 x0_2)
   (self (aS.wrap (x0_2+(1:Int)))))
  (k1 ())
def aAM[aA](N:Nat):Nat->(aF×Int×Int)->((Int)->O)->((Unit)->O)->((Unit)->O)->O
 |0,_,_,_,_=>none
 |n+1,x,k0,k1,k2=>aPQ N (λv0=>aAM N n (x.1,x.2.1,v0) k0 k1 k2) (λy0=>k0 y0) (λ(_:Unit)=>k1 ()) x.1 x.2.1 x.2.2
def aPO[aA] N a0 a1 a2 (k0:Int->O) (k1:Unit->O):=aAM N N (a0,a1,a2) (λy=>k0 y) (λy=>k1 y) (λ_=>none)
def aPP[aA](_:Nat)(in0:aF->Int->Int->(Int->O)->(Unit->O)->O)(s0:aF):O:=
 in0 s0 ((↑s0.length:Int)) ((0:Int))
  (λz4=>
   some (aAL z4))
  (λ(_:Unit)=>
   some (aAL ((-1:Int))))
def v72[aA] N s0:=aPP N (aPO N) s0
def aPM(r:aH):Option (Int):=match r with
 |(x0,[])=>(match ue (.i .i64) x0 with|some a0=>some a0|_=>none)
 |_=>none
def aAK N s0:=(v72 N s0).bind aPM
def aPN N s0:=(aAK N s0).isSome
def aPL N s0:=((aAK N s0).getD 0)
def aP2(a0:Bool):aH:=(.e .bo a0,[])
def aP3[aA](N:Nat)(s0:aF):O:=
 ck (aPN N s0)<|
 some (aP2 (decide ((0:Int)<=aPL N s0)))
def v53[aA] N s0:=aP3 N s0
def sY(a0:Int):aH:=(.e (.i .i64) a0,[])
def aPK(N:Nat):List (Nat×bO):=[(64,Gs N)]
def lW(N:Nat):Cx:=⟨Tryz.prog,99999,aPK N,[]⟩
def KU:Code:=Tryz.f77.body.getD .skip
theorem aPH N:aJ (lW N):=cM (by kernel_rfl) (.cons (by kernel_rfl) (Mp N) .nil) .nil
def Bo[aA](N:Nat)(self:Int->O)(k0:Int->O)(k1:Unit->O)(x0_0:(List aF))(x0_1 x0_2:Int):O:=
 br (decide (x0_2<x0_1))
  (gx x0_0 x0_2 λy3=>
  ck (rZ N y3)<|
  br (rY N y3)
   (k0 x0_2)
   (self (aS.wrap (x0_2+(1:Int)))))
  (k1 ())
def Bn:Code:=cX [1,0,1,0,0] KU
def EV:Nm:=⟨[0,1,7,8],[],[]⟩
def sZ(x:(List aF)×Int×Int):Sg:=⟨[(0,.e (.sl .tx) x.1),(1,.fn 64 []),(7,.e (.i .i64) x.2.1),(8,.e (.i .i64) x.2.2)],[],100⟩
def KS(σ:Sg):(List aF)×Int×Int:=(aG (.sl .tx) 0 0 σ,aG (.i .i64) 7 0 σ,aG (.i .i64) 8 0 σ)
theorem aOw:∀x,KS (sZ x)=x:=λ_=>by kernel_rfl
def mI(y:Int):Exit×Sg:=(.ret,⟨[(4,.e (.i .i64) y)],[],100⟩)
def aOu(_:Exit)(σ:Sg):Int:=aG (.i .i64) 4 0 σ
def mH(_:Unit):Exit×Sg:=((.exit 0),⟨[],[],100⟩)
def aOt(_:Exit)(_:Sg):Unit:=()
def KR:List (Exit×Nm):=[(.ret,⟨[4],[],[]⟩),((.exit 0),⟨[],[],[]⟩)]
theorem aPB:pQ aOu aOt (λ_ _=>()) mI mH (aR 2) (eU .ret) (eU (.exit 0)) (eU (.goto 2)):=⟨λ_=>by kernel_rfl,λ_=>by kernel_rfl,λ_=>by kernel_rfl,λ_=>by kernel_rfl,λ_=>by kernel_rfl,λ_=>by kernel_rfl,jY (by kernel_rfl),jY (by kernel_rfl),jY (by kernel_rfl)⟩
def nS[aA](N:Nat):Nat->((List aF)×Int×Int)->((Int)->O)->((Unit)->O)->((Unit)->O)->O
 |0,_,_,_,_=>none
 |n+1,x,k0,k1,k2=>Bo N (λv0=>nS N n (x.1,x.2.1,v0) k0 k1 k2) (λy0=>k0 y0) (λ(_:Unit)=>k1 ()) x.1 x.2.1 x.2.2
def QI[aA] N a0 a1 a2 (k0:Int->O) (k1:Unit->O):=nS N N (a0,a1,a2) (λy=>k0 y) (λy=>k1 y) (λ_=>none)
def aAG[aA] N a0 a1 a2 (k0:Int->O) (k1:Unit->O):=aW sZ KS (nS N N) (sZ (a0,a1,a2)) (λy=>k0 y) (λy=>k1 y) (λ_=>none)
theorem aPF[aA] N:aAG N=QI N:=funext λ_=>funext λ_=>funext λ_=>funext λ_=>funext λ_=>dY aOw _ _ _ _
def EW[aA](_:Nat):Hint:=.d
theorem aPC N:bN (lW N) Tryz.f77.ntmps (EW N) Bn:=bW _ _ trivial
theorem aOy[aA](N:Nat)(self:Sg->O)(K:Exit->Sg->O)(x:(List aF)×Int×Int):Bo N (λv0=>self (sZ (x.1,x.2.1,v0))) (λy0=>K (mI y0).1 (mI y0).2) (λ(_:Unit)=>K (mH ()).1 (mH ()).2) x.1 x.2.1 x.2.2=exec (lW N) Tryz.f77.ntmps (EW N) Bn (sZ x) (dQ EV KR self K):=by kernel_rfl
theorem aPJ N (hc:aJ (lW N)):dB (lW N) Tryz.f77.ntmps (.loop Bn) mI mH (aR 2) (aW sZ KS (nS N N)):=
 eG hc (aPC N) aPB (n:=N) (λx K=>eH (nS N) (λ_ _ _ _=>rfl) (λn K ih x=>by
  have h:Bo N (λv0=>nS N n (x.1,x.2.1,v0) (λy=>K (mI y).1 (mI y).2) (λy=>K (mH y).1 (mH y).2) (λy=>K ((aR 2) y).1 ((aR 2) y).2)) (λy0=>K (mI y0).1 (mI y0).2) (λ(_:Unit)=>K (mH ()).1 (mH ()).2) x.1 x.2.1 x.2.2=Bo N (λv0=>iQ (lW N) Tryz.f77.ntmps (EW N) Bn EV KR n (sZ (x.1,x.2.1,v0)) K) (λy0=>K (mI y0).1 (mI y0).2) (λ(_:Unit)=>K (mH ()).1 (mH ()).2) x.1 x.2.1 x.2.2:=by rw[ show(λv0=>nS N n (x.1,x.2.1,v0) (λy=>K (mI y).1 (mI y).2) (λy=>K (mH y).1 (mH y).2) (λy=>K ((aR 2) y).1 ((aR 2) y).2))=(λv0=>iQ (lW N) Tryz.f77.ntmps (EW N) Bn EV KR n (sZ (x.1,x.2.1,v0)) K)from funext λ_=>ih _]
  exact h.trans (aOy N (λσ=>iQ (lW N) Tryz.f77.ntmps (EW N) Bn EV KR n σ K) K x)) N x K)
def QJ[aA](_:Nat)(in0:(List aF)->Int->Int->(Int->O)->(Unit->O)->O)(s0:(List aF)):O:=
 in0 s0 ((↑s0.length:Int)) ((0:Int))
  (λz4=>
   some (sY z4))
  (λ(_:Unit)=>
   some (sY ((-1:Int))))
def QK[aA] N s0:=QJ N (QI N) s0
def aAH[aA](N:Nat):Hint:=(.seq .d (.seq (.seq .d (.block (.sub EV _ _ _ mI mH (aR 2) (aW sZ KS (nS N N))))) .d))
theorem aPD N (hc:aJ (lW N)):bN (lW N) Tryz.f77.ntmps (aAH N) KU:=bW _ _ (aK trivial (aK (aK trivial (aPJ N hc)) trivial))
theorem aOz[aA] N s0:QJ N (aAG N) s0=exec (lW N) Tryz.f77.ntmps (aAH N) KU ⟨cC 0 [.e (.sl .tx) s0,.fn 64 []],[],100⟩ (cJ (lW N) Tryz.f77 false):=by kernel_rfl
theorem aPG{N:Nat}(hc:aJ (lW N)){s0:(List aF)}{r:aH}(h:QK N s0=some r):jO Tryz.prog 77 (([.e (.sl .tx) s0,.fn 64 []]:List X).map X.D) (HA []) r:=
 oC hc (f:=77) (fn:=Tryz.f77) (code:=KU) (by kernel_rfl) (by kernel_rfl) (aPD N hc) (eJ (by kernel_rfl)) (ow:=false) ((aOz N s0).symm.trans (by rw[aPF N];exact h))
def EU(r:aH):Option (Int):=match r with
 |(x0,[])=>(match ue (.i .i64) x0 with|some a0=>some a0|_=>none)
 |_=>none
theorem aOv{r d}(h:EU r=some d):r=sY (d):=by
 unfold EU at h;split at h
 .split at h
  .rename_i h0;cases h;rw[b7 h0];rfl
  .cases h
 .cases h
def zS N s0:=(QK N s0).bind EU
theorem aPE{N}(hc:aJ (lW N)){s0 d}(hd:zS N s0=some d):cR Tryz.prog 77 [.e (.sl .tx) s0,.fn 64 []] [] (sY (d)):=by
 obtain⟨r,hr,hu⟩:=jK.1 hd;have:=aPG hc hr;rw[aOv hu]at this;exact this
def KT N s0:=(zS N s0).isSome
def Bm N s0:=((zS N s0).getD 0)
def aAI(N:Nat):bO:=v8 (.sl .tx) 64 (λx0=>(KT N x0,sY (Bm N x0)))
theorem aOx{N s0 d}(hd:zS N s0=some d):sY (Bm N s0)=sY (d):=by unfold Bm;rw[hd];rfl
theorem aPA N:aV Tryz.prog 77 (aAI N):=aV.f1 (λx0 h=>by
 have h:(zS N x0).isSome=true:=h;obtain⟨d,hd⟩:=pR.1 h;have f:=aPE (aPH N) hd;rw[<-aOx hd]at f;exact f)
def Bq(a0:Bool):aH:=(.e .bo a0,[])
def aP1(N:Nat):List (Nat×bO):=[(64,Gs N),(77,aAI N)]
def Br(N:Nat):Cx:=⟨Tryz.prog,99999,aP1 N,[]⟩
def QM:Code:=Tryz.f62.body.getD .skip
theorem aPY N:aJ (Br N):=cM (by kernel_rfl) (.cons (by kernel_rfl) (Mp N) (.cons (by kernel_rfl) (aPA N) .nil)) .nil
def QN[aA](N:Nat)(s0:(List aF)):O:=
 ck (KT N s0)<|
 some (Bq (decide ((0:Int)<=Bm N s0)))
def QO[aA] N s0:=QN N s0
def aAN[aA](_:Nat):Hint:=.d
theorem aPV N:bN (Br N) Tryz.f62.ntmps (aAN N) QM:=bW _ _ trivial
theorem aPT[aA] N s0:QN N s0=exec (Br N) Tryz.f62.ntmps (aAN N) QM ⟨cC 0 [.e (.sl .tx) s0,.fn 64 []],[],100⟩ (cJ (Br N) Tryz.f62 false):=by kernel_rfl
theorem aPX{N:Nat}(hc:aJ (Br N)){s0:(List aF)}{r:aH}(h:QO N s0=some r):jO Tryz.prog 62 (([.e (.sl .tx) s0,.fn 64 []]:List X).map X.D) (HA []) r:=
 oC hc (f:=62) (fn:=Tryz.f62) (code:=QM) (by kernel_rfl) (by kernel_rfl) (aPV N) (eJ (by kernel_rfl)) (ow:=false) ((aPT N s0).symm.trans (by exact h))
def QL(r:aH):Option (Bool):=match r with
 |(x0,[])=>(match ue .bo x0 with|some a0=>some a0|_=>none)
 |_=>none
theorem aPR{r d}(h:QL r=some d):r=Bq (d):=by
 unfold QL at h;split at h
 .split at h
  .rename_i h0;cases h;rw[b7 h0];rfl
  .cases h
 .cases h
def zT N s0:=(QO N s0).bind QL
theorem aPW{N}(hc:aJ (Br N)){s0 d}(hd:zT N s0=some d):cR Tryz.prog 62 [.e (.sl .tx) s0,.fn 64 []] [] (Bq (d)):=by
 obtain⟨r,hr,hu⟩:=jK.1 hd;have:=aPX hc hr;rw[aPR hu]at this;exact this
def KV N s0:=(zT N s0).isSome
def Bp N s0:=((zT N s0).getD false)
def aAO(N:Nat):bO:=v8 (.sl .tx) 64 (λx0=>(KV N x0,Bq (Bp N x0)))
theorem aPS{N s0 d}(hd:zT N s0=some d):Bq (Bp N s0)=Bq (d):=by unfold Bp;rw[hd];rfl
theorem aPU N:aV Tryz.prog 62 (aAO N):=aV.f1 (λx0 h=>by
 have h:(zT N x0).isSome=true:=h;obtain⟨d,hd⟩:=pR.1 h;have f:=aPW (aPY N) hd;rw[<-aPS hd]at f;exact f)
def zV(a0:(List aF)):aH:=(.own 100,[(100,.row 23 (.sl .u8) a0 true)])
def aPj(N:Nat):List (Nat×bO):=[(60,Mz N),(61,Mw N)]
def lX(N:Nat):Cx:=⟨Tryz.prog,99999,aPj N,[]⟩
def KZ:Code:=Tryz.f39.body.getD .skip
theorem aPh N:aJ (lX N):=cM (by kernel_rfl) (.cons (by kernel_rfl) (VR N) (.cons (by kernel_rfl) (VJ N) .nil)) .nil
def Bt[aA](N:Nat)(self:Int->(List aF)->O)(k0:(List aF)->O)(x0_0:aF)(x0_1:Int)(x0_2:(List aF)):O:=
 br (decide (x0_1<(↑x0_0.length:Int)))
  (ck (DP N x0_0)<|
  br (decide (DN N x0_0<=x0_1))
   (ck (b8 (x0_2++[[(32:UInt8),(2:UInt8)]]).length (24:Nat))<|
   self (aS.wrap (x0_1+(1:Int))) (x0_2++[[(32:UInt8),(2:UInt8)]]))
   (gx x0_0 x0_1 λy4=>
   ck (DL N y4)<|
   ck (b8 (x0_2++[wR N y4]).length (24:Nat))<|
   self (aS.wrap (x0_1+(1:Int))) (x0_2++[wR N y4])))
  (k0 x0_2)
def Bs:Code:=cX [1,1,0,1,0,0] KZ
def EX:Nm:=⟨[0,3,4],[],[.kG 3 (.row 23 (.sl .u8) [] true)]⟩
def s8(x:aF×Int×(List aF)):Sg:=⟨[(0,.e .tx x.1),(3,.own 0),(4,.e (.i .i64) x.2.1)],[(0,.row 23 (.sl .u8) x.2.2 true)],100⟩
def KY(σ:Sg):aF×Int×(List aF):=(aG .tx 0 0 σ,aG (.i .i64) 4 0 σ,cI (.sl .u8) 0 σ)
theorem aP6:∀x,KY (s8 x)=x:=λ_=>by kernel_rfl
def mJ(y:(List aF)):Exit×Sg:=((.exit 0),⟨[(3,.own 0)],[(0,.row 23 (.sl .u8) y true)],100⟩)
def aP4(_:Exit)(σ:Sg):(List aF):=cI (.sl .u8) 0 σ
def KW:List (Exit×Nm):=[((.exit 0),⟨[3],[],[]⟩)]
theorem aPb:pQ aP4 (λ_ _=>()) (λ_ _=>()) mJ (aR 1) (aR 2) (eU (.exit 0)) (eU (.goto 1)) (eU (.goto 2)):=⟨λ_=>by kernel_rfl,λ_=>by kernel_rfl,λ_=>by kernel_rfl,λ_=>by kernel_rfl,λ_=>by kernel_rfl,λ_=>by kernel_rfl,jY (by kernel_rfl),jY (by kernel_rfl),jY (by kernel_rfl)⟩
def s7[aA](N:Nat):Nat->(aF×Int×(List aF))->(((List aF))->O)->((Unit)->O)->((Unit)->O)->O
 |0,_,_,_,_=>none
 |n+1,x,k0,k1,k2=>Bt N (λv0 v1=>s7 N n (x.1,v0,v1) k0 k1 k2) (λy0=>k0 y0) x.1 x.2.1 x.2.2
def QP[aA] N a0 a1 a2 (k0:(List aF)->O):=s7 N N (a0,a1,a2) (λy=>k0 y) (λ_=>none) (λ_=>none)
def aAQ[aA] N a0 a1 a2 (k0:(List aF)->O):=aW s8 KY (s7 N N) (s8 (a0,a1,a2)) (λy=>k0 y) (λ_=>none) (λ_=>none)
theorem aPf[aA] N:aAQ N=QP N:=funext λ_=>funext λ_=>funext λ_=>funext λ_=>dY aP6 _ _ _ _
def EY[aA](_:Nat):Hint:=.d
theorem aPc N:bN (lX N) Tryz.f39.ntmps (EY N) Bs:=bW _ _ trivial
theorem aP8[aA](N:Nat)(self:Sg->O)(K:Exit->Sg->O)(x:aF×Int×(List aF)):Bt N (λv0 v1=>self (s8 (x.1,v0,v1))) (λy0=>K (mJ y0).1 (mJ y0).2) x.1 x.2.1 x.2.2=exec (lX N) Tryz.f39.ntmps (EY N) Bs (s8 x) (dQ EX KW self K):=by kernel_rfl
theorem aPi N (hc:aJ (lX N)):dB (lX N) Tryz.f39.ntmps (.loop Bs) mJ (aR 1) (aR 2) (aW s8 KY (s7 N N)):=
 eG hc (aPc N) aPb (n:=N) (λx K=>eH (s7 N) (λ_ _ _ _=>rfl) (λn K ih x=>by
  have h:Bt N (λv0 v1=>s7 N n (x.1,v0,v1) (λy=>K (mJ y).1 (mJ y).2) (λy=>K ((aR 1) y).1 ((aR 1) y).2) (λy=>K ((aR 2) y).1 ((aR 2) y).2)) (λy0=>K (mJ y0).1 (mJ y0).2) x.1 x.2.1 x.2.2=Bt N (λv0 v1=>iQ (lX N) Tryz.f39.ntmps (EY N) Bs EX KW n (s8 (x.1,v0,v1)) K) (λy0=>K (mJ y0).1 (mJ y0).2) x.1 x.2.1 x.2.2:=by rw[ show(λv0 v1=>s7 N n (x.1,v0,v1) (λy=>K (mJ y).1 (mJ y).2) (λy=>K ((aR 1) y).1 ((aR 1) y).2) (λy=>K ((aR 2) y).1 ((aR 2) y).2))=(λv0 v1=>iQ (lX N) Tryz.f39.ntmps (EY N) Bs EX KW n (s8 (x.1,v0,v1)) K)from funext λ_=>funext λ_=>ih _]
  exact h.trans (aP8 N (λσ=>iQ (lX N) Tryz.f39.ntmps (EY N) Bs EX KW n σ K) K x)) N x K)
def QR[aA](_:Nat)(in0:aF->Int->(List aF)->((List aF)->O)->O)(s0:aF):O:=
 in0 s0 ((0:Int)) []
  (λz5=>
   some (zV z5))
def QS[aA] N s0:=QR N (QP N) s0
def aAR[aA](N:Nat):Hint:=(.seq .d (.seq .d (.seq (.seq .d (.block (.sub EX _ _ _ mJ (aR 1) (aR 2) (aW s8 KY (s7 N N))))) .d)))
theorem aPd N (hc:aJ (lX N)):bN (lX N) Tryz.f39.ntmps (aAR N) KZ:=bW _ _ (aK trivial (aK trivial (aK (aK trivial (aPi N hc)) trivial)))
theorem aP9[aA] N s0:QR N (aAQ N) s0=exec (lX N) Tryz.f39.ntmps (aAR N) KZ ⟨cC 0 [.e .tx s0],[],100⟩ (cJ (lX N) Tryz.f39 true):=by kernel_rfl
theorem aPg{N:Nat}(hc:aJ (lX N)){s0:aF}{r:aH}(h:QS N s0=some r):jO Tryz.prog 39 (([.e .tx s0]:List X).map X.D) (HA []) r:=
 oC hc (f:=39) (fn:=Tryz.f39) (code:=KZ) (by kernel_rfl) (by kernel_rfl) (aPd N hc) (eJ (by kernel_rfl)) (ow:=true) ((aP9 N s0).symm.trans (by rw[aPf N];exact h))
def KX(r:aH):Option ((List aF)):=match r with
 |(.own 100,[(100,x0)])=>(match ur 23 (.sl .u8) true x0 with|some a0=>some a0|_=>none)
 |_=>none
theorem aP5{r d}(h:KX r=some d):r=zV (d):=by
 unfold KX at h;split at h
 .split at h
  .rename_i h0;cases h;rw[lD h0];rfl
  .cases h
 .cases h
def zU N s0:=(QS N s0).bind KX
theorem aPe{N}(hc:aJ (lX N)){s0 d}(hd:zU N s0=some d):cR Tryz.prog 39 [.e .tx s0] [] (zV (d)):=by
 obtain⟨r,hr,hu⟩:=jK.1 hd;have:=aPg hc hr;rw[aP5 hu]at this;exact this
def zW N s0:=(zU N s0).isSome
def kC N s0:=((zU N s0).getD [])
def aAS(N:Nat):bO:=E1 .tx (λx0=>(zW N x0,zV (kC N x0)))
theorem aP7{N s0 d}(hd:zU N s0=some d):zV (kC N s0)=zV (d):=by unfold kC;rw[hd];rfl
theorem aPa N:aV Tryz.prog 39 (aAS N):=aV.e1 (λx0 h=>by
 have h:(zU N x0).isSome=true:=h;obtain⟨d,hd⟩:=pR.1 h;have f:=aPe (aPh N) hd;rw[<-aP7 hd]at f;exact f)
def QV(a0:aF):aH:=(.own 100,[(100,.row 5 .u8 a0 false)])
def aPr(_:Nat):List (Nat×bO):=[]
def Bu(N:Nat):Cx:=⟨Tryz.prog,99999,aPr N,[]⟩
def QW:Code:=Tryz.f13.body.getD .skip
theorem aPp N:aJ (Bu N):=cM (by kernel_rfl) .nil .nil
def QX[aA](_:Nat)(b0:aF)(most1:Int):O:=
 ck (dJ b0.length none (some (min (↑b0.length:Int) most1)))<|
 ck (b8 (cA b0 none (some (min (↑b0.length:Int) most1))).length (1:Nat))<|
 some (QV (cA b0 none (some (min (↑b0.length:Int) most1))))
def QY[aA] N b0 most1:=QX N b0 most1
def aAW[aA](_:Nat):Hint:=(.seq .d (.seq .d (.seq (.jS [7] [] []) .d)))
theorem aPm N:bN (Bu N) Tryz.f13.ntmps (aAW N) QW:=bW _ _ (aK trivial (aK trivial (aK trivial trivial)))
theorem aPl[aA] N b0 most1:QX N b0 most1=exec (Bu N) Tryz.f13.ntmps (aAW N) QW ⟨cC 0 [.e (.sl .u8) b0,.e (.i .i64) most1],[],100⟩ (cJ (Bu N) Tryz.f13 true):=by kernel_rfl
theorem aPo{N:Nat}(hc:aJ (Bu N)){b0:aF}{most1:Int}{r:aH}(h:QY N b0 most1=some r):jO Tryz.prog 13 (([.e (.sl .u8) b0,.e (.i .i64) most1]:List X).map X.D) (HA []) r:=
 oC hc (f:=13) (fn:=Tryz.f13) (code:=QW) (by kernel_rfl) (by kernel_rfl) (aPm N) (eJ (by kernel_rfl)) (ow:=true) ((aPl N b0 most1).symm.trans (by exact h))
def QU(r:aH):Option (aF):=match r with
 |(.own 100,[(100,x0)])=>(match ur 5 .u8 false x0 with|some a0=>some a0|_=>none)
 |_=>none
theorem aPk{r d}(h:QU r=some d):r=QV (d):=by
 unfold QU at h;split at h
 .split at h
  .rename_i h0;cases h;rw[lD h0];rfl
  .cases h
 .cases h
def QT N b0 most1:=(QY N b0 most1).bind QU
theorem aPn{N}(hc:aJ (Bu N)){b0 most1 d}(hd:QT N b0 most1=some d):cR Tryz.prog 13 [.e (.sl .u8) b0,.e (.i .i64) most1] [] (QV (d)):=by
 obtain⟨r,hr,hu⟩:=jK.1 hd;have:=aPo hc hr;rw[aPk hu]at this;exact this
def Bz(a0:aF):aH:=(.own 100,[(100,.row 5 .u8 a0 true)])
def aQF(_:Nat):List (Nat×bO):=[]
def CA(N:Nat):Cx:=⟨Tryz.prog,99999,aQF N,[]⟩
def Q5:Code:=Tryz.f13.body.getD .skip
theorem aQE(N:Nat):aJ (CA N):=cM (by kernel_rfl) .nil .nil
def Q6[aA](_:Nat)(b0:aF)(most1:Int):O:=
 ck (dJ b0.length none (some (min (↑b0.length:Int) most1)))<|
 ck (b8 (cA b0 none (some (min (↑b0.length:Int) most1))).length (1:Nat))<|
 some (Bz (cA b0 none (some (min (↑b0.length:Int) most1))))
def Q7[aA](N:Nat)(b0:aF)(most1:Int):O:=Q6 N b0 most1
def aA4[aA](_:Nat):Hint:=.d
theorem aQB(N:Nat):bN (CA N) Tryz.f13.ntmps (aA4 N) Q5:=bW _ _ trivial
theorem aPz[aA](N:Nat)(b0:aF)(most1:Int):Q6 N b0 most1=exec (CA N) Tryz.f13.ntmps (aA4 N) Q5 ⟨cC 0 [.e (.sl .u8) b0,.e (.i .i64) most1],[],100⟩ (cJ (CA N) Tryz.f13 true):=by kernel_rfl
theorem aQD{N:Nat}(hc:aJ (CA N)){b0:aF}{most1:Int}{r:aH}(h:Q7 N b0 most1=some r):jO Tryz.prog 13 (([.e (.sl .u8) b0,.e (.i .i64) most1]:List X).map X.D) (HA []) r:=
 oC hc (f:=13) (fn:=Tryz.f13) (code:=Q5) (by kernel_rfl) (by kernel_rfl) (aQB N) (eJ (by kernel_rfl)) (ow:=true) ((aPz N b0 most1).symm.trans (by exact h))
def Q4(r:aH):Option (aF):=match r with
 |(.own 100,[(100,x0)])=>(match ur 5 .u8 true x0 with|some a0=>some a0|_=>none)
 |_=>none
theorem aPx{r:aH}{d:aF}(h:Q4 r=some d):r=Bz (d):=by
 unfold Q4 at h;split at h
 .split at h
  .rename_i h0;cases h;rw[lD h0];rfl
  .cases h
 .cases h
def zZ(N:Nat)(b0:aF)(most1:Int):Option (aF):=(Q7 N b0 most1).bind Q4
theorem aQC{N:Nat}(hc:aJ (CA N)){b0:aF}{most1:Int}{d:aF}(hd:zZ N b0 most1=some d):cR Tryz.prog 13 [.e (.sl .u8) b0,.e (.i .i64) most1] [] (Bz (d)):=by
 obtain⟨r,hr,hu⟩:=jK.1 hd;have:=aQD hc hr;rw[aPx hu]at this;exact this
def E5(N:Nat)(b0:aF)(most1:Int):Bool:=(zZ N b0 most1).isSome
def lY(N:Nat)(b0:aF)(most1:Int):aF:=((zZ N b0 most1).getD [])
def aA5(N:Nat):bO:=E2 (.sl .u8) (.i .i64) (λx0 x1=>(E5 N x0 x1,Bz (lY N x0 x1)))
theorem aPy{N:Nat}{b0:aF}{most1:Int}{d:aF}(hd:zZ N b0 most1=some d):Bz (lY N b0 most1)=Bz (d):=by unfold lY;rw[hd];rfl
theorem aQA(N:Nat):aV Tryz.prog 13 (aA5 N):=aV.e2 (λx0 x1 h=>by
 have h:(zZ N x0 x1).isSome=true:=h;obtain⟨d,hd⟩:=pR.1 h;have f:=aQC (aQE N) hd;rw[<-aPy hd]at f;exact f)
def aCQ(N:Nat):bO:=Tl (VF N) (aAO N)
theorem aUI(N:Nat):aV Tryz.prog 62 (aCQ N):=aV.or (aGY N) (aPU N)
end
end Go.Proofs
