/- What functions do: the reader, sizes. Conditions are in the theorems. -/
import Derived.Test.YtlhdefefoaldfaaGreatDoorE7
import Derived.Test.YtlhdefefoaldfaaGreatDoorProg
import Derived.KernelRfl
import Derived.Test.YtlhdefefoaldfaaGreatDoorF0
open And renaming intro->aH
open Eq renaming trans->gM
open Go.IntKind renaming i64->aB
open Nat renaming le_of_ble_eq_true->fC
open Option renaming bind_eq_some_iff->kY,isSome_iff_exists->sB
/- What functions do. -/
namespace Go.Proofs
noncomputable section
open Go.Ax Go.Ax.aA Go.RowKit Go.Ab
open Go
abbrev aT:=List UInt8
def zB(a0:UInt8)(a1:aT)(a2:Int):aC:=(.e .u8 a0,[(50,.box 100 [.e .tx a1,.e (.i .i64) a2])])
def sN(_:Nat):Cx:=⟨Tryz.prog,25,[],[]⟩
def QR:Code:=Tryz.f77.body.getD .skip
theorem aMa N:aD (sN N):=bZ (by kernel_rfl) .nil .nil
def CA[aA](_:Nat)(self:Int->O)(k0:aT->Int->O)(x0_0:aT)(x0_1:Int):O:=
 gc (decide (x0_1<(↑x0_0.length:Int))) 0 x0_0 x0_1 λy3=>
 br (decide (x0_1<(↑x0_0.length:Int))&&decide (y3=32))
  (self (aB.wrap (x0_1+1)))
  (k0 x0_0 x0_1)
def QQ:Code:=cP [1,0,0,0] QR
def Zb:Nm:=⟨[0],[],[]⟩
def zD(x:aT×Int):Sg:=⟨[(0,.ref 50 0)],[(50,.box 100 [.e .tx x.1,.e (.i .i64) x.2])],100⟩
def J3(σ:Sg):aT×Int:=(aL .tx 50 0 σ,aL (.i .i64) 50 1 σ)
theorem aM3:∀x,J3 (zD x)=x:=λ_=>by kernel_rfl
def J5(y:aT×Int):Exit×Sg:=((.exit 0),⟨[(0,.ref 50 0)],[(50,.box 100 [.e .tx y.1,.e (.i .i64) y.2])],100⟩)
def aM1(_:Exit)(σ:Sg):aT×Int:=(aL .tx 50 0 σ,aL (.i .i64) 50 1 σ)
def aM0:List (Exit×Nm):=[((.exit 0),⟨[0],[],[]⟩)]
def zC[aA](N:Nat):Nat->(aT×Int)->((aT×Int)->O)->((Unit)->O)->((Unit)->O)->O
 |0,_,_,_,_=>none
 |n+1,x,k0,k1,k2=>CA N (λv0=>zC N n (x.1,v0) k0 k1 k2) (λy0 y1=>k0 (y0,y1)) x.1 x.2
def Za[aA] N a0 a1 (k0:aT->Int->O):=zC N N (a0,a1) (λy=>k0 y.1 y.2) (λ_=>none) (λ_=>none)
def Z9[aA] N a0 a1 (k0:aT->Int->O):=bB zD J3 (zC N N) (zD (a0,a1)) (λy=>k0 y.1 y.2) (λ_=>none) (λ_=>none)
theorem aM9[aA] N:Z9 N=Za N:=funext λ_=>funext λ_=>funext λ_=>dD aM3 _ _ _ _
theorem aM4[aA](N:Nat)(self:Sg->O)(K:Exit->Sg->O)(x:aT×Int):CA N (λv0=>self (zD (x.1,v0))) (λy0 y1=>K (J5 (y0,y1)).1 (J5 (y0,y1)).2) x.1 x.2=exec (sN N) Tryz.f77.ntmps .d QQ (zD x) (fE Zb aM0 self K):=by kernel_rfl
theorem aMb N (hc:aD (sN N)):cU (sN N) Tryz.f77.ntmps (.loop QQ) J5 (aV 1) (aV 2) (bB zD J3 (zC N N)):=
 fW hc (cT QQ) (fF aM1 (.exit 0) (λ_=>by kernel_rfl) (λ_=>rfl) (by kernel_rfl)) (n:=N) (λx K=>fY (zC N) (λ_ _ _ _=>rfl) (λn K ih x=>by
  refine gM ?_ (aM4 N _ K x);simp only[<-ih];rfl) N x K)
def Ze[aA](_:Nat)(in0:aT->Int->(aT->Int->O)->O)(g0:aT)(g1:Int):O:=
 in0 g0 g1
  (λz4 z5=>
   br (decide (z5=(↑z4.length:Int)))
    (some (zB 0 z4 z5))
    (gx z4 z5 λy6=>
    some (zB y6 z4 z5)))
def w77[aA] N g0 g1:=Ze N (Za N) g0 g1
def Zc[aA](N:Nat):Hint:=(.seq .d (.seq (.block (.sub Zb _ _ _ J5 (aV 1) (aV 2) (bB zD J3 (zC N N)))) .d))
theorem aM7 N (hc:aD (sN N)):bJ (sN N) Tryz.f77.ntmps (Zc N) QR:=bR _ _ (aH trivial (aH (aMb N hc) trivial))
theorem aM5[aA] N g0 g1:Ze N (Z9 N) g0 g1=exec (sN N) Tryz.f77.ntmps (Zc N) QR ⟨bW 0 [.ref 50 0],[(50,.box 100 [.e .tx g0,.e (.i .i64) g1])],100⟩ (bX (sN N) Tryz.f77 false):=by kernel_rfl
def J2(r:aC):Option (UInt8×aT×Int):=match r with
 |(x0,[(50,.box 100 [x1,x2])])=>(match ue .u8 x0,ue .tx x1,ue (.i .i64) x2 with|some a0,some a1,some a2=>some (a0,a1,a2)|_,_,_=>none)
 |_=>none
theorem aM2{r d}(h:J2 r=some d):r=zB d.1 d.2.1 d.2.2:=by
 unfold J2 at h;split at h
 .split at h
  .rename_i h0 h1 h2;cases h;rw[aE h0,aE h1,aE h2];rfl
  .cases h
 .cases h
def zA N g0 g1:=(w77 N g0 g1).bind J2
theorem aM8{N}(hc:aD (sN N)){g0 g1 d}(hd:zA N g0 g1=some d):cB Tryz.prog 77 [.ref 50 0] [(50,.box 100 [.e .tx g0,.e (.i .i64) g1])] (zB d.1 d.2.1 d.2.2):=
 cD hc (by kernel_rfl) (by kernel_rfl) (aM7 N hc) (by kernel_rfl) aM2 (λhr=>(aM5 N g0 g1).symm.trans (by rw[aM9 N];exact hr)) hd
def pI N g0 g1:=(zA N g0 g1).isSome
def eI N g0 g1:=((zA N g0 g1).getD (0,[],0)).1
def aJ N g0 g1:=((zA N g0 g1).getD (0,[],0)).2.1
def aI N g0 g1:=((zA N g0 g1).getD (0,[],0)).2.2
def QP(xs:List X)(H:XH):Option (aT×Int):=match xs,H with
 |[.ref 50 0],[(50,.box 100 [x0,x1])]=>(match ue .tx x0,ue (.i .i64) x1 with|some a0,some a1=>some (a0,a1)|_,_=>none)
 |_,_=>none
theorem aM6{xs H d}(h:QP xs H=some d):xs=[.ref 50 0]/\H=[(50,.box 100 [.e .tx d.1,.e (.i .i64) d.2])]:=by
 unfold QP at h;split at h
 .split at h
  .rename_i h0 h1;cases h;rw[aE h0,aE h1];exact⟨rfl,rfl⟩
  .cases h
 .cases h
def Bz(N:Nat):bK:=eU QP (λd=>pI N d.1 d.2) (λd=>zB (eI N d.1 d.2) (aJ N d.1 d.2) (aI N d.1 d.2))
theorem FE N:aK Tryz.prog 77 (Bz N):=eH aM6 (λd h=>cV (z:=zA N d.1 d.2) h (aM8 (aMa N)) rfl)
def aMP:aC:=(.bD [],[])
def FD(a0:Int)(a1:aT)(a2:Int):aC:=(.dP (.iface 96 (.int .i64 a0)),[(50,.box 100 [.e .tx a1,.e (.i .i64) a2])])
def By(_:Nat):Cx:=⟨Tryz.prog,25,[],[]⟩
def QO:Code:=Tryz.f78.body.getD .skip
theorem aMW N:aD (By N):=bZ (by kernel_rfl) .nil .nil
def Z7[aA](_:Nat)(g0:aT)(g1:Int):O:=
 some (FD g1 g0 g1)
def Z8[aA] N g0 g1:=Z7 N g0 g1
def Z5[aA](_:Nat):Hint:=.d
theorem aMT N:bJ (By N) Tryz.f78.ntmps (Z5 N) QO:=bR _ _ trivial
theorem aMQ[aA] N g0 g1:Z7 N g0 g1=exec (By N) Tryz.f78.ntmps (Z5 N) QO ⟨bW 0 [.ref 50 0],[(50,.box 100 [.e .tx g0,.e (.i .i64) g1])],100⟩ (bX (By N) Tryz.f78 false):=by kernel_rfl
theorem aMV{N:Nat}(hc:aD (By N)){g0:aT}{g1:Int}{r:aC}(h:Z8 N g0 g1=some r):iB Tryz.prog 78 (([.ref 50 0]:List X).map X.D) (HA [(50,.box 100 [.e .tx g0,.e (.i .i64) g1])]) r:=
 xO hc (f:=78) (fn:=Tryz.f78) (code:=QO) (by kernel_rfl) (by kernel_rfl) (aMT N) (fC (by kernel_rfl)) (ow:=false) ((aMQ N g0 g1).symm.trans (by exact h))
def J0(r:aC):Option ((Unit) ⊕ (Int×aT×Int)):=match r with
 |(.dP (.iface 96 (.int .i64 a0)),[(50,.box 100 [x1,x2])])=>(match ue .tx x1,ue (.i .i64) x2 with|some a1,some a2=>some (.inr (a0,a1,a2))|_,_=>none)
 |_=>none
theorem aMO{r d}(h:J0 r=some (.inr d)):r=FD d.1 d.2.1 d.2.2:=by
 unfold J0 at h;split at h
 .split at h
  .rename_i h1 h2;cases h;rw[aE h1,aE h2];rfl
  .cases h
 .cases h
def yZ N g0 g1:=(Z8 N g0 g1).bind J0
theorem aMU{N}(hc:aD (By N)){g0 g1 d}(hd:yZ N g0 g1=some (.inr d)):iB Tryz.prog 78 (([.ref 50 0]:List X).map X.D) (HA [(50,.box 100 [.e .tx g0,.e (.i .i64) g1])]) (FD d.1 d.2.1 d.2.2):=by
 obtain⟨r,hr,hu⟩:=kY.1 hd;have:=aMV hc hr;rw[aMO hu]at this;exact this
def QN(xs:List X)(H:XH):Option (aT×Int):=match xs,H with
 |[.ref 50 0],[(50,.box 100 [x0,x1])]=>(match ue .tx x0,ue (.i .i64) x1 with|some a0,some a1=>some (a0,a1)|_,_=>none)
 |_,_=>none
theorem aMS{xs H d}(h:QN xs H=some d):xs=[.ref 50 0]/\H=[(50,.box 100 [.e .tx d.1,.e (.i .i64) d.2])]:=by
 unfold QN at h;split at h
 .split at h
  .rename_i h0 h1;cases h;rw[aE h0,aE h1];exact⟨rfl,rfl⟩
  .cases h
 .cases h
def lX N g0 g1:=(yZ N g0 g1).isSome
def lW(N:Nat)(g0:aT)(g1:Int):Int:=(c7 (0,[],0) (yZ N g0 g1)).1
def qX(N:Nat)(g0:aT)(g1:Int):aT:=(c7 (0,[],0) (yZ N g0 g1)).2.1
def qW(N:Nat)(g0:aT)(g1:Int):Int:=(c7 (0,[],0) (yZ N g0 g1)).2.2
def J1(N:Nat):kI:=uL QN (λd=>lX N d.1 d.2) (λ_=>none) (λ_=>aMP ) (λd=>FD (lW N d.1 d.2) (qX N d.1 d.2) (qW N d.1 d.2))
theorem aMR(N:Nat)(g0:aT)(g1:Int)(y:Unit):yZ N g0 g1≠some (.inl y):=λh=>by
 obtain⟨r,_,hu⟩:=kY.1 h;unfold J0 at hu;split at hu
 .split at hu
  .cases hu
  .cases hu
 .cases hu
theorem QM N:j0 Tryz.prog 78 (J1 N):=uK aMS (λd h=>aZ5 (zz:=yZ N d.1 d.2) (R':=λy=>FD y.1 y.2.1 y.2.2) (d0':=(0,[],0)) (λy=>aMR N d.1 d.2 y) (λ_ hy=>aMU (aMW N) hy) h)
def wF(a0 a1:Int)(a2:(List Ex))(a3:aT)(a4:Int):aC:=(.agg [.e (.i .i64) a0,.e (.i .i64) a1,.e (.sl .ex) a2],[(50,.box 100 [.e .tx a3,.e (.i .i64) a4])])
def nG(a0:Int)(a1:aT)(a2:Int):aC:=(.dP (.iface 96 (.int .i64 a0)),[(50,.box 100 [.e .tx a1,.e (.i .i64) a2])])
def l9(N:Nat):Cx:=⟨Tryz.prog,25,[(117,aEu N)],[(78,J1 N)]⟩
def Gj:Code:=Tryz.f110.body.getD .skip
theorem aFL N:aD (l9 N):=bZ (by kernel_rfl) (.cons (by kernel_rfl) (aWh N) .nil) (.cons (by kernel_rfl) (QM N) .nil)
def DW[aA](_:Nat)(self:Int->O)(k0:Int->aT->Int->Int->Int->O)(x0_1:aT)(x0_2 x0_3 x0_4 x0_0:Int):O:=
 gc (decide (x0_0<(↑x0_1.length:Int))) 0 x0_1 x0_0 λy5=>
 gc (decide (x0_0<(↑x0_1.length:Int))&&decide (48<=y5)) 0 x0_1 x0_0 λy6=>
 br (decide (x0_0<(↑x0_1.length:Int))&&decide (48<=y5)&&decide (y6<=57))
  (self (aB.wrap (x0_0+1)))
  (k0 x0_0 x0_1 x0_2 x0_3 x0_4)
def UO:Code:=cP [1,1,0,0,0] Gj
def aFH:Nm:=⟨[0,2,7,3],[],[]⟩
def Aj(x:Int×aT×Int×Int×Int):Sg:=⟨[(0,.ref 50 0),(2,.ref 0 0),(7,.ref 50 0),(3,.e (.i .i64) x.1)],[(50,.box 100 [.e .tx x.2.1,.e (.i .i64) x.2.2.1]),(0,.box 25 [.e (.i .i64) x.2.2.2.1,.e (.i .i64) x.2.2.2.2,.cH])],100⟩
def NF(σ:Sg):Int×aT×Int×Int×Int:=(aW (.i .i64) 3 0 σ,aL .tx 50 0 σ,aL (.i .i64) 50 1 σ,aL (.i .i64) 0 0 σ,aL (.i .i64) 0 1 σ)
theorem aXF:∀x,NF (Aj x)=x:=λ_=>by kernel_rfl
def NI(y:Int×aT×Int×Int×Int):Exit×Sg:=((.exit 0),⟨[(0,.ref 50 0),(2,.ref 0 0),(7,.ref 50 0),(3,.e (.i .i64) y.1)],[(50,.box 100 [.e .tx y.2.1,.e (.i .i64) y.2.2.1]),(0,.box 25 [.e (.i .i64) y.2.2.2.1,.e (.i .i64) y.2.2.2.2,.cH])],100⟩)
def aXB(_:Exit)(σ:Sg):Int×aT×Int×Int×Int:=(aW (.i .i64) 3 0 σ,aL .tx 50 0 σ,aL (.i .i64) 50 1 σ,aL (.i .i64) 0 0 σ,aL (.i .i64) 0 1 σ)
def aWy:List (Exit×Nm):=[((.exit 0),⟨[0,2,7,3],[],[]⟩)]
def Ai[aA](N:Nat):Nat->(Int×aT×Int×Int×Int)->((Int×aT×Int×Int×Int)->O)->((Unit)->O)->((Unit)->O)->O
 |0,_,_,_,_=>none
 |n+1,x,k0,k1,k2=>DW N (λv0=>Ai N n (v0,x.2.1,x.2.2.1,x.2.2.2.1,x.2.2.2.2) k0 k1 k2) (λy0 y1 y2 y3 y4=>k0 (y0,y1,y2,y3,y4)) x.2.1 x.2.2.1 x.2.2.2.1 x.2.2.2.2 x.1
def aFG[aA] N a0 a1 a2 a3 a4 (k0:Int->aT->Int->Int->Int->O):=Ai N N (a0,a1,a2,a3,a4) (λy=>k0 y.1 y.2.1 y.2.2.1 y.2.2.2.1 y.2.2.2.2) (λ_=>none) (λ_=>none)
def aFF[aA] N a0 a1 a2 a3 a4 (k0:Int->aT->Int->Int->Int->O):=bB Aj NF (Ai N N) (Aj (a0,a1,a2,a3,a4)) (λy=>k0 y.1 y.2.1 y.2.2.1 y.2.2.2.1 y.2.2.2.2) (λ_=>none) (λ_=>none)
theorem aXQ[aA] N:aFF N=aFG N:=funext λ_=>funext λ_=>funext λ_=>funext λ_=>funext λ_=>funext λ_=>dD aXF _ _ _ _
theorem aXH[aA](N:Nat)(self:Sg->O)(K:Exit->Sg->O)(x:Int×aT×Int×Int×Int):DW N (λv0=>self (Aj (v0,x.2.1,x.2.2.1,x.2.2.2.1,x.2.2.2.2))) (λy0 y1 y2 y3 y4=>K (NI (y0,y1,y2,y3,y4)).1 (NI (y0,y1,y2,y3,y4)).2) x.2.1 x.2.2.1 x.2.2.2.1 x.2.2.2.2 x.1=exec (l9 N) Tryz.f110.ntmps .d UO (Aj x) (fE aFH aWy self K):=by kernel_rfl
theorem aXU N (hc:aD (l9 N)):cU (l9 N) Tryz.f110.ntmps (.loop UO) NI (aV 1) (aV 2) (bB Aj NF (Ai N N)):=
 fW hc (cT UO) (fF aXB (.exit 0) (λ_=>by kernel_rfl) (λ_=>rfl) (by kernel_rfl)) (n:=N) (λx K=>fY (Ai N) (λ_ _ _ _=>rfl) (λn K ih x=>by
  refine gM ?_ (aXH N _ K x);simp only[<-ih];rfl) N x K)
def NJ[aA](N:Nat)(k0:Int->aT->Int->O)(k1:Int->aT->aT->Int->Int->Int->O)(x12_0:Int)(x12_1 x12_2:aT)(x12_3 x12_4 x12_5:Int):O:=
 gc (!decide ((6:Int)<(↑x12_1.length:Int))&&decide ((1:Int)<(↑x12_1.length:Int))) 0 x12_1 0 λy15=>
 br (decide ((6:Int)<(↑x12_1.length:Int))||decide ((1:Int)<(↑x12_1.length:Int))&&decide (y15=48))
  (ck (lX N x12_2 x12_3)<|
  k0 (lW N x12_2 x12_3) (qX N x12_2 x12_3) (qW N x12_2 x12_3))
  (k1 x12_0 x12_1 x12_2 x12_3 x12_4 x12_5)
def UN:Code:=cP [1,1,1,1,0] Gj
def aXK:Nm:=⟨[0,2,7,3,4],[],[]⟩
def DV(x:Int×aT×aT×Int×Int×Int):Sg:=⟨[(0,.ref 50 0),(2,.ref 0 0),(7,.ref 50 0),(3,.e (.i .i64) x.1),(4,.e .tx x.2.1)],[(50,.box 100 [.e .tx x.2.2.1,.e (.i .i64) x.2.2.2.1]),(0,.box 25 [.e (.i .i64) x.2.2.2.2.1,.e (.i .i64) x.2.2.2.2.2,.cH])],100⟩
def ND(σ:Sg):Int×aT×aT×Int×Int×Int:=(aW (.i .i64) 3 0 σ,aW .tx 4 0 σ,aL .tx 50 0 σ,aL (.i .i64) 50 1 σ,aL (.i .i64) 0 0 σ,aL (.i .i64) 0 1 σ)
theorem aXE:∀x,ND (DV x)=x:=λ_=>by kernel_rfl
def NH(y:Int×aT×Int):Exit×Sg:=((.panic [lD (.iface 96 (.int .i64 y.1))]),⟨[],[(50,.box 100 [.e .tx y.2.1,.e (.i .i64) y.2.2])],100⟩)
def aXA(e:Exit)(σ:Sg):Int×aT×Int:=(lvP e,aL .tx 50 0 σ,aL (.i .i64) 50 1 σ)
def NG(y:Int×aT×aT×Int×Int×Int):Exit×Sg:=(.normal,⟨[(0,.ref 50 0),(2,.ref 0 0),(3,.e (.i .i64) y.1),(4,.e .tx y.2.1)],[(50,.box 100 [.e .tx y.2.2.1,.e (.i .i64) y.2.2.2.1]),(0,.box 25 [.e (.i .i64) y.2.2.2.2.1,.e (.i .i64) y.2.2.2.2.2,.cH])],100⟩)
def aWz(_:Exit)(σ:Sg):Int×aT×aT×Int×Int×Int:=(aW (.i .i64) 3 0 σ,aW .tx 4 0 σ,aL .tx 50 0 σ,aL (.i .i64) 50 1 σ,aL (.i .i64) 0 0 σ,aL (.i .i64) 0 1 σ)
def aWx:List (Exit×Nm):=[((.panic []),⟨[],[],[]⟩),(.normal,⟨[0,2,3,4],[],[]⟩)]
def DT[aA](N _:Nat)(x:Int×aT×aT×Int×Int×Int)(k0:(Int×aT×Int)->O)(k1:(Int×aT×aT×Int×Int×Int)->O)(_:(Unit)->O):O:=NJ N (λy0 y1 y2=>k0 (y0,y1,y2)) (λy0 y1 y2 y3 y4 y5=>k1 (y0,y1,y2,y3,y4,y5)) x.1 x.2.1 x.2.2.1 x.2.2.2.1 x.2.2.2.2.1 x.2.2.2.2.2
def DS[aA] N a0 a1 a2 a3 a4 a5 (k0:Int->aT->Int->O) (k1:Int->aT->aT->Int->Int->Int->O):=DT N N (a0,a1,a2,a3,a4,a5) (λy=>k0 y.1 y.2.1 y.2.2) (λy=>k1 y.1 y.2.1 y.2.2.1 y.2.2.2.1 y.2.2.2.2.1 y.2.2.2.2.2) (λ_=>none)
def aFE[aA] N a0 a1 a2 a3 a4 a5 (k0:Int->aT->Int->O) (k1:Int->aT->aT->Int->Int->Int->O):=bB DV ND (DT N N) (DV (a0,a1,a2,a3,a4,a5)) (λy=>k0 y.1 y.2.1 y.2.2) (λy=>k1 y.1 y.2.1 y.2.2.1 y.2.2.2.1 y.2.2.2.2.1 y.2.2.2.2.2) (λ_=>none)
theorem aXP[aA] N:aFE N=DS N:=funext λ_=>funext λ_=>funext λ_=>funext λ_=>funext λ_=>funext λ_=>funext λ_=>funext λ_=>dD aXE _ _ _ _
theorem aXG[aA](N:Nat)(K:Exit->Sg->O)(x:Int×aT×aT×Int×Int×Int):NJ N (λy0 y1 y2=>K (NH (y0,y1,y2)).1 (NH (y0,y1,y2)).2) (λy0 y1 y2 y3 y4 y5=>K (NG (y0,y1,y2,y3,y4,y5)).1 (NG (y0,y1,y2,y3,y4,y5)).2) x.1 x.2.1 x.2.2.1 x.2.2.2.1 x.2.2.2.2.1 x.2.2.2.2.2=exec (l9 N) Tryz.f110.ntmps .d UN (DV x) (iH aWx K):=by kernel_rfl
theorem aXT N (hc:aD (l9 N)):cU (l9 N) Tryz.f110.ntmps UN NH NG (aV 2) (bB DV ND (DT N N)):=
 jL hc (cT UN) (kS aXA aWz (.panic []) .normal (λ_=>by kernel_rfl) (λ_=>by kernel_rfl) (λ_=>rfl) (λ_=>rfl) (by kernel_rfl)) (λx K=>by
  exact aXG N K x)
def aFM[aA](N:Nat)(in0:Int->aT->Int->Int->Int->(Int->aT->Int->Int->Int->O)->O)(in1:Int->aT->aT->Int->Int->Int->(Int->aT->Int->O)->(Int->aT->aT->Int->Int->Int->O)->O)(g0:aT)(g1:Int):O:=
 in0 g1 g0 g1 0 0
  (λz7 z8 z9 z10 z11=>
   ck (eQ z8.length (some z9) (some z7))<|
   in1 z7 (dY z8 (some z9) (some z7)) z8 z9 z10 z11
    (λz16 z17 z18=>
     some (nG z16 z17 z18))
    (λz19 z20 z21 z22 _ _=>
     ck (tL N z20)<|
     br false
      (ck (lX N z21 z22)<|
      some (nG (lW N z21 z22) (qX N z21 z22) (qW N z21 z22)))
      (some (wF 0 ((A9 N z20)) ([]) z21 z19))))
def aFN[aA] N g0 g1:=aFM N (aFG N) (DS N) g0 g1
def aFI[aA](N:Nat):Hint:=(.seq .d (.seq .d (.seq (.block (.sub aFH _ _ _ NI (aV 1) (aV 2) (bB Aj NF (Ai N N)))) (.seq .d (.seq (.sub aXK _ _ _ NH NG (aV 2) (bB DV ND (DT N N))) .d)))))
theorem aXM N (hc:aD (l9 N)):bJ (l9 N) Tryz.f110.ntmps (aFI N) Gj:=bR _ _ (aH trivial (aH trivial (aH (aXU N hc) (aH trivial (aH (aXT N hc) trivial)))))
theorem aXI[aA] N g0 g1:aFM N (aFF N) (aFE N) g0 g1=exec (l9 N) Tryz.f110.ntmps (aFI N) Gj ⟨bW 0 [.ref 50 0],[(50,.box 100 [.e .tx g0,.e (.i .i64) g1])],100⟩ (bX (l9 N) Tryz.f110 false):=by kernel_rfl
theorem aFK{N:Nat}(hc:aD (l9 N)){g0:aT}{g1:Int}{r:aC}(h:aFN N g0 g1=some r):iB Tryz.prog 110 (([.ref 50 0]:List X).map X.D) (HA [(50,.box 100 [.e .tx g0,.e (.i .i64) g1])]) r:=
 xO hc (f:=110) (fn:=Tryz.f110) (code:=Gj) (by kernel_rfl) (by kernel_rfl) (aXM N hc) (fC (by kernel_rfl)) (ow:=false) ((aXI N g0 g1).symm.trans (by rw[aXQ N,aXP N];exact h))
def tR(r:aC):Option ((Int×Int×(List Ex)×aT×Int) ⊕ (Int×aT×Int)):=match r with
 |(.dP (.iface 96 (.int .i64 a0)),[(50,.box 100 [x1,x2])])=>(match ue .tx x1,ue (.i .i64) x2 with|some a1,some a2=>some (.inr (a0,a1,a2))|_,_=>none)
 |(.agg [x0,x1,x2],[(50,.box 100 [x3,x4])])=>(match ue (.i .i64) x0,ue (.i .i64) x1,ue (.sl .ex) x2,ue .tx x3,ue (.i .i64) x4 with|some a0,some a1,some a2,some a3,some a4=>some (.inl (a0,a1,a2,a3,a4))|_,_,_,_,_=>none)
 |_=>none
theorem aXD{r d}(h:tR r=some (.inl d)):r=wF d.1 d.2.1 d.2.2.1 d.2.2.2.1 d.2.2.2.2:=by
 unfold tR at h;split at h
 .split at h
  .cases h
  .cases h
 .split at h
  .rename_i h0 h1 h2 h3 h4;cases h;rw[aE h0,aE h1,aE h2,aE h3,aE h4];rfl
  .cases h
 .cases h
theorem aXC{r d}(h:tR r=some (.inr d)):r=nG d.1 d.2.1 d.2.2:=by
 unfold tR at h;split at h
 .split at h
  .rename_i h1 h2;cases h;rw[aE h1,aE h2];rfl
  .cases h
 .split at h
  .cases h
  .cases h
 .cases h
def lK N g0 g1:=(aFN N g0 g1).bind tR
theorem aXO{N}(hc:aD (l9 N)){g0 g1 d}(hd:lK N g0 g1=some (.inl d)):cB Tryz.prog 110 [.ref 50 0] [(50,.box 100 [.e .tx g0,.e (.i .i64) g1])] (wF d.1 d.2.1 d.2.2.1 d.2.2.2.1 d.2.2.2.2):=by
 obtain⟨r,hr,hu⟩:=kY.1 hd;have:=aFK hc hr;rw[aXD hu]at this;exact this
theorem aXN{N}(hc:aD (l9 N)){g0 g1 d}(hd:lK N g0 g1=some (.inr d)):iB Tryz.prog 110 (([.ref 50 0]:List X).map X.D) (HA [(50,.box 100 [.e .tx g0,.e (.i .i64) g1])]) (nG d.1 d.2.1 d.2.2):=by
 obtain⟨r,hr,hu⟩:=kY.1 hd;have:=aFK hc hr;rw[aXC hu]at this;exact this
def UM(xs:List X)(H:XH):Option (aT×Int):=match xs,H with
 |[.ref 50 0],[(50,.box 100 [x0,x1])]=>(match ue .tx x0,ue (.i .i64) x1 with|some a0,some a1=>some (a0,a1)|_,_=>none)
 |_,_=>none
theorem aXL{xs H d}(h:UM xs H=some d):xs=[.ref 50 0]/\H=[(50,.box 100 [.e .tx d.1,.e (.i .i64) d.2])]:=by
 unfold UM at h;split at h
 .split at h
  .rename_i h0 h1;cases h;rw[aE h0,aE h1];exact⟨rfl,rfl⟩
  .cases h
 .cases h
def DQ N g0 g1:=(lK N g0 g1).isSome
def DU(N:Nat)(g0:aT)(g1:Int):Bool:=kD (lK N g0 g1)
def UI N g0 g1:=(bC (0,0,[],[],0) (lK N g0 g1)).1
def UH N g0 g1:=(bC (0,0,[],[],0) (lK N g0 g1)).2.1
def UG N g0 g1:=(bC (0,0,[],[],0) (lK N g0 g1)).2.2.1
def UF N g0 g1:=(bC (0,0,[],[],0) (lK N g0 g1)).2.2.2.1
def UE N g0 g1:=(bC (0,0,[],[],0) (lK N g0 g1)).2.2.2.2
def UL(N:Nat)(g0:aT)(g1:Int):Int:=(c7 (0,[],0) (lK N g0 g1)).1
def UK(N:Nat)(g0:aT)(g1:Int):aT:=(c7 (0,[],0) (lK N g0 g1)).2.1
def UJ(N:Nat)(g0:aT)(g1:Int):Int:=(c7 (0,[],0) (lK N g0 g1)).2.2
def aFJ(N:Nat):kI:=uL UM (λd=>DQ N d.1 d.2) (λd=>some (DU N d.1 d.2)) (λd=>wF (UI N d.1 d.2) (UH N d.1 d.2) (UG N d.1 d.2) (UF N d.1 d.2) (UE N d.1 d.2)) (λd=>nG (UL N d.1 d.2) (UK N d.1 d.2) (UJ N d.1 d.2))
theorem aXJ N:j0 Tryz.prog 110 (aFJ N):=uK aXL (λd h=>Hb (zz:=lK N d.1 d.2) (R:=λy=>wF y.1 y.2.1 y.2.2.1 y.2.2.2.1 y.2.2.2.2) (R':=λy=>nG y.1 y.2.1 y.2.2) (d0:=(0,0,[],[],0)) (d0':=(0,[],0)) (λ_ hy=>aXO (aFL N) hy) (λ_ hy=>aXN (aFL N) hy) h)
def Gi(a0:aT)(a1:Int):aC:=(.bD [],[(50,.box 100 [.e .tx a0,.e (.i .i64) a1])])
def Gh(a0:Int)(a1:aT)(a2:Int):aC:=(.dP (.iface 96 (.int .i64 a0)),[(50,.box 100 [.e .tx a1,.e (.i .i64) a2])])
def Ag(N:Nat):Cx:=⟨Tryz.prog,25,[(77,Bz N)],[(78,J1 N)]⟩
def UC:Code:=Tryz.f111.body.getD .skip
theorem aFC N:aD (Ag N):=bZ (by kernel_rfl) (.cons (by kernel_rfl) (FE N) .nil) (.cons (by kernel_rfl) (QM N) .nil)
def DP[aA](N:Nat)(c1:UInt8)(g0:aT)(g1:Int):O:=
 ck (pI N g0 g1)<|
 br (decide (eI N g0 g1≠c1))
  (ck (lX N (aJ N g0 g1) (aI N g0 g1))<|
  some (Gh (lW N (aJ N g0 g1) (aI N g0 g1)) (qX N (aJ N g0 g1) (aI N g0 g1)) (qW N (aJ N g0 g1) (aI N g0 g1))))
  (some (Gi (aJ N g0 g1) (aB.wrap (aI N g0 g1+(1:Int)))))
def aFD[aA] N c1 g0 g1:=DP N c1 g0 g1
def aEz[aA](_:Nat):Hint:=.d
theorem aWu N:bJ (Ag N) Tryz.f111.ntmps (aEz N) UC:=bR _ _ trivial
theorem aWr[aA] N c1 g0 g1:DP N c1 g0 g1=exec (Ag N) Tryz.f111.ntmps (aEz N) UC ⟨bW 0 [.ref 50 0,.e .u8 c1],[(50,.box 100 [.e .tx g0,.e (.i .i64) g1])],100⟩ (bX (Ag N) Tryz.f111 false):=by kernel_rfl
theorem aFB{N:Nat}(hc:aD (Ag N)){c1:UInt8}{g0:aT}{g1:Int}{r:aC}(h:aFD N c1 g0 g1=some r):iB Tryz.prog 111 (([.ref 50 0,.e .u8 c1]:List X).map X.D) (HA [(50,.box 100 [.e .tx g0,.e (.i .i64) g1])]) r:=
 xO hc (f:=111) (fn:=Tryz.f111) (code:=UC) (by kernel_rfl) (by kernel_rfl) (aWu N) (fC (by kernel_rfl)) (ow:=false) ((aWr N c1 g0 g1).symm.trans (by exact h))
def Aa(r:aC):Option ((aT×Int) ⊕ (Int×aT×Int)):=match r with
 |(.dP (.iface 96 (.int .i64 a0)),[(50,.box 100 [x1,x2])])=>(match ue .tx x1,ue (.i .i64) x2 with|some a1,some a2=>some (.inr (a0,a1,a2))|_,_=>none)
 |(.bD [],[(50,.box 100 [x0,x1])])=>(match ue .tx x0,ue (.i .i64) x1 with|some a0,some a1=>some (.inl (a0,a1))|_,_=>none)
 |_=>none
theorem aWq{r d}(h:Aa r=some (.inl d)):r=Gi d.1 d.2:=by
 unfold Aa at h;split at h
 .split at h
  .cases h
  .cases h
 .split at h
  .rename_i h0 h1;cases h;rw[aE h0,aE h1];rfl
  .cases h
 .cases h
theorem aWp{r d}(h:Aa r=some (.inr d)):r=Gh d.1 d.2.1 d.2.2:=by
 unfold Aa at h;split at h
 .split at h
  .rename_i h1 h2;cases h;rw[aE h1,aE h2];rfl
  .cases h
 .split at h
  .cases h
  .cases h
 .cases h
def gN N c1 g0 g1:=(aFD N c1 g0 g1).bind Aa
theorem aWw{N}(hc:aD (Ag N)){c1 g0 g1 d}(hd:gN N c1 g0 g1=some (.inl d)):cB Tryz.prog 111 [.ref 50 0,.e .u8 c1] [(50,.box 100 [.e .tx g0,.e (.i .i64) g1])] (Gi d.1 d.2):=by
 obtain⟨r,hr,hu⟩:=kY.1 hd;have:=aFB hc hr;rw[aWq hu]at this;exact this
theorem aWv{N}(hc:aD (Ag N)){c1 g0 g1 d}(hd:gN N c1 g0 g1=some (.inr d)):iB Tryz.prog 111 (([.ref 50 0,.e .u8 c1]:List X).map X.D) (HA [(50,.box 100 [.e .tx g0,.e (.i .i64) g1])]) (Gh d.1 d.2.1 d.2.2):=by
 obtain⟨r,hr,hu⟩:=kY.1 hd;have:=aFB hc hr;rw[aWp hu]at this;exact this
def UB(xs:List X)(H:XH):Option (UInt8×aT×Int):=match xs,H with
 |[.ref 50 0,x0],[(50,.box 100 [x1,x2])]=>(match ue .u8 x0,ue .tx x1,ue (.i .i64) x2 with|some a0,some a1,some a2=>some (a0,a1,a2)|_,_,_=>none)
 |_,_=>none
theorem aWt{xs H d}(h:UB xs H=some d):xs=[.ref 50 0,.e .u8 d.1]/\H=[(50,.box 100 [.e .tx d.2.1,.e (.i .i64) d.2.2])]:=by
 unfold UB at h;split at h
 .split at h
  .rename_i h0 h1 h2;cases h;rw[aE h0,aE h1,aE h2];exact⟨rfl,rfl⟩
  .cases h
 .cases h
def Af N c1 g0 g1:=(gN N c1 g0 g1).isSome
def tQ(N:Nat)(c1:UInt8)(g0:aT)(g1:Int):Bool:=kD (gN N c1 g0 g1)
def dC N c1 g0 g1:=(bC ([],0) (gN N c1 g0 g1)).1
def dB N c1 g0 g1:=(bC ([],0) (gN N c1 g0 g1)).2
def Ae(N:Nat)(c1:UInt8)(g0:aT)(g1:Int):Int:=(c7 (0,[],0) (gN N c1 g0 g1)).1
def Ad(N:Nat)(c1:UInt8)(g0:aT)(g1:Int):aT:=(c7 (0,[],0) (gN N c1 g0 g1)).2.1
def Ac(N:Nat)(c1:UInt8)(g0:aT)(g1:Int):Int:=(c7 (0,[],0) (gN N c1 g0 g1)).2.2
def aFA(N:Nat):kI:=uL UB (λd=>Af N d.1 d.2.1 d.2.2) (λd=>some (tQ N d.1 d.2.1 d.2.2)) (λd=>Gi (dC N d.1 d.2.1 d.2.2) (dB N d.1 d.2.1 d.2.2)) (λd=>Gh (Ae N d.1 d.2.1 d.2.2) (Ad N d.1 d.2.1 d.2.2) (Ac N d.1 d.2.1 d.2.2))
theorem aWs N:j0 Tryz.prog 111 (aFA N):=uK aWt (λd h=>Hb (zz:=gN N d.1 d.2.1 d.2.2) (R:=λy=>Gi y.1 y.2) (R':=λy=>Gh y.1 y.2.1 y.2.2) (d0:=([],0)) (d0':=(0,[],0)) (λ_ hy=>aWw (aFC N) hy) (λ_ hy=>aWv (aFC N) hy) h)
def IV(a0:Bool)(a1:Int)(a2:UInt8):aC:=(.e .bo a0,[(50,.box 3 [.e (.i .i64) a1]),(51,.box 5 [.e .u8 a2])])
def E6(_:Nat):Cx:=⟨Tryz.prog,25,[],[]⟩
def Xx:Code:=Tryz.f99.body.getD .skip
theorem aJT N:aD (E6 N):=bZ (by kernel_rfl) .nil .nil
def Xy[aA](_:Nat)(o0_0 _o0_1 o0_2:Int)(o0_3:UInt8)(g0:Int)(k510:UInt8):O:=
 some (IV (decide (o0_2=g0)&&decide (o0_0=2)&&decide (o0_3=k510)) g0 k510)
def w99[aA] N o0_0 o0_1 o0_2 o0_3 g0 k510:=Xy N o0_0 o0_1 o0_2 o0_3 g0 k510
def Xw[aA](_:Nat):Hint:=.d
theorem aJR N:bJ (E6 N) Tryz.f99.ntmps (Xw N) Xx:=bR _ _ trivial
theorem aJP[aA] N o0_0 o0_1 o0_2 o0_3 g0 k510:Xy N o0_0 o0_1 o0_2 o0_3 g0 k510=exec (E6 N) Tryz.f99.ntmps (Xw N) Xx ⟨bW 0 [.agg [.e (.i .i64) o0_0,.e (.i .i64) o0_1,.e (.i .i64) o0_2,.e .u8 o0_3],.ref 50 0,.ref 51 0],[(50,.box 3 [.e (.i .i64) g0]),(51,.box 5 [.e .u8 k510])],100⟩ (bX (E6 N) Tryz.f99 true):=by kernel_rfl
def PT(r:aC):Option (Bool×Int×UInt8):=match r with
 |(x0,[(50,.box 3 [x1]),(51,.box 5 [x2])])=>(match ue .bo x0,ue (.i .i64) x1,ue .u8 x2 with|some a0,some a1,some a2=>some (a0,a1,a2)|_,_,_=>none)
 |_=>none
theorem aJO{r d}(h:PT r=some d):r=IV d.1 d.2.1 d.2.2:=by
 unfold PT at h;split at h
 .split at h
  .rename_i h0 h1 h2;cases h;rw[aE h0,aE h1,aE h2];rfl
  .cases h
 .cases h
def B9 N o0_0 o0_1 o0_2 o0_3 g0 k510:=(w99 N o0_0 o0_1 o0_2 o0_3 g0 k510).bind PT
theorem aJS{N}(hc:aD (E6 N)){o0_0 o0_1 o0_2 o0_3 g0 k510 d}(hd:B9 N o0_0 o0_1 o0_2 o0_3 g0 k510=some d):cB Tryz.prog 99 [.agg [.e (.i .i64) o0_0,.e (.i .i64) o0_1,.e (.i .i64) o0_2,.e .u8 o0_3],.ref 50 0,.ref 51 0] [(50,.box 3 [.e (.i .i64) g0]),(51,.box 5 [.e .u8 k510])] (IV d.1 d.2.1 d.2.2):=
 cD hc (by kernel_rfl) (by kernel_rfl) (aJR N) (by kernel_rfl) aJO (aJP N o0_0 o0_1 o0_2 o0_3 g0 k510).symm.trans hd
def PU N o0_0 o0_1 o0_2 o0_3 g0 k510:=(B9 N o0_0 o0_1 o0_2 o0_3 g0 k510).isSome
def Xu N o0_0 o0_1 o0_2 o0_3 g0 k510:=((B9 N o0_0 o0_1 o0_2 o0_3 g0 k510).getD (false,0,0)).1
def PS N o0_0 o0_1 o0_2 o0_3 g0 k510:=((B9 N o0_0 o0_1 o0_2 o0_3 g0 k510).getD (false,0,0)).2.1
def PR N o0_0 o0_1 o0_2 o0_3 g0 k510:=((B9 N o0_0 o0_1 o0_2 o0_3 g0 k510).getD (false,0,0)).2.2
def PV(xs:List X)(H:XH):Option (Int×Int×Int×UInt8×Int×UInt8):=match xs,H with
 |[.agg [x0,x1,x2,x3],.ref 50 0,.ref 51 0],[(50,.box 3 [x4]),(51,.box 5 [x5])]=>(match ue (.i .i64) x0,ue (.i .i64) x1,ue (.i .i64) x2,ue .u8 x3,ue (.i .i64) x4,ue .u8 x5 with|some a0,some a1,some a2,some a3,some a4,some a5=>some (a0,a1,a2,a3,a4,a5)|_,_,_,_,_,_=>none)
 |_,_=>none
theorem aJQ{xs H d}(h:PV xs H=some d):xs=[.agg [.e (.i .i64) d.1,.e (.i .i64) d.2.1,.e (.i .i64) d.2.2.1,.e .u8 d.2.2.2.1],.ref 50 0,.ref 51 0]/\H=[(50,.box 3 [.e (.i .i64) d.2.2.2.2.1]),(51,.box 5 [.e .u8 d.2.2.2.2.2])]:=by
 unfold PV at h;split at h
 .split at h
  .rename_i h0 h1 h2 h3 h4 h5;cases h;rw[aE h0,aE h1,aE h2,aE h3,aE h4,aE h5];exact⟨rfl,rfl⟩
  .cases h
 .cases h
def PW(N:Nat):bK:=eU PV (λd=>PU N d.1 d.2.1 d.2.2.1 d.2.2.2.1 d.2.2.2.2.1 d.2.2.2.2.2) (λd=>IV (Xu N d.1 d.2.1 d.2.2.1 d.2.2.2.1 d.2.2.2.2.1 d.2.2.2.2.2) (PS N d.1 d.2.1 d.2.2.1 d.2.2.2.1 d.2.2.2.2.1 d.2.2.2.2.2) (PR N d.1 d.2.1 d.2.2.1 d.2.2.2.1 d.2.2.2.2.1 d.2.2.2.2.2))
theorem Xv N:aK Tryz.prog 99 (PW N):=eH aJQ (λd h=>cV (z:=B9 N d.1 d.2.1 d.2.2.1 d.2.2.2.1 d.2.2.2.2.1 d.2.2.2.2.2) h (aJS (aJT N)) rfl)
def yL(a0 a1:Int)(a2:UInt8):aC:=(.e (.i .i64) a0,[(50,.box 3 [.e (.i .i64) a1]),(51,.box 5 [.e .u8 a2])])
def sH(N:Nat):Cx:=⟨Tryz.prog,25,[(99,PW N)],[]⟩
def PZ:Code:=Tryz.f98.body.getD .skip
theorem aJ7 N:aD (sH N):=bZ (by kernel_rfl) (.cons (by kernel_rfl) (Xv N) .nil) .nil
def Bb[aA](N:Nat)(self:Int->Int->UInt8->O)(k0:Int->Int->UInt8->O)(k1:Int->UInt8->O)(x0_0:(List (Int×(Int×(Int×UInt8)))))(x0_1 x0_2 x0_3:Int)(x0_4:UInt8):O:=
 br (decide (x0_2<x0_1))
  (gx x0_0 x0_2 λy3=>
  ck (PU N y3.1 y3.2.1 y3.2.2.1 y3.2.2.2 x0_3 x0_4)<|
  br (Xu N y3.1 y3.2.1 y3.2.2.1 y3.2.2.2 x0_3 x0_4)
   (k0 x0_2 (PS N y3.1 y3.2.1 y3.2.2.1 y3.2.2.2 x0_3 x0_4) (PR N y3.1 y3.2.1 y3.2.2.1 y3.2.2.2 x0_3 x0_4))
   (self (aB.wrap (x0_2+1)) (PS N y3.1 y3.2.1 y3.2.2.1 y3.2.2.2 x0_3 x0_4) (PR N y3.1 y3.2.1 y3.2.2.1 y3.2.2.2 x0_3 x0_4)))
  (k1 x0_3 x0_4)
def PY:Code:=cP [1,0,1,0,0] PZ
def YB:Nm:=⟨[0,1,7,8],[],[]⟩
def yM(x:(List (Int×(Int×(Int×UInt8))))×Int×Int×Int×UInt8):Sg:=⟨[(0,.e (.sl (.pr (.i .i64) (.pr (.i .i64) (.pr (.i .i64) .u8)))) x.1),(1,.fn 99 [.ref 50 0,.ref 51 0]),(7,.e (.i .i64) x.2.1),(8,.e (.i .i64) x.2.2.1)],[(50,.box 3 [.e (.i .i64) x.2.2.2.1]),(51,.box 5 [.e .u8 x.2.2.2.2])],100⟩
def IY(σ:Sg):(List (Int×(Int×(Int×UInt8))))×Int×Int×Int×UInt8:=(aW (.sl (.pr (.i .i64) (.pr (.i .i64) (.pr (.i .i64) .u8)))) 0 0 σ,aW (.i .i64) 7 0 σ,aW (.i .i64) 8 0 σ,aL (.i .i64) 50 0 σ,aL .u8 51 0 σ)
theorem aJZ:∀x,IY (yM x)=x:=λ_=>by kernel_rfl
def I0(y:Int×Int×UInt8):Exit×Sg:=(.ret,⟨[(4,.e (.i .i64) y.1)],[(50,.box 3 [.e (.i .i64) y.2.1]),(51,.box 5 [.e .u8 y.2.2])],100⟩)
def aJX(_:Exit)(σ:Sg):Int×Int×UInt8:=(aW (.i .i64) 4 0 σ,aL (.i .i64) 50 0 σ,aL .u8 51 0 σ)
def IZ(y:Int×UInt8):Exit×Sg:=((.exit 0),⟨[],[(50,.box 3 [.e (.i .i64) y.1]),(51,.box 5 [.e .u8 y.2])],100⟩)
def aJW(_:Exit)(σ:Sg):Int×UInt8:=(aL (.i .i64) 50 0 σ,aL .u8 51 0 σ)
def aJV:List (Exit×Nm):=[(.ret,⟨[4],[],[]⟩),((.exit 0),⟨[],[],[]⟩)]
def vB[aA](N:Nat):Nat->((List (Int×(Int×(Int×UInt8))))×Int×Int×Int×UInt8)->((Int×Int×UInt8)->O)->((Int×UInt8)->O)->((Unit)->O)->O
 |0,_,_,_,_=>none
 |n+1,x,k0,k1,k2=>Bb N (λv0 v1 v2=>vB N n (x.1,x.2.1,v0,v1,v2) k0 k1 k2) (λy0 y1 y2=>k0 (y0,y1,y2)) (λy0 y1=>k1 (y0,y1)) x.1 x.2.1 x.2.2.1 x.2.2.2.1 x.2.2.2.2
def YA[aA] N a0 a1 a2 a3 a4 (k0:Int->Int->UInt8->O) (k1:Int->UInt8->O):=vB N N (a0,a1,a2,a3,a4) (λy=>k0 y.1 y.2.1 y.2.2) (λy=>k1 y.1 y.2) (λ_=>none)
def Xz[aA] N a0 a1 a2 a3 a4 (k0:Int->Int->UInt8->O) (k1:Int->UInt8->O):=bB yM IY (vB N N) (yM (a0,a1,a2,a3,a4)) (λy=>k0 y.1 y.2.1 y.2.2) (λy=>k1 y.1 y.2) (λ_=>none)
theorem aJ6[aA] N:Xz N=YA N:=funext λ_=>funext λ_=>funext λ_=>funext λ_=>funext λ_=>funext λ_=>funext λ_=>dD aJZ _ _ _ _
theorem aJ0[aA](N:Nat)(self:Sg->O)(K:Exit->Sg->O)(x:(List (Int×(Int×(Int×UInt8))))×Int×Int×Int×UInt8):Bb N (λv0 v1 v2=>self (yM (x.1,x.2.1,v0,v1,v2))) (λy0 y1 y2=>K (I0 (y0,y1,y2)).1 (I0 (y0,y1,y2)).2) (λy0 y1=>K (IZ (y0,y1)).1 (IZ (y0,y1)).2) x.1 x.2.1 x.2.2.1 x.2.2.2.1 x.2.2.2.2=exec (sH N) Tryz.f98.ntmps .d PY (yM x) (fE YB aJV self K):=by kernel_rfl
theorem aJ8 N (hc:aD (sH N)):cU (sH N) Tryz.f98.ntmps (.loop PY) I0 IZ (aV 2) (bB yM IY (vB N N)):=
 fW hc (cT PY) (kS aJX aJW .ret (.exit 0) (λ_=>by kernel_rfl) (λ_=>by kernel_rfl) (λ_=>rfl) (λ_=>rfl) (by kernel_rfl)) (n:=N) (λx K=>fY (vB N) (λ_ _ _ _=>rfl) (λn K ih x=>by
  refine gM ?_ (aJ0 N _ K x);simp only[<-ih];rfl) N x K)
def YG[aA](_:Nat)(in0:(List (Int×(Int×(Int×UInt8))))->Int->Int->Int->UInt8->(Int->Int->UInt8->O)->(Int->UInt8->O)->O)(s0:(List (Int×(Int×(Int×UInt8)))))(g0:Int)(k510:UInt8):O:=
 in0 s0 ((↑s0.length:Int)) 0 g0 k510
  (λz4 z5 z6=>
   some (yL z4 z5 z6))
  (λz7 z8=>
   some (yL ((-1:Int)) z7 z8))
def w98[aA] N s0 g0 k510:=YG N (YA N) s0 g0 k510
def YC[aA](N:Nat):Hint:=(.seq .d (.seq (.seq .d (.block (.sub YB _ _ _ I0 IZ (aV 2) (bB yM IY (vB N N))))) .d))
theorem aJ4 N (hc:aD (sH N)):bJ (sH N) Tryz.f98.ntmps (YC N) PZ:=bR _ _ (aH trivial (aH (aH trivial (aJ8 N hc)) trivial))
theorem aJ1[aA] N s0 g0 k510:YG N (Xz N) s0 g0 k510=exec (sH N) Tryz.f98.ntmps (YC N) PZ ⟨bW 0 [.e (.sl (.pr (.i .i64) (.pr (.i .i64) (.pr (.i .i64) .u8)))) s0,.fn 99 [.ref 50 0,.ref 51 0]],[(50,.box 3 [.e (.i .i64) g0]),(51,.box 5 [.e .u8 k510])],100⟩ (bX (sH N) Tryz.f98 true):=by kernel_rfl
def IX(r:aC):Option (Int×Int×UInt8):=match r with
 |(x0,[(50,.box 3 [x1]),(51,.box 5 [x2])])=>(match ue (.i .i64) x0,ue (.i .i64) x1,ue .u8 x2 with|some a0,some a1,some a2=>some (a0,a1,a2)|_,_,_=>none)
 |_=>none
theorem aJY{r d}(h:IX r=some d):r=yL d.1 d.2.1 d.2.2:=by
 unfold IX at h;split at h
 .split at h
  .rename_i h0 h1 h2;cases h;rw[aE h0,aE h1,aE h2];rfl
  .cases h
 .cases h
def yK N s0 g0 k510:=(w98 N s0 g0 k510).bind IX
theorem aJ5{N}(hc:aD (sH N)){s0 g0 k510 d}(hd:yK N s0 g0 k510=some d):cB Tryz.prog 98 [.e (.sl (.pr (.i .i64) (.pr (.i .i64) (.pr (.i .i64) .u8)))) s0,.fn 99 [.ref 50 0,.ref 51 0]] [(50,.box 3 [.e (.i .i64) g0]),(51,.box 5 [.e .u8 k510])] (yL d.1 d.2.1 d.2.2):=
 cD hc (by kernel_rfl) (by kernel_rfl) (aJ4 N hc) (by kernel_rfl) aJY (λhr=>(aJ1 N s0 g0 k510).symm.trans (by rw[aJ6 N];exact hr)) hd
def Ba N s0 g0 k510:=(yK N s0 g0 k510).isSome
def vA N s0 g0 k510:=((yK N s0 g0 k510).getD (0,0,0)).1
def jH N s0 g0 k510:=((yK N s0 g0 k510).getD (0,0,0)).2.1
def IW N s0 g0 k510:=((yK N s0 g0 k510).getD (0,0,0)).2.2
def PX(xs:List X)(H:XH):Option ((List (Int×(Int×(Int×UInt8))))×Int×UInt8):=match xs,H with
 |[x0,.fn 99 [.ref 50 0,.ref 51 0]],[(50,.box 3 [x1]),(51,.box 5 [x2])]=>(match ue (.sl (.pr (.i .i64) (.pr (.i .i64) (.pr (.i .i64) .u8)))) x0,ue (.i .i64) x1,ue .u8 x2 with|some a0,some a1,some a2=>some (a0,a1,a2)|_,_,_=>none)
 |_,_=>none
theorem aJ3{xs H d}(h:PX xs H=some d):xs=[.e (.sl (.pr (.i .i64) (.pr (.i .i64) (.pr (.i .i64) .u8)))) d.1,.fn 99 [.ref 50 0,.ref 51 0]]/\H=[(50,.box 3 [.e (.i .i64) d.2.1]),(51,.box 5 [.e .u8 d.2.2])]:=by
 unfold PX at h;split at h
 .split at h
  .rename_i h0 h1 h2;cases h;rw[aE h0,aE h1,aE h2];exact⟨rfl,rfl⟩
  .cases h
 .cases h
def YD(N:Nat):bK:=eU PX (λd=>Ba N d.1 d.2.1 d.2.2) (λd=>yL (vA N d.1 d.2.1 d.2.2) (jH N d.1 d.2.1 d.2.2) (IW N d.1 d.2.1 d.2.2))
theorem aJ2 N:aK Tryz.prog 98 (YD N):=eH aJ3 (λd h=>cV (z:=yK N d.1 d.2.1 d.2.2) h (aJ5 (aJ7 N)) rfl)
def wJ(a0 a1:Int)(a2:(List Ex))(a3:aT)(a4:Int):aC:=(.agg [.e (.i .i64) a0,.e (.i .i64) a1,.e (.sl .ex) a2],[(50,.box 100 [.e .tx a3,.e (.i .i64) a4])])
def pQ(a0:Int)(a1:aT)(a2:Int):aC:=(.dP (.iface 96 (.int .i64 a0)),[(50,.box 100 [.e .tx a1,.e (.i .i64) a2])])
def UX(xs:List X)(H:XH):Option (aT×Int):=match xs,H with
 |[.ref 50 0],[(50,.box 100 [x0,x1])]=>(match ue .tx x0,ue (.i .i64) x1 with|some a0,some a1=>some (a0,a1)|_,_=>none)
 |_,_=>none
theorem aFY{xs H d}(h:UX xs H=some d):xs=[.ref 50 0]/\H=[(50,.box 100 [.e .tx d.1,.e (.i .i64) d.2])]:=by
 unfold UX at h;split at h
 .split at h
  .rename_i h0 h1;cases h;rw[aE h0,aE h1];exact⟨rfl,rfl⟩
  .cases h
 .cases h
abbrev jW:=Nat×((aT->Int->Option ((Int×Int×(List Ex)×aT×Int) ⊕ (Int×aT×Int)))×(aT->Int->Option ((Int×Int×(List Ex)×aT×Int) ⊕ (Int×aT×Int)))×(Int->aT->Int->Option ((Int×Int×(List Ex)×aT×Int) ⊕ (Int×aT×Int))))
def Ao(N:jW):kI:=uL UX (λd=>(N.2.1 d.1 d.2).isSome) (λd=>some (kD (N.2.1 d.1 d.2))) (λd=>wJ ((bC (0,0,[],[],0) (N.2.1 d.1 d.2)).1) ((bC (0,0,[],[],0) (N.2.1 d.1 d.2)).2.1) ((bC (0,0,[],[],0) (N.2.1 d.1 d.2)).2.2.1) ((bC (0,0,[],[],0) (N.2.1 d.1 d.2)).2.2.2.1) ((bC (0,0,[],[],0) (N.2.1 d.1 d.2)).2.2.2.2)) (λd=>pQ ((c7 (0,[],0) (N.2.1 d.1 d.2)).1) ((c7 (0,[],0) (N.2.1 d.1 d.2)).2.1) ((c7 (0,[],0) (N.2.1 d.1 d.2)).2.2))
def yO(a0 a1:Int)(a2:(List Ex))(a3:aT)(a4:Int):aC:=(.agg [.e (.i .i64) a0,.e (.i .i64) a1,.e (.sl .ex) a2],[(50,.box 100 [.e .tx a3,.e (.i .i64) a4])])
def yN(a0:Int)(a1:aT)(a2:Int):aC:=(.dP (.iface 96 (.int .i64 a0)),[(50,.box 100 [.e .tx a1,.e (.i .i64) a2])])
def P0(xs:List X)(H:XH):Option (aT×Int):=match xs,H with
 |[.ref 50 0],[(50,.box 100 [x0,x1])]=>(match ue .tx x0,ue (.i .i64) x1 with|some a0,some a1=>some (a0,a1)|_,_=>none)
 |_,_=>none
theorem YH{xs H d}(h:P0 xs H=some d):xs=[.ref 50 0]/\H=[(50,.box 100 [.e .tx d.1,.e (.i .i64) d.2])]:=by
 unfold P0 at h;split at h
 .split at h
  .rename_i h0 h1;cases h;rw[aE h0,aE h1];exact⟨rfl,rfl⟩
  .cases h
 .cases h
def yQ(N:jW):kI:=uL P0 (λd=>(N.2.2.1 d.1 d.2).isSome) (λd=>some (kD (N.2.2.1 d.1 d.2))) (λd=>yO ((bC (0,0,[],[],0) (N.2.2.1 d.1 d.2)).1) ((bC (0,0,[],[],0) (N.2.2.1 d.1 d.2)).2.1) ((bC (0,0,[],[],0) (N.2.2.1 d.1 d.2)).2.2.1) ((bC (0,0,[],[],0) (N.2.2.1 d.1 d.2)).2.2.2.1) ((bC (0,0,[],[],0) (N.2.2.1 d.1 d.2)).2.2.2.2)) (λd=>yN ((c7 (0,[],0) (N.2.2.1 d.1 d.2)).1) ((c7 (0,[],0) (N.2.2.1 d.1 d.2)).2.1) ((c7 (0,[],0) (N.2.2.1 d.1 d.2)).2.2))
def zF(a0 a1:Int)(a2:(List Ex))(a3:aT)(a4:Int):aC:=(.agg [.e (.i .i64) a0,.e (.i .i64) a1,.e (.sl .ex) a2],[(50,.box 100 [.e .tx a3,.e (.i .i64) a4])])
def vI(a0:Int)(a1:aT)(a2:Int):aC:=(.dP (.iface 96 (.int .i64 a0)),[(50,.box 100 [.e .tx a1,.e (.i .i64) a2])])
def J7(xs:List X)(H:XH):Option (Int×aT×Int):=match xs,H with
 |[.ref 50 0,x0],[(50,.box 100 [x1,x2])]=>(match ue (.i .i64) x0,ue .tx x1,ue (.i .i64) x2 with|some a0,some a1,some a2=>some (a0,a1,a2)|_,_,_=>none)
 |_,_=>none
theorem Zh{xs H d}(h:J7 xs H=some d):xs=[.ref 50 0,.e (.i .i64) d.1]/\H=[(50,.box 100 [.e .tx d.2.1,.e (.i .i64) d.2.2])]:=by
 unfold J7 at h;split at h
 .split at h
  .rename_i h0 h1 h2;cases h;rw[aE h0,aE h1,aE h2];exact⟨rfl,rfl⟩
  .cases h
 .cases h
def zH(N:jW):kI:=uL J7 (λd=>(N.2.2.2 d.1 d.2.1 d.2.2).isSome) (λd=>some (kD (N.2.2.2 d.1 d.2.1 d.2.2))) (λd=>zF ((bC (0,0,[],[],0) (N.2.2.2 d.1 d.2.1 d.2.2)).1) ((bC (0,0,[],[],0) (N.2.2.2 d.1 d.2.1 d.2.2)).2.1) ((bC (0,0,[],[],0) (N.2.2.2 d.1 d.2.1 d.2.2)).2.2.1) ((bC (0,0,[],[],0) (N.2.2.2 d.1 d.2.1 d.2.2)).2.2.2.1) ((bC (0,0,[],[],0) (N.2.2.2 d.1 d.2.1 d.2.2)).2.2.2.2)) (λd=>vI ((c7 (0,[],0) (N.2.2.2 d.1 d.2.1 d.2.2)).1) ((c7 (0,[],0) (N.2.2.2 d.1 d.2.1 d.2.2)).2.1) ((c7 (0,[],0) (N.2.2.2 d.1 d.2.1 d.2.2)).2.2))
def An(N:jW):Cx:=⟨Tryz.prog,25,[(77,Bz N.1)],[(106,Ao N),(97,yQ N),(76,zH N),(110,aFJ N.1),(111,aFA N.1)]⟩
def UY:Code:=Tryz.f106.body.getD .skip
theorem aF2 N (hw107:j0 Tryz.prog 106 (Ao N)) (hw85:j0 Tryz.prog 97 (yQ N)) (hw53:j0 Tryz.prog 76 (zH N)):aD (An N):=bZ (by kernel_rfl) (.cons (by kernel_rfl) (FE N.1) .nil) (.cons (by kernel_rfl) hw107 (.cons (by kernel_rfl) hw85 (.cons (by kernel_rfl) hw53 (.cons (by kernel_rfl) (aXJ N.1) (.cons (by kernel_rfl) (aWs N.1) .nil)))))
def lL[aA](N:jW)(g0:aT)(g1:Int):O:=
 ck (pI N.1 g0 g1)<|
 br (decide ((48:UInt8)<=eI N.1 g0 g1)&&decide (eI N.1 g0 g1<=(57:UInt8)))
  (ck (DQ N.1 (aJ N.1 g0 g1) (aI N.1 g0 g1))<|
  br (DU N.1 (aJ N.1 g0 g1) (aI N.1 g0 g1))
   (some (wJ ((UI N.1 (aJ N.1 g0 g1) (aI N.1 g0 g1))) ((UH N.1 (aJ N.1 g0 g1) (aI N.1 g0 g1))) ((UG N.1 (aJ N.1 g0 g1) (aI N.1 g0 g1))) (UF N.1 (aJ N.1 g0 g1) (aI N.1 g0 g1)) (UE N.1 (aJ N.1 g0 g1) (aI N.1 g0 g1))))
   (some (pQ (UL N.1 (aJ N.1 g0 g1) (aI N.1 g0 g1)) (UK N.1 (aJ N.1 g0 g1) (aI N.1 g0 g1)) (UJ N.1 (aJ N.1 g0 g1) (aI N.1 g0 g1)))))
  (br (decide ((97:UInt8)<=eI N.1 g0 g1)&&decide (eI N.1 g0 g1<=(122:UInt8)))
   (some (wJ 1 ((aB.wrap (↑(eI N.1 g0 g1-(97:UInt8)).toNat:Int))) ([]) (aJ N.1 g0 g1) (aB.wrap (aI N.1 g0 g1+(1:Int)))))
   (br (decide (eI N.1 g0 g1=(82:UInt8)))
    (ck (Af N.1 (40:UInt8) (aJ N.1 g0 g1) (aB.wrap (aI N.1 g0 g1+(1:Int))))<|
    br (tQ N.1 (40:UInt8) (aJ N.1 g0 g1) (aB.wrap (aI N.1 g0 g1+(1:Int))))
     (ck ((N.snd.snd.2 (1:Int) (dC N.1 (40:UInt8) (aJ N.1 g0 g1) (aB.wrap (aI N.1 g0 g1+(1:Int)))) (dB N.1 (40:UInt8) (aJ N.1 g0 g1) (aB.wrap (aI N.1 g0 g1+(1:Int))))).isSome)<|
     br (kD (N.snd.snd.2 (1:Int) (dC N.1 (40:UInt8) (aJ N.1 g0 g1) (aB.wrap (aI N.1 g0 g1+(1:Int)))) (dB N.1 (40:UInt8) (aJ N.1 g0 g1) (aB.wrap (aI N.1 g0 g1+(1:Int))))))
      (ck (Af N.1 (41:UInt8) (bC ((0:Int),(0:Int),[],[],(0:Int)) (N.snd.snd.2 (1:Int) (dC N.1 (40:UInt8) (aJ N.1 g0 g1) (aB.wrap (aI N.1 g0 g1+(1:Int)))) (dB N.1 (40:UInt8) (aJ N.1 g0 g1) (aB.wrap (aI N.1 g0 g1+(1:Int)))))).2.2.2.1 (bC ((0:Int),(0:Int),[],[],(0:Int)) (N.snd.snd.2 (1:Int) (dC N.1 (40:UInt8) (aJ N.1 g0 g1) (aB.wrap (aI N.1 g0 g1+(1:Int)))) (dB N.1 (40:UInt8) (aJ N.1 g0 g1) (aB.wrap (aI N.1 g0 g1+(1:Int)))))).2.2.2.2)<|
      br (tQ N.1 (41:UInt8) (bC ((0:Int),(0:Int),[],[],(0:Int)) (N.snd.snd.2 (1:Int) (dC N.1 (40:UInt8) (aJ N.1 g0 g1) (aB.wrap (aI N.1 g0 g1+(1:Int)))) (dB N.1 (40:UInt8) (aJ N.1 g0 g1) (aB.wrap (aI N.1 g0 g1+(1:Int)))))).2.2.2.1 (bC ((0:Int),(0:Int),[],[],(0:Int)) (N.snd.snd.2 (1:Int) (dC N.1 (40:UInt8) (aJ N.1 g0 g1) (aB.wrap (aI N.1 g0 g1+(1:Int)))) (dB N.1 (40:UInt8) (aJ N.1 g0 g1) (aB.wrap (aI N.1 g0 g1+(1:Int)))))).2.2.2.2)
       (some (wJ 8 0 ([Ex.mk (bC ((0:Int),(0:Int),[],[],(0:Int)) (N.snd.snd.2 (1:Int) (dC N.1 (40:UInt8) (aJ N.1 g0 g1) (aB.wrap (aI N.1 g0 g1+(1:Int)))) (dB N.1 (40:UInt8) (aJ N.1 g0 g1) (aB.wrap (aI N.1 g0 g1+(1:Int)))))).1 (bC ((0:Int),(0:Int),[],[],(0:Int)) (N.snd.snd.2 (1:Int) (dC N.1 (40:UInt8) (aJ N.1 g0 g1) (aB.wrap (aI N.1 g0 g1+(1:Int)))) (dB N.1 (40:UInt8) (aJ N.1 g0 g1) (aB.wrap (aI N.1 g0 g1+(1:Int)))))).2.1 (bC ((0:Int),(0:Int),[],[],(0:Int)) (N.snd.snd.2 (1:Int) (dC N.1 (40:UInt8) (aJ N.1 g0 g1) (aB.wrap (aI N.1 g0 g1+(1:Int)))) (dB N.1 (40:UInt8) (aJ N.1 g0 g1) (aB.wrap (aI N.1 g0 g1+(1:Int)))))).2.2.1]) (dC N.1 (41:UInt8) (bC ((0:Int),(0:Int),[],[],(0:Int)) (N.snd.snd.2 (1:Int) (dC N.1 (40:UInt8) (aJ N.1 g0 g1) (aB.wrap (aI N.1 g0 g1+(1:Int)))) (dB N.1 (40:UInt8) (aJ N.1 g0 g1) (aB.wrap (aI N.1 g0 g1+(1:Int)))))).2.2.2.1 (bC ((0:Int),(0:Int),[],[],(0:Int)) (N.snd.snd.2 (1:Int) (dC N.1 (40:UInt8) (aJ N.1 g0 g1) (aB.wrap (aI N.1 g0 g1+(1:Int)))) (dB N.1 (40:UInt8) (aJ N.1 g0 g1) (aB.wrap (aI N.1 g0 g1+(1:Int)))))).2.2.2.2) (dB N.1 (41:UInt8) (bC ((0:Int),(0:Int),[],[],(0:Int)) (N.snd.snd.2 (1:Int) (dC N.1 (40:UInt8) (aJ N.1 g0 g1) (aB.wrap (aI N.1 g0 g1+(1:Int)))) (dB N.1 (40:UInt8) (aJ N.1 g0 g1) (aB.wrap (aI N.1 g0 g1+(1:Int)))))).2.2.2.1 (bC ((0:Int),(0:Int),[],[],(0:Int)) (N.snd.snd.2 (1:Int) (dC N.1 (40:UInt8) (aJ N.1 g0 g1) (aB.wrap (aI N.1 g0 g1+(1:Int)))) (dB N.1 (40:UInt8) (aJ N.1 g0 g1) (aB.wrap (aI N.1 g0 g1+(1:Int)))))).2.2.2.2)))
       (some (pQ (Ae N.1 (41:UInt8) (bC ((0:Int),(0:Int),[],[],(0:Int)) (N.snd.snd.2 (1:Int) (dC N.1 (40:UInt8) (aJ N.1 g0 g1) (aB.wrap (aI N.1 g0 g1+(1:Int)))) (dB N.1 (40:UInt8) (aJ N.1 g0 g1) (aB.wrap (aI N.1 g0 g1+(1:Int)))))).2.2.2.1 (bC ((0:Int),(0:Int),[],[],(0:Int)) (N.snd.snd.2 (1:Int) (dC N.1 (40:UInt8) (aJ N.1 g0 g1) (aB.wrap (aI N.1 g0 g1+(1:Int)))) (dB N.1 (40:UInt8) (aJ N.1 g0 g1) (aB.wrap (aI N.1 g0 g1+(1:Int)))))).2.2.2.2) (Ad N.1 (41:UInt8) (bC ((0:Int),(0:Int),[],[],(0:Int)) (N.snd.snd.2 (1:Int) (dC N.1 (40:UInt8) (aJ N.1 g0 g1) (aB.wrap (aI N.1 g0 g1+(1:Int)))) (dB N.1 (40:UInt8) (aJ N.1 g0 g1) (aB.wrap (aI N.1 g0 g1+(1:Int)))))).2.2.2.1 (bC ((0:Int),(0:Int),[],[],(0:Int)) (N.snd.snd.2 (1:Int) (dC N.1 (40:UInt8) (aJ N.1 g0 g1) (aB.wrap (aI N.1 g0 g1+(1:Int)))) (dB N.1 (40:UInt8) (aJ N.1 g0 g1) (aB.wrap (aI N.1 g0 g1+(1:Int)))))).2.2.2.2) (Ac N.1 (41:UInt8) (bC ((0:Int),(0:Int),[],[],(0:Int)) (N.snd.snd.2 (1:Int) (dC N.1 (40:UInt8) (aJ N.1 g0 g1) (aB.wrap (aI N.1 g0 g1+(1:Int)))) (dB N.1 (40:UInt8) (aJ N.1 g0 g1) (aB.wrap (aI N.1 g0 g1+(1:Int)))))).2.2.2.1 (bC ((0:Int),(0:Int),[],[],(0:Int)) (N.snd.snd.2 (1:Int) (dC N.1 (40:UInt8) (aJ N.1 g0 g1) (aB.wrap (aI N.1 g0 g1+(1:Int)))) (dB N.1 (40:UInt8) (aJ N.1 g0 g1) (aB.wrap (aI N.1 g0 g1+(1:Int)))))).2.2.2.2))))
      (some (pQ ((c7 ((0:Int),[],(0:Int)) (N.snd.snd.2 (1:Int) (dC N.1 (40:UInt8) (aJ N.1 g0 g1) (aB.wrap (aI N.1 g0 g1+(1:Int)))) (dB N.1 (40:UInt8) (aJ N.1 g0 g1) (aB.wrap (aI N.1 g0 g1+(1:Int)))))).1) ((c7 ((0:Int),[],(0:Int)) (N.snd.snd.2 (1:Int) (dC N.1 (40:UInt8) (aJ N.1 g0 g1) (aB.wrap (aI N.1 g0 g1+(1:Int)))) (dB N.1 (40:UInt8) (aJ N.1 g0 g1) (aB.wrap (aI N.1 g0 g1+(1:Int)))))).2.1) ((c7 ((0:Int),[],(0:Int)) (N.snd.snd.2 (1:Int) (dC N.1 (40:UInt8) (aJ N.1 g0 g1) (aB.wrap (aI N.1 g0 g1+(1:Int)))) (dB N.1 (40:UInt8) (aJ N.1 g0 g1) (aB.wrap (aI N.1 g0 g1+(1:Int)))))).2.2))))
     (some (pQ (Ae N.1 (40:UInt8) (aJ N.1 g0 g1) (aB.wrap (aI N.1 g0 g1+(1:Int)))) (Ad N.1 (40:UInt8) (aJ N.1 g0 g1) (aB.wrap (aI N.1 g0 g1+(1:Int)))) (Ac N.1 (40:UInt8) (aJ N.1 g0 g1) (aB.wrap (aI N.1 g0 g1+(1:Int)))))))
    (ck (Af N.1 (40:UInt8) (aJ N.1 g0 g1) (aI N.1 g0 g1))<|
    br (tQ N.1 (40:UInt8) (aJ N.1 g0 g1) (aI N.1 g0 g1))
     (ck ((N.snd.snd.2 (1:Int) (dC N.1 (40:UInt8) (aJ N.1 g0 g1) (aI N.1 g0 g1)) (dB N.1 (40:UInt8) (aJ N.1 g0 g1) (aI N.1 g0 g1))).isSome)<|
     br (kD (N.snd.snd.2 (1:Int) (dC N.1 (40:UInt8) (aJ N.1 g0 g1) (aI N.1 g0 g1)) (dB N.1 (40:UInt8) (aJ N.1 g0 g1) (aI N.1 g0 g1))))
      (ck (Af N.1 (41:UInt8) (bC ((0:Int),(0:Int),[],[],(0:Int)) (N.snd.snd.2 (1:Int) (dC N.1 (40:UInt8) (aJ N.1 g0 g1) (aI N.1 g0 g1)) (dB N.1 (40:UInt8) (aJ N.1 g0 g1) (aI N.1 g0 g1)))).2.2.2.1 (bC ((0:Int),(0:Int),[],[],(0:Int)) (N.snd.snd.2 (1:Int) (dC N.1 (40:UInt8) (aJ N.1 g0 g1) (aI N.1 g0 g1)) (dB N.1 (40:UInt8) (aJ N.1 g0 g1) (aI N.1 g0 g1)))).2.2.2.2)<|
      br (tQ N.1 (41:UInt8) (bC ((0:Int),(0:Int),[],[],(0:Int)) (N.snd.snd.2 (1:Int) (dC N.1 (40:UInt8) (aJ N.1 g0 g1) (aI N.1 g0 g1)) (dB N.1 (40:UInt8) (aJ N.1 g0 g1) (aI N.1 g0 g1)))).2.2.2.1 (bC ((0:Int),(0:Int),[],[],(0:Int)) (N.snd.snd.2 (1:Int) (dC N.1 (40:UInt8) (aJ N.1 g0 g1) (aI N.1 g0 g1)) (dB N.1 (40:UInt8) (aJ N.1 g0 g1) (aI N.1 g0 g1)))).2.2.2.2)
       (some (wJ ((bC ((0:Int),(0:Int),[],[],(0:Int)) (N.snd.snd.2 (1:Int) (dC N.1 (40:UInt8) (aJ N.1 g0 g1) (aI N.1 g0 g1)) (dB N.1 (40:UInt8) (aJ N.1 g0 g1) (aI N.1 g0 g1)))).1) ((bC ((0:Int),(0:Int),[],[],(0:Int)) (N.snd.snd.2 (1:Int) (dC N.1 (40:UInt8) (aJ N.1 g0 g1) (aI N.1 g0 g1)) (dB N.1 (40:UInt8) (aJ N.1 g0 g1) (aI N.1 g0 g1)))).2.1) ((bC ((0:Int),(0:Int),[],[],(0:Int)) (N.snd.snd.2 (1:Int) (dC N.1 (40:UInt8) (aJ N.1 g0 g1) (aI N.1 g0 g1)) (dB N.1 (40:UInt8) (aJ N.1 g0 g1) (aI N.1 g0 g1)))).2.2.1) (dC N.1 (41:UInt8) (bC ((0:Int),(0:Int),[],[],(0:Int)) (N.snd.snd.2 (1:Int) (dC N.1 (40:UInt8) (aJ N.1 g0 g1) (aI N.1 g0 g1)) (dB N.1 (40:UInt8) (aJ N.1 g0 g1) (aI N.1 g0 g1)))).2.2.2.1 (bC ((0:Int),(0:Int),[],[],(0:Int)) (N.snd.snd.2 (1:Int) (dC N.1 (40:UInt8) (aJ N.1 g0 g1) (aI N.1 g0 g1)) (dB N.1 (40:UInt8) (aJ N.1 g0 g1) (aI N.1 g0 g1)))).2.2.2.2) (dB N.1 (41:UInt8) (bC ((0:Int),(0:Int),[],[],(0:Int)) (N.snd.snd.2 (1:Int) (dC N.1 (40:UInt8) (aJ N.1 g0 g1) (aI N.1 g0 g1)) (dB N.1 (40:UInt8) (aJ N.1 g0 g1) (aI N.1 g0 g1)))).2.2.2.1 (bC ((0:Int),(0:Int),[],[],(0:Int)) (N.snd.snd.2 (1:Int) (dC N.1 (40:UInt8) (aJ N.1 g0 g1) (aI N.1 g0 g1)) (dB N.1 (40:UInt8) (aJ N.1 g0 g1) (aI N.1 g0 g1)))).2.2.2.2)))
       (some (pQ (Ae N.1 (41:UInt8) (bC ((0:Int),(0:Int),[],[],(0:Int)) (N.snd.snd.2 (1:Int) (dC N.1 (40:UInt8) (aJ N.1 g0 g1) (aI N.1 g0 g1)) (dB N.1 (40:UInt8) (aJ N.1 g0 g1) (aI N.1 g0 g1)))).2.2.2.1 (bC ((0:Int),(0:Int),[],[],(0:Int)) (N.snd.snd.2 (1:Int) (dC N.1 (40:UInt8) (aJ N.1 g0 g1) (aI N.1 g0 g1)) (dB N.1 (40:UInt8) (aJ N.1 g0 g1) (aI N.1 g0 g1)))).2.2.2.2) (Ad N.1 (41:UInt8) (bC ((0:Int),(0:Int),[],[],(0:Int)) (N.snd.snd.2 (1:Int) (dC N.1 (40:UInt8) (aJ N.1 g0 g1) (aI N.1 g0 g1)) (dB N.1 (40:UInt8) (aJ N.1 g0 g1) (aI N.1 g0 g1)))).2.2.2.1 (bC ((0:Int),(0:Int),[],[],(0:Int)) (N.snd.snd.2 (1:Int) (dC N.1 (40:UInt8) (aJ N.1 g0 g1) (aI N.1 g0 g1)) (dB N.1 (40:UInt8) (aJ N.1 g0 g1) (aI N.1 g0 g1)))).2.2.2.2) (Ac N.1 (41:UInt8) (bC ((0:Int),(0:Int),[],[],(0:Int)) (N.snd.snd.2 (1:Int) (dC N.1 (40:UInt8) (aJ N.1 g0 g1) (aI N.1 g0 g1)) (dB N.1 (40:UInt8) (aJ N.1 g0 g1) (aI N.1 g0 g1)))).2.2.2.1 (bC ((0:Int),(0:Int),[],[],(0:Int)) (N.snd.snd.2 (1:Int) (dC N.1 (40:UInt8) (aJ N.1 g0 g1) (aI N.1 g0 g1)) (dB N.1 (40:UInt8) (aJ N.1 g0 g1) (aI N.1 g0 g1)))).2.2.2.2))))
      (some (pQ ((c7 ((0:Int),[],(0:Int)) (N.snd.snd.2 (1:Int) (dC N.1 (40:UInt8) (aJ N.1 g0 g1) (aI N.1 g0 g1)) (dB N.1 (40:UInt8) (aJ N.1 g0 g1) (aI N.1 g0 g1)))).1) ((c7 ((0:Int),[],(0:Int)) (N.snd.snd.2 (1:Int) (dC N.1 (40:UInt8) (aJ N.1 g0 g1) (aI N.1 g0 g1)) (dB N.1 (40:UInt8) (aJ N.1 g0 g1) (aI N.1 g0 g1)))).2.1) ((c7 ((0:Int),[],(0:Int)) (N.snd.snd.2 (1:Int) (dC N.1 (40:UInt8) (aJ N.1 g0 g1) (aI N.1 g0 g1)) (dB N.1 (40:UInt8) (aJ N.1 g0 g1) (aI N.1 g0 g1)))).2.2))))
     (some (pQ (Ae N.1 (40:UInt8) (aJ N.1 g0 g1) (aI N.1 g0 g1)) (Ad N.1 (40:UInt8) (aJ N.1 g0 g1) (aI N.1 g0 g1)) (Ac N.1 (40:UInt8) (aJ N.1 g0 g1) (aI N.1 g0 g1)))))))
def aF3[aA] N g0 g1:=lL N g0 g1
def aFZ[aA](_:jW):Hint:=.d
theorem aXc N:bJ (An N) Tryz.f106.ntmps (aFZ N) UY:=bR _ _ trivial
theorem aXb[aA] N g0 g1:lL N g0 g1=exec (An N) Tryz.f106.ntmps (aFZ N) UY ⟨bW 0 [.ref 50 0],[(50,.box 100 [.e .tx g0,.e (.i .i64) g1])],100⟩ (bX (An N) Tryz.f106 false):=by kernel_rfl
theorem aF1{N:jW}(hc:aD (An N)){g0:aT}{g1:Int}{r:aC}(h:aF3 N g0 g1=some r):iB Tryz.prog 106 (([.ref 50 0]:List X).map X.D) (HA [(50,.box 100 [.e .tx g0,.e (.i .i64) g1])]) r:=
 xO hc (f:=106) (fn:=Tryz.f106) (code:=UY) (by kernel_rfl) (by kernel_rfl) (aXc N) (fC (by kernel_rfl)) (ow:=false) ((aXb N g0 g1).symm.trans (by exact h))
def oM(r:aC):Option ((Int×Int×(List Ex)×aT×Int) ⊕ (Int×aT×Int)):=match r with
 |(.dP (.iface 96 (.int .i64 a0)),[(50,.box 100 [x1,x2])])=>(match ue .tx x1,ue (.i .i64) x2 with|some a1,some a2=>some (.inr (a0,a1,a2))|_,_=>none)
 |(.agg [x0,x1,x2],[(50,.box 100 [x3,x4])])=>(match ue (.i .i64) x0,ue (.i .i64) x1,ue (.sl .ex) x2,ue .tx x3,ue (.i .i64) x4 with|some a0,some a1,some a2,some a3,some a4=>some (.inl (a0,a1,a2,a3,a4))|_,_,_,_,_=>none)
 |_=>none
theorem aXa{r d}(h:oM r=some (.inl d)):r=wJ d.1 d.2.1 d.2.2.1 d.2.2.2.1 d.2.2.2.2:=by
 unfold oM at h;split at h
 .split at h
  .cases h
  .cases h
 .split at h
  .rename_i h0 h1 h2 h3 h4;cases h;rw[aE h0,aE h1,aE h2,aE h3,aE h4];rfl
  .cases h
 .cases h
theorem aX9{r d}(h:oM r=some (.inr d)):r=pQ d.1 d.2.1 d.2.2:=by
 unfold oM at h;split at h
 .split at h
  .rename_i h1 h2;cases h;rw[aE h1,aE h2];rfl
  .cases h
 .split at h
  .cases h
  .cases h
 .cases h
def pP N g0 g1:=(aF3 N g0 g1).bind oM
theorem aXe{N}(hc:aD (An N)){g0 g1 d}(hd:pP N g0 g1=some (.inl d)):cB Tryz.prog 106 [.ref 50 0] [(50,.box 100 [.e .tx g0,.e (.i .i64) g1])] (wJ d.1 d.2.1 d.2.2.1 d.2.2.2.1 d.2.2.2.2):=by
 obtain⟨r,hr,hu⟩:=kY.1 hd;have:=aF1 hc hr;rw[aXa hu]at this;exact this
theorem aXd{N}(hc:aD (An N)){g0 g1 d}(hd:pP N g0 g1=some (.inr d)):iB Tryz.prog 106 (([.ref 50 0]:List X).map X.D) (HA [(50,.box 100 [.e .tx g0,.e (.i .i64) g1])]) (pQ d.1 d.2.1 d.2.2):=by
 obtain⟨r,hr,hu⟩:=kY.1 hd;have:=aF1 hc hr;rw[aX9 hu]at this;exact this
def yP(N:jW):Cx:=⟨Tryz.prog,25,[(77,Bz N.1)],[(106,Ao N),(97,yQ N),(76,zH N)]⟩
def P1:Code:=Tryz.f97.body.getD .skip
theorem YK N (hw107:j0 Tryz.prog 106 (Ao N)) (hw85:j0 Tryz.prog 97 (yQ N)) (hw53:j0 Tryz.prog 76 (zH N)):aD (yP N):=bZ (by kernel_rfl) (.cons (by kernel_rfl) (FE N.1) .nil) (.cons (by kernel_rfl) hw107 (.cons (by kernel_rfl) hw85 (.cons (by kernel_rfl) hw53 .nil)))
def qT[aA](N:jW)(g0:aT)(g1:Int):O:=
 ck (pI N.1 g0 g1)<|
 br (decide (eI N.1 g0 g1=(45:UInt8)))
  (ck ((N.snd.snd.1 (aJ N.1 g0 g1) (aB.wrap (aI N.1 g0 g1+(1:Int)))).isSome)<|
  br (kD (N.snd.snd.1 (aJ N.1 g0 g1) (aB.wrap (aI N.1 g0 g1+(1:Int)))))
   (some (yO 2 0 ([Ex.mk (bC ((0:Int),(0:Int),[],[],(0:Int)) (N.snd.snd.1 (aJ N.1 g0 g1) (aB.wrap (aI N.1 g0 g1+(1:Int))))).1 (bC ((0:Int),(0:Int),[],[],(0:Int)) (N.snd.snd.1 (aJ N.1 g0 g1) (aB.wrap (aI N.1 g0 g1+(1:Int))))).2.1 (bC ((0:Int),(0:Int),[],[],(0:Int)) (N.snd.snd.1 (aJ N.1 g0 g1) (aB.wrap (aI N.1 g0 g1+(1:Int))))).2.2.1]) ((bC ((0:Int),(0:Int),[],[],(0:Int)) (N.snd.snd.1 (aJ N.1 g0 g1) (aB.wrap (aI N.1 g0 g1+(1:Int))))).2.2.2.1) ((bC ((0:Int),(0:Int),[],[],(0:Int)) (N.snd.snd.1 (aJ N.1 g0 g1) (aB.wrap (aI N.1 g0 g1+(1:Int))))).2.2.2.2)))
   (some (yN ((c7 ((0:Int),[],(0:Int)) (N.snd.snd.1 (aJ N.1 g0 g1) (aB.wrap (aI N.1 g0 g1+(1:Int))))).1) ((c7 ((0:Int),[],(0:Int)) (N.snd.snd.1 (aJ N.1 g0 g1) (aB.wrap (aI N.1 g0 g1+(1:Int))))).2.1) ((c7 ((0:Int),[],(0:Int)) (N.snd.snd.1 (aJ N.1 g0 g1) (aB.wrap (aI N.1 g0 g1+(1:Int))))).2.2))))
  (ck ((N.snd.1 (aJ N.1 g0 g1) (aI N.1 g0 g1)).isSome)<|
  br (kD (N.snd.1 (aJ N.1 g0 g1) (aI N.1 g0 g1)))
   (ck (pI N.1 (bC ((0:Int),(0:Int),[],[],(0:Int)) (N.snd.1 (aJ N.1 g0 g1) (aI N.1 g0 g1))).2.2.2.1 (bC ((0:Int),(0:Int),[],[],(0:Int)) (N.snd.1 (aJ N.1 g0 g1) (aI N.1 g0 g1))).2.2.2.2)<|
   br (decide (eI N.1 (bC ((0:Int),(0:Int),[],[],(0:Int)) (N.snd.1 (aJ N.1 g0 g1) (aI N.1 g0 g1))).2.2.2.1 (bC ((0:Int),(0:Int),[],[],(0:Int)) (N.snd.1 (aJ N.1 g0 g1) (aI N.1 g0 g1))).2.2.2.2=(94:UInt8)))
    (ck ((N.snd.snd.1 (aJ N.1 (bC ((0:Int),(0:Int),[],[],(0:Int)) (N.snd.1 (aJ N.1 g0 g1) (aI N.1 g0 g1))).2.2.2.1 (bC ((0:Int),(0:Int),[],[],(0:Int)) (N.snd.1 (aJ N.1 g0 g1) (aI N.1 g0 g1))).2.2.2.2) (aB.wrap (aI N.1 (bC ((0:Int),(0:Int),[],[],(0:Int)) (N.snd.1 (aJ N.1 g0 g1) (aI N.1 g0 g1))).2.2.2.1 (bC ((0:Int),(0:Int),[],[],(0:Int)) (N.snd.1 (aJ N.1 g0 g1) (aI N.1 g0 g1))).2.2.2.2+(1:Int)))).isSome)<|
    br (kD (N.snd.snd.1 (aJ N.1 (bC ((0:Int),(0:Int),[],[],(0:Int)) (N.snd.1 (aJ N.1 g0 g1) (aI N.1 g0 g1))).2.2.2.1 (bC ((0:Int),(0:Int),[],[],(0:Int)) (N.snd.1 (aJ N.1 g0 g1) (aI N.1 g0 g1))).2.2.2.2) (aB.wrap (aI N.1 (bC ((0:Int),(0:Int),[],[],(0:Int)) (N.snd.1 (aJ N.1 g0 g1) (aI N.1 g0 g1))).2.2.2.1 (bC ((0:Int),(0:Int),[],[],(0:Int)) (N.snd.1 (aJ N.1 g0 g1) (aI N.1 g0 g1))).2.2.2.2+(1:Int)))))
     (some (yO 7 0 ([Ex.mk (bC ((0:Int),(0:Int),[],[],(0:Int)) (N.snd.1 (aJ N.1 g0 g1) (aI N.1 g0 g1))).1 (bC ((0:Int),(0:Int),[],[],(0:Int)) (N.snd.1 (aJ N.1 g0 g1) (aI N.1 g0 g1))).2.1 (bC ((0:Int),(0:Int),[],[],(0:Int)) (N.snd.1 (aJ N.1 g0 g1) (aI N.1 g0 g1))).2.2.1,Ex.mk (bC ((0:Int),(0:Int),[],[],(0:Int)) (N.snd.snd.1 (aJ N.1 (bC ((0:Int),(0:Int),[],[],(0:Int)) (N.snd.1 (aJ N.1 g0 g1) (aI N.1 g0 g1))).2.2.2.1 (bC ((0:Int),(0:Int),[],[],(0:Int)) (N.snd.1 (aJ N.1 g0 g1) (aI N.1 g0 g1))).2.2.2.2) (aB.wrap (aI N.1 (bC ((0:Int),(0:Int),[],[],(0:Int)) (N.snd.1 (aJ N.1 g0 g1) (aI N.1 g0 g1))).2.2.2.1 (bC ((0:Int),(0:Int),[],[],(0:Int)) (N.snd.1 (aJ N.1 g0 g1) (aI N.1 g0 g1))).2.2.2.2+(1:Int))))).1 (bC ((0:Int),(0:Int),[],[],(0:Int)) (N.snd.snd.1 (aJ N.1 (bC ((0:Int),(0:Int),[],[],(0:Int)) (N.snd.1 (aJ N.1 g0 g1) (aI N.1 g0 g1))).2.2.2.1 (bC ((0:Int),(0:Int),[],[],(0:Int)) (N.snd.1 (aJ N.1 g0 g1) (aI N.1 g0 g1))).2.2.2.2) (aB.wrap (aI N.1 (bC ((0:Int),(0:Int),[],[],(0:Int)) (N.snd.1 (aJ N.1 g0 g1) (aI N.1 g0 g1))).2.2.2.1 (bC ((0:Int),(0:Int),[],[],(0:Int)) (N.snd.1 (aJ N.1 g0 g1) (aI N.1 g0 g1))).2.2.2.2+(1:Int))))).2.1 (bC ((0:Int),(0:Int),[],[],(0:Int)) (N.snd.snd.1 (aJ N.1 (bC ((0:Int),(0:Int),[],[],(0:Int)) (N.snd.1 (aJ N.1 g0 g1) (aI N.1 g0 g1))).2.2.2.1 (bC ((0:Int),(0:Int),[],[],(0:Int)) (N.snd.1 (aJ N.1 g0 g1) (aI N.1 g0 g1))).2.2.2.2) (aB.wrap (aI N.1 (bC ((0:Int),(0:Int),[],[],(0:Int)) (N.snd.1 (aJ N.1 g0 g1) (aI N.1 g0 g1))).2.2.2.1 (bC ((0:Int),(0:Int),[],[],(0:Int)) (N.snd.1 (aJ N.1 g0 g1) (aI N.1 g0 g1))).2.2.2.2+(1:Int))))).2.2.1]) ((bC ((0:Int),(0:Int),[],[],(0:Int)) (N.snd.snd.1 (aJ N.1 (bC ((0:Int),(0:Int),[],[],(0:Int)) (N.snd.1 (aJ N.1 g0 g1) (aI N.1 g0 g1))).2.2.2.1 (bC ((0:Int),(0:Int),[],[],(0:Int)) (N.snd.1 (aJ N.1 g0 g1) (aI N.1 g0 g1))).2.2.2.2) (aB.wrap (aI N.1 (bC ((0:Int),(0:Int),[],[],(0:Int)) (N.snd.1 (aJ N.1 g0 g1) (aI N.1 g0 g1))).2.2.2.1 (bC ((0:Int),(0:Int),[],[],(0:Int)) (N.snd.1 (aJ N.1 g0 g1) (aI N.1 g0 g1))).2.2.2.2+(1:Int))))).2.2.2.1) ((bC ((0:Int),(0:Int),[],[],(0:Int)) (N.snd.snd.1 (aJ N.1 (bC ((0:Int),(0:Int),[],[],(0:Int)) (N.snd.1 (aJ N.1 g0 g1) (aI N.1 g0 g1))).2.2.2.1 (bC ((0:Int),(0:Int),[],[],(0:Int)) (N.snd.1 (aJ N.1 g0 g1) (aI N.1 g0 g1))).2.2.2.2) (aB.wrap (aI N.1 (bC ((0:Int),(0:Int),[],[],(0:Int)) (N.snd.1 (aJ N.1 g0 g1) (aI N.1 g0 g1))).2.2.2.1 (bC ((0:Int),(0:Int),[],[],(0:Int)) (N.snd.1 (aJ N.1 g0 g1) (aI N.1 g0 g1))).2.2.2.2+(1:Int))))).2.2.2.2)))
     (some (yN ((c7 ((0:Int),[],(0:Int)) (N.snd.snd.1 (aJ N.1 (bC ((0:Int),(0:Int),[],[],(0:Int)) (N.snd.1 (aJ N.1 g0 g1) (aI N.1 g0 g1))).2.2.2.1 (bC ((0:Int),(0:Int),[],[],(0:Int)) (N.snd.1 (aJ N.1 g0 g1) (aI N.1 g0 g1))).2.2.2.2) (aB.wrap (aI N.1 (bC ((0:Int),(0:Int),[],[],(0:Int)) (N.snd.1 (aJ N.1 g0 g1) (aI N.1 g0 g1))).2.2.2.1 (bC ((0:Int),(0:Int),[],[],(0:Int)) (N.snd.1 (aJ N.1 g0 g1) (aI N.1 g0 g1))).2.2.2.2+(1:Int))))).1) ((c7 ((0:Int),[],(0:Int)) (N.snd.snd.1 (aJ N.1 (bC ((0:Int),(0:Int),[],[],(0:Int)) (N.snd.1 (aJ N.1 g0 g1) (aI N.1 g0 g1))).2.2.2.1 (bC ((0:Int),(0:Int),[],[],(0:Int)) (N.snd.1 (aJ N.1 g0 g1) (aI N.1 g0 g1))).2.2.2.2) (aB.wrap (aI N.1 (bC ((0:Int),(0:Int),[],[],(0:Int)) (N.snd.1 (aJ N.1 g0 g1) (aI N.1 g0 g1))).2.2.2.1 (bC ((0:Int),(0:Int),[],[],(0:Int)) (N.snd.1 (aJ N.1 g0 g1) (aI N.1 g0 g1))).2.2.2.2+(1:Int))))).2.1) ((c7 ((0:Int),[],(0:Int)) (N.snd.snd.1 (aJ N.1 (bC ((0:Int),(0:Int),[],[],(0:Int)) (N.snd.1 (aJ N.1 g0 g1) (aI N.1 g0 g1))).2.2.2.1 (bC ((0:Int),(0:Int),[],[],(0:Int)) (N.snd.1 (aJ N.1 g0 g1) (aI N.1 g0 g1))).2.2.2.2) (aB.wrap (aI N.1 (bC ((0:Int),(0:Int),[],[],(0:Int)) (N.snd.1 (aJ N.1 g0 g1) (aI N.1 g0 g1))).2.2.2.1 (bC ((0:Int),(0:Int),[],[],(0:Int)) (N.snd.1 (aJ N.1 g0 g1) (aI N.1 g0 g1))).2.2.2.2+(1:Int))))).2.2))))
    (some (yO ((bC ((0:Int),(0:Int),[],[],(0:Int)) (N.snd.1 (aJ N.1 g0 g1) (aI N.1 g0 g1))).1) ((bC ((0:Int),(0:Int),[],[],(0:Int)) (N.snd.1 (aJ N.1 g0 g1) (aI N.1 g0 g1))).2.1) ((bC ((0:Int),(0:Int),[],[],(0:Int)) (N.snd.1 (aJ N.1 g0 g1) (aI N.1 g0 g1))).2.2.1) (aJ N.1 (bC ((0:Int),(0:Int),[],[],(0:Int)) (N.snd.1 (aJ N.1 g0 g1) (aI N.1 g0 g1))).2.2.2.1 (bC ((0:Int),(0:Int),[],[],(0:Int)) (N.snd.1 (aJ N.1 g0 g1) (aI N.1 g0 g1))).2.2.2.2) (aI N.1 (bC ((0:Int),(0:Int),[],[],(0:Int)) (N.snd.1 (aJ N.1 g0 g1) (aI N.1 g0 g1))).2.2.2.1 (bC ((0:Int),(0:Int),[],[],(0:Int)) (N.snd.1 (aJ N.1 g0 g1) (aI N.1 g0 g1))).2.2.2.2))))
   (some (yN ((c7 ((0:Int),[],(0:Int)) (N.snd.1 (aJ N.1 g0 g1) (aI N.1 g0 g1))).1) ((c7 ((0:Int),[],(0:Int)) (N.snd.1 (aJ N.1 g0 g1) (aI N.1 g0 g1))).2.1) ((c7 ((0:Int),[],(0:Int)) (N.snd.1 (aJ N.1 g0 g1) (aI N.1 g0 g1))).2.2))))
def YL[aA] N g0 g1:=qT N g0 g1
def YI[aA](_:jW):Hint:=(.seq .d (.seq .d (.seq .d (.seq (.seq .d (.cond (.seq .d (.seq (.gO [] [] [[],[],[50],[],[],[100]]) .d)) .d)) .d))))
theorem aJd N:bJ (yP N) Tryz.f97.ntmps (YI N) P1:=bR _ _ (aH trivial (aH trivial (aH trivial (aH (aH trivial (aH (aH trivial (aH trivial trivial)) trivial)) trivial))))
theorem aJc[aA] N g0 g1:qT N g0 g1=exec (yP N) Tryz.f97.ntmps (YI N) P1 ⟨bW 0 [.ref 50 0],[(50,.box 100 [.e .tx g0,.e (.i .i64) g1])],100⟩ (bX (yP N) Tryz.f97 false):=by kernel_rfl
theorem YJ{N:jW}(hc:aD (yP N)){g0:aT}{g1:Int}{r:aC}(h:YL N g0 g1=some r):iB Tryz.prog 97 (([.ref 50 0]:List X).map X.D) (HA [(50,.box 100 [.e .tx g0,.e (.i .i64) g1])]) r:=
 xO hc (f:=97) (fn:=Tryz.f97) (code:=P1) (by kernel_rfl) (by kernel_rfl) (aJd N) (fC (by kernel_rfl)) (ow:=false) ((aJc N g0 g1).symm.trans (by exact h))
def sI(r:aC):Option ((Int×Int×(List Ex)×aT×Int) ⊕ (Int×aT×Int)):=match r with
 |(.dP (.iface 96 (.int .i64 a0)),[(50,.box 100 [x1,x2])])=>(match ue .tx x1,ue (.i .i64) x2 with|some a1,some a2=>some (.inr (a0,a1,a2))|_,_=>none)
 |(.agg [x0,x1,x2],[(50,.box 100 [x3,x4])])=>(match ue (.i .i64) x0,ue (.i .i64) x1,ue (.sl .ex) x2,ue .tx x3,ue (.i .i64) x4 with|some a0,some a1,some a2,some a3,some a4=>some (.inl (a0,a1,a2,a3,a4))|_,_,_,_,_=>none)
 |_=>none
theorem aJb{r d}(h:sI r=some (.inl d)):r=yO d.1 d.2.1 d.2.2.1 d.2.2.2.1 d.2.2.2.2:=by
 unfold sI at h;split at h
 .split at h
  .cases h
  .cases h
 .split at h
  .rename_i h0 h1 h2 h3 h4;cases h;rw[aE h0,aE h1,aE h2,aE h3,aE h4];rfl
  .cases h
 .cases h
theorem aJa{r d}(h:sI r=some (.inr d)):r=yN d.1 d.2.1 d.2.2:=by
 unfold sI at h;split at h
 .split at h
  .rename_i h1 h2;cases h;rw[aE h1,aE h2];rfl
  .cases h
 .split at h
  .cases h
  .cases h
 .cases h
def vC N g0 g1:=(YL N g0 g1).bind sI
theorem aJf{N}(hc:aD (yP N)){g0 g1 d}(hd:vC N g0 g1=some (.inl d)):cB Tryz.prog 97 [.ref 50 0] [(50,.box 100 [.e .tx g0,.e (.i .i64) g1])] (yO d.1 d.2.1 d.2.2.1 d.2.2.2.1 d.2.2.2.2):=by
 obtain⟨r,hr,hu⟩:=kY.1 hd;have:=YJ hc hr;rw[aJb hu]at this;exact this
theorem aJe{N}(hc:aD (yP N)){g0 g1 d}(hd:vC N g0 g1=some (.inr d)):iB Tryz.prog 97 (([.ref 50 0]:List X).map X.D) (HA [(50,.box 100 [.e .tx g0,.e (.i .i64) g1])]) (yN d.1 d.2.1 d.2.2):=by
 obtain⟨r,hr,hu⟩:=kY.1 hd;have:=YJ hc hr;rw[aJa hu]at this;exact this
def oF(N:jW):Cx:=⟨Tryz.prog,25,[(77,Bz N.1),(99,PW N.1),(98,YD N.1)],[(106,Ao N),(97,yQ N),(76,zH N)]⟩
def J8:Code:=Tryz.f76.body.getD .skip
theorem Zm N (hw107:j0 Tryz.prog 106 (Ao N)) (hw85:j0 Tryz.prog 97 (yQ N)) (hw53:j0 Tryz.prog 76 (zH N)):aD (oF N):=bZ (by kernel_rfl) (.cons (by kernel_rfl) (FE N.1) (.cons (by kernel_rfl) (Xv N.1) (.cons (by kernel_rfl) (aJ2 N.1) .nil))) (.cons (by kernel_rfl) hw107 (.cons (by kernel_rfl) hw85 (.cons (by kernel_rfl) hw53 .nil)))
def CD[aA](N:jW)(self:aT->Int->Int->Int->Int->(List Ex)->O)(k0:aT->Int->Int->Int->(List Ex)->O)(k1:Int->aT->Int->O)(_x0_3 _x0_4:Int)(x0_0:aT)(x0_1 x0_2 x0_5 x0_6:Int)(x0_7:(List Ex)):O:=
 ck (pI N.1 x0_0 x0_1)<|
 ck (Ba N.1 [((0:Int),(999999:Int),(4:Int),(0:UInt8)),((0:Int),(25:Int),(4:Int),(0:UInt8)),((1:Int),(0:Int),(3:Int),(45:UInt8)),((2:Int),(0:Int),(1:Int),(43:UInt8)),((2:Int),(0:Int),(1:Int),(45:UInt8)),((2:Int),(0:Int),(2:Int),(42:UInt8)),((2:Int),(0:Int),(2:Int),(47:UInt8)),((2:Int),(0:Int),(3:Int),(94:UInt8)),((1:Int),(0:Int),(4:Int),(82:UInt8)),((2:Int),(0:Int),(0:Int),(61:UInt8)),((2:Int),(0:Int),(0:Int),(60:UInt8))] x0_2 (eI N.1 x0_0 x0_1))<|
 br (decide (vA N.1 [((0:Int),(999999:Int),(4:Int),(0:UInt8)),((0:Int),(25:Int),(4:Int),(0:UInt8)),((1:Int),(0:Int),(3:Int),(45:UInt8)),((2:Int),(0:Int),(1:Int),(43:UInt8)),((2:Int),(0:Int),(1:Int),(45:UInt8)),((2:Int),(0:Int),(2:Int),(42:UInt8)),((2:Int),(0:Int),(2:Int),(47:UInt8)),((2:Int),(0:Int),(3:Int),(94:UInt8)),((1:Int),(0:Int),(4:Int),(82:UInt8)),((2:Int),(0:Int),(0:Int),(61:UInt8)),((2:Int),(0:Int),(0:Int),(60:UInt8))] x0_2 (eI N.1 x0_0 x0_1)<(0:Int))||decide (IW N.1 [((0:Int),(999999:Int),(4:Int),(0:UInt8)),((0:Int),(25:Int),(4:Int),(0:UInt8)),((1:Int),(0:Int),(3:Int),(45:UInt8)),((2:Int),(0:Int),(1:Int),(43:UInt8)),((2:Int),(0:Int),(1:Int),(45:UInt8)),((2:Int),(0:Int),(2:Int),(42:UInt8)),((2:Int),(0:Int),(2:Int),(47:UInt8)),((2:Int),(0:Int),(3:Int),(94:UInt8)),((1:Int),(0:Int),(4:Int),(82:UInt8)),((2:Int),(0:Int),(0:Int),(61:UInt8)),((2:Int),(0:Int),(0:Int),(60:UInt8))] x0_2 (eI N.1 x0_0 x0_1)=(0:UInt8)))
  (k0 (aJ N.1 x0_0 x0_1) (aI N.1 x0_0 x0_1) x0_5 x0_6 x0_7)
  (ck ((N.snd.snd.2 (aB.wrap (jH N.1 [((0:Int),(999999:Int),(4:Int),(0:UInt8)),((0:Int),(25:Int),(4:Int),(0:UInt8)),((1:Int),(0:Int),(3:Int),(45:UInt8)),((2:Int),(0:Int),(1:Int),(43:UInt8)),((2:Int),(0:Int),(1:Int),(45:UInt8)),((2:Int),(0:Int),(2:Int),(42:UInt8)),((2:Int),(0:Int),(2:Int),(47:UInt8)),((2:Int),(0:Int),(3:Int),(94:UInt8)),((1:Int),(0:Int),(4:Int),(82:UInt8)),((2:Int),(0:Int),(0:Int),(61:UInt8)),((2:Int),(0:Int),(0:Int),(60:UInt8))] x0_2 (eI N.1 x0_0 x0_1)+(1:Int))) (aJ N.1 x0_0 x0_1) (aB.wrap (aI N.1 x0_0 x0_1+(1:Int)))).isSome)<|
  br (kD (N.snd.snd.2 (aB.wrap (jH N.1 [((0:Int),(999999:Int),(4:Int),(0:UInt8)),((0:Int),(25:Int),(4:Int),(0:UInt8)),((1:Int),(0:Int),(3:Int),(45:UInt8)),((2:Int),(0:Int),(1:Int),(43:UInt8)),((2:Int),(0:Int),(1:Int),(45:UInt8)),((2:Int),(0:Int),(2:Int),(42:UInt8)),((2:Int),(0:Int),(2:Int),(47:UInt8)),((2:Int),(0:Int),(3:Int),(94:UInt8)),((1:Int),(0:Int),(4:Int),(82:UInt8)),((2:Int),(0:Int),(0:Int),(61:UInt8)),((2:Int),(0:Int),(0:Int),(60:UInt8))] x0_2 (eI N.1 x0_0 x0_1)+(1:Int))) (aJ N.1 x0_0 x0_1) (aB.wrap (aI N.1 x0_0 x0_1+(1:Int)))))
   (br (decide (jH N.1 [((0:Int),(999999:Int),(4:Int),(0:UInt8)),((0:Int),(25:Int),(4:Int),(0:UInt8)),((1:Int),(0:Int),(3:Int),(45:UInt8)),((2:Int),(0:Int),(1:Int),(43:UInt8)),((2:Int),(0:Int),(1:Int),(45:UInt8)),((2:Int),(0:Int),(2:Int),(42:UInt8)),((2:Int),(0:Int),(2:Int),(47:UInt8)),((2:Int),(0:Int),(3:Int),(94:UInt8)),((1:Int),(0:Int),(4:Int),(82:UInt8)),((2:Int),(0:Int),(0:Int),(61:UInt8)),((2:Int),(0:Int),(0:Int),(60:UInt8))] x0_2 (eI N.1 x0_0 x0_1)=(0:Int)))
    (k0 ((bC ((0:Int),(0:Int),[],[],(0:Int)) (N.snd.snd.2 (aB.wrap (jH N.1 [((0:Int),(999999:Int),(4:Int),(0:UInt8)),((0:Int),(25:Int),(4:Int),(0:UInt8)),((1:Int),(0:Int),(3:Int),(45:UInt8)),((2:Int),(0:Int),(1:Int),(43:UInt8)),((2:Int),(0:Int),(1:Int),(45:UInt8)),((2:Int),(0:Int),(2:Int),(42:UInt8)),((2:Int),(0:Int),(2:Int),(47:UInt8)),((2:Int),(0:Int),(3:Int),(94:UInt8)),((1:Int),(0:Int),(4:Int),(82:UInt8)),((2:Int),(0:Int),(0:Int),(61:UInt8)),((2:Int),(0:Int),(0:Int),(60:UInt8))] x0_2 (eI N.1 x0_0 x0_1)+(1:Int))) (aJ N.1 x0_0 x0_1) (aB.wrap (aI N.1 x0_0 x0_1+(1:Int))))).2.2.2.1) ((bC ((0:Int),(0:Int),[],[],(0:Int)) (N.snd.snd.2 (aB.wrap (jH N.1 [((0:Int),(999999:Int),(4:Int),(0:UInt8)),((0:Int),(25:Int),(4:Int),(0:UInt8)),((1:Int),(0:Int),(3:Int),(45:UInt8)),((2:Int),(0:Int),(1:Int),(43:UInt8)),((2:Int),(0:Int),(1:Int),(45:UInt8)),((2:Int),(0:Int),(2:Int),(42:UInt8)),((2:Int),(0:Int),(2:Int),(47:UInt8)),((2:Int),(0:Int),(3:Int),(94:UInt8)),((1:Int),(0:Int),(4:Int),(82:UInt8)),((2:Int),(0:Int),(0:Int),(61:UInt8)),((2:Int),(0:Int),(0:Int),(60:UInt8))] x0_2 (eI N.1 x0_0 x0_1)+(1:Int))) (aJ N.1 x0_0 x0_1) (aB.wrap (aI N.1 x0_0 x0_1+(1:Int))))).2.2.2.2) (vA N.1 [((0:Int),(999999:Int),(4:Int),(0:UInt8)),((0:Int),(25:Int),(4:Int),(0:UInt8)),((1:Int),(0:Int),(3:Int),(45:UInt8)),((2:Int),(0:Int),(1:Int),(43:UInt8)),((2:Int),(0:Int),(1:Int),(45:UInt8)),((2:Int),(0:Int),(2:Int),(42:UInt8)),((2:Int),(0:Int),(2:Int),(47:UInt8)),((2:Int),(0:Int),(3:Int),(94:UInt8)),((1:Int),(0:Int),(4:Int),(82:UInt8)),((2:Int),(0:Int),(0:Int),(61:UInt8)),((2:Int),(0:Int),(0:Int),(60:UInt8))] x0_2 (eI N.1 x0_0 x0_1)) 0 [Ex.mk x0_5 x0_6 x0_7,Ex.mk (bC ((0:Int),(0:Int),[],[],(0:Int)) (N.snd.snd.2 (aB.wrap (jH N.1 [((0:Int),(999999:Int),(4:Int),(0:UInt8)),((0:Int),(25:Int),(4:Int),(0:UInt8)),((1:Int),(0:Int),(3:Int),(45:UInt8)),((2:Int),(0:Int),(1:Int),(43:UInt8)),((2:Int),(0:Int),(1:Int),(45:UInt8)),((2:Int),(0:Int),(2:Int),(42:UInt8)),((2:Int),(0:Int),(2:Int),(47:UInt8)),((2:Int),(0:Int),(3:Int),(94:UInt8)),((1:Int),(0:Int),(4:Int),(82:UInt8)),((2:Int),(0:Int),(0:Int),(61:UInt8)),((2:Int),(0:Int),(0:Int),(60:UInt8))] x0_2 (eI N.1 x0_0 x0_1)+(1:Int))) (aJ N.1 x0_0 x0_1) (aB.wrap (aI N.1 x0_0 x0_1+(1:Int))))).1 (bC ((0:Int),(0:Int),[],[],(0:Int)) (N.snd.snd.2 (aB.wrap (jH N.1 [((0:Int),(999999:Int),(4:Int),(0:UInt8)),((0:Int),(25:Int),(4:Int),(0:UInt8)),((1:Int),(0:Int),(3:Int),(45:UInt8)),((2:Int),(0:Int),(1:Int),(43:UInt8)),((2:Int),(0:Int),(1:Int),(45:UInt8)),((2:Int),(0:Int),(2:Int),(42:UInt8)),((2:Int),(0:Int),(2:Int),(47:UInt8)),((2:Int),(0:Int),(3:Int),(94:UInt8)),((1:Int),(0:Int),(4:Int),(82:UInt8)),((2:Int),(0:Int),(0:Int),(61:UInt8)),((2:Int),(0:Int),(0:Int),(60:UInt8))] x0_2 (eI N.1 x0_0 x0_1)+(1:Int))) (aJ N.1 x0_0 x0_1) (aB.wrap (aI N.1 x0_0 x0_1+(1:Int))))).2.1 (bC ((0:Int),(0:Int),[],[],(0:Int)) (N.snd.snd.2 (aB.wrap (jH N.1 [((0:Int),(999999:Int),(4:Int),(0:UInt8)),((0:Int),(25:Int),(4:Int),(0:UInt8)),((1:Int),(0:Int),(3:Int),(45:UInt8)),((2:Int),(0:Int),(1:Int),(43:UInt8)),((2:Int),(0:Int),(1:Int),(45:UInt8)),((2:Int),(0:Int),(2:Int),(42:UInt8)),((2:Int),(0:Int),(2:Int),(47:UInt8)),((2:Int),(0:Int),(3:Int),(94:UInt8)),((1:Int),(0:Int),(4:Int),(82:UInt8)),((2:Int),(0:Int),(0:Int),(61:UInt8)),((2:Int),(0:Int),(0:Int),(60:UInt8))] x0_2 (eI N.1 x0_0 x0_1)+(1:Int))) (aJ N.1 x0_0 x0_1) (aB.wrap (aI N.1 x0_0 x0_1+(1:Int))))).2.2.1])
    (self ((bC ((0:Int),(0:Int),[],[],(0:Int)) (N.snd.snd.2 (aB.wrap (jH N.1 [((0:Int),(999999:Int),(4:Int),(0:UInt8)),((0:Int),(25:Int),(4:Int),(0:UInt8)),((1:Int),(0:Int),(3:Int),(45:UInt8)),((2:Int),(0:Int),(1:Int),(43:UInt8)),((2:Int),(0:Int),(1:Int),(45:UInt8)),((2:Int),(0:Int),(2:Int),(42:UInt8)),((2:Int),(0:Int),(2:Int),(47:UInt8)),((2:Int),(0:Int),(3:Int),(94:UInt8)),((1:Int),(0:Int),(4:Int),(82:UInt8)),((2:Int),(0:Int),(0:Int),(61:UInt8)),((2:Int),(0:Int),(0:Int),(60:UInt8))] x0_2 (eI N.1 x0_0 x0_1)+(1:Int))) (aJ N.1 x0_0 x0_1) (aB.wrap (aI N.1 x0_0 x0_1+(1:Int))))).2.2.2.1) ((bC ((0:Int),(0:Int),[],[],(0:Int)) (N.snd.snd.2 (aB.wrap (jH N.1 [((0:Int),(999999:Int),(4:Int),(0:UInt8)),((0:Int),(25:Int),(4:Int),(0:UInt8)),((1:Int),(0:Int),(3:Int),(45:UInt8)),((2:Int),(0:Int),(1:Int),(43:UInt8)),((2:Int),(0:Int),(1:Int),(45:UInt8)),((2:Int),(0:Int),(2:Int),(42:UInt8)),((2:Int),(0:Int),(2:Int),(47:UInt8)),((2:Int),(0:Int),(3:Int),(94:UInt8)),((1:Int),(0:Int),(4:Int),(82:UInt8)),((2:Int),(0:Int),(0:Int),(61:UInt8)),((2:Int),(0:Int),(0:Int),(60:UInt8))] x0_2 (eI N.1 x0_0 x0_1)+(1:Int))) (aJ N.1 x0_0 x0_1) (aB.wrap (aI N.1 x0_0 x0_1+(1:Int))))).2.2.2.2) (jH N.1 [((0:Int),(999999:Int),(4:Int),(0:UInt8)),((0:Int),(25:Int),(4:Int),(0:UInt8)),((1:Int),(0:Int),(3:Int),(45:UInt8)),((2:Int),(0:Int),(1:Int),(43:UInt8)),((2:Int),(0:Int),(1:Int),(45:UInt8)),((2:Int),(0:Int),(2:Int),(42:UInt8)),((2:Int),(0:Int),(2:Int),(47:UInt8)),((2:Int),(0:Int),(3:Int),(94:UInt8)),((1:Int),(0:Int),(4:Int),(82:UInt8)),((2:Int),(0:Int),(0:Int),(61:UInt8)),((2:Int),(0:Int),(0:Int),(60:UInt8))] x0_2 (eI N.1 x0_0 x0_1)) (vA N.1 [((0:Int),(999999:Int),(4:Int),(0:UInt8)),((0:Int),(25:Int),(4:Int),(0:UInt8)),((1:Int),(0:Int),(3:Int),(45:UInt8)),((2:Int),(0:Int),(1:Int),(43:UInt8)),((2:Int),(0:Int),(1:Int),(45:UInt8)),((2:Int),(0:Int),(2:Int),(42:UInt8)),((2:Int),(0:Int),(2:Int),(47:UInt8)),((2:Int),(0:Int),(3:Int),(94:UInt8)),((1:Int),(0:Int),(4:Int),(82:UInt8)),((2:Int),(0:Int),(0:Int),(61:UInt8)),((2:Int),(0:Int),(0:Int),(60:UInt8))] x0_2 (eI N.1 x0_0 x0_1)) 0 [Ex.mk x0_5 x0_6 x0_7,Ex.mk (bC ((0:Int),(0:Int),[],[],(0:Int)) (N.snd.snd.2 (aB.wrap (jH N.1 [((0:Int),(999999:Int),(4:Int),(0:UInt8)),((0:Int),(25:Int),(4:Int),(0:UInt8)),((1:Int),(0:Int),(3:Int),(45:UInt8)),((2:Int),(0:Int),(1:Int),(43:UInt8)),((2:Int),(0:Int),(1:Int),(45:UInt8)),((2:Int),(0:Int),(2:Int),(42:UInt8)),((2:Int),(0:Int),(2:Int),(47:UInt8)),((2:Int),(0:Int),(3:Int),(94:UInt8)),((1:Int),(0:Int),(4:Int),(82:UInt8)),((2:Int),(0:Int),(0:Int),(61:UInt8)),((2:Int),(0:Int),(0:Int),(60:UInt8))] x0_2 (eI N.1 x0_0 x0_1)+(1:Int))) (aJ N.1 x0_0 x0_1) (aB.wrap (aI N.1 x0_0 x0_1+(1:Int))))).1 (bC ((0:Int),(0:Int),[],[],(0:Int)) (N.snd.snd.2 (aB.wrap (jH N.1 [((0:Int),(999999:Int),(4:Int),(0:UInt8)),((0:Int),(25:Int),(4:Int),(0:UInt8)),((1:Int),(0:Int),(3:Int),(45:UInt8)),((2:Int),(0:Int),(1:Int),(43:UInt8)),((2:Int),(0:Int),(1:Int),(45:UInt8)),((2:Int),(0:Int),(2:Int),(42:UInt8)),((2:Int),(0:Int),(2:Int),(47:UInt8)),((2:Int),(0:Int),(3:Int),(94:UInt8)),((1:Int),(0:Int),(4:Int),(82:UInt8)),((2:Int),(0:Int),(0:Int),(61:UInt8)),((2:Int),(0:Int),(0:Int),(60:UInt8))] x0_2 (eI N.1 x0_0 x0_1)+(1:Int))) (aJ N.1 x0_0 x0_1) (aB.wrap (aI N.1 x0_0 x0_1+(1:Int))))).2.1 (bC ((0:Int),(0:Int),[],[],(0:Int)) (N.snd.snd.2 (aB.wrap (jH N.1 [((0:Int),(999999:Int),(4:Int),(0:UInt8)),((0:Int),(25:Int),(4:Int),(0:UInt8)),((1:Int),(0:Int),(3:Int),(45:UInt8)),((2:Int),(0:Int),(1:Int),(43:UInt8)),((2:Int),(0:Int),(1:Int),(45:UInt8)),((2:Int),(0:Int),(2:Int),(42:UInt8)),((2:Int),(0:Int),(2:Int),(47:UInt8)),((2:Int),(0:Int),(3:Int),(94:UInt8)),((1:Int),(0:Int),(4:Int),(82:UInt8)),((2:Int),(0:Int),(0:Int),(61:UInt8)),((2:Int),(0:Int),(0:Int),(60:UInt8))] x0_2 (eI N.1 x0_0 x0_1)+(1:Int))) (aJ N.1 x0_0 x0_1) (aB.wrap (aI N.1 x0_0 x0_1+(1:Int))))).2.2.1]))
   (k1 ((c7 ((0:Int),[],(0:Int)) (N.snd.snd.2 (aB.wrap (jH N.1 [((0:Int),(999999:Int),(4:Int),(0:UInt8)),((0:Int),(25:Int),(4:Int),(0:UInt8)),((1:Int),(0:Int),(3:Int),(45:UInt8)),((2:Int),(0:Int),(1:Int),(43:UInt8)),((2:Int),(0:Int),(1:Int),(45:UInt8)),((2:Int),(0:Int),(2:Int),(42:UInt8)),((2:Int),(0:Int),(2:Int),(47:UInt8)),((2:Int),(0:Int),(3:Int),(94:UInt8)),((1:Int),(0:Int),(4:Int),(82:UInt8)),((2:Int),(0:Int),(0:Int),(61:UInt8)),((2:Int),(0:Int),(0:Int),(60:UInt8))] x0_2 (eI N.1 x0_0 x0_1)+(1:Int))) (aJ N.1 x0_0 x0_1) (aB.wrap (aI N.1 x0_0 x0_1+(1:Int))))).1) ((c7 ((0:Int),[],(0:Int)) (N.snd.snd.2 (aB.wrap (jH N.1 [((0:Int),(999999:Int),(4:Int),(0:UInt8)),((0:Int),(25:Int),(4:Int),(0:UInt8)),((1:Int),(0:Int),(3:Int),(45:UInt8)),((2:Int),(0:Int),(1:Int),(43:UInt8)),((2:Int),(0:Int),(1:Int),(45:UInt8)),((2:Int),(0:Int),(2:Int),(42:UInt8)),((2:Int),(0:Int),(2:Int),(47:UInt8)),((2:Int),(0:Int),(3:Int),(94:UInt8)),((1:Int),(0:Int),(4:Int),(82:UInt8)),((2:Int),(0:Int),(0:Int),(61:UInt8)),((2:Int),(0:Int),(0:Int),(60:UInt8))] x0_2 (eI N.1 x0_0 x0_1)+(1:Int))) (aJ N.1 x0_0 x0_1) (aB.wrap (aI N.1 x0_0 x0_1+(1:Int))))).2.1) ((c7 ((0:Int),[],(0:Int)) (N.snd.snd.2 (aB.wrap (jH N.1 [((0:Int),(999999:Int),(4:Int),(0:UInt8)),((0:Int),(25:Int),(4:Int),(0:UInt8)),((1:Int),(0:Int),(3:Int),(45:UInt8)),((2:Int),(0:Int),(1:Int),(43:UInt8)),((2:Int),(0:Int),(1:Int),(45:UInt8)),((2:Int),(0:Int),(2:Int),(42:UInt8)),((2:Int),(0:Int),(2:Int),(47:UInt8)),((2:Int),(0:Int),(3:Int),(94:UInt8)),((1:Int),(0:Int),(4:Int),(82:UInt8)),((2:Int),(0:Int),(0:Int),(61:UInt8)),((2:Int),(0:Int),(0:Int),(60:UInt8))] x0_2 (eI N.1 x0_0 x0_1)+(1:Int))) (aJ N.1 x0_0 x0_1) (aB.wrap (aI N.1 x0_0 x0_1+(1:Int))))).2.2)))
def QT:Code:=cP [1,1,1,0,0] J8
def Zg:Nm:=⟨[0,3,4,5],[],[.cv 5 2 (.sl .ex)]⟩
def zG(x:aT×Int×Int×Int×Int×Int×Int×(List Ex)):Sg:=⟨[(0,.ref 50 0),(3,.ref 0 0),(4,.ref 1 0),(5,.ref 2 0)],[(50,.box 100 [.e .tx x.1,.e (.i .i64) x.2.1]),(0,.box 3 [.e (.i .i64) x.2.2.1]),(1,.box 25 [.e (.i .i64) x.2.2.2.1,.e (.i .i64) x.2.2.2.2.1,.cH]),(2,.box 25 [.e (.i .i64) x.2.2.2.2.2.1,.e (.i .i64) x.2.2.2.2.2.2.1,.e (.sl .ex) x.2.2.2.2.2.2.2])],100⟩
def J6(σ:Sg):aT×Int×Int×Int×Int×Int×Int×(List Ex):=(aL .tx 50 0 σ,aL (.i .i64) 50 1 σ,aL (.i .i64) 0 0 σ,aL (.i .i64) 1 0 σ,aL (.i .i64) 1 1 σ,aL (.i .i64) 2 0 σ,aL (.i .i64) 2 1 σ,aL (.sl .ex) 2 2 σ)
theorem aMi:∀x,J6 (zG x)=x:=λ_=>by kernel_rfl
def Ja(y:aT×Int×Int×Int×(List Ex)):Exit×Sg:=(.ret,⟨[(4,.ref 0 0)],[(50,.box 100 [.e .tx y.1,.e (.i .i64) y.2.1]),(0,.box 25 [.e (.i .i64) y.2.2.1,.e (.i .i64) y.2.2.2.1,.e (.sl .ex) y.2.2.2.2])],100⟩)
def aMf(_:Exit)(σ:Sg):aT×Int×Int×Int×(List Ex):=(aL .tx 50 0 σ,aL (.i .i64) 50 1 σ,aL (.i .i64) 0 0 σ,aL (.i .i64) 0 1 σ,aL (.sl .ex) 0 2 σ)
def J9(y:Int×aT×Int):Exit×Sg:=((.panic [lD (.iface 96 (.int .i64 y.1))]),⟨[],[(50,.box 100 [.e .tx y.2.1,.e (.i .i64) y.2.2])],100⟩)
def aMe(e:Exit)(σ:Sg):Int×aT×Int:=(lvP e,aL .tx 50 0 σ,aL (.i .i64) 50 1 σ)
def aMd:List (Exit×Nm):=[(.ret,⟨[4],[],[.cv 4 2 (.sl .ex)]⟩),((.panic []),⟨[],[],[]⟩)]
def pJ[aA](N:jW):Nat->(aT×Int×Int×Int×Int×Int×Int×(List Ex))->((aT×Int×Int×Int×(List Ex))->O)->((Int×aT×Int)->O)->((Unit)->O)->O
 |0,_,_,_,_=>none
 |n+1,x,k0,k1,k2=>CD N (λv0 v1 v2 v3 v4 v5=>pJ N n (v0,v1,v2,x.2.2.2.1,x.2.2.2.2.1,v3,v4,v5) k0 k1 k2) (λy0 y1 y2 y3 y4=>k0 (y0,y1,y2,y3,y4)) (λy0 y1 y2=>k1 (y0,y1,y2)) x.2.2.2.1 x.2.2.2.2.1 x.1 x.2.1 x.2.2.1 x.2.2.2.2.2.1 x.2.2.2.2.2.2.1 x.2.2.2.2.2.2.2
def QS[aA] N a0 a1 a2 a3 a4 a5 a6 a7 (k0:aT->Int->Int->Int->(List Ex)->O) (k1:Int->aT->Int->O):=pJ N N.1 (a0,a1,a2,a3,a4,a5,a6,a7) (λy=>k0 y.1 y.2.1 y.2.2.1 y.2.2.2.1 y.2.2.2.2) (λy=>k1 y.1 y.2.1 y.2.2) (λ_=>none)
def Zf[aA] N a0 a1 a2 a3 a4 a5 a6 a7 (k0:aT->Int->Int->Int->(List Ex)->O) (k1:Int->aT->Int->O):=bB zG J6 (pJ N N.1) (zG (a0,a1,a2,a3,a4,a5,a6,a7)) (λy=>k0 y.1 y.2.1 y.2.2.1 y.2.2.2.1 y.2.2.2.2) (λy=>k1 y.1 y.2.1 y.2.2) (λ_=>none)
theorem aMs[aA] N:Zf N=QS N:=funext λ_=>funext λ_=>funext λ_=>funext λ_=>funext λ_=>funext λ_=>funext λ_=>funext λ_=>funext λ_=>funext λ_=>dD aMi _ _ _ _
def Zi[aA](_:jW):Hint:=(.block (.seq .d (.seq .d (.seq .d (.seq .d (.seq (.gO [] [] [[],[],[],[],[],[50],[],[],[2]]) .d))))))
theorem aMo N:bJ (oF N) Tryz.f76.ntmps (Zi N) QT:=bR _ _ (aH trivial (aH trivial (aH trivial (aH trivial (aH trivial trivial)))))
theorem aMj[aA](N:jW)(self:Sg->O)(K:Exit->Sg->O)(x:aT×Int×Int×Int×Int×Int×Int×(List Ex)):CD N (λv0 v1 v2 v3 v4 v5=>self (zG (v0,v1,v2,x.2.2.2.1,x.2.2.2.2.1,v3,v4,v5))) (λy0 y1 y2 y3 y4=>K (Ja (y0,y1,y2,y3,y4)).1 (Ja (y0,y1,y2,y3,y4)).2) (λy0 y1 y2=>K (J9 (y0,y1,y2)).1 (J9 (y0,y1,y2)).2) x.2.2.2.1 x.2.2.2.2.1 x.1 x.2.1 x.2.2.1 x.2.2.2.2.2.1 x.2.2.2.2.2.2.1 x.2.2.2.2.2.2.2=exec (oF N) Tryz.f76.ntmps (Zi N) QT (zG x) (fE Zg aMd self K):=by kernel_rfl
theorem aMu N (hc:aD (oF N)):cU (oF N) Tryz.f76.ntmps (.loop QT) Ja J9 (aV 2) (bB zG J6 (pJ N N.1)):=
 fW hc (aMo N) (kS aMf aMe .ret (.panic []) (λ_=>by kernel_rfl) (λ_=>by kernel_rfl) (λ_=>rfl) (λ_=>rfl) (by kernel_rfl)) (n:=N.1) (λx K=>fY (pJ N) (λ_ _ _ _=>rfl) (λn K ih x=>by
  refine gM ?_ (aMj N _ K x);simp only[<-ih];rfl) N.1 x K)
def vK[aA](N:jW)(in0:aT->Int->Int->Int->Int->Int->Int->(List Ex)->(aT->Int->Int->Int->(List Ex)->O)->(Int->aT->Int->O)->O)(n1:Int)(g0:aT)(g1:Int):O:=
 br (decide (n1=3))
  (ck ((N.snd.snd.1 g0 g1).isSome)<|
  br (kD (N.snd.snd.1 g0 g1))
   (some (zF ((bC ((0:Int),(0:Int),[],[],(0:Int)) (N.snd.snd.1 g0 g1)).1) ((bC ((0:Int),(0:Int),[],[],(0:Int)) (N.snd.snd.1 g0 g1)).2.1) ((bC ((0:Int),(0:Int),[],[],(0:Int)) (N.snd.snd.1 g0 g1)).2.2.1) ((bC ((0:Int),(0:Int),[],[],(0:Int)) (N.snd.snd.1 g0 g1)).2.2.2.1) ((bC ((0:Int),(0:Int),[],[],(0:Int)) (N.snd.snd.1 g0 g1)).2.2.2.2)))
   (some (vI ((c7 ((0:Int),[],(0:Int)) (N.snd.snd.1 g0 g1)).1) ((c7 ((0:Int),[],(0:Int)) (N.snd.snd.1 g0 g1)).2.1) ((c7 ((0:Int),[],(0:Int)) (N.snd.snd.1 g0 g1)).2.2))))
  (ck ((N.snd.snd.2 (aB.wrap (n1+1)) g0 g1).isSome)<|
  br (kD (N.snd.snd.2 (aB.wrap (n1+1)) g0 g1))
   (in0 ((bC ((0:Int),(0:Int),[],[],(0:Int)) (N.snd.snd.2 (aB.wrap (n1+1)) g0 g1)).2.2.2.1) ((bC ((0:Int),(0:Int),[],[],(0:Int)) (N.snd.snd.2 (aB.wrap (n1+1)) g0 g1)).2.2.2.2) n1 0 0 ((bC ((0:Int),(0:Int),[],[],(0:Int)) (N.snd.snd.2 (aB.wrap (n1+1)) g0 g1)).1) ((bC ((0:Int),(0:Int),[],[],(0:Int)) (N.snd.snd.2 (aB.wrap (n1+1)) g0 g1)).2.1) ((bC ((0:Int),(0:Int),[],[],(0:Int)) (N.snd.snd.2 (aB.wrap (n1+1)) g0 g1)).2.2.1)
    (λz1 z2 z3 z4 z5=>
     some (zF (z3) (z4) (z5) z1 z2))
    (λz6 z7 z8=>
     some (vI z6 z7 z8)))
   (some (vI ((c7 ((0:Int),[],(0:Int)) (N.snd.snd.2 (aB.wrap (n1+1)) g0 g1)).1) ((c7 ((0:Int),[],(0:Int)) (N.snd.snd.2 (aB.wrap (n1+1)) g0 g1)).2.1) ((c7 ((0:Int),[],(0:Int)) (N.snd.snd.2 (aB.wrap (n1+1)) g0 g1)).2.2))))
def Zn[aA] N n1 g0 g1:=vK N (QS N) n1 g0 g1
def Zj[aA](N:jW):Hint:=(.seq .d (.seq .d (.seq .d (.block (.sub Zg _ _ _ Ja J9 (aV 2) (bB zG J6 (pJ N N.1)))))))
theorem aMp N (hc:aD (oF N)):bJ (oF N) Tryz.f76.ntmps (Zj N) J8:=bR _ _ (aH trivial (aH trivial (aH trivial (aMu N hc))))
theorem aMk[aA] N n1 g0 g1:vK N (Zf N) n1 g0 g1=exec (oF N) Tryz.f76.ntmps (Zj N) J8 ⟨bW 0 [.ref 50 0,.e (.i .i64) n1],[(50,.box 100 [.e .tx g0,.e (.i .i64) g1])],100⟩ (bX (oF N) Tryz.f76 false):=by kernel_rfl
theorem Zl{N:jW}(hc:aD (oF N)){n1:Int}{g0:aT}{g1:Int}{r:aC}(h:Zn N n1 g0 g1=some r):iB Tryz.prog 76 (([.ref 50 0,.e (.i .i64) n1]:List X).map X.D) (HA [(50,.box 100 [.e .tx g0,.e (.i .i64) g1])]) r:=
 xO hc (f:=76) (fn:=Tryz.f76) (code:=J8) (by kernel_rfl) (by kernel_rfl) (aMp N hc) (fC (by kernel_rfl)) (ow:=false) ((aMk N n1 g0 g1).symm.trans (by rw[aMs N];exact h))
def vH(r:aC):Option ((Int×Int×(List Ex)×aT×Int) ⊕ (Int×aT×Int)):=match r with
 |(.dP (.iface 96 (.int .i64 a0)),[(50,.box 100 [x1,x2])])=>(match ue .tx x1,ue (.i .i64) x2 with|some a1,some a2=>some (.inr (a0,a1,a2))|_,_=>none)
 |(.agg [x0,x1,x2],[(50,.box 100 [x3,x4])])=>(match ue (.i .i64) x0,ue (.i .i64) x1,ue (.sl .ex) x2,ue .tx x3,ue (.i .i64) x4 with|some a0,some a1,some a2,some a3,some a4=>some (.inl (a0,a1,a2,a3,a4))|_,_,_,_,_=>none)
 |_=>none
theorem aMh{r d}(h:vH r=some (.inl d)):r=zF d.1 d.2.1 d.2.2.1 d.2.2.2.1 d.2.2.2.2:=by
 unfold vH at h;split at h
 .split at h
  .cases h
  .cases h
 .split at h
  .rename_i h0 h1 h2 h3 h4;cases h;rw[aE h0,aE h1,aE h2,aE h3,aE h4];rfl
  .cases h
 .cases h
theorem aMg{r d}(h:vH r=some (.inr d)):r=vI d.1 d.2.1 d.2.2:=by
 unfold vH at h;split at h
 .split at h
  .rename_i h1 h2;cases h;rw[aE h1,aE h2];rfl
  .cases h
 .split at h
  .cases h
  .cases h
 .cases h
def zE N n1 g0 g1:=(Zn N n1 g0 g1).bind vH
theorem aMr{N}(hc:aD (oF N)){n1 g0 g1 d}(hd:zE N n1 g0 g1=some (.inl d)):cB Tryz.prog 76 [.ref 50 0,.e (.i .i64) n1] [(50,.box 100 [.e .tx g0,.e (.i .i64) g1])] (zF d.1 d.2.1 d.2.2.1 d.2.2.2.1 d.2.2.2.2):=by
 obtain⟨r,hr,hu⟩:=kY.1 hd;have:=Zl hc hr;rw[aMh hu]at this;exact this
theorem aMq{N}(hc:aD (oF N)){n1 g0 g1 d}(hd:zE N n1 g0 g1=some (.inr d)):iB Tryz.prog 76 (([.ref 50 0,.e (.i .i64) n1]:List X).map X.D) (HA [(50,.box 100 [.e .tx g0,.e (.i .i64) g1])]) (vI d.1 d.2.1 d.2.2):=by
 obtain⟨r,hr,hu⟩:=kY.1 hd;have:=Zl hc hr;rw[aMg hu]at this;exact this
def gI(N:Nat):Nat->(aT->Int->Option ((Int×Int×(List Ex)×aT×Int) ⊕ (Int×aT×Int)))×(aT->Int->Option ((Int×Int×(List Ex)×aT×Int) ⊕ (Int×aT×Int)))×(Int->aT->Int->Option ((Int×Int×(List Ex)×aT×Int) ⊕ (Int×aT×Int)))
 |0=>(λ_ _=>none,λ_ _=>none,λ_ _ _=>none)
 |n+1=>(λg0 g1=>pP (N,gI N n) g0 g1,λg0 g1=>vC (N,gI N n) g0 g1,λn1 g0 g1=>zE (N,gI N n) n1 g0 g1)
theorem aF0(N:Nat):∀n,j0 Tryz.prog 106 (Ao (N,gI N n))/\j0 Tryz.prog 97 (yQ (N,gI N n))/\j0 Tryz.prog 76 (zH (N,gI N n))
 |0=>⟨uK aFY (λ_ h=>by cases h),uK YH (λ_ h=>by cases h),uK Zh (λ_ h=>by cases h)⟩
 |n+1=>
   have ih:=aF0 N n
   ⟨uK aFY (λd h=>Hb (zz:=pP (N,gI N n) d.1 d.2) (R:=λy=>wJ y.1 y.2.1 y.2.2.1 y.2.2.2.1 y.2.2.2.2) (R':=λy=>pQ y.1 y.2.1 y.2.2) (d0:=(0,0,[],[],0)) (d0':=(0,[],0)) (λ_ hy=>aXe (aF2 (N,gI N n) ih.1 ih.2.1 ih.2.2) hy) (λ_ hy=>aXd (aF2 (N,gI N n) ih.1 ih.2.1 ih.2.2) hy) h),uK YH (λd h=>Hb (zz:=vC (N,gI N n) d.1 d.2) (R:=λy=>yO y.1 y.2.1 y.2.2.1 y.2.2.2.1 y.2.2.2.2) (R':=λy=>yN y.1 y.2.1 y.2.2) (d0:=(0,0,[],[],0)) (d0':=(0,[],0)) (λ_ hy=>aJf (YK (N,gI N n) ih.1 ih.2.1 ih.2.2) hy) (λ_ hy=>aJe (YK (N,gI N n) ih.1 ih.2.1 ih.2.2) hy) h),uK Zh (λd h=>Hb (zz:=zE (N,gI N n) d.1 d.2.1 d.2.2) (R:=λy=>zF y.1 y.2.1 y.2.2.1 y.2.2.2.1 y.2.2.2.2) (R':=λy=>vI y.1 y.2.1 y.2.2) (d0:=(0,0,[],[],0)) (d0':=(0,[],0)) (λ_ hy=>aMr (Zm (N,gI N n) ih.1 ih.2.1 ih.2.2) hy) (λ_ hy=>aMq (Zm (N,gI N n) ih.1 ih.2.1 ih.2.2) hy) h)⟩
def CC N n1 g0 g1:=((gI N N).2.2 n1 g0 g1).isSome
def oE N n1 g0 g1:=(bC (0,0,[],[],0) ((gI N N).2.2 n1 g0 g1)).1
def oD N n1 g0 g1:=(bC (0,0,[],[],0) ((gI N N).2.2 n1 g0 g1)).2.1
def oC N n1 g0 g1:=(bC (0,0,[],[],0) ((gI N N).2.2 n1 g0 g1)).2.2.1
def gF N n1 g0 g1:=(bC (0,0,[],[],0) ((gI N N).2.2 n1 g0 g1)).2.2.2.1
def gE N n1 g0 g1:=(bC (0,0,[],[],0) ((gI N N).2.2 n1 g0 g1)).2.2.2.2
def vJ(N:Nat)(n1:Int)(g0:aT)(g1:Int):Bool:=kD ((gI N N).2.2 n1 g0 g1)
def CB(N:Nat)(n1:Int)(g0:aT)(g1:Int):Int:=(c7 (0,[],0) ((gI N N).2.2 n1 g0 g1)).1
def aMm(N:Nat)(n1:Int)(g0:aT)(g1:Int):aT:=(c7 (0,[],0) ((gI N N).2.2 n1 g0 g1)).2.1
def aMl(N:Nat)(n1:Int)(g0:aT)(g1:Int):Int:=(c7 (0,[],0) ((gI N N).2.2 n1 g0 g1)).2.2
def Zk(N:Nat):kI:=uL J7 (λd=>CC N d.1 d.2.1 d.2.2) (λd=>some (vJ N d.1 d.2.1 d.2.2)) (λd=>zF (oE N d.1 d.2.1 d.2.2) (oD N d.1 d.2.1 d.2.2) (oC N d.1 d.2.1 d.2.2) (gF N d.1 d.2.1 d.2.2) (gE N d.1 d.2.1 d.2.2)) (λd=>vI (CB N d.1 d.2.1 d.2.2) (aMm N d.1 d.2.1 d.2.2) (aMl N d.1 d.2.1 d.2.2))
theorem aMn N:j0 Tryz.prog 76 (Zk N):=(aF0 N N).2.2
def mY(a0:Int):aC:=(.e (.i .i64) a0,[])
abbrev oI:=Nat×(Int->Int->(List Ex)->Option (Int))
def sY(N:oI):Cx:=⟨Tryz.prog,25,[(49,E1 .ex (λx0=>((N.2 (Ex.op x0) (Ex.num x0) (Ex.kids x0)).isSome,mY (((N.2 (Ex.op x0) (Ex.num x0) (Ex.kids x0)).getD 0)))))],[]⟩
def Rv:Code:=Tryz.f49.body.getD .skip
theorem aQr N (hs:aK Tryz.prog 49 (E1 .ex (λx0=>((N.2 (Ex.op x0) (Ex.num x0) (Ex.kids x0)).isSome,mY (((N.2 (Ex.op x0) (Ex.num x0) (Ex.kids x0)).getD 0)))))):aD (sY N):=bZ (by kernel_rfl) (.cons (by kernel_rfl) hs .nil) .nil
def C6[aA](N:oI)(self:Int->Int->O)(k0:Int->O)(x0_1:(List Ex))(x0_2 x0_0 x0_3:Int):O:=
 br (decide (x0_3<x0_2))
  (gx x0_1 x0_3 λy3=>
  ck ((N.2 y3.op y3.num y3.kids).isSome)<|
  self (aB.wrap (x0_0+(N.2 y3.op y3.num y3.kids).getD (0:Int))) (aB.wrap (x0_3+1)))
  (k0 x0_0)
def Ru:Code:=cP [1,1,0,1,0,0] Rv
def aBr:Nm:=⟨[3,7,8,9],[],[]⟩
def AB(x:Int×(List Ex)×Int×Int):Sg:=⟨[(3,.e (.i .i64) x.1),(7,.e (.sl .ex) x.2.1),(8,.e (.i .i64) x.2.2.1),(9,.e (.i .i64) x.2.2.2)],[],100⟩
def LG(σ:Sg):Int×(List Ex)×Int×Int:=(aW (.i .i64) 3 0 σ,aW (.sl .ex) 7 0 σ,aW (.i .i64) 8 0 σ,aW (.i .i64) 9 0 σ)
theorem aQk:∀x,LG (AB x)=x:=λ_=>by kernel_rfl
def LI(y:Int):Exit×Sg:=((.exit 0),⟨[(3,.e (.i .i64) y)],[],100⟩)
def aQi(_:Exit)(σ:Sg):Int:=aW (.i .i64) 3 0 σ
def aQh:List (Exit×Nm):=[((.exit 0),⟨[3],[],[]⟩)]
def AA[aA](N:oI):Nat->(Int×(List Ex)×Int×Int)->((Int)->O)->((Unit)->O)->((Unit)->O)->O
 |0,_,_,_,_=>none
 |n+1,x,k0,k1,k2=>C6 N (λv0 v1=>AA N n (v0,x.2.1,x.2.2.1,v1) k0 k1 k2) (λy0=>k0 y0) x.2.1 x.2.2.1 x.1 x.2.2.2
def Rt[aA] N a0 a1 a2 a3 (k0:Int->O):=AA N N.1 (a0,a1,a2,a3) (λy=>k0 y) (λ_=>none) (λ_=>none)
def aBq[aA] N a0 a1 a2 a3 (k0:Int->O):=bB AB LG (AA N N.1) (AB (a0,a1,a2,a3)) (λy=>k0 y) (λ_=>none) (λ_=>none)
theorem aQq[aA] N:aBq N=Rt N:=funext λ_=>funext λ_=>funext λ_=>funext λ_=>funext λ_=>dD aQk _ _ _ _
theorem aQl[aA](N:oI)(self:Sg->O)(K:Exit->Sg->O)(x:Int×(List Ex)×Int×Int):C6 N (λv0 v1=>self (AB (v0,x.2.1,x.2.2.1,v1))) (λy0=>K (LI y0).1 (LI y0).2) x.2.1 x.2.2.1 x.1 x.2.2.2=exec (sY N) Tryz.f49.ntmps .d Ru (AB x) (fE aBr aQh self K):=by kernel_rfl
theorem aQu N (hc:aD (sY N)):cU (sY N) Tryz.f49.ntmps (.loop Ru) LI (aV 1) (aV 2) (bB AB LG (AA N N.1)):=
 fW hc (cT Ru) (fF aQi (.exit 0) (λ_=>by kernel_rfl) (λ_=>rfl) (by kernel_rfl)) (n:=N.1) (λx K=>fY (AA N) (λ_ _ _ _=>rfl) (λn K ih x=>by
  refine gM ?_ (aQl N _ K x);simp only[<-ih];rfl) N.1 x K)
def Ry[aA](_:oI)(in0:Int->(List Ex)->Int->Int->(Int->O)->O)(_e0_0 _e0_1:Int)(C:(List Ex)):O:=
 in0 1 C ((↑C.length:Int)) 0
  (λz4=>
   some (mY z4))
def w49[aA] N A B C:=Ry N (Rt N) A B C
def aBs[aA](N:oI):Hint:=(.seq .d (.seq .d (.seq (.seq .d (.block (.sub aBr _ _ _ LI (aV 1) (aV 2) (bB AB LG (AA N N.1))))) .d)))
theorem aQo N (hc:aD (sY N)):bJ (sY N) Tryz.f49.ntmps (aBs N) Rv:=bR _ _ (aH trivial (aH trivial (aH (aH trivial (aQu N hc)) trivial)))
theorem aQm[aA] N A B C:Ry N (aBq N) A B C=exec (sY N) Tryz.f49.ntmps (aBs N) Rv ⟨bW 0 [.agg [.e (.i .i64) A,.e (.i .i64) B,.e (.sl .ex) C]],[],100⟩ (bX (sY N) Tryz.f49 false):=by kernel_rfl
def Fi(r:aC):Option (Int):=match r with
 |(x0,[])=>(match ue (.i .i64) x0 with|some a0=>some a0|_=>none)
 |_=>none
theorem aQj{r d}(h:Fi r=some d):r=mY (d):=by
 unfold Fi at h;split at h
 .split at h
  .rename_i h0;cases h;rw[aE h0];rfl
  .cases h
 .cases h
def LF N A B C:=(w49 N A B C).bind Fi
theorem aQp{N}(hc:aD (sY N)){A B C d}(hd:LF N A B C=some d):cB Tryz.prog 49 [.agg [.e (.i .i64) A,.e (.i .i64) B,.e (.sl .ex) C]] [] (mY (d)):=
 cD hc (by kernel_rfl) (by kernel_rfl) (aQo N hc) (by kernel_rfl) aQj (λhr=>(aQm N A B C).symm.trans (by rw[aQq N];exact hr)) hd
def l8(N:Nat):Nat->Int->Int->(List Ex)->Option (Int)
 |0,_,_,_=>none
 |n+1,A,B,C=>LF (N,l8 N n) A B C
theorem aBv(N:Nat):∀n,aK Tryz.prog 49 (E1 .ex (λx0=>((l8 N n (Ex.op x0) (Ex.num x0) (Ex.kids x0)).isSome,mY (((l8 N n (Ex.op x0) (Ex.num x0) (Ex.kids x0)).getD 0)))))
 |0=>aK.e1 (λ_ h=>by cases h)
 |n+1=>aK.e1 (λx0 h=>by
   obtain⟨d,hd⟩:=sB.1 h;have hd':l8 N (n+1) (Ex.op x0) (Ex.num x0) (Ex.kids x0)=some d:=hd;have e:mY (((l8 N (n+1) (Ex.op x0) (Ex.num x0) (Ex.kids x0)).getD 0))=mY (d):=by rw[hd'];rfl
   show cK _ _ _ _ (mY (((l8 N (n+1) (Ex.op x0) (Ex.num x0) (Ex.kids x0)).getD 0))).1.D (HA (mY (((l8 N (n+1) (Ex.op x0) (Ex.num x0) (Ex.kids x0)).getD 0))).2);rw[e];exact aQp (N:=(N,l8 N n)) (aQr (N,l8 N n) (aBv N n)) hd')
def LH N A B C:=(l8 N N A B C).isSome
def Fh N A B C:=((l8 N N A B C).getD 0)
def aBt(N:Nat):bK:=E1 .ex (λx0=>(LH N (Ex.op x0) (Ex.num x0) (Ex.kids x0),mY (Fh N (Ex.op x0) (Ex.num x0) (Ex.kids x0))))
theorem aQn N:aK Tryz.prog 49 (aBt N):=aBv N N
def mX(a0:Int):aC:=(.e (.i .i64) a0,[])
def sW(N:oI):Cx:=⟨Tryz.prog,25,[(50,E1 .ex (λx0=>((N.2 (Ex.op x0) (Ex.num x0) (Ex.kids x0)).isSome,mX (((N.2 (Ex.op x0) (Ex.num x0) (Ex.kids x0)).getD 0)))))],[]⟩
def Ri:Code:=Tryz.f50.body.getD .skip
theorem aQ1 N (hs:aK Tryz.prog 50 (E1 .ex (λx0=>((N.2 (Ex.op x0) (Ex.num x0) (Ex.kids x0)).isSome,mX (((N.2 (Ex.op x0) (Ex.num x0) (Ex.kids x0)).getD 0)))))):aD (sW N):=bZ (by kernel_rfl) (.cons (by kernel_rfl) hs .nil) .nil
def C4[aA](N:oI)(self:Int->Int->O)(k0:Int->O)(x0_1:(List Ex))(x0_2 x0_0 x0_3:Int):O:=
 br (decide (x0_3<x0_2))
  (gx x0_1 x0_3 λy3=>
  ck ((N.2 y3.op y3.num y3.kids).isSome)<|
  self (max x0_0 ((N.2 y3.op y3.num y3.kids).getD (0:Int))) (aB.wrap (x0_3+1)))
  (k0 x0_0)
def Rh:Code:=cP [1,1,0,1,0,0] Ri
def aBg:Nm:=⟨[3,7,8,9],[],[]⟩
def zX(x:Int×(List Ex)×Int×Int):Sg:=⟨[(3,.e (.i .i64) x.1),(7,.e (.sl .ex) x.2.1),(8,.e (.i .i64) x.2.2.1),(9,.e (.i .i64) x.2.2.2)],[],100⟩
def Kw(σ:Sg):Int×(List Ex)×Int×Int:=(aW (.i .i64) 3 0 σ,aW (.sl .ex) 7 0 σ,aW (.i .i64) 8 0 σ,aW (.i .i64) 9 0 σ)
theorem aQU:∀x,Kw (zX x)=x:=λ_=>by kernel_rfl
def Ky(y:Int):Exit×Sg:=((.exit 0),⟨[(3,.e (.i .i64) y)],[],100⟩)
def aQS(_:Exit)(σ:Sg):Int:=aW (.i .i64) 3 0 σ
def aQR:List (Exit×Nm):=[((.exit 0),⟨[3],[],[]⟩)]
def zW[aA](N:oI):Nat->(Int×(List Ex)×Int×Int)->((Int)->O)->((Unit)->O)->((Unit)->O)->O
 |0,_,_,_,_=>none
 |n+1,x,k0,k1,k2=>C4 N (λv0 v1=>zW N n (v0,x.2.1,x.2.2.1,v1) k0 k1 k2) (λy0=>k0 y0) x.2.1 x.2.2.1 x.1 x.2.2.2
def Rf[aA] N a0 a1 a2 a3 (k0:Int->O):=zW N N.1 (a0,a1,a2,a3) (λy=>k0 y) (λ_=>none) (λ_=>none)
def aBf[aA] N a0 a1 a2 a3 (k0:Int->O):=bB zX Kw (zW N N.1) (zX (a0,a1,a2,a3)) (λy=>k0 y) (λ_=>none) (λ_=>none)
theorem aQ0[aA] N:aBf N=Rf N:=funext λ_=>funext λ_=>funext λ_=>funext λ_=>funext λ_=>dD aQU _ _ _ _
theorem aQV[aA](N:oI)(self:Sg->O)(K:Exit->Sg->O)(x:Int×(List Ex)×Int×Int):C4 N (λv0 v1=>self (zX (v0,x.2.1,x.2.2.1,v1))) (λy0=>K (Ky y0).1 (Ky y0).2) x.2.1 x.2.2.1 x.1 x.2.2.2=exec (sW N) Tryz.f50.ntmps .d Rh (zX x) (fE aBg aQR self K):=by kernel_rfl
theorem aQ4 N (hc:aD (sW N)):cU (sW N) Tryz.f50.ntmps (.loop Rh) Ky (aV 1) (aV 2) (bB zX Kw (zW N N.1)):=
 fW hc (cT Rh) (fF aQS (.exit 0) (λ_=>by kernel_rfl) (λ_=>rfl) (by kernel_rfl)) (n:=N.1) (λx K=>fY (zW N) (λ_ _ _ _=>rfl) (λn K ih x=>by
  refine gM ?_ (aQV N _ K x);simp only[<-ih];rfl) N.1 x K)
def Rk[aA](_:oI)(in0:Int->(List Ex)->Int->Int->(Int->O)->O)(_e0_0 _e0_1:Int)(C:(List Ex)):O:=
 in0 0 C ((↑C.length:Int)) 0
  (λz4=>
   some (mX (aB.wrap (z4+1))))
def w50[aA] N A B C:=Rk N (Rf N) A B C
def aBh[aA](N:oI):Hint:=(.seq .d (.seq .d (.seq (.seq .d (.block (.sub aBg _ _ _ Ky (aV 1) (aV 2) (bB zX Kw (zW N N.1))))) .d)))
theorem aQY N (hc:aD (sW N)):bJ (sW N) Tryz.f50.ntmps (aBh N) Ri:=bR _ _ (aH trivial (aH trivial (aH (aH trivial (aQ4 N hc)) trivial)))
theorem aQW[aA] N A B C:Rk N (aBf N) A B C=exec (sW N) Tryz.f50.ntmps (aBh N) Ri ⟨bW 0 [.agg [.e (.i .i64) A,.e (.i .i64) B,.e (.sl .ex) C]],[],100⟩ (bX (sW N) Tryz.f50 false):=by kernel_rfl
def Fg(r:aC):Option (Int):=match r with
 |(x0,[])=>(match ue (.i .i64) x0 with|some a0=>some a0|_=>none)
 |_=>none
theorem aQT{r d}(h:Fg r=some d):r=mX (d):=by
 unfold Fg at h;split at h
 .split at h
  .rename_i h0;cases h;rw[aE h0];rfl
  .cases h
 .cases h
def Ku N A B C:=(w50 N A B C).bind Fg
theorem aQZ{N}(hc:aD (sW N)){A B C d}(hd:Ku N A B C=some d):cB Tryz.prog 50 [.agg [.e (.i .i64) A,.e (.i .i64) B,.e (.sl .ex) C]] [] (mX (d)):=
 cD hc (by kernel_rfl) (by kernel_rfl) (aQY N hc) (by kernel_rfl) aQT (λhr=>(aQW N A B C).symm.trans (by rw[aQ0 N];exact hr)) hd
def l7(N:Nat):Nat->Int->Int->(List Ex)->Option (Int)
 |0,_,_,_=>none
 |n+1,A,B,C=>Ku (N,l7 N n) A B C
theorem aBk(N:Nat):∀n,aK Tryz.prog 50 (E1 .ex (λx0=>((l7 N n (Ex.op x0) (Ex.num x0) (Ex.kids x0)).isSome,mX (((l7 N n (Ex.op x0) (Ex.num x0) (Ex.kids x0)).getD 0)))))
 |0=>aK.e1 (λ_ h=>by cases h)
 |n+1=>aK.e1 (λx0 h=>by
   obtain⟨d,hd⟩:=sB.1 h;have hd':l7 N (n+1) (Ex.op x0) (Ex.num x0) (Ex.kids x0)=some d:=hd;have e:mX (((l7 N (n+1) (Ex.op x0) (Ex.num x0) (Ex.kids x0)).getD 0))=mX (d):=by rw[hd'];rfl
   show cK _ _ _ _ (mX (((l7 N (n+1) (Ex.op x0) (Ex.num x0) (Ex.kids x0)).getD 0))).1.D (HA (mX (((l7 N (n+1) (Ex.op x0) (Ex.num x0) (Ex.kids x0)).getD 0))).2);rw[e];exact aQZ (N:=(N,l7 N n)) (aQ1 (N,l7 N n) (aBk N n)) hd')
def Kx N A B C:=(l7 N N A B C).isSome
def Kv N A B C:=((l7 N N A B C).getD 0)
def aBi(N:Nat):bK:=E1 .ex (λx0=>(Kx N (Ex.op x0) (Ex.num x0) (Ex.kids x0),mX (Kv N (Ex.op x0) (Ex.num x0) (Ex.kids x0))))
theorem aQX N:aK Tryz.prog 50 (aBi N):=aBk N N
def Et(a0:Bool):aC:=(.e .bo a0,[])
def Py(xs:List X)(H:XH):Option (Int×Int×(List Ex)):=match xs,H with
 |[.agg [x0,x1,x2]],[]=>(match ue (.i .i64) x0,ue (.i .i64) x1,ue (.sl .ex) x2 with|some a0,some a1,some a2=>some (a0,a1,a2)|_,_,_=>none)
 |_,_=>none
theorem ZB{xs H d}(h:Py xs H=some d):xs=[.agg [.e (.i .i64) d.1,.e (.i .i64) d.2.1,.e (.sl .ex) d.2.2]]/\H=[]:=by
 unfold Py at h;split at h
 .split at h
  .rename_i h0 h1 h2;cases h;rw[aE h0,aE h1,aE h2];exact⟨rfl,rfl⟩
  .cases h
 .cases h
abbrev jT:=Nat×((Int->Int->(List Ex)->Option (Bool))×((List Ex)->Option (Int))×((List Ex)->Option (Bool))×(Int->Int->(List Ex)->Bool->Option (Bool)))
def sJ(N:jT):bK:=eU Py (λd=>(N.2.1 d.1 d.2.1 d.2.2).isSome) (λd=>Et (((N.2.1 d.1 d.2.1 d.2.2).getD false)))
def wK(a0:Int):aC:=(.e (.i .i64) a0,[])
def U0(xs:List X)(H:XH):Option ((List Ex)):=match xs,H with
 |[x0,.fn 83 []],[]=>(match ue (.sl .ex) x0 with|some a0=>some a0|_=>none)
 |_,_=>none
theorem aF9{xs H d}(h:U0 xs H=some d):xs=[.e (.sl .ex) (d),.fn 83 []]/\H=[]:=by
 unfold U0 at h;split at h
 .split at h
  .rename_i h0;cases h;rw[aE h0];exact⟨rfl,rfl⟩
  .cases h
 .cases h
def tU(N:jT):bK:=eU U0 (λd=>(N.2.2.1 (d)).isSome) (λd=>wK (((N.2.2.1 (d)).getD 0)))
def Ew(a0:Bool):aC:=(.e .bo a0,[])
def QB(xs:List X)(H:XH):Option ((List Ex)):=match xs,H with
 |[x0,.fn 83 []],[]=>(match ue (.sl .ex) x0 with|some a0=>some a0|_=>none)
 |_,_=>none
theorem ZG{xs H d}(h:QB xs H=some d):xs=[.e (.sl .ex) (d),.fn 83 []]/\H=[]:=by
 unfold QB at h;split at h
 .split at h
  .rename_i h0;cases h;rw[aE h0];exact⟨rfl,rfl⟩
  .cases h
 .cases h
def sK(N:jT):bK:=eU QB (λd=>(N.2.2.2.1 (d)).isSome) (λd=>Ew (((N.2.2.2.1 (d)).getD false)))
def qY(a0:Bool):aC:=(.e .bo a0,[])
def Kt(xs:List X)(H:XH):Option (Int×Int×(List Ex)×Bool):=match xs,H with
 |[.agg [x0,x1,x2],x3],[]=>(match ue (.i .i64) x0,ue (.i .i64) x1,ue (.sl .ex) x2,ue .bo x3 with|some a0,some a1,some a2,some a3=>some (a0,a1,a2,a3)|_,_,_,_=>none)
 |_,_=>none
theorem aB9{xs H d}(h:Kt xs H=some d):xs=[.agg [.e (.i .i64) d.1,.e (.i .i64) d.2.1,.e (.sl .ex) d.2.2.1],.e .bo d.2.2.2]/\H=[]:=by
 unfold Kt at h;split at h
 .split at h
  .rename_i h0 h1 h2 h3;cases h;rw[aE h0,aE h1,aE h2,aE h3];exact⟨rfl,rfl⟩
  .cases h
 .cases h
def sV(N:jT):bK:=eU Kt (λd=>(N.2.2.2.2 d.1 d.2.1 d.2.2.1 d.2.2.2).isSome) (λd=>qY (((N.2.2.2.2 d.1 d.2.1 d.2.2.1 d.2.2.2).getD false)))
def Eu(N:jT):Cx:=⟨Tryz.prog,25,[(83,sJ N),(102,tU N),(82,sK N),(51,sV N)],[]⟩
def ZE:Code:=Tryz.f83.body.getD .skip
theorem aL8 N (hw89:aK Tryz.prog 83 (sJ N)) (hw108:aK Tryz.prog 102 (tU N)) (hw88:aK Tryz.prog 82 (sK N)) (hw56:aK Tryz.prog 51 (sV N)):aD (Eu N):=bZ (by kernel_rfl) (.cons (by kernel_rfl) hw89 (.cons (by kernel_rfl) hw108 (.cons (by kernel_rfl) hw88 (.cons (by kernel_rfl) hw56 .nil)))) .nil
def Pz[aA](N:jT)(k0_0 k0_1:Int)(k0_2:(List Ex)):O:=
 ck ((N.snd.snd.snd.2 k0_0 k0_1 k0_2 false).isSome)<|
 some (Et (!(N.snd.snd.snd.2 k0_0 k0_1 k0_2 false).getD false))
def ZF[aA] N k0_0 k0_1 k0_2:=Pz N k0_0 k0_1 k0_2
def ZC[aA](_:jT):Hint:=.d
theorem aL6 N:bJ (Eu N) Tryz.f83.ntmps (ZC N) ZE:=bR _ _ trivial
theorem aL5[aA] N k0_0 k0_1 k0_2:Pz N k0_0 k0_1 k0_2=exec (Eu N) Tryz.f83.ntmps (ZC N) ZE ⟨bW 0 [.agg [.e (.i .i64) k0_0,.e (.i .i64) k0_1,.e (.sl .ex) k0_2]],[],100⟩ (bX (Eu N) Tryz.f83 false):=by kernel_rfl
def Px(r:aC):Option (Bool):=match r with
 |(x0,[])=>(match ue .bo x0 with|some a0=>some a0|_=>none)
 |_=>none
theorem aL4{r d}(h:Px r=some d):r=Et (d):=by
 unfold Px at h;split at h
 .split at h
  .rename_i h0;cases h;rw[aE h0];rfl
  .cases h
 .cases h
def Es N k0_0 k0_1 k0_2:=(ZF N k0_0 k0_1 k0_2).bind Px
theorem aL7{N}(hc:aD (Eu N)){k0_0 k0_1 k0_2 d}(hd:Es N k0_0 k0_1 k0_2=some d):cB Tryz.prog 83 [.agg [.e (.i .i64) k0_0,.e (.i .i64) k0_1,.e (.sl .ex) k0_2]] [] (Et (d)):=
 cD hc (by kernel_rfl) (by kernel_rfl) (aL6 N) (by kernel_rfl) aL4 (aL5 N k0_0 k0_1 k0_2).symm.trans hd
def tT(N:jT):Cx:=⟨Tryz.prog,25,[(83,sJ N),(102,tU N),(82,sK N),(51,sV N)],[]⟩
def U4:Code:=Tryz.f102.body.getD .skip
theorem aXx N (hw89:aK Tryz.prog 83 (sJ N)) (hw108:aK Tryz.prog 102 (tU N)) (hw88:aK Tryz.prog 82 (sK N)) (hw56:aK Tryz.prog 51 (sV N)):aD (tT N):=bZ (by kernel_rfl) (.cons (by kernel_rfl) hw89 (.cons (by kernel_rfl) hw108 (.cons (by kernel_rfl) hw88 (.cons (by kernel_rfl) hw56 .nil)))) .nil
def DZ[aA](N:jT)(self:Int->O)(k0:Int->O)(k1:Unit->O)(x0_0:(List Ex))(x0_1 x0_2:Int):O:=
 br (decide (x0_2<x0_1))
  (gx x0_0 x0_2 λy3=>
  ck ((N.snd.1 y3.op y3.num y3.kids).isSome)<|
  br ((N.snd.1 y3.op y3.num y3.kids).getD false)
   (k0 x0_2)
   (self (aB.wrap (x0_2+1))))
  (k1 ())
def U3:Code:=cP [1,0,1,0,0] U4
def aF8:Nm:=⟨[0,1,7,8],[],[]⟩
def Aq(x:(List Ex)×Int×Int):Sg:=⟨[(0,.e (.sl .ex) x.1),(1,.fn 83 []),(7,.e (.i .i64) x.2.1),(8,.e (.i .i64) x.2.2)],[],100⟩
def NP(σ:Sg):(List Ex)×Int×Int:=(aW (.sl .ex) 0 0 σ,aW (.i .i64) 7 0 σ,aW (.i .i64) 8 0 σ)
theorem aXr:∀x,NP (Aq x)=x:=λ_=>by kernel_rfl
def NS(y:Int):Exit×Sg:=(.ret,⟨[(4,.e (.i .i64) y)],[],100⟩)
def aXp(_:Exit)(σ:Sg):Int:=aW (.i .i64) 4 0 σ
def NR(_:Unit):Exit×Sg:=((.exit 0),⟨[],[],100⟩)
def aXo(_:Exit)(_:Sg):Unit:=()
def aXn:List (Exit×Nm):=[(.ret,⟨[4],[],[]⟩),((.exit 0),⟨[],[],[]⟩)]
def rD[aA](N:jT):Nat->((List Ex)×Int×Int)->((Int)->O)->((Unit)->O)->((Unit)->O)->O
 |0,_,_,_,_=>none
 |n+1,x,k0,k1,k2=>DZ N (λv0=>rD N n (x.1,x.2.1,v0) k0 k1 k2) (λy0=>k0 y0) (λ(_:Unit)=>k1 ()) x.1 x.2.1 x.2.2
def NQ[aA] N a0 a1 a2 (k0:Int->O) (k1:Unit->O):=rD N N.1 (a0,a1,a2) (λy=>k0 y) (λy=>k1 y) (λ_=>none)
def aF7[aA] N a0 a1 a2 (k0:Int->O) (k1:Unit->O):=bB Aq NP (rD N N.1) (Aq (a0,a1,a2)) (λy=>k0 y) (λy=>k1 y) (λ_=>none)
theorem aXw[aA] N:aF7 N=NQ N:=funext λ_=>funext λ_=>funext λ_=>funext λ_=>funext λ_=>dD aXr _ _ _ _
theorem aXs[aA](N:jT)(self:Sg->O)(K:Exit->Sg->O)(x:(List Ex)×Int×Int):DZ N (λv0=>self (Aq (x.1,x.2.1,v0))) (λy0=>K (NS y0).1 (NS y0).2) (λ(_:Unit)=>K (NR ()).1 (NR ()).2) x.1 x.2.1 x.2.2=exec (tT N) Tryz.f102.ntmps .d U3 (Aq x) (fE aF8 aXn self K):=by kernel_rfl
theorem aXy N (hc:aD (tT N)):cU (tT N) Tryz.f102.ntmps (.loop U3) NS NR (aV 2) (bB Aq NP (rD N N.1)):=
 fW hc (cT U3) (kS aXp aXo .ret (.exit 0) (λ_=>by kernel_rfl) (λ_=>by kernel_rfl) (λ_=>rfl) (λ_=>rfl) (by kernel_rfl)) (n:=N.1) (λx K=>fY (rD N) (λ_ _ _ _=>rfl) (λn K ih x=>by
  refine gM ?_ (aXs N _ K x);simp only[<-ih];rfl) N.1 x K)
def NT[aA](_:jT)(in0:(List Ex)->Int->Int->(Int->O)->(Unit->O)->O)(s0:(List Ex)):O:=
 in0 s0 ((↑s0.length:Int)) 0
  (λz4=>
   some (wK z4))
  (λ(_:Unit)=>
   some (wK ((-1:Int))))
def U5[aA] N s0:=NT N (NQ N) s0
def aFa[aA](N:jT):Hint:=(.seq .d (.seq (.seq .d (.block (.sub aF8 _ _ _ NS NR (aV 2) (bB Aq NP (rD N N.1))))) .d))
theorem aXu N (hc:aD (tT N)):bJ (tT N) Tryz.f102.ntmps (aFa N) U4:=bR _ _ (aH trivial (aH (aH trivial (aXy N hc)) trivial))
theorem aXt[aA] N s0:NT N (aF7 N) s0=exec (tT N) Tryz.f102.ntmps (aFa N) U4 ⟨bW 0 [.e (.sl .ex) s0,.fn 83 []],[],100⟩ (bX (tT N) Tryz.f102 false):=by kernel_rfl
def Gt(r:aC):Option (Int):=match r with
 |(x0,[])=>(match ue (.i .i64) x0 with|some a0=>some a0|_=>none)
 |_=>none
theorem aXq{r d}(h:Gt r=some d):r=wK (d):=by
 unfold Gt at h;split at h
 .split at h
  .rename_i h0;cases h;rw[aE h0];rfl
  .cases h
 .cases h
def Ap N s0:=(U5 N s0).bind Gt
theorem aXv{N}(hc:aD (tT N)){s0 d}(hd:Ap N s0=some d):cB Tryz.prog 102 [.e (.sl .ex) s0,.fn 83 []] [] (wK (d)):=
 cD hc (by kernel_rfl) (by kernel_rfl) (aXu N hc) (by kernel_rfl) aXq (λhr=>(aXt N s0).symm.trans (by rw[aXw N];exact hr)) hd
def Ey(N:jT):Cx:=⟨Tryz.prog,25,[(83,sJ N),(102,tU N),(82,sK N),(51,sV N)],[]⟩
def ZI:Code:=Tryz.f82.body.getD .skip
theorem aLd N (hw89:aK Tryz.prog 83 (sJ N)) (hw108:aK Tryz.prog 102 (tU N)) (hw88:aK Tryz.prog 82 (sK N)) (hw56:aK Tryz.prog 51 (sV N)):aD (Ey N):=bZ (by kernel_rfl) (.cons (by kernel_rfl) hw89 (.cons (by kernel_rfl) hw108 (.cons (by kernel_rfl) hw88 (.cons (by kernel_rfl) hw56 .nil)))) .nil
def QC[aA](N:jT)(s0:(List Ex)):O:=
 ck ((N.snd.snd.1 s0).isSome)<|
 some (Ew (decide ((0:Int)<=(N.snd.snd.1 s0).getD (0:Int))))
def ZJ[aA] N s0:=QC N s0
def ZH[aA](_:jT):Hint:=.d
theorem aLb N:bJ (Ey N) Tryz.f82.ntmps (ZH N) ZI:=bR _ _ trivial
theorem aLa[aA] N s0:QC N s0=exec (Ey N) Tryz.f82.ntmps (ZH N) ZI ⟨bW 0 [.e (.sl .ex) s0,.fn 83 []],[],100⟩ (bX (Ey N) Tryz.f82 false):=by kernel_rfl
def QA(r:aC):Option (Bool):=match r with
 |(x0,[])=>(match ue .bo x0 with|some a0=>some a0|_=>none)
 |_=>none
theorem aL9{r d}(h:QA r=some d):r=Ew (d):=by
 unfold QA at h;split at h
 .split at h
  .rename_i h0;cases h;rw[aE h0];rfl
  .cases h
 .cases h
def Ev N s0:=(ZJ N s0).bind QA
theorem aLc{N}(hc:aD (Ey N)){s0 d}(hd:Ev N s0=some d):cB Tryz.prog 82 [.e (.sl .ex) s0,.fn 83 []] [] (Ew (d)):=
 cD hc (by kernel_rfl) (by kernel_rfl) (aLb N) (by kernel_rfl) aL9 (aLa N s0).symm.trans hd
def Ff(N:jT):Cx:=⟨Tryz.prog,25,[(83,sJ N),(102,tU N),(82,sK N),(51,sV N)],[]⟩
def aBc:Code:=Tryz.f51.body.getD .skip
theorem aQP N (hw89:aK Tryz.prog 83 (sJ N)) (hw108:aK Tryz.prog 102 (tU N)) (hw88:aK Tryz.prog 82 (sK N)) (hw56:aK Tryz.prog 51 (sV N)):aD (Ff N):=bZ (by kernel_rfl) (.cons (by kernel_rfl) hw89 (.cons (by kernel_rfl) hw108 (.cons (by kernel_rfl) hw88 (.cons (by kernel_rfl) hw56 .nil)))) .nil
def Re[aA](N:jT)(A B:Int)(C:(List Ex))(root1:Bool):O:=
 br (decide (A<(0:Int))||decide ((11:Int)<=A))
  (some (qY false))
  (gx [((0:Int),(999999:Int),(4:Int),(0:UInt8)),((0:Int),(25:Int),(4:Int),(0:UInt8)),((1:Int),(0:Int),(3:Int),(45:UInt8)),((2:Int),(0:Int),(1:Int),(43:UInt8)),((2:Int),(0:Int),(1:Int),(45:UInt8)),((2:Int),(0:Int),(2:Int),(42:UInt8)),((2:Int),(0:Int),(2:Int),(47:UInt8)),((2:Int),(0:Int),(3:Int),(94:UInt8)),((1:Int),(0:Int),(4:Int),(82:UInt8)),((2:Int),(0:Int),(0:Int),(61:UInt8)),((2:Int),(0:Int),(0:Int),(60:UInt8))] A λy0=>
  br (decide ((↑C.length:Int)≠y0.1)||decide (B<(0:Int))||decide (y0.2.1<B)||decide (y0.2.2.1=0)&&!root1)
   (some (qY false))
   (ck ((N.snd.snd.snd.1 C).isSome)<|
   some (qY (!(N.snd.snd.snd.1 C).getD false))))
def w51[aA] N A B C root1:=Re N A B C root1
def aBa[aA](_:jT):Hint:=.d
theorem aQN N:bJ (Ff N) Tryz.f51.ntmps (aBa N) aBc:=bR _ _ trivial
theorem aQL[aA] N A B C root1:Re N A B C root1=exec (Ff N) Tryz.f51.ntmps (aBa N) aBc ⟨bW 0 [.agg [.e (.i .i64) A,.e (.i .i64) B,.e (.sl .ex) C],.e .bo root1],[],100⟩ (bX (Ff N) Tryz.f51 false):=by kernel_rfl
def C3(r:aC):Option (Bool):=match r with
 |(x0,[])=>(match ue .bo x0 with|some a0=>some a0|_=>none)
 |_=>none
theorem aQK{r d}(h:C3 r=some d):r=qY (d):=by
 unfold C3 at h;split at h
 .split at h
  .rename_i h0;cases h;rw[aE h0];rfl
  .cases h
 .cases h
def C2 N A B C root1:=(w51 N A B C root1).bind C3
theorem aQO{N}(hc:aD (Ff N)){A B C root1 d}(hd:C2 N A B C root1=some d):cB Tryz.prog 51 [.agg [.e (.i .i64) A,.e (.i .i64) B,.e (.sl .ex) C],.e .bo root1] [] (qY (d)):=
 cD hc (by kernel_rfl) (by kernel_rfl) (aQN N) (by kernel_rfl) aQK (aQL N A B C root1).symm.trans hd
def fI(N:Nat):Nat->(Int->Int->(List Ex)->Option (Bool))×((List Ex)->Option (Int))×((List Ex)->Option (Bool))×(Int->Int->(List Ex)->Bool->Option (Bool))
 |0=>(λ_ _ _=>none,λ_=>none,λ_=>none,λ_ _ _ _=>none)
 |n+1=>(λk0_0 k0_1 k0_2=>Es (N,fI N n) k0_0 k0_1 k0_2,λs0=>Ap (N,fI N n) s0,λs0=>Ev (N,fI N n) s0,λA B C root1=>C2 (N,fI N n) A B C root1)
theorem ZD(N:Nat):∀n,aK Tryz.prog 83 (sJ (N,fI N n))/\aK Tryz.prog 102 (tU (N,fI N n))/\aK Tryz.prog 82 (sK (N,fI N n))/\aK Tryz.prog 51 (sV (N,fI N n))
 |0=>⟨eH ZB (λ_ h=>by cases h),eH aF9 (λ_ h=>by cases h),eH ZG (λ_ h=>by cases h),eH aB9 (λ_ h=>by cases h)⟩
 |n+1=>
   have ih:=ZD N n
   ⟨eH ZB (λd h=>oV (zz:=Es (N,fI N n) d.1 d.2.1 d.2.2) (R:=λy=>Et (y)) (d0:=false) (λ_ hy=>aL7 (aL8 (N,fI N n) ih.1 ih.2.1 ih.2.2.1 ih.2.2.2) hy) h),eH aF9 (λd h=>oV (zz:=Ap (N,fI N n) (d)) (R:=λy=>wK (y)) (d0:=0) (λ_ hy=>aXv (aXx (N,fI N n) ih.1 ih.2.1 ih.2.2.1 ih.2.2.2) hy) h),eH ZG (λd h=>oV (zz:=Ev (N,fI N n) (d)) (R:=λy=>Ew (y)) (d0:=false) (λ_ hy=>aLc (aLd (N,fI N n) ih.1 ih.2.1 ih.2.2.1 ih.2.2.2) hy) h),eH aB9 (λd h=>oV (zz:=C2 (N,fI N n) d.1 d.2.1 d.2.2.1 d.2.2.2) (R:=λy=>qY (y)) (d0:=false) (λ_ hy=>aQO (aQP (N,fI N n) ih.1 ih.2.1 ih.2.2.1 ih.2.2.2) hy) h)⟩
def Ks N A B C root1:=((fI N N).2.2.2 A B C root1).isSome
def Kr N A B C root1:=(((fI N N).2.2.2 A B C root1).getD false)
def aBb(N:Nat):bK:=eU Kt (λd=>Ks N d.1 d.2.1 d.2.2.1 d.2.2.2) (λd=>qY (Kr N d.1 d.2.1 d.2.2.1 d.2.2.2))
theorem aQM N:aK Tryz.prog 51 (aBb N):=(ZD N N).2.2.2
def Cy(a0:Int):aC:=(.e (.i .i64) a0,[])
def GN(N:Nat):Cx:=⟨Tryz.prog,25,[(49,aBt N),(50,aBi N),(51,aBb N)],[]⟩
def aD9:Code:=Tryz.f29.body.getD .skip
theorem aUM N:aD (GN N):=bZ (by kernel_rfl) (.cons (by kernel_rfl) (aQn N) (.cons (by kernel_rfl) (aQX N) (.cons (by kernel_rfl) (aQM N) .nil))) .nil
def Sy[aA](N:Nat)(A B:Int)(C:(List Ex)):O:=
 ck (LH N A B C)<|
 ck (!!decide ((256:Int)<Fh N A B C)||Kx N A B C)<|
 br (decide ((256:Int)<Fh N A B C)||decide ((16:Int)<Kv N A B C))
  (some (Cy 4))
  (ck (Ks N A B C true)<|
  br (!Kr N A B C true)
   (some (Cy 1))
   (some (Cy 0)))
def w29[aA] N A B C:=Sy N A B C
def aD8[aA](_:Nat):Hint:=.d
theorem aUK N:bJ (GN N) Tryz.f29.ntmps (aD8 N) aD9:=bR _ _ trivial
theorem aUJ[aA] N A B C:Sy N A B C=exec (GN N) Tryz.f29.ntmps (aD8 N) aD9 ⟨bW 0 [.agg [.e (.i .i64) A,.e (.i .i64) B,.e (.sl .ex) C]],[],100⟩ (bX (GN N) Tryz.f29 false):=by kernel_rfl
def Sv(r:aC):Option (Int):=match r with
 |(x0,[])=>(match ue (.i .i64) x0 with|some a0=>some a0|_=>none)
 |_=>none
theorem aUI{r d}(h:Sv r=some d):r=Cy (d):=by
 unfold Sv at h;split at h
 .split at h
  .rename_i h0;cases h;rw[aE h0];rfl
  .cases h
 .cases h
def GL N A B C:=(w29 N A B C).bind Sv
theorem aUL{N}(hc:aD (GN N)){A B C d}(hd:GL N A B C=some d):cB Tryz.prog 29 [.agg [.e (.i .i64) A,.e (.i .i64) B,.e (.sl .ex) C]] [] (Cy (d)):=
 cD hc (by kernel_rfl) (by kernel_rfl) (aUK N) (by kernel_rfl) aUI (aUJ N A B C).symm.trans hd
def tD N A B C:=(GL N A B C).isSome
def pN N A B C:=((GL N A B C).getD 0)
def GM(N:Nat):bK:=E1 .ex (λx0=>(tD N (Ex.op x0) (Ex.num x0) (Ex.kids x0),Cy (pN N (Ex.op x0) (Ex.num x0) (Ex.kids x0))))
theorem MW N:aK Tryz.prog 29 (GM N):=aK.e1 (λ_ h=>cV h (aUL (aUM N)) rfl)
def Gr(a0:aT):aC:=(.own 100,[(100,.row 5 .u8 a0 true)])
def Gs(N:Nat):Cx:=⟨Tryz.prog,25,[(109,aFU N)],[]⟩
def aF6:Code:=Tryz.f104.body.getD .skip
theorem aXl N:aD (Gs N):=bZ (by kernel_rfl) (.cons (by kernel_rfl) (aX0 N) .nil) .nil
def NO[aA](N:Nat)(i1 base2:Int)(g0:aT):O:=
 br (decide (i1<0))
  (ck (cZ (g0++[(45:UInt8)]).length (1:Nat))<|
  ck (Al N (IntKind.u64.wrap (-IntKind.u64.wrap i1)) base2 (g0++[(45:UInt8)]))<|
  some (Gr (UT N (IntKind.u64.wrap (-IntKind.u64.wrap i1)) base2 (g0++[(45:UInt8)]))))
  (ck (Al N (IntKind.u64.wrap i1) base2 g0)<|
  some (Gr (UT N (IntKind.u64.wrap i1) base2 g0)))
def aXm[aA] N i1 base2 g0:=NO N i1 base2 g0
def aF4[aA](_:Nat):Hint:=.d
theorem aXj N:bJ (Gs N) Tryz.f104.ntmps (aF4 N) aF6:=bR _ _ trivial
theorem aXg[aA] N i1 base2 g0:NO N i1 base2 g0=exec (Gs N) Tryz.f104.ntmps (aF4 N) aF6 ⟨bW 0 [.own 50,.e (.i .i64) i1,.e (.i .i64) base2],[(50,.row 5 .u8 g0 true)],100⟩ (bX (Gs N) Tryz.f104 true):=by kernel_rfl
def NM(r:aC):Option (aT):=match r with
 |(.own 100,[(100,x0)])=>(match ur 5 .u8 true x0 with|some a0=>some a0|_=>none)
 |_=>none
theorem aXf{r d}(h:NM r=some d):r=Gr (d):=by
 unfold NM at h;split at h
 .split at h
  .rename_i h0;cases h;rw[jK h0];rfl
  .cases h
 .cases h
def Gq N i1 base2 g0:=(aXm N i1 base2 g0).bind NM
theorem aXk{N}(hc:aD (Gs N)){i1 base2 g0 d}(hd:Gq N i1 base2 g0=some d):cB Tryz.prog 104 [.own 50,.e (.i .i64) i1,.e (.i .i64) base2] [(50,.row 5 .u8 g0 true)] (Gr (d)):=
 cD hc (by kernel_rfl) (by kernel_rfl) (aXj N) (by kernel_rfl) aXf (aXg N i1 base2 g0).symm.trans hd
def NN N i1 base2 g0:=(Gq N i1 base2 g0).isSome
def NL N i1 base2 g0:=((Gq N i1 base2 g0).getD [])
def UZ(xs:List X)(H:XH):Option (Int×Int×aT):=match xs,H with
 |[.own 50,x0,x1],[(50,x2)]=>(match ue (.i .i64) x0,ue (.i .i64) x1,ur 5 .u8 true x2 with|some a0,some a1,some a2=>some (a0,a1,a2)|_,_,_=>none)
 |_,_=>none
theorem aXi{xs H d}(h:UZ xs H=some d):xs=[.own 50,.e (.i .i64) d.1,.e (.i .i64) d.2.1]/\H=[(50,.row 5 .u8 d.2.2 true)]:=by
 unfold UZ at h;split at h
 .split at h
  .rename_i h0 h1 h2;cases h;rw[aE h0,aE h1,jK h2];exact⟨rfl,rfl⟩
  .cases h
 .cases h
def aF5(N:Nat):bK:=eU UZ (λd=>NN N d.1 d.2.1 d.2.2) (λd=>Gr (NL N d.1 d.2.1 d.2.2))
theorem aXh N:aK Tryz.prog 104 (aF5 N):=eH aXi (λd h=>cV (z:=Gq N d.1 d.2.1 d.2.2) h (aXk (aXl N)) rfl)
def JF(a0:aT):aC:=(.own 100,[(100,.row 5 .u8 a0 true)])
def En(N:Nat):Cx:=⟨Tryz.prog,25,[(104,aF5 N)],[]⟩
def Ys:Code:=Tryz.f90.body.getD .skip
theorem aLM N:aD (En N):=bZ (by kernel_rfl) (.cons (by kernel_rfl) (aXh N) .nil) .nil
def JH[aA](N:Nat)(i1 base2:Int)(g0:aT):O:=
 ck (NN N i1 base2 g0)<|
 some (JF (NL N i1 base2 g0))
def w90[aA] N i1 base2 g0:=JH N i1 base2 g0
def Yq[aA](_:Nat):Hint:=.d
theorem aLK N:bJ (En N) Tryz.f90.ntmps (Yq N) Ys:=bR _ _ trivial
theorem aLH[aA] N i1 base2 g0:JH N i1 base2 g0=exec (En N) Tryz.f90.ntmps (Yq N) Ys ⟨bW 0 [.own 50,.e (.i .i64) i1,.e (.i .i64) base2],[(50,.row 5 .u8 g0 true)],100⟩ (bX (En N) Tryz.f90 true):=by kernel_rfl
def JE(r:aC):Option (aT):=match r with
 |(.own 100,[(100,x0)])=>(match ur 5 .u8 true x0 with|some a0=>some a0|_=>none)
 |_=>none
theorem aLG{r d}(h:JE r=some d):r=JF (d):=by
 unfold JE at h;split at h
 .split at h
  .rename_i h0;cases h;rw[jK h0];rfl
  .cases h
 .cases h
def Em N i1 base2 g0:=(w90 N i1 base2 g0).bind JE
theorem aLL{N}(hc:aD (En N)){i1 base2 g0 d}(hd:Em N i1 base2 g0=some d):cB Tryz.prog 90 [.own 50,.e (.i .i64) i1,.e (.i .i64) base2] [(50,.row 5 .u8 g0 true)] (JF (d)):=
 cD hc (by kernel_rfl) (by kernel_rfl) (aLK N) (by kernel_rfl) aLG (aLH N i1 base2 g0).symm.trans hd
def JG N i1 base2 g0:=(Em N i1 base2 g0).isSome
def JD N i1 base2 g0:=((Em N i1 base2 g0).getD [])
def Ps(xs:List X)(H:XH):Option (Int×Int×aT):=match xs,H with
 |[.own 50,x0,x1],[(50,x2)]=>(match ue (.i .i64) x0,ue (.i .i64) x1,ur 5 .u8 true x2 with|some a0,some a1,some a2=>some (a0,a1,a2)|_,_,_=>none)
 |_,_=>none
theorem aLJ{xs H d}(h:Ps xs H=some d):xs=[.own 50,.e (.i .i64) d.1,.e (.i .i64) d.2.1]/\H=[(50,.row 5 .u8 d.2.2 true)]:=by
 unfold Ps at h;split at h
 .split at h
  .rename_i h0 h1 h2;cases h;rw[aE h0,aE h1,jK h2];exact⟨rfl,rfl⟩
  .cases h
 .cases h
def Yr(N:Nat):bK:=eU Ps (λd=>JG N d.1 d.2.1 d.2.2) (λd=>JF (JD N d.1 d.2.1 d.2.2))
theorem aLI N:aK Tryz.prog 90 (Yr N):=eH aLJ (λd h=>cV (z:=Em N d.1 d.2.1 d.2.2) h (aLL (aLM N)) rfl)
end
end Go.Proofs
