/- What functions do: the reader, sizes. Conditions are in the theorems. -/
import Derived.Test.YtlhdefefoaldfaaGreatDoorE7
import Derived.Test.YtlhdefefoaldfaaGreatDoorProg
import Derived.KernelRfl
import Derived.Test.YtlhdefefoaldfaaGreatDoorF0
open And renaming intro->aG
open Eq renaming trans->fK
open Go.IntKind renaming i64->aC
open Nat renaming le_of_ble_eq_true->fN
open Option renaming bind_eq_some_iff->lH,isSome_iff_exists->s9
/- What functions do. -/
namespace Go.Proofs
noncomputable section
open Go.Ax Go.Ax.aA Go.RowKit Go.Ab
open Go
abbrev bA:=List UInt8
def AL(a0:UInt8)(a1:bA)(a2:Int):aE:=(.e .u8 a0,[(50,.box 100 [.e .tx a1,.e (.i .i64) a2])])
def tL(_:Nat):Cx:=⟨Tryz.prog,25,[],[]⟩
def TO:Code:=Tryz.f77.body.getD .skip
theorem aQb N:aF (tL N):=bY (by kernel_rfl) .nil .nil
def Cs[aA](_:Nat)(self:Int->O)(k0:bA->Int->O)(x0_0:bA)(x0_1:Int):O:=
 gc (decide (x0_1<(↑x0_0.length:Int))) 0 x0_0 x0_1 λy3=>
 br (decide (x0_1<(↑x0_0.length:Int))&&decide (y3=32))
  (self (aC.wrap (x0_1+1)))
  (k0 x0_0 x0_1)
def TN:Code:=cK [1,0,0,0] TO
def aCp:Nm:=⟨[0],[],[]⟩
def AN(x:bA×Int):Sg:=⟨[(0,.ref 50 0)],[(50,.box 100 [.e .tx x.1,.e (.i .i64) x.2])],100⟩
def LK(σ:Sg):bA×Int:=(aL .tx 50 0 σ,aL (.i .i64) 50 1 σ)
theorem aQ4:∀x,LK (AN x)=x:=λ_=>by kernel_rfl
def LM(y:bA×Int):Exit×Sg:=((.exit 0),⟨[(0,.ref 50 0)],[(50,.box 100 [.e .tx y.1,.e (.i .i64) y.2])],100⟩)
def aQ2(_:Exit)(σ:Sg):bA×Int:=(aL .tx 50 0 σ,aL (.i .i64) 50 1 σ)
def aQ1:List (Exit×Nm):=[((.exit 0),⟨[0],[],[]⟩)]
def AM[aA](N:Nat):Nat->(bA×Int)->((bA×Int)->O)->((Unit)->O)->((Unit)->O)->O
 |0,_,_,_,_=>none
 |n+1,x,k0,k1,k2=>Cs N (λv0=>AM N n (x.1,v0) k0 k1 k2) (λy0 y1=>k0 (y0,y1)) x.1 x.2
def aCo[aA] N a0 a1 (k0:bA->Int->O):=AM N N (a0,a1) (λy=>k0 y.1 y.2) (λ_=>none) (λ_=>none)
def aCn[aA] N a0 a1 (k0:bA->Int->O):=aY AN LK (AM N N) (AN (a0,a1)) (λy=>k0 y.1 y.2) (λ_=>none) (λ_=>none)
theorem aQa[aA] N:aCn N=aCo N:=funext λ_=>funext λ_=>funext λ_=>cW aQ4 _ _ _ _
theorem aQ5[aA](N:Nat)(self:Sg->O)(K:Exit->Sg->O)(x:bA×Int):Cs N (λv0=>self (AN (x.1,v0))) (λy0 y1=>K (LM (y0,y1)).1 (LM (y0,y1)).2) x.1 x.2=exec (tL N) Tryz.f77.ntmps .d TN (AN x) (eN aCp aQ1 self K):=by kernel_rfl
theorem aQc N (hc:aF (tL N)):cN (tL N) Tryz.f77.ntmps (.loop TN) LM (aW 1) (aW 2) (aY AN LK (AM N N)):=
 eV hc (cO TN) (eZ aQ2 (.exit 0) (λ_=>by kernel_rfl) (λ_=>rfl) (by kernel_rfl)) (n:=N) (λx K=>eW (AM N) (λ_ _ _ _=>rfl) (λn K ih x=>by
  refine fK ?_ (aQ5 N _ K x);simp only[<-ih];rfl) N x K)
def aCs[aA](_:Nat)(in0:bA->Int->(bA->Int->O)->O)(g0:bA)(g1:Int):O:=
 in0 g0 g1
  (λz4 z5=>
   br (decide (z5=(↑z4.length:Int)))
    (some (AL 0 z4 z5))
    (gx z4 z5 λy6=>
    some (AL y6 z4 z5)))
def w77[aA] N g0 g1:=aCs N (aCo N) g0 g1
def aCq[aA](N:Nat):Hint:=(.seq .d (.seq (.block (.sub aCp _ _ _ LM (aW 1) (aW 2) (aY AN LK (AM N N)))) .d))
theorem aQ8 N (hc:aF (tL N)):bJ (tL N) Tryz.f77.ntmps (aCq N) TO:=bO _ _ (aG trivial (aG (aQc N hc) trivial))
theorem aQ6[aA] N g0 g1:aCs N (aCn N) g0 g1=exec (tL N) Tryz.f77.ntmps (aCq N) TO ⟨bU 0 [.ref 50 0],[(50,.box 100 [.e .tx g0,.e (.i .i64) g1])],100⟩ (bX (tL N) Tryz.f77 false):=by kernel_rfl
def LJ(r:aE):Option (UInt8×bA×Int):=match r with
 |(x0,[(50,.box 100 [x1,x2])])=>(match ue .u8 x0,ue .tx x1,ue (.i .i64) x2 with|some a0,some a1,some a2=>some (a0,a1,a2)|_,_,_=>none)
 |_=>none
theorem aQ3{r d}(h:LJ r=some d):r=AL d.1 d.2.1 d.2.2:=by
 unfold LJ at h;split at h
 .split at h
  .rename_i h0 h1 h2;cases h;rw[aH h0,aH h1,aH h2];rfl
  .cases h
 .cases h
def AK N g0 g1:=(w77 N g0 g1).bind LJ
theorem aQ9{N}(hc:aF (tL N)){g0 g1 d}(hd:AK N g0 g1=some d):cB Tryz.prog 77 [.ref 50 0] [(50,.box 100 [.e .tx g0,.e (.i .i64) g1])] (AL d.1 d.2.1 d.2.2):=
 cD hc (by kernel_rfl) (by kernel_rfl) (aQ8 N hc) (by kernel_rfl) aQ3 (λhr=>(aQ6 N g0 g1).symm.trans (by rw[aQa N];exact hr)) hd
def qB N g0 g1:=(AK N g0 g1).isSome
def eQ N g0 g1:=((AK N g0 g1).getD (0,[],0)).1
def aP N g0 g1:=((AK N g0 g1).getD (0,[],0)).2.1
def aN N g0 g1:=((AK N g0 g1).getD (0,[],0)).2.2
def TM(xs:List X)(H:XH):Option (bA×Int):=match xs,H with
 |[.ref 50 0],[(50,.box 100 [x0,x1])]=>(match ue .tx x0,ue (.i .i64) x1 with|some a0,some a1=>some (a0,a1)|_,_=>none)
 |_,_=>none
theorem aQ7{xs H d}(h:TM xs H=some d):xs=[.ref 50 0]/\H=[(50,.box 100 [.e .tx d.1,.e (.i .i64) d.2])]:=by
 unfold TM at h;split at h
 .split at h
  .rename_i h0 h1;cases h;rw[aH h0,aH h1];exact⟨rfl,rfl⟩
  .cases h
 .cases h
def Cr(N:Nat):bK:=fD TM (λd=>qB N d.1 d.2) (λd=>AL (eQ N d.1 d.2) (aP N d.1 d.2) (aN N d.1 d.2))
theorem GX N:aM Tryz.prog 77 (Cr N):=eO aQ7 (λd h=>cY (z:=AK N d.1 d.2) h (aQ9 (aQb N)) rfl)
def aQQ:aE:=(.bD [],[])
def GW(a0:Int)(a1:bA)(a2:Int):aE:=(.dY (.iface 96 (.int .i64 a0)),[(50,.box 100 [.e .tx a1,.e (.i .i64) a2])])
def Cq(_:Nat):Cx:=⟨Tryz.prog,25,[],[]⟩
def TL:Code:=Tryz.f78.body.getD .skip
theorem aQX N:aF (Cq N):=bY (by kernel_rfl) .nil .nil
def aCl[aA](_:Nat)(g0:bA)(g1:Int):O:=
 some (GW g1 g0 g1)
def w78[aA] N g0 g1:=aCl N g0 g1
def aCj[aA](_:Nat):Hint:=.d
theorem aQU N:bJ (Cq N) Tryz.f78.ntmps (aCj N) TL:=bO _ _ trivial
theorem aQR[aA] N g0 g1:aCl N g0 g1=exec (Cq N) Tryz.f78.ntmps (aCj N) TL ⟨bU 0 [.ref 50 0],[(50,.box 100 [.e .tx g0,.e (.i .i64) g1])],100⟩ (bX (Cq N) Tryz.f78 false):=by kernel_rfl
theorem aQW{N:Nat}(hc:aF (Cq N)){g0:bA}{g1:Int}{r:aE}(h:w78 N g0 g1=some r):iL Tryz.prog 78 (([.ref 50 0]:List X).map X.D) (HA [(50,.box 100 [.e .tx g0,.e (.i .i64) g1])]) r:=
 yU hc (f:=78) (fn:=Tryz.f78) (code:=TL) (by kernel_rfl) (by kernel_rfl) (aQU N) (fN (by kernel_rfl)) (ow:=false) ((aQR N g0 g1).symm.trans (by exact h))
def LH(r:aE):Option ((Unit) ⊕ (Int×bA×Int)):=match r with
 |(.dY (.iface 96 (.int .i64 a0)),[(50,.box 100 [x1,x2])])=>(match ue .tx x1,ue (.i .i64) x2 with|some a1,some a2=>some (.inr (a0,a1,a2))|_,_=>none)
 |_=>none
theorem aQP{r d}(h:LH r=some (.inr d)):r=GW d.1 d.2.1 d.2.2:=by
 unfold LH at h;split at h
 .split at h
  .rename_i h1 h2;cases h;rw[aH h1,aH h2];rfl
  .cases h
 .cases h
def AJ N g0 g1:=(w78 N g0 g1).bind LH
theorem aQV{N}(hc:aF (Cq N)){g0 g1 d}(hd:AJ N g0 g1=some (.inr d)):iL Tryz.prog 78 (([.ref 50 0]:List X).map X.D) (HA [(50,.box 100 [.e .tx g0,.e (.i .i64) g1])]) (GW d.1 d.2.1 d.2.2):=by
 obtain⟨r,hr,hu⟩:=lH.1 hd;have:=aQW hc hr;rw[aQP hu]at this;exact this
def TK(xs:List X)(H:XH):Option (bA×Int):=match xs,H with
 |[.ref 50 0],[(50,.box 100 [x0,x1])]=>(match ue .tx x0,ue (.i .i64) x1 with|some a0,some a1=>some (a0,a1)|_,_=>none)
 |_,_=>none
theorem aQT{xs H d}(h:TK xs H=some d):xs=[.ref 50 0]/\H=[(50,.box 100 [.e .tx d.1,.e (.i .i64) d.2])]:=by
 unfold TK at h;split at h
 .split at h
  .rename_i h0 h1;cases h;rw[aH h0,aH h1];exact⟨rfl,rfl⟩
  .cases h
 .cases h
def mH N g0 g1:=(AJ N g0 g1).isSome
def mG(N:Nat)(g0:bA)(g1:Int):Int:=(dF (0,[],0) (AJ N g0 g1)).1
def rS(N:Nat)(g0:bA)(g1:Int):bA:=(dF (0,[],0) (AJ N g0 g1)).2.1
def rR(N:Nat)(g0:bA)(g1:Int):Int:=(dF (0,[],0) (AJ N g0 g1)).2.2
def LI(N:Nat):kT:=vM TK (λd=>mH N d.1 d.2) (λ_=>none) (λ_=>aQQ ) (λd=>GW (mG N d.1 d.2) (rS N d.1 d.2) (rR N d.1 d.2))
theorem aQS(N:Nat)(g0:bA)(g1:Int)(y:Unit):AJ N g0 g1≠some (.inl y):=λh=>by
 obtain⟨r,_,hu⟩:=lH.1 h;unfold LH at hu;split at hu
 .split at hu
  .cases hu
  .cases hu
 .cases hu
theorem TJ N:kA Tryz.prog 78 (LI N):=vL aQT (λd h=>a5K (zz:=AJ N d.1 d.2) (R':=λy=>GW y.1 y.2.1 y.2.2) (d0':=(0,[],0)) (λy=>aQS N d.1 d.2 y) (λ_ hy=>aQV (aQX N) hy) h)
def xN(a0 a1:Int)(a2:(List Ex))(a3:bA)(a4:Int):aE:=(.agg [.e (.i .i64) a0,.e (.i .i64) a1,.e (.sl .ex) a2],[(50,.box 100 [.e .tx a3,.e (.i .i64) a4])])
def nW(a0:Int)(a1:bA)(a2:Int):aE:=(.dY (.iface 96 (.int .i64 a0)),[(50,.box 100 [.e .tx a1,.e (.i .i64) a2])])
def mN(N:Nat):Cx:=⟨Tryz.prog,25,[(117,aIm N)],[(78,LI N)]⟩
def I7:Code:=Tryz.f110.body.getD .skip
theorem aJD N:aF (mN N):=bY (by kernel_rfl) (.cons (by kernel_rfl) (a2K N) .nil) (.cons (by kernel_rfl) (TJ N) .nil)
def Ed[aA](_:Nat)(self:Int->O)(k0:Int->bA->Int->Int->Int->O)(x0_1:bA)(x0_2 x0_3 x0_4 x0_0:Int):O:=
 gc (decide (x0_0<(↑x0_1.length:Int))) 0 x0_1 x0_0 λy5=>
 gc (decide (x0_0<(↑x0_1.length:Int))&&decide (48<=y5)) 0 x0_1 x0_0 λy6=>
 br (decide (x0_0<(↑x0_1.length:Int))&&decide (48<=y5)&&decide (y6<=57))
  (self (aC.wrap (x0_0+1)))
  (k0 x0_0 x0_1 x0_2 x0_3 x0_4)
def Xd:Code:=cK [1,1,0,0,0] I7
def aIz:Nm:=⟨[0,2,7,3],[],[]⟩
def Bb(x:Int×bA×Int×Int×Int):Sg:=⟨[(0,.ref 50 0),(2,.ref 0 0),(7,.ref 50 0),(3,.e (.i .i64) x.1)],[(50,.box 100 [.e .tx x.2.1,.e (.i .i64) x.2.2.1]),(0,.box 25 [.e (.i .i64) x.2.2.2.1,.e (.i .i64) x.2.2.2.2,.cC])],100⟩
def Pm(σ:Sg):Int×bA×Int×Int×Int:=(aO (.i .i64) 3 0 σ,aL .tx 50 0 σ,aL (.i .i64) 50 1 σ,aL (.i .i64) 0 0 σ,aL (.i .i64) 0 1 σ)
theorem a2c:∀x,Pm (Bb x)=x:=λ_=>by kernel_rfl
def Pp(y:Int×bA×Int×Int×Int):Exit×Sg:=((.exit 0),⟨[(0,.ref 50 0),(2,.ref 0 0),(7,.ref 50 0),(3,.e (.i .i64) y.1)],[(50,.box 100 [.e .tx y.2.1,.e (.i .i64) y.2.2.1]),(0,.box 25 [.e (.i .i64) y.2.2.2.1,.e (.i .i64) y.2.2.2.2,.cC])],100⟩)
def a27(_:Exit)(σ:Sg):Int×bA×Int×Int×Int:=(aO (.i .i64) 3 0 σ,aL .tx 50 0 σ,aL (.i .i64) 50 1 σ,aL (.i .i64) 0 0 σ,aL (.i .i64) 0 1 σ)
def a23:List (Exit×Nm):=[((.exit 0),⟨[0,2,7,3],[],[]⟩)]
def Ba[aA](N:Nat):Nat->(Int×bA×Int×Int×Int)->((Int×bA×Int×Int×Int)->O)->((Unit)->O)->((Unit)->O)->O
 |0,_,_,_,_=>none
 |n+1,x,k0,k1,k2=>Ed N (λv0=>Ba N n (v0,x.2.1,x.2.2.1,x.2.2.2.1,x.2.2.2.2) k0 k1 k2) (λy0 y1 y2 y3 y4=>k0 (y0,y1,y2,y3,y4)) x.2.1 x.2.2.1 x.2.2.2.1 x.2.2.2.2 x.1
def aIy[aA] N a0 a1 a2 a3 a4 (k0:Int->bA->Int->Int->Int->O):=Ba N N (a0,a1,a2,a3,a4) (λy=>k0 y.1 y.2.1 y.2.2.1 y.2.2.2.1 y.2.2.2.2) (λ_=>none) (λ_=>none)
def aIx[aA] N a0 a1 a2 a3 a4 (k0:Int->bA->Int->Int->Int->O):=aY Bb Pm (Ba N N) (Bb (a0,a1,a2,a3,a4)) (λy=>k0 y.1 y.2.1 y.2.2.1 y.2.2.2.1 y.2.2.2.2) (λ_=>none) (λ_=>none)
theorem a2n[aA] N:aIx N=aIy N:=funext λ_=>funext λ_=>funext λ_=>funext λ_=>funext λ_=>funext λ_=>cW a2c _ _ _ _
theorem a2e[aA](N:Nat)(self:Sg->O)(K:Exit->Sg->O)(x:Int×bA×Int×Int×Int):Ed N (λv0=>self (Bb (v0,x.2.1,x.2.2.1,x.2.2.2.1,x.2.2.2.2))) (λy0 y1 y2 y3 y4=>K (Pp (y0,y1,y2,y3,y4)).1 (Pp (y0,y1,y2,y3,y4)).2) x.2.1 x.2.2.1 x.2.2.2.1 x.2.2.2.2 x.1=exec (mN N) Tryz.f110.ntmps .d Xd (Bb x) (eN aIz a23 self K):=by kernel_rfl
theorem a2r N (hc:aF (mN N)):cN (mN N) Tryz.f110.ntmps (.loop Xd) Pp (aW 1) (aW 2) (aY Bb Pm (Ba N N)):=
 eV hc (cO Xd) (eZ a27 (.exit 0) (λ_=>by kernel_rfl) (λ_=>rfl) (by kernel_rfl)) (n:=N) (λx K=>eW (Ba N) (λ_ _ _ _=>rfl) (λn K ih x=>by
  refine fK ?_ (a2e N _ K x);simp only[<-ih];rfl) N x K)
def Pq[aA](N:Nat)(k0:Int->bA->Int->O)(k1:Int->bA->bA->Int->Int->Int->O)(x12_0:Int)(x12_1 x12_2:bA)(x12_3 x12_4 x12_5:Int):O:=
 gc (!decide ((6:Int)<(↑x12_1.length:Int))&&decide ((1:Int)<(↑x12_1.length:Int))) 0 x12_1 0 λy15=>
 br (decide ((6:Int)<(↑x12_1.length:Int))||decide ((1:Int)<(↑x12_1.length:Int))&&decide (y15=48))
  (ck (mH N x12_2 x12_3)<|
  k0 (mG N x12_2 x12_3) (rS N x12_2 x12_3) (rR N x12_2 x12_3))
  (k1 x12_0 x12_1 x12_2 x12_3 x12_4 x12_5)
def Xc:Code:=cK [1,1,1,1,0] I7
def a2h:Nm:=⟨[0,2,7,3,4],[],[]⟩
def Ec(x:Int×bA×bA×Int×Int×Int):Sg:=⟨[(0,.ref 50 0),(2,.ref 0 0),(7,.ref 50 0),(3,.e (.i .i64) x.1),(4,.e .tx x.2.1)],[(50,.box 100 [.e .tx x.2.2.1,.e (.i .i64) x.2.2.2.1]),(0,.box 25 [.e (.i .i64) x.2.2.2.2.1,.e (.i .i64) x.2.2.2.2.2,.cC])],100⟩
def Pl(σ:Sg):Int×bA×bA×Int×Int×Int:=(aO (.i .i64) 3 0 σ,aO .tx 4 0 σ,aL .tx 50 0 σ,aL (.i .i64) 50 1 σ,aL (.i .i64) 0 0 σ,aL (.i .i64) 0 1 σ)
theorem a2b:∀x,Pl (Ec x)=x:=λ_=>by kernel_rfl
def Po(y:Int×bA×Int):Exit×Sg:=((.panic [lS (.iface 96 (.int .i64 y.1))]),⟨[],[(50,.box 100 [.e .tx y.2.1,.e (.i .i64) y.2.2])],100⟩)
def a26(e:Exit)(σ:Sg):Int×bA×Int:=(lvP e,aL .tx 50 0 σ,aL (.i .i64) 50 1 σ)
def Pn(y:Int×bA×bA×Int×Int×Int):Exit×Sg:=(.normal,⟨[(0,.ref 50 0),(2,.ref 0 0),(3,.e (.i .i64) y.1),(4,.e .tx y.2.1)],[(50,.box 100 [.e .tx y.2.2.1,.e (.i .i64) y.2.2.2.1]),(0,.box 25 [.e (.i .i64) y.2.2.2.2.1,.e (.i .i64) y.2.2.2.2.2,.cC])],100⟩)
def a25(_:Exit)(σ:Sg):Int×bA×bA×Int×Int×Int:=(aO (.i .i64) 3 0 σ,aO .tx 4 0 σ,aL .tx 50 0 σ,aL (.i .i64) 50 1 σ,aL (.i .i64) 0 0 σ,aL (.i .i64) 0 1 σ)
def a22:List (Exit×Nm):=[((.panic []),⟨[],[],[]⟩),(.normal,⟨[0,2,3,4],[],[]⟩)]
def Ea[aA](N _:Nat)(x:Int×bA×bA×Int×Int×Int)(k0:(Int×bA×Int)->O)(k1:(Int×bA×bA×Int×Int×Int)->O)(_:(Unit)->O):O:=Pq N (λy0 y1 y2=>k0 (y0,y1,y2)) (λy0 y1 y2 y3 y4 y5=>k1 (y0,y1,y2,y3,y4,y5)) x.1 x.2.1 x.2.2.1 x.2.2.2.1 x.2.2.2.2.1 x.2.2.2.2.2
def E9[aA] N a0 a1 a2 a3 a4 a5 (k0:Int->bA->Int->O) (k1:Int->bA->bA->Int->Int->Int->O):=Ea N N (a0,a1,a2,a3,a4,a5) (λy=>k0 y.1 y.2.1 y.2.2) (λy=>k1 y.1 y.2.1 y.2.2.1 y.2.2.2.1 y.2.2.2.2.1 y.2.2.2.2.2) (λ_=>none)
def aIw[aA] N a0 a1 a2 a3 a4 a5 (k0:Int->bA->Int->O) (k1:Int->bA->bA->Int->Int->Int->O):=aY Ec Pl (Ea N N) (Ec (a0,a1,a2,a3,a4,a5)) (λy=>k0 y.1 y.2.1 y.2.2) (λy=>k1 y.1 y.2.1 y.2.2.1 y.2.2.2.1 y.2.2.2.2.1 y.2.2.2.2.2) (λ_=>none)
theorem a2m[aA] N:aIw N=E9 N:=funext λ_=>funext λ_=>funext λ_=>funext λ_=>funext λ_=>funext λ_=>funext λ_=>funext λ_=>cW a2b _ _ _ _
theorem a2d[aA](N:Nat)(K:Exit->Sg->O)(x:Int×bA×bA×Int×Int×Int):Pq N (λy0 y1 y2=>K (Po (y0,y1,y2)).1 (Po (y0,y1,y2)).2) (λy0 y1 y2 y3 y4 y5=>K (Pn (y0,y1,y2,y3,y4,y5)).1 (Pn (y0,y1,y2,y3,y4,y5)).2) x.1 x.2.1 x.2.2.1 x.2.2.2.1 x.2.2.2.2.1 x.2.2.2.2.2=exec (mN N) Tryz.f110.ntmps .d Xc (Ec x) (hY a22 K):=by kernel_rfl
theorem a2q N (hc:aF (mN N)):cN (mN N) Tryz.f110.ntmps Xc Po Pn (aW 2) (aY Ec Pl (Ea N N)):=
 iV hc (cO Xc) (iS a26 a25 (.panic []) .normal (λ_=>by kernel_rfl) (λ_=>by kernel_rfl) (λ_=>rfl) (λ_=>rfl) (by kernel_rfl)) (λx K=>by
  exact a2d N K x)
def aJE[aA](N:Nat)(in0:Int->bA->Int->Int->Int->(Int->bA->Int->Int->Int->O)->O)(in1:Int->bA->bA->Int->Int->Int->(Int->bA->Int->O)->(Int->bA->bA->Int->Int->Int->O)->O)(g0:bA)(g1:Int):O:=
 in0 g1 g0 g1 0 0
  (λz7 z8 z9 z10 z11=>
   ck (dX z8.length (some z9) (some z7))<|
   in1 z7 (c8 z8 (some z9) (some z7)) z8 z9 z10 z11
    (λz16 z17 z18=>
     some (nW z16 z17 z18))
    (λz19 z20 z21 z22 _ _=>
     ck (uP N z20)<|
     br false
      (ck (mH N z21 z22)<|
      some (nW (mG N z21 z22) (rS N z21 z22) (rR N z21 z22)))
      (some (xN 0 ((B2 N z20)) ([]) z21 z19))))
def aJF[aA] N g0 g1:=aJE N (aIy N) (E9 N) g0 g1
def aJA[aA](N:Nat):Hint:=(.seq .d (.seq .d (.seq (.block (.sub aIz _ _ _ Pp (aW 1) (aW 2) (aY Bb Pm (Ba N N)))) (.seq .d (.seq (.sub a2h _ _ _ Po Pn (aW 2) (aY Ec Pl (Ea N N))) .d)))))
theorem a2j N (hc:aF (mN N)):bJ (mN N) Tryz.f110.ntmps (aJA N) I7:=bO _ _ (aG trivial (aG trivial (aG (a2r N hc) (aG trivial (aG (a2q N hc) trivial)))))
theorem a2f[aA] N g0 g1:aJE N (aIx N) (aIw N) g0 g1=exec (mN N) Tryz.f110.ntmps (aJA N) I7 ⟨bU 0 [.ref 50 0],[(50,.box 100 [.e .tx g0,.e (.i .i64) g1])],100⟩ (bX (mN N) Tryz.f110 false):=by kernel_rfl
theorem aJC{N:Nat}(hc:aF (mN N)){g0:bA}{g1:Int}{r:aE}(h:aJF N g0 g1=some r):iL Tryz.prog 110 (([.ref 50 0]:List X).map X.D) (HA [(50,.box 100 [.e .tx g0,.e (.i .i64) g1])]) r:=
 yU hc (f:=110) (fn:=Tryz.f110) (code:=I7) (by kernel_rfl) (by kernel_rfl) (a2j N hc) (fN (by kernel_rfl)) (ow:=false) ((a2f N g0 g1).symm.trans (by rw[a2n N,a2m N];exact h))
def uV(r:aE):Option ((Int×Int×(List Ex)×bA×Int) ⊕ (Int×bA×Int)):=match r with
 |(.dY (.iface 96 (.int .i64 a0)),[(50,.box 100 [x1,x2])])=>(match ue .tx x1,ue (.i .i64) x2 with|some a1,some a2=>some (.inr (a0,a1,a2))|_,_=>none)
 |(.agg [x0,x1,x2],[(50,.box 100 [x3,x4])])=>(match ue (.i .i64) x0,ue (.i .i64) x1,ue (.sl .ex) x2,ue .tx x3,ue (.i .i64) x4 with|some a0,some a1,some a2,some a3,some a4=>some (.inl (a0,a1,a2,a3,a4))|_,_,_,_,_=>none)
 |_=>none
theorem a2a{r d}(h:uV r=some (.inl d)):r=xN d.1 d.2.1 d.2.2.1 d.2.2.2.1 d.2.2.2.2:=by
 unfold uV at h;split at h
 .split at h
  .cases h
  .cases h
 .split at h
  .rename_i h0 h1 h2 h3 h4;cases h;rw[aH h0,aH h1,aH h2,aH h3,aH h4];rfl
  .cases h
 .cases h
theorem a29{r d}(h:uV r=some (.inr d)):r=nW d.1 d.2.1 d.2.2:=by
 unfold uV at h;split at h
 .split at h
  .rename_i h1 h2;cases h;rw[aH h1,aH h2];rfl
  .cases h
 .split at h
  .cases h
  .cases h
 .cases h
def lZ N g0 g1:=(aJF N g0 g1).bind uV
theorem a2l{N}(hc:aF (mN N)){g0 g1 d}(hd:lZ N g0 g1=some (.inl d)):cB Tryz.prog 110 [.ref 50 0] [(50,.box 100 [.e .tx g0,.e (.i .i64) g1])] (xN d.1 d.2.1 d.2.2.1 d.2.2.2.1 d.2.2.2.2):=by
 obtain⟨r,hr,hu⟩:=lH.1 hd;have:=aJC hc hr;rw[a2a hu]at this;exact this
theorem a2k{N}(hc:aF (mN N)){g0 g1 d}(hd:lZ N g0 g1=some (.inr d)):iL Tryz.prog 110 (([.ref 50 0]:List X).map X.D) (HA [(50,.box 100 [.e .tx g0,.e (.i .i64) g1])]) (nW d.1 d.2.1 d.2.2):=by
 obtain⟨r,hr,hu⟩:=lH.1 hd;have:=aJC hc hr;rw[a29 hu]at this;exact this
def Xb(xs:List X)(H:XH):Option (bA×Int):=match xs,H with
 |[.ref 50 0],[(50,.box 100 [x0,x1])]=>(match ue .tx x0,ue (.i .i64) x1 with|some a0,some a1=>some (a0,a1)|_,_=>none)
 |_,_=>none
theorem a2i{xs H d}(h:Xb xs H=some d):xs=[.ref 50 0]/\H=[(50,.box 100 [.e .tx d.1,.e (.i .i64) d.2])]:=by
 unfold Xb at h;split at h
 .split at h
  .rename_i h0 h1;cases h;rw[aH h0,aH h1];exact⟨rfl,rfl⟩
  .cases h
 .cases h
def E8 N g0 g1:=(lZ N g0 g1).isSome
def Eb(N:Nat)(g0:bA)(g1:Int):Bool:=kM (lZ N g0 g1)
def X7 N g0 g1:=(aV (0,0,[],[],0) (lZ N g0 g1)).1
def X6 N g0 g1:=(aV (0,0,[],[],0) (lZ N g0 g1)).2.1
def X5 N g0 g1:=(aV (0,0,[],[],0) (lZ N g0 g1)).2.2.1
def X4 N g0 g1:=(aV (0,0,[],[],0) (lZ N g0 g1)).2.2.2.1
def X3 N g0 g1:=(aV (0,0,[],[],0) (lZ N g0 g1)).2.2.2.2
def Xa(N:Nat)(g0:bA)(g1:Int):Int:=(dF (0,[],0) (lZ N g0 g1)).1
def X9(N:Nat)(g0:bA)(g1:Int):bA:=(dF (0,[],0) (lZ N g0 g1)).2.1
def X8(N:Nat)(g0:bA)(g1:Int):Int:=(dF (0,[],0) (lZ N g0 g1)).2.2
def aJB(N:Nat):kT:=vM Xb (λd=>E8 N d.1 d.2) (λd=>some (Eb N d.1 d.2)) (λd=>xN (X7 N d.1 d.2) (X6 N d.1 d.2) (X5 N d.1 d.2) (X4 N d.1 d.2) (X3 N d.1 d.2)) (λd=>nW (Xa N d.1 d.2) (X9 N d.1 d.2) (X8 N d.1 d.2))
theorem a2g N:kA Tryz.prog 110 (aJB N):=vL a2i (λd h=>JV (zz:=lZ N d.1 d.2) (R:=λy=>xN y.1 y.2.1 y.2.2.1 y.2.2.2.1 y.2.2.2.2) (R':=λy=>nW y.1 y.2.1 y.2.2) (d0:=(0,0,[],[],0)) (d0':=(0,[],0)) (λ_ hy=>a2l (aJD N) hy) (λ_ hy=>a2k (aJD N) hy) h)
def I6(a0:bA)(a1:Int):aE:=(.bD [],[(50,.box 100 [.e .tx a0,.e (.i .i64) a1])])
def I5(a0:Int)(a1:bA)(a2:Int):aE:=(.dY (.iface 96 (.int .i64 a0)),[(50,.box 100 [.e .tx a1,.e (.i .i64) a2])])
def B8(N:Nat):Cx:=⟨Tryz.prog,25,[(77,Cr N)],[(78,LI N)]⟩
def X1:Code:=Tryz.f111.body.getD .skip
theorem aIu N:aF (B8 N):=bY (by kernel_rfl) (.cons (by kernel_rfl) (GX N) .nil) (.cons (by kernel_rfl) (TJ N) .nil)
def E7[aA](N:Nat)(c1:UInt8)(g0:bA)(g1:Int):O:=
 ck (qB N g0 g1)<|
 br (decide (eQ N g0 g1≠c1))
  (ck (mH N (aP N g0 g1) (aN N g0 g1))<|
  some (I5 (mG N (aP N g0 g1) (aN N g0 g1)) (rS N (aP N g0 g1) (aN N g0 g1)) (rR N (aP N g0 g1) (aN N g0 g1))))
  (some (I6 (aP N g0 g1) (aC.wrap (aN N g0 g1+(1:Int)))))
def aIv[aA] N c1 g0 g1:=E7 N c1 g0 g1
def aIr[aA](_:Nat):Hint:=.d
theorem a2X N:bJ (B8 N) Tryz.f111.ntmps (aIr N) X1:=bO _ _ trivial
theorem a2U[aA] N c1 g0 g1:E7 N c1 g0 g1=exec (B8 N) Tryz.f111.ntmps (aIr N) X1 ⟨bU 0 [.ref 50 0,.e .u8 c1],[(50,.box 100 [.e .tx g0,.e (.i .i64) g1])],100⟩ (bX (B8 N) Tryz.f111 false):=by kernel_rfl
theorem aIt{N:Nat}(hc:aF (B8 N)){c1:UInt8}{g0:bA}{g1:Int}{r:aE}(h:aIv N c1 g0 g1=some r):iL Tryz.prog 111 (([.ref 50 0,.e .u8 c1]:List X).map X.D) (HA [(50,.box 100 [.e .tx g0,.e (.i .i64) g1])]) r:=
 yU hc (f:=111) (fn:=Tryz.f111) (code:=X1) (by kernel_rfl) (by kernel_rfl) (a2X N) (fN (by kernel_rfl)) (ow:=false) ((a2U N c1 g0 g1).symm.trans (by exact h))
def B3(r:aE):Option ((bA×Int) ⊕ (Int×bA×Int)):=match r with
 |(.dY (.iface 96 (.int .i64 a0)),[(50,.box 100 [x1,x2])])=>(match ue .tx x1,ue (.i .i64) x2 with|some a1,some a2=>some (.inr (a0,a1,a2))|_,_=>none)
 |(.bD [],[(50,.box 100 [x0,x1])])=>(match ue .tx x0,ue (.i .i64) x1 with|some a0,some a1=>some (.inl (a0,a1))|_,_=>none)
 |_=>none
theorem a2T{r d}(h:B3 r=some (.inl d)):r=I6 d.1 d.2:=by
 unfold B3 at h;split at h
 .split at h
  .cases h
  .cases h
 .split at h
  .rename_i h0 h1;cases h;rw[aH h0,aH h1];rfl
  .cases h
 .cases h
theorem a2S{r d}(h:B3 r=some (.inr d)):r=I5 d.1 d.2.1 d.2.2:=by
 unfold B3 at h;split at h
 .split at h
  .rename_i h1 h2;cases h;rw[aH h1,aH h2];rfl
  .cases h
 .split at h
  .cases h
  .cases h
 .cases h
def gY N c1 g0 g1:=(aIv N c1 g0 g1).bind B3
theorem a2Z{N}(hc:aF (B8 N)){c1 g0 g1 d}(hd:gY N c1 g0 g1=some (.inl d)):cB Tryz.prog 111 [.ref 50 0,.e .u8 c1] [(50,.box 100 [.e .tx g0,.e (.i .i64) g1])] (I6 d.1 d.2):=by
 obtain⟨r,hr,hu⟩:=lH.1 hd;have:=aIt hc hr;rw[a2T hu]at this;exact this
theorem a2Y{N}(hc:aF (B8 N)){c1 g0 g1 d}(hd:gY N c1 g0 g1=some (.inr d)):iL Tryz.prog 111 (([.ref 50 0,.e .u8 c1]:List X).map X.D) (HA [(50,.box 100 [.e .tx g0,.e (.i .i64) g1])]) (I5 d.1 d.2.1 d.2.2):=by
 obtain⟨r,hr,hu⟩:=lH.1 hd;have:=aIt hc hr;rw[a2S hu]at this;exact this
def X0(xs:List X)(H:XH):Option (UInt8×bA×Int):=match xs,H with
 |[.ref 50 0,x0],[(50,.box 100 [x1,x2])]=>(match ue .u8 x0,ue .tx x1,ue (.i .i64) x2 with|some a0,some a1,some a2=>some (a0,a1,a2)|_,_,_=>none)
 |_,_=>none
theorem a2W{xs H d}(h:X0 xs H=some d):xs=[.ref 50 0,.e .u8 d.1]/\H=[(50,.box 100 [.e .tx d.2.1,.e (.i .i64) d.2.2])]:=by
 unfold X0 at h;split at h
 .split at h
  .rename_i h0 h1 h2;cases h;rw[aH h0,aH h1,aH h2];exact⟨rfl,rfl⟩
  .cases h
 .cases h
def B7 N c1 g0 g1:=(gY N c1 g0 g1).isSome
def uU(N:Nat)(c1:UInt8)(g0:bA)(g1:Int):Bool:=kM (gY N c1 g0 g1)
def dM N c1 g0 g1:=(aV ([],0) (gY N c1 g0 g1)).1
def dL N c1 g0 g1:=(aV ([],0) (gY N c1 g0 g1)).2
def B6(N:Nat)(c1:UInt8)(g0:bA)(g1:Int):Int:=(dF (0,[],0) (gY N c1 g0 g1)).1
def B5(N:Nat)(c1:UInt8)(g0:bA)(g1:Int):bA:=(dF (0,[],0) (gY N c1 g0 g1)).2.1
def B4(N:Nat)(c1:UInt8)(g0:bA)(g1:Int):Int:=(dF (0,[],0) (gY N c1 g0 g1)).2.2
def aIs(N:Nat):kT:=vM X0 (λd=>B7 N d.1 d.2.1 d.2.2) (λd=>some (uU N d.1 d.2.1 d.2.2)) (λd=>I6 (dM N d.1 d.2.1 d.2.2) (dL N d.1 d.2.1 d.2.2)) (λd=>I5 (B6 N d.1 d.2.1 d.2.2) (B5 N d.1 d.2.1 d.2.2) (B4 N d.1 d.2.1 d.2.2))
theorem a2V N:kA Tryz.prog 111 (aIs N):=vL a2W (λd h=>JV (zz:=gY N d.1 d.2.1 d.2.2) (R:=λy=>I6 y.1 y.2) (R':=λy=>I5 y.1 y.2.1 y.2.2) (d0:=([],0)) (d0':=(0,[],0)) (λ_ hy=>a2Z (aIu N) hy) (λ_ hy=>a2Y (aIu N) hy) h)
def KC(a0:Bool)(a1:Int)(a2:UInt8):aE:=(.e .bo a0,[(50,.box 3 [.e (.i .i64) a1]),(51,.box 5 [.e .u8 a2])])
def Fo(_:Nat):Cx:=⟨Tryz.prog,25,[],[]⟩
def aBO:Code:=Tryz.f99.body.getD .skip
theorem aNU N:aF (Fo N):=bY (by kernel_rfl) .nil .nil
def aBP[aA](_:Nat)(o0_0 _o0_1 o0_2:Int)(o0_3:UInt8)(g0:Int)(k510:UInt8):O:=
 some (KC (decide (o0_2=g0)&&decide (o0_0=2)&&decide (o0_3=k510)) g0 k510)
def w99[aA] N o0_0 o0_1 o0_2 o0_3 g0 k510:=aBP N o0_0 o0_1 o0_2 o0_3 g0 k510
def aBN[aA](_:Nat):Hint:=.d
theorem aNS N:bJ (Fo N) Tryz.f99.ntmps (aBN N) aBO:=bO _ _ trivial
theorem aNQ[aA] N o0_0 o0_1 o0_2 o0_3 g0 k510:aBP N o0_0 o0_1 o0_2 o0_3 g0 k510=exec (Fo N) Tryz.f99.ntmps (aBN N) aBO ⟨bU 0 [.agg [.e (.i .i64) o0_0,.e (.i .i64) o0_1,.e (.i .i64) o0_2,.e .u8 o0_3],.ref 50 0,.ref 51 0],[(50,.box 3 [.e (.i .i64) g0]),(51,.box 5 [.e .u8 k510])],100⟩ (bX (Fo N) Tryz.f99 true):=by kernel_rfl
def SO(r:aE):Option (Bool×Int×UInt8):=match r with
 |(x0,[(50,.box 3 [x1]),(51,.box 5 [x2])])=>(match ue .bo x0,ue (.i .i64) x1,ue .u8 x2 with|some a0,some a1,some a2=>some (a0,a1,a2)|_,_,_=>none)
 |_=>none
theorem aNP{r d}(h:SO r=some d):r=KC d.1 d.2.1 d.2.2:=by
 unfold SO at h;split at h
 .split at h
  .rename_i h0 h1 h2;cases h;rw[aH h0,aH h1,aH h2];rfl
  .cases h
 .cases h
def C1 N o0_0 o0_1 o0_2 o0_3 g0 k510:=(w99 N o0_0 o0_1 o0_2 o0_3 g0 k510).bind SO
theorem aNT{N}(hc:aF (Fo N)){o0_0 o0_1 o0_2 o0_3 g0 k510 d}(hd:C1 N o0_0 o0_1 o0_2 o0_3 g0 k510=some d):cB Tryz.prog 99 [.agg [.e (.i .i64) o0_0,.e (.i .i64) o0_1,.e (.i .i64) o0_2,.e .u8 o0_3],.ref 50 0,.ref 51 0] [(50,.box 3 [.e (.i .i64) g0]),(51,.box 5 [.e .u8 k510])] (KC d.1 d.2.1 d.2.2):=
 cD hc (by kernel_rfl) (by kernel_rfl) (aNS N) (by kernel_rfl) aNP (aNQ N o0_0 o0_1 o0_2 o0_3 g0 k510).symm.trans hd
def SP N o0_0 o0_1 o0_2 o0_3 g0 k510:=(C1 N o0_0 o0_1 o0_2 o0_3 g0 k510).isSome
def aBL N o0_0 o0_1 o0_2 o0_3 g0 k510:=((C1 N o0_0 o0_1 o0_2 o0_3 g0 k510).getD (false,0,0)).1
def SN N o0_0 o0_1 o0_2 o0_3 g0 k510:=((C1 N o0_0 o0_1 o0_2 o0_3 g0 k510).getD (false,0,0)).2.1
def SM N o0_0 o0_1 o0_2 o0_3 g0 k510:=((C1 N o0_0 o0_1 o0_2 o0_3 g0 k510).getD (false,0,0)).2.2
def SQ(xs:List X)(H:XH):Option (Int×Int×Int×UInt8×Int×UInt8):=match xs,H with
 |[.agg [x0,x1,x2,x3],.ref 50 0,.ref 51 0],[(50,.box 3 [x4]),(51,.box 5 [x5])]=>(match ue (.i .i64) x0,ue (.i .i64) x1,ue (.i .i64) x2,ue .u8 x3,ue (.i .i64) x4,ue .u8 x5 with|some a0,some a1,some a2,some a3,some a4,some a5=>some (a0,a1,a2,a3,a4,a5)|_,_,_,_,_,_=>none)
 |_,_=>none
theorem aNR{xs H d}(h:SQ xs H=some d):xs=[.agg [.e (.i .i64) d.1,.e (.i .i64) d.2.1,.e (.i .i64) d.2.2.1,.e .u8 d.2.2.2.1],.ref 50 0,.ref 51 0]/\H=[(50,.box 3 [.e (.i .i64) d.2.2.2.2.1]),(51,.box 5 [.e .u8 d.2.2.2.2.2])]:=by
 unfold SQ at h;split at h
 .split at h
  .rename_i h0 h1 h2 h3 h4 h5;cases h;rw[aH h0,aH h1,aH h2,aH h3,aH h4,aH h5];exact⟨rfl,rfl⟩
  .cases h
 .cases h
def SR(N:Nat):bK:=fD SQ (λd=>SP N d.1 d.2.1 d.2.2.1 d.2.2.2.1 d.2.2.2.2.1 d.2.2.2.2.2) (λd=>KC (aBL N d.1 d.2.1 d.2.2.1 d.2.2.2.1 d.2.2.2.2.1 d.2.2.2.2.2) (SN N d.1 d.2.1 d.2.2.1 d.2.2.2.1 d.2.2.2.2.1 d.2.2.2.2.2) (SM N d.1 d.2.1 d.2.2.1 d.2.2.2.1 d.2.2.2.2.1 d.2.2.2.2.2))
theorem aBM N:aM Tryz.prog 99 (SR N):=eO aNR (λd h=>cY (z:=C1 N d.1 d.2.1 d.2.2.1 d.2.2.2.1 d.2.2.2.2.1 d.2.2.2.2.2) h (aNT (aNU N)) rfl)
def zU(a0 a1:Int)(a2:UInt8):aE:=(.e (.i .i64) a0,[(50,.box 3 [.e (.i .i64) a1]),(51,.box 5 [.e .u8 a2])])
def tF(N:Nat):Cx:=⟨Tryz.prog,25,[(99,SR N)],[]⟩
def SV:Code:=Tryz.f98.body.getD .skip
theorem aN8 N:aF (tF N):=bY (by kernel_rfl) (.cons (by kernel_rfl) (aBM N) .nil) .nil
def C3[aA](N:Nat)(self:Int->Int->UInt8->O)(k0:Int->Int->UInt8->O)(k1:Int->UInt8->O)(x0_0:(List (Int×(Int×(Int×UInt8)))))(x0_1 x0_2 x0_3:Int)(x0_4:UInt8):O:=
 br (decide (x0_2<x0_1))
  (gx x0_0 x0_2 λy3=>
  ck (SP N y3.1 y3.2.1 y3.2.2.1 y3.2.2.2 x0_3 x0_4)<|
  br (aBL N y3.1 y3.2.1 y3.2.2.1 y3.2.2.2 x0_3 x0_4)
   (k0 x0_2 (SN N y3.1 y3.2.1 y3.2.2.1 y3.2.2.2 x0_3 x0_4) (SM N y3.1 y3.2.1 y3.2.2.1 y3.2.2.2 x0_3 x0_4))
   (self (aC.wrap (x0_2+1)) (SN N y3.1 y3.2.1 y3.2.2.1 y3.2.2.2 x0_3 x0_4) (SM N y3.1 y3.2.1 y3.2.2.1 y3.2.2.2 x0_3 x0_4)))
  (k1 x0_3 x0_4)
def SU:Code:=cK [1,0,1,0,0] SV
def aBS:Nm:=⟨[0,1,7,8],[],[]⟩
def zV(x:(List (Int×(Int×(Int×UInt8))))×Int×Int×Int×UInt8):Sg:=⟨[(0,.e (.sl (.pr (.i .i64) (.pr (.i .i64) (.pr (.i .i64) .u8)))) x.1),(1,.fn 99 [.ref 50 0,.ref 51 0]),(7,.e (.i .i64) x.2.1),(8,.e (.i .i64) x.2.2.1)],[(50,.box 3 [.e (.i .i64) x.2.2.2.1]),(51,.box 5 [.e .u8 x.2.2.2.2])],100⟩
def KF(σ:Sg):(List (Int×(Int×(Int×UInt8))))×Int×Int×Int×UInt8:=(aO (.sl (.pr (.i .i64) (.pr (.i .i64) (.pr (.i .i64) .u8)))) 0 0 σ,aO (.i .i64) 7 0 σ,aO (.i .i64) 8 0 σ,aL (.i .i64) 50 0 σ,aL .u8 51 0 σ)
theorem aN0:∀x,KF (zV x)=x:=λ_=>by kernel_rfl
def KH(y:Int×Int×UInt8):Exit×Sg:=(.ret,⟨[(4,.e (.i .i64) y.1)],[(50,.box 3 [.e (.i .i64) y.2.1]),(51,.box 5 [.e .u8 y.2.2])],100⟩)
def aNY(_:Exit)(σ:Sg):Int×Int×UInt8:=(aO (.i .i64) 4 0 σ,aL (.i .i64) 50 0 σ,aL .u8 51 0 σ)
def KG(y:Int×UInt8):Exit×Sg:=((.exit 0),⟨[],[(50,.box 3 [.e (.i .i64) y.1]),(51,.box 5 [.e .u8 y.2])],100⟩)
def aNX(_:Exit)(σ:Sg):Int×UInt8:=(aL (.i .i64) 50 0 σ,aL .u8 51 0 σ)
def aNW:List (Exit×Nm):=[(.ret,⟨[4],[],[]⟩),((.exit 0),⟨[],[],[]⟩)]
def wG[aA](N:Nat):Nat->((List (Int×(Int×(Int×UInt8))))×Int×Int×Int×UInt8)->((Int×Int×UInt8)->O)->((Int×UInt8)->O)->((Unit)->O)->O
 |0,_,_,_,_=>none
 |n+1,x,k0,k1,k2=>C3 N (λv0 v1 v2=>wG N n (x.1,x.2.1,v0,v1,v2) k0 k1 k2) (λy0 y1 y2=>k0 (y0,y1,y2)) (λy0 y1=>k1 (y0,y1)) x.1 x.2.1 x.2.2.1 x.2.2.2.1 x.2.2.2.2
def aBR[aA] N a0 a1 a2 a3 a4 (k0:Int->Int->UInt8->O) (k1:Int->UInt8->O):=wG N N (a0,a1,a2,a3,a4) (λy=>k0 y.1 y.2.1 y.2.2) (λy=>k1 y.1 y.2) (λ_=>none)
def aBQ[aA] N a0 a1 a2 a3 a4 (k0:Int->Int->UInt8->O) (k1:Int->UInt8->O):=aY zV KF (wG N N) (zV (a0,a1,a2,a3,a4)) (λy=>k0 y.1 y.2.1 y.2.2) (λy=>k1 y.1 y.2) (λ_=>none)
theorem aN7[aA] N:aBQ N=aBR N:=funext λ_=>funext λ_=>funext λ_=>funext λ_=>funext λ_=>funext λ_=>funext λ_=>cW aN0 _ _ _ _
theorem aN1[aA](N:Nat)(self:Sg->O)(K:Exit->Sg->O)(x:(List (Int×(Int×(Int×UInt8))))×Int×Int×Int×UInt8):C3 N (λv0 v1 v2=>self (zV (x.1,x.2.1,v0,v1,v2))) (λy0 y1 y2=>K (KH (y0,y1,y2)).1 (KH (y0,y1,y2)).2) (λy0 y1=>K (KG (y0,y1)).1 (KG (y0,y1)).2) x.1 x.2.1 x.2.2.1 x.2.2.2.1 x.2.2.2.2=exec (tF N) Tryz.f98.ntmps .d SU (zV x) (eN aBS aNW self K):=by kernel_rfl
theorem aN9 N (hc:aF (tF N)):cN (tF N) Tryz.f98.ntmps (.loop SU) KH KG (aW 2) (aY zV KF (wG N N)):=
 eV hc (cO SU) (iS aNY aNX .ret (.exit 0) (λ_=>by kernel_rfl) (λ_=>by kernel_rfl) (λ_=>rfl) (λ_=>rfl) (by kernel_rfl)) (n:=N) (λx K=>eW (wG N) (λ_ _ _ _=>rfl) (λn K ih x=>by
  refine fK ?_ (aN1 N _ K x);simp only[<-ih];rfl) N x K)
def aBX[aA](_:Nat)(in0:(List (Int×(Int×(Int×UInt8))))->Int->Int->Int->UInt8->(Int->Int->UInt8->O)->(Int->UInt8->O)->O)(s0:(List (Int×(Int×(Int×UInt8)))))(g0:Int)(k510:UInt8):O:=
 in0 s0 ((↑s0.length:Int)) 0 g0 k510
  (λz4 z5 z6=>
   some (zU z4 z5 z6))
  (λz7 z8=>
   some (zU ((-1:Int)) z7 z8))
def w98[aA] N s0 g0 k510:=aBX N (aBR N) s0 g0 k510
def aBT[aA](N:Nat):Hint:=(.seq .d (.seq (.seq .d (.block (.sub aBS _ _ _ KH KG (aW 2) (aY zV KF (wG N N))))) .d))
theorem aN5 N (hc:aF (tF N)):bJ (tF N) Tryz.f98.ntmps (aBT N) SV:=bO _ _ (aG trivial (aG (aG trivial (aN9 N hc)) trivial))
theorem aN2[aA] N s0 g0 k510:aBX N (aBQ N) s0 g0 k510=exec (tF N) Tryz.f98.ntmps (aBT N) SV ⟨bU 0 [.e (.sl (.pr (.i .i64) (.pr (.i .i64) (.pr (.i .i64) .u8)))) s0,.fn 99 [.ref 50 0,.ref 51 0]],[(50,.box 3 [.e (.i .i64) g0]),(51,.box 5 [.e .u8 k510])],100⟩ (bX (tF N) Tryz.f98 true):=by kernel_rfl
def KE(r:aE):Option (Int×Int×UInt8):=match r with
 |(x0,[(50,.box 3 [x1]),(51,.box 5 [x2])])=>(match ue (.i .i64) x0,ue (.i .i64) x1,ue .u8 x2 with|some a0,some a1,some a2=>some (a0,a1,a2)|_,_,_=>none)
 |_=>none
theorem aNZ{r d}(h:KE r=some d):r=zU d.1 d.2.1 d.2.2:=by
 unfold KE at h;split at h
 .split at h
  .rename_i h0 h1 h2;cases h;rw[aH h0,aH h1,aH h2];rfl
  .cases h
 .cases h
def zT N s0 g0 k510:=(w98 N s0 g0 k510).bind KE
theorem aN6{N}(hc:aF (tF N)){s0 g0 k510 d}(hd:zT N s0 g0 k510=some d):cB Tryz.prog 98 [.e (.sl (.pr (.i .i64) (.pr (.i .i64) (.pr (.i .i64) .u8)))) s0,.fn 99 [.ref 50 0,.ref 51 0]] [(50,.box 3 [.e (.i .i64) g0]),(51,.box 5 [.e .u8 k510])] (zU d.1 d.2.1 d.2.2):=
 cD hc (by kernel_rfl) (by kernel_rfl) (aN5 N hc) (by kernel_rfl) aNZ (λhr=>(aN2 N s0 g0 k510).symm.trans (by rw[aN7 N];exact hr)) hd
def C2 N s0 g0 k510:=(zT N s0 g0 k510).isSome
def wF N s0 g0 k510:=((zT N s0 g0 k510).getD (0,0,0)).1
def jO N s0 g0 k510:=((zT N s0 g0 k510).getD (0,0,0)).2.1
def KD N s0 g0 k510:=((zT N s0 g0 k510).getD (0,0,0)).2.2
def SS(xs:List X)(H:XH):Option ((List (Int×(Int×(Int×UInt8))))×Int×UInt8):=match xs,H with
 |[x0,.fn 99 [.ref 50 0,.ref 51 0]],[(50,.box 3 [x1]),(51,.box 5 [x2])]=>(match ue (.sl (.pr (.i .i64) (.pr (.i .i64) (.pr (.i .i64) .u8)))) x0,ue (.i .i64) x1,ue .u8 x2 with|some a0,some a1,some a2=>some (a0,a1,a2)|_,_,_=>none)
 |_,_=>none
theorem aN4{xs H d}(h:SS xs H=some d):xs=[.e (.sl (.pr (.i .i64) (.pr (.i .i64) (.pr (.i .i64) .u8)))) d.1,.fn 99 [.ref 50 0,.ref 51 0]]/\H=[(50,.box 3 [.e (.i .i64) d.2.1]),(51,.box 5 [.e .u8 d.2.2])]:=by
 unfold SS at h;split at h
 .split at h
  .rename_i h0 h1 h2;cases h;rw[aH h0,aH h1,aH h2];exact⟨rfl,rfl⟩
  .cases h
 .cases h
def aBU(N:Nat):bK:=fD SS (λd=>C2 N d.1 d.2.1 d.2.2) (λd=>zU (wF N d.1 d.2.1 d.2.2) (jO N d.1 d.2.1 d.2.2) (KD N d.1 d.2.1 d.2.2))
theorem aN3 N:aM Tryz.prog 98 (aBU N):=eO aN4 (λd h=>cY (z:=zT N d.1 d.2.1 d.2.2) h (aN6 (aN8 N)) rfl)
def xR(a0 a1:Int)(a2:(List Ex))(a3:bA)(a4:Int):aE:=(.agg [.e (.i .i64) a0,.e (.i .i64) a1,.e (.sl .ex) a2],[(50,.box 100 [.e .tx a3,.e (.i .i64) a4])])
def qJ(a0:Int)(a1:bA)(a2:Int):aE:=(.dY (.iface 96 (.int .i64 a0)),[(50,.box 100 [.e .tx a1,.e (.i .i64) a2])])
def Xo(xs:List X)(H:XH):Option (bA×Int):=match xs,H with
 |[.ref 50 0],[(50,.box 100 [x0,x1])]=>(match ue .tx x0,ue (.i .i64) x1 with|some a0,some a1=>some (a0,a1)|_,_=>none)
 |_,_=>none
theorem aJN{xs H d}(h:Xo xs H=some d):xs=[.ref 50 0]/\H=[(50,.box 100 [.e .tx d.1,.e (.i .i64) d.2])]:=by
 unfold Xo at h;split at h
 .split at h
  .rename_i h0 h1;cases h;rw[aH h0,aH h1];exact⟨rfl,rfl⟩
  .cases h
 .cases h
abbrev j3:=Nat×((bA->Int->Option ((Int×Int×(List Ex)×bA×Int) ⊕ (Int×bA×Int)))×(bA->Int->Option ((Int×Int×(List Ex)×bA×Int) ⊕ (Int×bA×Int)))×(Int->bA->Int->Option ((Int×Int×(List Ex)×bA×Int) ⊕ (Int×bA×Int))))
def Bg(N:j3):kT:=vM Xo (λd=>(N.2.1 d.1 d.2).isSome) (λd=>some (kM (N.2.1 d.1 d.2))) (λd=>xR ((aV (0,0,[],[],0) (N.2.1 d.1 d.2)).1) ((aV (0,0,[],[],0) (N.2.1 d.1 d.2)).2.1) ((aV (0,0,[],[],0) (N.2.1 d.1 d.2)).2.2.1) ((aV (0,0,[],[],0) (N.2.1 d.1 d.2)).2.2.2.1) ((aV (0,0,[],[],0) (N.2.1 d.1 d.2)).2.2.2.2)) (λd=>qJ ((dF (0,[],0) (N.2.1 d.1 d.2)).1) ((dF (0,[],0) (N.2.1 d.1 d.2)).2.1) ((dF (0,[],0) (N.2.1 d.1 d.2)).2.2))
def zX(a0 a1:Int)(a2:(List Ex))(a3:bA)(a4:Int):aE:=(.agg [.e (.i .i64) a0,.e (.i .i64) a1,.e (.sl .ex) a2],[(50,.box 100 [.e .tx a3,.e (.i .i64) a4])])
def zW(a0:Int)(a1:bA)(a2:Int):aE:=(.dY (.iface 96 (.int .i64 a0)),[(50,.box 100 [.e .tx a1,.e (.i .i64) a2])])
def SW(xs:List X)(H:XH):Option (bA×Int):=match xs,H with
 |[.ref 50 0],[(50,.box 100 [x0,x1])]=>(match ue .tx x0,ue (.i .i64) x1 with|some a0,some a1=>some (a0,a1)|_,_=>none)
 |_,_=>none
theorem aBY{xs H d}(h:SW xs H=some d):xs=[.ref 50 0]/\H=[(50,.box 100 [.e .tx d.1,.e (.i .i64) d.2])]:=by
 unfold SW at h;split at h
 .split at h
  .rename_i h0 h1;cases h;rw[aH h0,aH h1];exact⟨rfl,rfl⟩
  .cases h
 .cases h
def zZ(N:j3):kT:=vM SW (λd=>(N.2.2.1 d.1 d.2).isSome) (λd=>some (kM (N.2.2.1 d.1 d.2))) (λd=>zX ((aV (0,0,[],[],0) (N.2.2.1 d.1 d.2)).1) ((aV (0,0,[],[],0) (N.2.2.1 d.1 d.2)).2.1) ((aV (0,0,[],[],0) (N.2.2.1 d.1 d.2)).2.2.1) ((aV (0,0,[],[],0) (N.2.2.1 d.1 d.2)).2.2.2.1) ((aV (0,0,[],[],0) (N.2.2.1 d.1 d.2)).2.2.2.2)) (λd=>zW ((dF (0,[],0) (N.2.2.1 d.1 d.2)).1) ((dF (0,[],0) (N.2.2.1 d.1 d.2)).2.1) ((dF (0,[],0) (N.2.2.1 d.1 d.2)).2.2))
def AP(a0 a1:Int)(a2:(List Ex))(a3:bA)(a4:Int):aE:=(.agg [.e (.i .i64) a0,.e (.i .i64) a1,.e (.sl .ex) a2],[(50,.box 100 [.e .tx a3,.e (.i .i64) a4])])
def wN(a0:Int)(a1:bA)(a2:Int):aE:=(.dY (.iface 96 (.int .i64 a0)),[(50,.box 100 [.e .tx a1,.e (.i .i64) a2])])
def LO(xs:List X)(H:XH):Option (Int×bA×Int):=match xs,H with
 |[.ref 50 0,x0],[(50,.box 100 [x1,x2])]=>(match ue (.i .i64) x0,ue .tx x1,ue (.i .i64) x2 with|some a0,some a1,some a2=>some (a0,a1,a2)|_,_,_=>none)
 |_,_=>none
theorem aCv{xs H d}(h:LO xs H=some d):xs=[.ref 50 0,.e (.i .i64) d.1]/\H=[(50,.box 100 [.e .tx d.2.1,.e (.i .i64) d.2.2])]:=by
 unfold LO at h;split at h
 .split at h
  .rename_i h0 h1 h2;cases h;rw[aH h0,aH h1,aH h2];exact⟨rfl,rfl⟩
  .cases h
 .cases h
def AR(N:j3):kT:=vM LO (λd=>(N.2.2.2 d.1 d.2.1 d.2.2).isSome) (λd=>some (kM (N.2.2.2 d.1 d.2.1 d.2.2))) (λd=>AP ((aV (0,0,[],[],0) (N.2.2.2 d.1 d.2.1 d.2.2)).1) ((aV (0,0,[],[],0) (N.2.2.2 d.1 d.2.1 d.2.2)).2.1) ((aV (0,0,[],[],0) (N.2.2.2 d.1 d.2.1 d.2.2)).2.2.1) ((aV (0,0,[],[],0) (N.2.2.2 d.1 d.2.1 d.2.2)).2.2.2.1) ((aV (0,0,[],[],0) (N.2.2.2 d.1 d.2.1 d.2.2)).2.2.2.2)) (λd=>wN ((dF (0,[],0) (N.2.2.2 d.1 d.2.1 d.2.2)).1) ((dF (0,[],0) (N.2.2.2 d.1 d.2.1 d.2.2)).2.1) ((dF (0,[],0) (N.2.2.2 d.1 d.2.1 d.2.2)).2.2))
def Bf(N:j3):Cx:=⟨Tryz.prog,25,[(77,Cr N.1)],[(106,Bg N),(97,zZ N),(76,AR N),(110,aJB N.1),(111,aIs N.1)]⟩
def Xp:Code:=Tryz.f106.body.getD .skip
theorem aJR N (hw107:kA Tryz.prog 106 (Bg N)) (hw85:kA Tryz.prog 97 (zZ N)) (hw53:kA Tryz.prog 76 (AR N)):aF (Bf N):=bY (by kernel_rfl) (.cons (by kernel_rfl) (GX N.1) .nil) (.cons (by kernel_rfl) hw107 (.cons (by kernel_rfl) hw85 (.cons (by kernel_rfl) hw53 (.cons (by kernel_rfl) (a2g N.1) (.cons (by kernel_rfl) (a2V N.1) .nil)))))
def l6[aA](N:j3)(g0:bA)(g1:Int):O:=
 ck (qB N.1 g0 g1)<|
 br (decide ((48:UInt8)<=eQ N.1 g0 g1)&&decide (eQ N.1 g0 g1<=(57:UInt8)))
  (ck (E8 N.1 (aP N.1 g0 g1) (aN N.1 g0 g1))<|
  br (Eb N.1 (aP N.1 g0 g1) (aN N.1 g0 g1))
   (some (xR ((X7 N.1 (aP N.1 g0 g1) (aN N.1 g0 g1))) ((X6 N.1 (aP N.1 g0 g1) (aN N.1 g0 g1))) ((X5 N.1 (aP N.1 g0 g1) (aN N.1 g0 g1))) (X4 N.1 (aP N.1 g0 g1) (aN N.1 g0 g1)) (X3 N.1 (aP N.1 g0 g1) (aN N.1 g0 g1))))
   (some (qJ (Xa N.1 (aP N.1 g0 g1) (aN N.1 g0 g1)) (X9 N.1 (aP N.1 g0 g1) (aN N.1 g0 g1)) (X8 N.1 (aP N.1 g0 g1) (aN N.1 g0 g1)))))
  (br (decide ((97:UInt8)<=eQ N.1 g0 g1)&&decide (eQ N.1 g0 g1<=(122:UInt8)))
   (some (xR 1 ((aC.wrap (↑(eQ N.1 g0 g1-(97:UInt8)).toNat:Int))) ([]) (aP N.1 g0 g1) (aC.wrap (aN N.1 g0 g1+(1:Int)))))
   (br (decide (eQ N.1 g0 g1=(82:UInt8)))
    (ck (B7 N.1 (40:UInt8) (aP N.1 g0 g1) (aC.wrap (aN N.1 g0 g1+(1:Int))))<|
    br (uU N.1 (40:UInt8) (aP N.1 g0 g1) (aC.wrap (aN N.1 g0 g1+(1:Int))))
     (ck ((N.snd.snd.2 (1:Int) (dM N.1 (40:UInt8) (aP N.1 g0 g1) (aC.wrap (aN N.1 g0 g1+(1:Int)))) (dL N.1 (40:UInt8) (aP N.1 g0 g1) (aC.wrap (aN N.1 g0 g1+(1:Int))))).isSome)<|
     br (kM (N.snd.snd.2 (1:Int) (dM N.1 (40:UInt8) (aP N.1 g0 g1) (aC.wrap (aN N.1 g0 g1+(1:Int)))) (dL N.1 (40:UInt8) (aP N.1 g0 g1) (aC.wrap (aN N.1 g0 g1+(1:Int))))))
      (ck (B7 N.1 (41:UInt8) (aV ((0:Int),(0:Int),[],[],(0:Int)) (N.snd.snd.2 (1:Int) (dM N.1 (40:UInt8) (aP N.1 g0 g1) (aC.wrap (aN N.1 g0 g1+(1:Int)))) (dL N.1 (40:UInt8) (aP N.1 g0 g1) (aC.wrap (aN N.1 g0 g1+(1:Int)))))).2.2.2.1 (aV ((0:Int),(0:Int),[],[],(0:Int)) (N.snd.snd.2 (1:Int) (dM N.1 (40:UInt8) (aP N.1 g0 g1) (aC.wrap (aN N.1 g0 g1+(1:Int)))) (dL N.1 (40:UInt8) (aP N.1 g0 g1) (aC.wrap (aN N.1 g0 g1+(1:Int)))))).2.2.2.2)<|
      br (uU N.1 (41:UInt8) (aV ((0:Int),(0:Int),[],[],(0:Int)) (N.snd.snd.2 (1:Int) (dM N.1 (40:UInt8) (aP N.1 g0 g1) (aC.wrap (aN N.1 g0 g1+(1:Int)))) (dL N.1 (40:UInt8) (aP N.1 g0 g1) (aC.wrap (aN N.1 g0 g1+(1:Int)))))).2.2.2.1 (aV ((0:Int),(0:Int),[],[],(0:Int)) (N.snd.snd.2 (1:Int) (dM N.1 (40:UInt8) (aP N.1 g0 g1) (aC.wrap (aN N.1 g0 g1+(1:Int)))) (dL N.1 (40:UInt8) (aP N.1 g0 g1) (aC.wrap (aN N.1 g0 g1+(1:Int)))))).2.2.2.2)
       (some (xR 8 0 ([Ex.mk (aV ((0:Int),(0:Int),[],[],(0:Int)) (N.snd.snd.2 (1:Int) (dM N.1 (40:UInt8) (aP N.1 g0 g1) (aC.wrap (aN N.1 g0 g1+(1:Int)))) (dL N.1 (40:UInt8) (aP N.1 g0 g1) (aC.wrap (aN N.1 g0 g1+(1:Int)))))).1 (aV ((0:Int),(0:Int),[],[],(0:Int)) (N.snd.snd.2 (1:Int) (dM N.1 (40:UInt8) (aP N.1 g0 g1) (aC.wrap (aN N.1 g0 g1+(1:Int)))) (dL N.1 (40:UInt8) (aP N.1 g0 g1) (aC.wrap (aN N.1 g0 g1+(1:Int)))))).2.1 (aV ((0:Int),(0:Int),[],[],(0:Int)) (N.snd.snd.2 (1:Int) (dM N.1 (40:UInt8) (aP N.1 g0 g1) (aC.wrap (aN N.1 g0 g1+(1:Int)))) (dL N.1 (40:UInt8) (aP N.1 g0 g1) (aC.wrap (aN N.1 g0 g1+(1:Int)))))).2.2.1]) (dM N.1 (41:UInt8) (aV ((0:Int),(0:Int),[],[],(0:Int)) (N.snd.snd.2 (1:Int) (dM N.1 (40:UInt8) (aP N.1 g0 g1) (aC.wrap (aN N.1 g0 g1+(1:Int)))) (dL N.1 (40:UInt8) (aP N.1 g0 g1) (aC.wrap (aN N.1 g0 g1+(1:Int)))))).2.2.2.1 (aV ((0:Int),(0:Int),[],[],(0:Int)) (N.snd.snd.2 (1:Int) (dM N.1 (40:UInt8) (aP N.1 g0 g1) (aC.wrap (aN N.1 g0 g1+(1:Int)))) (dL N.1 (40:UInt8) (aP N.1 g0 g1) (aC.wrap (aN N.1 g0 g1+(1:Int)))))).2.2.2.2) (dL N.1 (41:UInt8) (aV ((0:Int),(0:Int),[],[],(0:Int)) (N.snd.snd.2 (1:Int) (dM N.1 (40:UInt8) (aP N.1 g0 g1) (aC.wrap (aN N.1 g0 g1+(1:Int)))) (dL N.1 (40:UInt8) (aP N.1 g0 g1) (aC.wrap (aN N.1 g0 g1+(1:Int)))))).2.2.2.1 (aV ((0:Int),(0:Int),[],[],(0:Int)) (N.snd.snd.2 (1:Int) (dM N.1 (40:UInt8) (aP N.1 g0 g1) (aC.wrap (aN N.1 g0 g1+(1:Int)))) (dL N.1 (40:UInt8) (aP N.1 g0 g1) (aC.wrap (aN N.1 g0 g1+(1:Int)))))).2.2.2.2)))
       (some (qJ (B6 N.1 (41:UInt8) (aV ((0:Int),(0:Int),[],[],(0:Int)) (N.snd.snd.2 (1:Int) (dM N.1 (40:UInt8) (aP N.1 g0 g1) (aC.wrap (aN N.1 g0 g1+(1:Int)))) (dL N.1 (40:UInt8) (aP N.1 g0 g1) (aC.wrap (aN N.1 g0 g1+(1:Int)))))).2.2.2.1 (aV ((0:Int),(0:Int),[],[],(0:Int)) (N.snd.snd.2 (1:Int) (dM N.1 (40:UInt8) (aP N.1 g0 g1) (aC.wrap (aN N.1 g0 g1+(1:Int)))) (dL N.1 (40:UInt8) (aP N.1 g0 g1) (aC.wrap (aN N.1 g0 g1+(1:Int)))))).2.2.2.2) (B5 N.1 (41:UInt8) (aV ((0:Int),(0:Int),[],[],(0:Int)) (N.snd.snd.2 (1:Int) (dM N.1 (40:UInt8) (aP N.1 g0 g1) (aC.wrap (aN N.1 g0 g1+(1:Int)))) (dL N.1 (40:UInt8) (aP N.1 g0 g1) (aC.wrap (aN N.1 g0 g1+(1:Int)))))).2.2.2.1 (aV ((0:Int),(0:Int),[],[],(0:Int)) (N.snd.snd.2 (1:Int) (dM N.1 (40:UInt8) (aP N.1 g0 g1) (aC.wrap (aN N.1 g0 g1+(1:Int)))) (dL N.1 (40:UInt8) (aP N.1 g0 g1) (aC.wrap (aN N.1 g0 g1+(1:Int)))))).2.2.2.2) (B4 N.1 (41:UInt8) (aV ((0:Int),(0:Int),[],[],(0:Int)) (N.snd.snd.2 (1:Int) (dM N.1 (40:UInt8) (aP N.1 g0 g1) (aC.wrap (aN N.1 g0 g1+(1:Int)))) (dL N.1 (40:UInt8) (aP N.1 g0 g1) (aC.wrap (aN N.1 g0 g1+(1:Int)))))).2.2.2.1 (aV ((0:Int),(0:Int),[],[],(0:Int)) (N.snd.snd.2 (1:Int) (dM N.1 (40:UInt8) (aP N.1 g0 g1) (aC.wrap (aN N.1 g0 g1+(1:Int)))) (dL N.1 (40:UInt8) (aP N.1 g0 g1) (aC.wrap (aN N.1 g0 g1+(1:Int)))))).2.2.2.2))))
      (some (qJ ((dF ((0:Int),[],(0:Int)) (N.snd.snd.2 (1:Int) (dM N.1 (40:UInt8) (aP N.1 g0 g1) (aC.wrap (aN N.1 g0 g1+(1:Int)))) (dL N.1 (40:UInt8) (aP N.1 g0 g1) (aC.wrap (aN N.1 g0 g1+(1:Int)))))).1) ((dF ((0:Int),[],(0:Int)) (N.snd.snd.2 (1:Int) (dM N.1 (40:UInt8) (aP N.1 g0 g1) (aC.wrap (aN N.1 g0 g1+(1:Int)))) (dL N.1 (40:UInt8) (aP N.1 g0 g1) (aC.wrap (aN N.1 g0 g1+(1:Int)))))).2.1) ((dF ((0:Int),[],(0:Int)) (N.snd.snd.2 (1:Int) (dM N.1 (40:UInt8) (aP N.1 g0 g1) (aC.wrap (aN N.1 g0 g1+(1:Int)))) (dL N.1 (40:UInt8) (aP N.1 g0 g1) (aC.wrap (aN N.1 g0 g1+(1:Int)))))).2.2))))
     (some (qJ (B6 N.1 (40:UInt8) (aP N.1 g0 g1) (aC.wrap (aN N.1 g0 g1+(1:Int)))) (B5 N.1 (40:UInt8) (aP N.1 g0 g1) (aC.wrap (aN N.1 g0 g1+(1:Int)))) (B4 N.1 (40:UInt8) (aP N.1 g0 g1) (aC.wrap (aN N.1 g0 g1+(1:Int)))))))
    (ck (B7 N.1 (40:UInt8) (aP N.1 g0 g1) (aN N.1 g0 g1))<|
    br (uU N.1 (40:UInt8) (aP N.1 g0 g1) (aN N.1 g0 g1))
     (ck ((N.snd.snd.2 (1:Int) (dM N.1 (40:UInt8) (aP N.1 g0 g1) (aN N.1 g0 g1)) (dL N.1 (40:UInt8) (aP N.1 g0 g1) (aN N.1 g0 g1))).isSome)<|
     br (kM (N.snd.snd.2 (1:Int) (dM N.1 (40:UInt8) (aP N.1 g0 g1) (aN N.1 g0 g1)) (dL N.1 (40:UInt8) (aP N.1 g0 g1) (aN N.1 g0 g1))))
      (ck (B7 N.1 (41:UInt8) (aV ((0:Int),(0:Int),[],[],(0:Int)) (N.snd.snd.2 (1:Int) (dM N.1 (40:UInt8) (aP N.1 g0 g1) (aN N.1 g0 g1)) (dL N.1 (40:UInt8) (aP N.1 g0 g1) (aN N.1 g0 g1)))).2.2.2.1 (aV ((0:Int),(0:Int),[],[],(0:Int)) (N.snd.snd.2 (1:Int) (dM N.1 (40:UInt8) (aP N.1 g0 g1) (aN N.1 g0 g1)) (dL N.1 (40:UInt8) (aP N.1 g0 g1) (aN N.1 g0 g1)))).2.2.2.2)<|
      br (uU N.1 (41:UInt8) (aV ((0:Int),(0:Int),[],[],(0:Int)) (N.snd.snd.2 (1:Int) (dM N.1 (40:UInt8) (aP N.1 g0 g1) (aN N.1 g0 g1)) (dL N.1 (40:UInt8) (aP N.1 g0 g1) (aN N.1 g0 g1)))).2.2.2.1 (aV ((0:Int),(0:Int),[],[],(0:Int)) (N.snd.snd.2 (1:Int) (dM N.1 (40:UInt8) (aP N.1 g0 g1) (aN N.1 g0 g1)) (dL N.1 (40:UInt8) (aP N.1 g0 g1) (aN N.1 g0 g1)))).2.2.2.2)
       (some (xR ((aV ((0:Int),(0:Int),[],[],(0:Int)) (N.snd.snd.2 (1:Int) (dM N.1 (40:UInt8) (aP N.1 g0 g1) (aN N.1 g0 g1)) (dL N.1 (40:UInt8) (aP N.1 g0 g1) (aN N.1 g0 g1)))).1) ((aV ((0:Int),(0:Int),[],[],(0:Int)) (N.snd.snd.2 (1:Int) (dM N.1 (40:UInt8) (aP N.1 g0 g1) (aN N.1 g0 g1)) (dL N.1 (40:UInt8) (aP N.1 g0 g1) (aN N.1 g0 g1)))).2.1) ((aV ((0:Int),(0:Int),[],[],(0:Int)) (N.snd.snd.2 (1:Int) (dM N.1 (40:UInt8) (aP N.1 g0 g1) (aN N.1 g0 g1)) (dL N.1 (40:UInt8) (aP N.1 g0 g1) (aN N.1 g0 g1)))).2.2.1) (dM N.1 (41:UInt8) (aV ((0:Int),(0:Int),[],[],(0:Int)) (N.snd.snd.2 (1:Int) (dM N.1 (40:UInt8) (aP N.1 g0 g1) (aN N.1 g0 g1)) (dL N.1 (40:UInt8) (aP N.1 g0 g1) (aN N.1 g0 g1)))).2.2.2.1 (aV ((0:Int),(0:Int),[],[],(0:Int)) (N.snd.snd.2 (1:Int) (dM N.1 (40:UInt8) (aP N.1 g0 g1) (aN N.1 g0 g1)) (dL N.1 (40:UInt8) (aP N.1 g0 g1) (aN N.1 g0 g1)))).2.2.2.2) (dL N.1 (41:UInt8) (aV ((0:Int),(0:Int),[],[],(0:Int)) (N.snd.snd.2 (1:Int) (dM N.1 (40:UInt8) (aP N.1 g0 g1) (aN N.1 g0 g1)) (dL N.1 (40:UInt8) (aP N.1 g0 g1) (aN N.1 g0 g1)))).2.2.2.1 (aV ((0:Int),(0:Int),[],[],(0:Int)) (N.snd.snd.2 (1:Int) (dM N.1 (40:UInt8) (aP N.1 g0 g1) (aN N.1 g0 g1)) (dL N.1 (40:UInt8) (aP N.1 g0 g1) (aN N.1 g0 g1)))).2.2.2.2)))
       (some (qJ (B6 N.1 (41:UInt8) (aV ((0:Int),(0:Int),[],[],(0:Int)) (N.snd.snd.2 (1:Int) (dM N.1 (40:UInt8) (aP N.1 g0 g1) (aN N.1 g0 g1)) (dL N.1 (40:UInt8) (aP N.1 g0 g1) (aN N.1 g0 g1)))).2.2.2.1 (aV ((0:Int),(0:Int),[],[],(0:Int)) (N.snd.snd.2 (1:Int) (dM N.1 (40:UInt8) (aP N.1 g0 g1) (aN N.1 g0 g1)) (dL N.1 (40:UInt8) (aP N.1 g0 g1) (aN N.1 g0 g1)))).2.2.2.2) (B5 N.1 (41:UInt8) (aV ((0:Int),(0:Int),[],[],(0:Int)) (N.snd.snd.2 (1:Int) (dM N.1 (40:UInt8) (aP N.1 g0 g1) (aN N.1 g0 g1)) (dL N.1 (40:UInt8) (aP N.1 g0 g1) (aN N.1 g0 g1)))).2.2.2.1 (aV ((0:Int),(0:Int),[],[],(0:Int)) (N.snd.snd.2 (1:Int) (dM N.1 (40:UInt8) (aP N.1 g0 g1) (aN N.1 g0 g1)) (dL N.1 (40:UInt8) (aP N.1 g0 g1) (aN N.1 g0 g1)))).2.2.2.2) (B4 N.1 (41:UInt8) (aV ((0:Int),(0:Int),[],[],(0:Int)) (N.snd.snd.2 (1:Int) (dM N.1 (40:UInt8) (aP N.1 g0 g1) (aN N.1 g0 g1)) (dL N.1 (40:UInt8) (aP N.1 g0 g1) (aN N.1 g0 g1)))).2.2.2.1 (aV ((0:Int),(0:Int),[],[],(0:Int)) (N.snd.snd.2 (1:Int) (dM N.1 (40:UInt8) (aP N.1 g0 g1) (aN N.1 g0 g1)) (dL N.1 (40:UInt8) (aP N.1 g0 g1) (aN N.1 g0 g1)))).2.2.2.2))))
      (some (qJ ((dF ((0:Int),[],(0:Int)) (N.snd.snd.2 (1:Int) (dM N.1 (40:UInt8) (aP N.1 g0 g1) (aN N.1 g0 g1)) (dL N.1 (40:UInt8) (aP N.1 g0 g1) (aN N.1 g0 g1)))).1) ((dF ((0:Int),[],(0:Int)) (N.snd.snd.2 (1:Int) (dM N.1 (40:UInt8) (aP N.1 g0 g1) (aN N.1 g0 g1)) (dL N.1 (40:UInt8) (aP N.1 g0 g1) (aN N.1 g0 g1)))).2.1) ((dF ((0:Int),[],(0:Int)) (N.snd.snd.2 (1:Int) (dM N.1 (40:UInt8) (aP N.1 g0 g1) (aN N.1 g0 g1)) (dL N.1 (40:UInt8) (aP N.1 g0 g1) (aN N.1 g0 g1)))).2.2))))
     (some (qJ (B6 N.1 (40:UInt8) (aP N.1 g0 g1) (aN N.1 g0 g1)) (B5 N.1 (40:UInt8) (aP N.1 g0 g1) (aN N.1 g0 g1)) (B4 N.1 (40:UInt8) (aP N.1 g0 g1) (aN N.1 g0 g1)))))))
def aJS[aA] N g0 g1:=l6 N g0 g1
def aJO[aA](_:j3):Hint:=.d
theorem a3J N:bJ (Bf N) Tryz.f106.ntmps (aJO N) Xp:=bO _ _ trivial
theorem a3I[aA] N g0 g1:l6 N g0 g1=exec (Bf N) Tryz.f106.ntmps (aJO N) Xp ⟨bU 0 [.ref 50 0],[(50,.box 100 [.e .tx g0,.e (.i .i64) g1])],100⟩ (bX (Bf N) Tryz.f106 false):=by kernel_rfl
theorem aJQ{N:j3}(hc:aF (Bf N)){g0:bA}{g1:Int}{r:aE}(h:aJS N g0 g1=some r):iL Tryz.prog 106 (([.ref 50 0]:List X).map X.D) (HA [(50,.box 100 [.e .tx g0,.e (.i .i64) g1])]) r:=
 yU hc (f:=106) (fn:=Tryz.f106) (code:=Xp) (by kernel_rfl) (by kernel_rfl) (a3J N) (fN (by kernel_rfl)) (ow:=false) ((a3I N g0 g1).symm.trans (by exact h))
def pB(r:aE):Option ((Int×Int×(List Ex)×bA×Int) ⊕ (Int×bA×Int)):=match r with
 |(.dY (.iface 96 (.int .i64 a0)),[(50,.box 100 [x1,x2])])=>(match ue .tx x1,ue (.i .i64) x2 with|some a1,some a2=>some (.inr (a0,a1,a2))|_,_=>none)
 |(.agg [x0,x1,x2],[(50,.box 100 [x3,x4])])=>(match ue (.i .i64) x0,ue (.i .i64) x1,ue (.sl .ex) x2,ue .tx x3,ue (.i .i64) x4 with|some a0,some a1,some a2,some a3,some a4=>some (.inl (a0,a1,a2,a3,a4))|_,_,_,_,_=>none)
 |_=>none
theorem a3H{r d}(h:pB r=some (.inl d)):r=xR d.1 d.2.1 d.2.2.1 d.2.2.2.1 d.2.2.2.2:=by
 unfold pB at h;split at h
 .split at h
  .cases h
  .cases h
 .split at h
  .rename_i h0 h1 h2 h3 h4;cases h;rw[aH h0,aH h1,aH h2,aH h3,aH h4];rfl
  .cases h
 .cases h
theorem a3G{r d}(h:pB r=some (.inr d)):r=qJ d.1 d.2.1 d.2.2:=by
 unfold pB at h;split at h
 .split at h
  .rename_i h1 h2;cases h;rw[aH h1,aH h2];rfl
  .cases h
 .split at h
  .cases h
  .cases h
 .cases h
def qI N g0 g1:=(aJS N g0 g1).bind pB
theorem a3L{N}(hc:aF (Bf N)){g0 g1 d}(hd:qI N g0 g1=some (.inl d)):cB Tryz.prog 106 [.ref 50 0] [(50,.box 100 [.e .tx g0,.e (.i .i64) g1])] (xR d.1 d.2.1 d.2.2.1 d.2.2.2.1 d.2.2.2.2):=by
 obtain⟨r,hr,hu⟩:=lH.1 hd;have:=aJQ hc hr;rw[a3H hu]at this;exact this
theorem a3K{N}(hc:aF (Bf N)){g0 g1 d}(hd:qI N g0 g1=some (.inr d)):iL Tryz.prog 106 (([.ref 50 0]:List X).map X.D) (HA [(50,.box 100 [.e .tx g0,.e (.i .i64) g1])]) (qJ d.1 d.2.1 d.2.2):=by
 obtain⟨r,hr,hu⟩:=lH.1 hd;have:=aJQ hc hr;rw[a3G hu]at this;exact this
def zY(N:j3):Cx:=⟨Tryz.prog,25,[(77,Cr N.1)],[(106,Bg N),(97,zZ N),(76,AR N)]⟩
def SX:Code:=Tryz.f97.body.getD .skip
theorem aB1 N (hw107:kA Tryz.prog 106 (Bg N)) (hw85:kA Tryz.prog 97 (zZ N)) (hw53:kA Tryz.prog 76 (AR N)):aF (zY N):=bY (by kernel_rfl) (.cons (by kernel_rfl) (GX N.1) .nil) (.cons (by kernel_rfl) hw107 (.cons (by kernel_rfl) hw85 (.cons (by kernel_rfl) hw53 .nil)))
def rO[aA](N:j3)(g0:bA)(g1:Int):O:=
 ck (qB N.1 g0 g1)<|
 br (decide (eQ N.1 g0 g1=(45:UInt8)))
  (ck ((N.snd.snd.1 (aP N.1 g0 g1) (aC.wrap (aN N.1 g0 g1+(1:Int)))).isSome)<|
  br (kM (N.snd.snd.1 (aP N.1 g0 g1) (aC.wrap (aN N.1 g0 g1+(1:Int)))))
   (some (zX 2 0 ([Ex.mk (aV ((0:Int),(0:Int),[],[],(0:Int)) (N.snd.snd.1 (aP N.1 g0 g1) (aC.wrap (aN N.1 g0 g1+(1:Int))))).1 (aV ((0:Int),(0:Int),[],[],(0:Int)) (N.snd.snd.1 (aP N.1 g0 g1) (aC.wrap (aN N.1 g0 g1+(1:Int))))).2.1 (aV ((0:Int),(0:Int),[],[],(0:Int)) (N.snd.snd.1 (aP N.1 g0 g1) (aC.wrap (aN N.1 g0 g1+(1:Int))))).2.2.1]) ((aV ((0:Int),(0:Int),[],[],(0:Int)) (N.snd.snd.1 (aP N.1 g0 g1) (aC.wrap (aN N.1 g0 g1+(1:Int))))).2.2.2.1) ((aV ((0:Int),(0:Int),[],[],(0:Int)) (N.snd.snd.1 (aP N.1 g0 g1) (aC.wrap (aN N.1 g0 g1+(1:Int))))).2.2.2.2)))
   (some (zW ((dF ((0:Int),[],(0:Int)) (N.snd.snd.1 (aP N.1 g0 g1) (aC.wrap (aN N.1 g0 g1+(1:Int))))).1) ((dF ((0:Int),[],(0:Int)) (N.snd.snd.1 (aP N.1 g0 g1) (aC.wrap (aN N.1 g0 g1+(1:Int))))).2.1) ((dF ((0:Int),[],(0:Int)) (N.snd.snd.1 (aP N.1 g0 g1) (aC.wrap (aN N.1 g0 g1+(1:Int))))).2.2))))
  (ck ((N.snd.1 (aP N.1 g0 g1) (aN N.1 g0 g1)).isSome)<|
  br (kM (N.snd.1 (aP N.1 g0 g1) (aN N.1 g0 g1)))
   (ck (qB N.1 (aV ((0:Int),(0:Int),[],[],(0:Int)) (N.snd.1 (aP N.1 g0 g1) (aN N.1 g0 g1))).2.2.2.1 (aV ((0:Int),(0:Int),[],[],(0:Int)) (N.snd.1 (aP N.1 g0 g1) (aN N.1 g0 g1))).2.2.2.2)<|
   br (decide (eQ N.1 (aV ((0:Int),(0:Int),[],[],(0:Int)) (N.snd.1 (aP N.1 g0 g1) (aN N.1 g0 g1))).2.2.2.1 (aV ((0:Int),(0:Int),[],[],(0:Int)) (N.snd.1 (aP N.1 g0 g1) (aN N.1 g0 g1))).2.2.2.2=(94:UInt8)))
    (ck ((N.snd.snd.1 (aP N.1 (aV ((0:Int),(0:Int),[],[],(0:Int)) (N.snd.1 (aP N.1 g0 g1) (aN N.1 g0 g1))).2.2.2.1 (aV ((0:Int),(0:Int),[],[],(0:Int)) (N.snd.1 (aP N.1 g0 g1) (aN N.1 g0 g1))).2.2.2.2) (aC.wrap (aN N.1 (aV ((0:Int),(0:Int),[],[],(0:Int)) (N.snd.1 (aP N.1 g0 g1) (aN N.1 g0 g1))).2.2.2.1 (aV ((0:Int),(0:Int),[],[],(0:Int)) (N.snd.1 (aP N.1 g0 g1) (aN N.1 g0 g1))).2.2.2.2+(1:Int)))).isSome)<|
    br (kM (N.snd.snd.1 (aP N.1 (aV ((0:Int),(0:Int),[],[],(0:Int)) (N.snd.1 (aP N.1 g0 g1) (aN N.1 g0 g1))).2.2.2.1 (aV ((0:Int),(0:Int),[],[],(0:Int)) (N.snd.1 (aP N.1 g0 g1) (aN N.1 g0 g1))).2.2.2.2) (aC.wrap (aN N.1 (aV ((0:Int),(0:Int),[],[],(0:Int)) (N.snd.1 (aP N.1 g0 g1) (aN N.1 g0 g1))).2.2.2.1 (aV ((0:Int),(0:Int),[],[],(0:Int)) (N.snd.1 (aP N.1 g0 g1) (aN N.1 g0 g1))).2.2.2.2+(1:Int)))))
     (some (zX 7 0 ([Ex.mk (aV ((0:Int),(0:Int),[],[],(0:Int)) (N.snd.1 (aP N.1 g0 g1) (aN N.1 g0 g1))).1 (aV ((0:Int),(0:Int),[],[],(0:Int)) (N.snd.1 (aP N.1 g0 g1) (aN N.1 g0 g1))).2.1 (aV ((0:Int),(0:Int),[],[],(0:Int)) (N.snd.1 (aP N.1 g0 g1) (aN N.1 g0 g1))).2.2.1,Ex.mk (aV ((0:Int),(0:Int),[],[],(0:Int)) (N.snd.snd.1 (aP N.1 (aV ((0:Int),(0:Int),[],[],(0:Int)) (N.snd.1 (aP N.1 g0 g1) (aN N.1 g0 g1))).2.2.2.1 (aV ((0:Int),(0:Int),[],[],(0:Int)) (N.snd.1 (aP N.1 g0 g1) (aN N.1 g0 g1))).2.2.2.2) (aC.wrap (aN N.1 (aV ((0:Int),(0:Int),[],[],(0:Int)) (N.snd.1 (aP N.1 g0 g1) (aN N.1 g0 g1))).2.2.2.1 (aV ((0:Int),(0:Int),[],[],(0:Int)) (N.snd.1 (aP N.1 g0 g1) (aN N.1 g0 g1))).2.2.2.2+(1:Int))))).1 (aV ((0:Int),(0:Int),[],[],(0:Int)) (N.snd.snd.1 (aP N.1 (aV ((0:Int),(0:Int),[],[],(0:Int)) (N.snd.1 (aP N.1 g0 g1) (aN N.1 g0 g1))).2.2.2.1 (aV ((0:Int),(0:Int),[],[],(0:Int)) (N.snd.1 (aP N.1 g0 g1) (aN N.1 g0 g1))).2.2.2.2) (aC.wrap (aN N.1 (aV ((0:Int),(0:Int),[],[],(0:Int)) (N.snd.1 (aP N.1 g0 g1) (aN N.1 g0 g1))).2.2.2.1 (aV ((0:Int),(0:Int),[],[],(0:Int)) (N.snd.1 (aP N.1 g0 g1) (aN N.1 g0 g1))).2.2.2.2+(1:Int))))).2.1 (aV ((0:Int),(0:Int),[],[],(0:Int)) (N.snd.snd.1 (aP N.1 (aV ((0:Int),(0:Int),[],[],(0:Int)) (N.snd.1 (aP N.1 g0 g1) (aN N.1 g0 g1))).2.2.2.1 (aV ((0:Int),(0:Int),[],[],(0:Int)) (N.snd.1 (aP N.1 g0 g1) (aN N.1 g0 g1))).2.2.2.2) (aC.wrap (aN N.1 (aV ((0:Int),(0:Int),[],[],(0:Int)) (N.snd.1 (aP N.1 g0 g1) (aN N.1 g0 g1))).2.2.2.1 (aV ((0:Int),(0:Int),[],[],(0:Int)) (N.snd.1 (aP N.1 g0 g1) (aN N.1 g0 g1))).2.2.2.2+(1:Int))))).2.2.1]) ((aV ((0:Int),(0:Int),[],[],(0:Int)) (N.snd.snd.1 (aP N.1 (aV ((0:Int),(0:Int),[],[],(0:Int)) (N.snd.1 (aP N.1 g0 g1) (aN N.1 g0 g1))).2.2.2.1 (aV ((0:Int),(0:Int),[],[],(0:Int)) (N.snd.1 (aP N.1 g0 g1) (aN N.1 g0 g1))).2.2.2.2) (aC.wrap (aN N.1 (aV ((0:Int),(0:Int),[],[],(0:Int)) (N.snd.1 (aP N.1 g0 g1) (aN N.1 g0 g1))).2.2.2.1 (aV ((0:Int),(0:Int),[],[],(0:Int)) (N.snd.1 (aP N.1 g0 g1) (aN N.1 g0 g1))).2.2.2.2+(1:Int))))).2.2.2.1) ((aV ((0:Int),(0:Int),[],[],(0:Int)) (N.snd.snd.1 (aP N.1 (aV ((0:Int),(0:Int),[],[],(0:Int)) (N.snd.1 (aP N.1 g0 g1) (aN N.1 g0 g1))).2.2.2.1 (aV ((0:Int),(0:Int),[],[],(0:Int)) (N.snd.1 (aP N.1 g0 g1) (aN N.1 g0 g1))).2.2.2.2) (aC.wrap (aN N.1 (aV ((0:Int),(0:Int),[],[],(0:Int)) (N.snd.1 (aP N.1 g0 g1) (aN N.1 g0 g1))).2.2.2.1 (aV ((0:Int),(0:Int),[],[],(0:Int)) (N.snd.1 (aP N.1 g0 g1) (aN N.1 g0 g1))).2.2.2.2+(1:Int))))).2.2.2.2)))
     (some (zW ((dF ((0:Int),[],(0:Int)) (N.snd.snd.1 (aP N.1 (aV ((0:Int),(0:Int),[],[],(0:Int)) (N.snd.1 (aP N.1 g0 g1) (aN N.1 g0 g1))).2.2.2.1 (aV ((0:Int),(0:Int),[],[],(0:Int)) (N.snd.1 (aP N.1 g0 g1) (aN N.1 g0 g1))).2.2.2.2) (aC.wrap (aN N.1 (aV ((0:Int),(0:Int),[],[],(0:Int)) (N.snd.1 (aP N.1 g0 g1) (aN N.1 g0 g1))).2.2.2.1 (aV ((0:Int),(0:Int),[],[],(0:Int)) (N.snd.1 (aP N.1 g0 g1) (aN N.1 g0 g1))).2.2.2.2+(1:Int))))).1) ((dF ((0:Int),[],(0:Int)) (N.snd.snd.1 (aP N.1 (aV ((0:Int),(0:Int),[],[],(0:Int)) (N.snd.1 (aP N.1 g0 g1) (aN N.1 g0 g1))).2.2.2.1 (aV ((0:Int),(0:Int),[],[],(0:Int)) (N.snd.1 (aP N.1 g0 g1) (aN N.1 g0 g1))).2.2.2.2) (aC.wrap (aN N.1 (aV ((0:Int),(0:Int),[],[],(0:Int)) (N.snd.1 (aP N.1 g0 g1) (aN N.1 g0 g1))).2.2.2.1 (aV ((0:Int),(0:Int),[],[],(0:Int)) (N.snd.1 (aP N.1 g0 g1) (aN N.1 g0 g1))).2.2.2.2+(1:Int))))).2.1) ((dF ((0:Int),[],(0:Int)) (N.snd.snd.1 (aP N.1 (aV ((0:Int),(0:Int),[],[],(0:Int)) (N.snd.1 (aP N.1 g0 g1) (aN N.1 g0 g1))).2.2.2.1 (aV ((0:Int),(0:Int),[],[],(0:Int)) (N.snd.1 (aP N.1 g0 g1) (aN N.1 g0 g1))).2.2.2.2) (aC.wrap (aN N.1 (aV ((0:Int),(0:Int),[],[],(0:Int)) (N.snd.1 (aP N.1 g0 g1) (aN N.1 g0 g1))).2.2.2.1 (aV ((0:Int),(0:Int),[],[],(0:Int)) (N.snd.1 (aP N.1 g0 g1) (aN N.1 g0 g1))).2.2.2.2+(1:Int))))).2.2))))
    (some (zX ((aV ((0:Int),(0:Int),[],[],(0:Int)) (N.snd.1 (aP N.1 g0 g1) (aN N.1 g0 g1))).1) ((aV ((0:Int),(0:Int),[],[],(0:Int)) (N.snd.1 (aP N.1 g0 g1) (aN N.1 g0 g1))).2.1) ((aV ((0:Int),(0:Int),[],[],(0:Int)) (N.snd.1 (aP N.1 g0 g1) (aN N.1 g0 g1))).2.2.1) (aP N.1 (aV ((0:Int),(0:Int),[],[],(0:Int)) (N.snd.1 (aP N.1 g0 g1) (aN N.1 g0 g1))).2.2.2.1 (aV ((0:Int),(0:Int),[],[],(0:Int)) (N.snd.1 (aP N.1 g0 g1) (aN N.1 g0 g1))).2.2.2.2) (aN N.1 (aV ((0:Int),(0:Int),[],[],(0:Int)) (N.snd.1 (aP N.1 g0 g1) (aN N.1 g0 g1))).2.2.2.1 (aV ((0:Int),(0:Int),[],[],(0:Int)) (N.snd.1 (aP N.1 g0 g1) (aN N.1 g0 g1))).2.2.2.2))))
   (some (zW ((dF ((0:Int),[],(0:Int)) (N.snd.1 (aP N.1 g0 g1) (aN N.1 g0 g1))).1) ((dF ((0:Int),[],(0:Int)) (N.snd.1 (aP N.1 g0 g1) (aN N.1 g0 g1))).2.1) ((dF ((0:Int),[],(0:Int)) (N.snd.1 (aP N.1 g0 g1) (aN N.1 g0 g1))).2.2))))
def w97[aA] N g0 g1:=rO N g0 g1
def aBZ[aA](_:j3):Hint:=(.seq .d (.seq .d (.seq .d (.seq (.seq .d (.cond (.seq .d (.seq (.gI [] [] [[],[],[50],[],[],[100]]) .d)) .d)) .d))))
theorem aNe N:bJ (zY N) Tryz.f97.ntmps (aBZ N) SX:=bO _ _ (aG trivial (aG trivial (aG trivial (aG (aG trivial (aG (aG trivial (aG trivial trivial)) trivial)) trivial))))
theorem aNd[aA] N g0 g1:rO N g0 g1=exec (zY N) Tryz.f97.ntmps (aBZ N) SX ⟨bU 0 [.ref 50 0],[(50,.box 100 [.e .tx g0,.e (.i .i64) g1])],100⟩ (bX (zY N) Tryz.f97 false):=by kernel_rfl
theorem aB0{N:j3}(hc:aF (zY N)){g0:bA}{g1:Int}{r:aE}(h:w97 N g0 g1=some r):iL Tryz.prog 97 (([.ref 50 0]:List X).map X.D) (HA [(50,.box 100 [.e .tx g0,.e (.i .i64) g1])]) r:=
 yU hc (f:=97) (fn:=Tryz.f97) (code:=SX) (by kernel_rfl) (by kernel_rfl) (aNe N) (fN (by kernel_rfl)) (ow:=false) ((aNd N g0 g1).symm.trans (by exact h))
def tG(r:aE):Option ((Int×Int×(List Ex)×bA×Int) ⊕ (Int×bA×Int)):=match r with
 |(.dY (.iface 96 (.int .i64 a0)),[(50,.box 100 [x1,x2])])=>(match ue .tx x1,ue (.i .i64) x2 with|some a1,some a2=>some (.inr (a0,a1,a2))|_,_=>none)
 |(.agg [x0,x1,x2],[(50,.box 100 [x3,x4])])=>(match ue (.i .i64) x0,ue (.i .i64) x1,ue (.sl .ex) x2,ue .tx x3,ue (.i .i64) x4 with|some a0,some a1,some a2,some a3,some a4=>some (.inl (a0,a1,a2,a3,a4))|_,_,_,_,_=>none)
 |_=>none
theorem aNc{r d}(h:tG r=some (.inl d)):r=zX d.1 d.2.1 d.2.2.1 d.2.2.2.1 d.2.2.2.2:=by
 unfold tG at h;split at h
 .split at h
  .cases h
  .cases h
 .split at h
  .rename_i h0 h1 h2 h3 h4;cases h;rw[aH h0,aH h1,aH h2,aH h3,aH h4];rfl
  .cases h
 .cases h
theorem aNb{r d}(h:tG r=some (.inr d)):r=zW d.1 d.2.1 d.2.2:=by
 unfold tG at h;split at h
 .split at h
  .rename_i h1 h2;cases h;rw[aH h1,aH h2];rfl
  .cases h
 .split at h
  .cases h
  .cases h
 .cases h
def wH N g0 g1:=(w97 N g0 g1).bind tG
theorem aNg{N}(hc:aF (zY N)){g0 g1 d}(hd:wH N g0 g1=some (.inl d)):cB Tryz.prog 97 [.ref 50 0] [(50,.box 100 [.e .tx g0,.e (.i .i64) g1])] (zX d.1 d.2.1 d.2.2.1 d.2.2.2.1 d.2.2.2.2):=by
 obtain⟨r,hr,hu⟩:=lH.1 hd;have:=aB0 hc hr;rw[aNc hu]at this;exact this
theorem aNf{N}(hc:aF (zY N)){g0 g1 d}(hd:wH N g0 g1=some (.inr d)):iL Tryz.prog 97 (([.ref 50 0]:List X).map X.D) (HA [(50,.box 100 [.e .tx g0,.e (.i .i64) g1])]) (zW d.1 d.2.1 d.2.2):=by
 obtain⟨r,hr,hu⟩:=lH.1 hd;have:=aB0 hc hr;rw[aNb hu]at this;exact this
def oX(N:j3):Cx:=⟨Tryz.prog,25,[(77,Cr N.1),(99,SR N.1),(98,aBU N.1)],[(106,Bg N),(97,zZ N),(76,AR N)]⟩
def LP:Code:=Tryz.f76.body.getD .skip
theorem aDA N (hw107:kA Tryz.prog 106 (Bg N)) (hw85:kA Tryz.prog 97 (zZ N)) (hw53:kA Tryz.prog 76 (AR N)):aF (oX N):=bY (by kernel_rfl) (.cons (by kernel_rfl) (GX N.1) (.cons (by kernel_rfl) (aBM N.1) (.cons (by kernel_rfl) (aN3 N.1) .nil))) (.cons (by kernel_rfl) hw107 (.cons (by kernel_rfl) hw85 (.cons (by kernel_rfl) hw53 .nil)))
def Cv[aA](N:j3)(self:bA->Int->Int->Int->Int->(List Ex)->O)(k0:bA->Int->Int->Int->(List Ex)->O)(k1:Int->bA->Int->O)(_x0_3 _x0_4:Int)(x0_0:bA)(x0_1 x0_2 x0_5 x0_6:Int)(x0_7:(List Ex)):O:=
 ck (qB N.1 x0_0 x0_1)<|
 ck (C2 N.1 [((0:Int),(999999:Int),(4:Int),(0:UInt8)),((0:Int),(25:Int),(4:Int),(0:UInt8)),((1:Int),(0:Int),(3:Int),(45:UInt8)),((2:Int),(0:Int),(1:Int),(43:UInt8)),((2:Int),(0:Int),(1:Int),(45:UInt8)),((2:Int),(0:Int),(2:Int),(42:UInt8)),((2:Int),(0:Int),(2:Int),(47:UInt8)),((2:Int),(0:Int),(3:Int),(94:UInt8)),((1:Int),(0:Int),(4:Int),(82:UInt8)),((2:Int),(0:Int),(0:Int),(61:UInt8)),((2:Int),(0:Int),(0:Int),(60:UInt8))] x0_2 (eQ N.1 x0_0 x0_1))<|
 br (decide (wF N.1 [((0:Int),(999999:Int),(4:Int),(0:UInt8)),((0:Int),(25:Int),(4:Int),(0:UInt8)),((1:Int),(0:Int),(3:Int),(45:UInt8)),((2:Int),(0:Int),(1:Int),(43:UInt8)),((2:Int),(0:Int),(1:Int),(45:UInt8)),((2:Int),(0:Int),(2:Int),(42:UInt8)),((2:Int),(0:Int),(2:Int),(47:UInt8)),((2:Int),(0:Int),(3:Int),(94:UInt8)),((1:Int),(0:Int),(4:Int),(82:UInt8)),((2:Int),(0:Int),(0:Int),(61:UInt8)),((2:Int),(0:Int),(0:Int),(60:UInt8))] x0_2 (eQ N.1 x0_0 x0_1)<(0:Int))||decide (KD N.1 [((0:Int),(999999:Int),(4:Int),(0:UInt8)),((0:Int),(25:Int),(4:Int),(0:UInt8)),((1:Int),(0:Int),(3:Int),(45:UInt8)),((2:Int),(0:Int),(1:Int),(43:UInt8)),((2:Int),(0:Int),(1:Int),(45:UInt8)),((2:Int),(0:Int),(2:Int),(42:UInt8)),((2:Int),(0:Int),(2:Int),(47:UInt8)),((2:Int),(0:Int),(3:Int),(94:UInt8)),((1:Int),(0:Int),(4:Int),(82:UInt8)),((2:Int),(0:Int),(0:Int),(61:UInt8)),((2:Int),(0:Int),(0:Int),(60:UInt8))] x0_2 (eQ N.1 x0_0 x0_1)=(0:UInt8)))
  (k0 (aP N.1 x0_0 x0_1) (aN N.1 x0_0 x0_1) x0_5 x0_6 x0_7)
  (ck ((N.snd.snd.2 (aC.wrap (jO N.1 [((0:Int),(999999:Int),(4:Int),(0:UInt8)),((0:Int),(25:Int),(4:Int),(0:UInt8)),((1:Int),(0:Int),(3:Int),(45:UInt8)),((2:Int),(0:Int),(1:Int),(43:UInt8)),((2:Int),(0:Int),(1:Int),(45:UInt8)),((2:Int),(0:Int),(2:Int),(42:UInt8)),((2:Int),(0:Int),(2:Int),(47:UInt8)),((2:Int),(0:Int),(3:Int),(94:UInt8)),((1:Int),(0:Int),(4:Int),(82:UInt8)),((2:Int),(0:Int),(0:Int),(61:UInt8)),((2:Int),(0:Int),(0:Int),(60:UInt8))] x0_2 (eQ N.1 x0_0 x0_1)+(1:Int))) (aP N.1 x0_0 x0_1) (aC.wrap (aN N.1 x0_0 x0_1+(1:Int)))).isSome)<|
  br (kM (N.snd.snd.2 (aC.wrap (jO N.1 [((0:Int),(999999:Int),(4:Int),(0:UInt8)),((0:Int),(25:Int),(4:Int),(0:UInt8)),((1:Int),(0:Int),(3:Int),(45:UInt8)),((2:Int),(0:Int),(1:Int),(43:UInt8)),((2:Int),(0:Int),(1:Int),(45:UInt8)),((2:Int),(0:Int),(2:Int),(42:UInt8)),((2:Int),(0:Int),(2:Int),(47:UInt8)),((2:Int),(0:Int),(3:Int),(94:UInt8)),((1:Int),(0:Int),(4:Int),(82:UInt8)),((2:Int),(0:Int),(0:Int),(61:UInt8)),((2:Int),(0:Int),(0:Int),(60:UInt8))] x0_2 (eQ N.1 x0_0 x0_1)+(1:Int))) (aP N.1 x0_0 x0_1) (aC.wrap (aN N.1 x0_0 x0_1+(1:Int)))))
   (br (decide (jO N.1 [((0:Int),(999999:Int),(4:Int),(0:UInt8)),((0:Int),(25:Int),(4:Int),(0:UInt8)),((1:Int),(0:Int),(3:Int),(45:UInt8)),((2:Int),(0:Int),(1:Int),(43:UInt8)),((2:Int),(0:Int),(1:Int),(45:UInt8)),((2:Int),(0:Int),(2:Int),(42:UInt8)),((2:Int),(0:Int),(2:Int),(47:UInt8)),((2:Int),(0:Int),(3:Int),(94:UInt8)),((1:Int),(0:Int),(4:Int),(82:UInt8)),((2:Int),(0:Int),(0:Int),(61:UInt8)),((2:Int),(0:Int),(0:Int),(60:UInt8))] x0_2 (eQ N.1 x0_0 x0_1)=(0:Int)))
    (k0 ((aV ((0:Int),(0:Int),[],[],(0:Int)) (N.snd.snd.2 (aC.wrap (jO N.1 [((0:Int),(999999:Int),(4:Int),(0:UInt8)),((0:Int),(25:Int),(4:Int),(0:UInt8)),((1:Int),(0:Int),(3:Int),(45:UInt8)),((2:Int),(0:Int),(1:Int),(43:UInt8)),((2:Int),(0:Int),(1:Int),(45:UInt8)),((2:Int),(0:Int),(2:Int),(42:UInt8)),((2:Int),(0:Int),(2:Int),(47:UInt8)),((2:Int),(0:Int),(3:Int),(94:UInt8)),((1:Int),(0:Int),(4:Int),(82:UInt8)),((2:Int),(0:Int),(0:Int),(61:UInt8)),((2:Int),(0:Int),(0:Int),(60:UInt8))] x0_2 (eQ N.1 x0_0 x0_1)+(1:Int))) (aP N.1 x0_0 x0_1) (aC.wrap (aN N.1 x0_0 x0_1+(1:Int))))).2.2.2.1) ((aV ((0:Int),(0:Int),[],[],(0:Int)) (N.snd.snd.2 (aC.wrap (jO N.1 [((0:Int),(999999:Int),(4:Int),(0:UInt8)),((0:Int),(25:Int),(4:Int),(0:UInt8)),((1:Int),(0:Int),(3:Int),(45:UInt8)),((2:Int),(0:Int),(1:Int),(43:UInt8)),((2:Int),(0:Int),(1:Int),(45:UInt8)),((2:Int),(0:Int),(2:Int),(42:UInt8)),((2:Int),(0:Int),(2:Int),(47:UInt8)),((2:Int),(0:Int),(3:Int),(94:UInt8)),((1:Int),(0:Int),(4:Int),(82:UInt8)),((2:Int),(0:Int),(0:Int),(61:UInt8)),((2:Int),(0:Int),(0:Int),(60:UInt8))] x0_2 (eQ N.1 x0_0 x0_1)+(1:Int))) (aP N.1 x0_0 x0_1) (aC.wrap (aN N.1 x0_0 x0_1+(1:Int))))).2.2.2.2) (wF N.1 [((0:Int),(999999:Int),(4:Int),(0:UInt8)),((0:Int),(25:Int),(4:Int),(0:UInt8)),((1:Int),(0:Int),(3:Int),(45:UInt8)),((2:Int),(0:Int),(1:Int),(43:UInt8)),((2:Int),(0:Int),(1:Int),(45:UInt8)),((2:Int),(0:Int),(2:Int),(42:UInt8)),((2:Int),(0:Int),(2:Int),(47:UInt8)),((2:Int),(0:Int),(3:Int),(94:UInt8)),((1:Int),(0:Int),(4:Int),(82:UInt8)),((2:Int),(0:Int),(0:Int),(61:UInt8)),((2:Int),(0:Int),(0:Int),(60:UInt8))] x0_2 (eQ N.1 x0_0 x0_1)) 0 [Ex.mk x0_5 x0_6 x0_7,Ex.mk (aV ((0:Int),(0:Int),[],[],(0:Int)) (N.snd.snd.2 (aC.wrap (jO N.1 [((0:Int),(999999:Int),(4:Int),(0:UInt8)),((0:Int),(25:Int),(4:Int),(0:UInt8)),((1:Int),(0:Int),(3:Int),(45:UInt8)),((2:Int),(0:Int),(1:Int),(43:UInt8)),((2:Int),(0:Int),(1:Int),(45:UInt8)),((2:Int),(0:Int),(2:Int),(42:UInt8)),((2:Int),(0:Int),(2:Int),(47:UInt8)),((2:Int),(0:Int),(3:Int),(94:UInt8)),((1:Int),(0:Int),(4:Int),(82:UInt8)),((2:Int),(0:Int),(0:Int),(61:UInt8)),((2:Int),(0:Int),(0:Int),(60:UInt8))] x0_2 (eQ N.1 x0_0 x0_1)+(1:Int))) (aP N.1 x0_0 x0_1) (aC.wrap (aN N.1 x0_0 x0_1+(1:Int))))).1 (aV ((0:Int),(0:Int),[],[],(0:Int)) (N.snd.snd.2 (aC.wrap (jO N.1 [((0:Int),(999999:Int),(4:Int),(0:UInt8)),((0:Int),(25:Int),(4:Int),(0:UInt8)),((1:Int),(0:Int),(3:Int),(45:UInt8)),((2:Int),(0:Int),(1:Int),(43:UInt8)),((2:Int),(0:Int),(1:Int),(45:UInt8)),((2:Int),(0:Int),(2:Int),(42:UInt8)),((2:Int),(0:Int),(2:Int),(47:UInt8)),((2:Int),(0:Int),(3:Int),(94:UInt8)),((1:Int),(0:Int),(4:Int),(82:UInt8)),((2:Int),(0:Int),(0:Int),(61:UInt8)),((2:Int),(0:Int),(0:Int),(60:UInt8))] x0_2 (eQ N.1 x0_0 x0_1)+(1:Int))) (aP N.1 x0_0 x0_1) (aC.wrap (aN N.1 x0_0 x0_1+(1:Int))))).2.1 (aV ((0:Int),(0:Int),[],[],(0:Int)) (N.snd.snd.2 (aC.wrap (jO N.1 [((0:Int),(999999:Int),(4:Int),(0:UInt8)),((0:Int),(25:Int),(4:Int),(0:UInt8)),((1:Int),(0:Int),(3:Int),(45:UInt8)),((2:Int),(0:Int),(1:Int),(43:UInt8)),((2:Int),(0:Int),(1:Int),(45:UInt8)),((2:Int),(0:Int),(2:Int),(42:UInt8)),((2:Int),(0:Int),(2:Int),(47:UInt8)),((2:Int),(0:Int),(3:Int),(94:UInt8)),((1:Int),(0:Int),(4:Int),(82:UInt8)),((2:Int),(0:Int),(0:Int),(61:UInt8)),((2:Int),(0:Int),(0:Int),(60:UInt8))] x0_2 (eQ N.1 x0_0 x0_1)+(1:Int))) (aP N.1 x0_0 x0_1) (aC.wrap (aN N.1 x0_0 x0_1+(1:Int))))).2.2.1])
    (self ((aV ((0:Int),(0:Int),[],[],(0:Int)) (N.snd.snd.2 (aC.wrap (jO N.1 [((0:Int),(999999:Int),(4:Int),(0:UInt8)),((0:Int),(25:Int),(4:Int),(0:UInt8)),((1:Int),(0:Int),(3:Int),(45:UInt8)),((2:Int),(0:Int),(1:Int),(43:UInt8)),((2:Int),(0:Int),(1:Int),(45:UInt8)),((2:Int),(0:Int),(2:Int),(42:UInt8)),((2:Int),(0:Int),(2:Int),(47:UInt8)),((2:Int),(0:Int),(3:Int),(94:UInt8)),((1:Int),(0:Int),(4:Int),(82:UInt8)),((2:Int),(0:Int),(0:Int),(61:UInt8)),((2:Int),(0:Int),(0:Int),(60:UInt8))] x0_2 (eQ N.1 x0_0 x0_1)+(1:Int))) (aP N.1 x0_0 x0_1) (aC.wrap (aN N.1 x0_0 x0_1+(1:Int))))).2.2.2.1) ((aV ((0:Int),(0:Int),[],[],(0:Int)) (N.snd.snd.2 (aC.wrap (jO N.1 [((0:Int),(999999:Int),(4:Int),(0:UInt8)),((0:Int),(25:Int),(4:Int),(0:UInt8)),((1:Int),(0:Int),(3:Int),(45:UInt8)),((2:Int),(0:Int),(1:Int),(43:UInt8)),((2:Int),(0:Int),(1:Int),(45:UInt8)),((2:Int),(0:Int),(2:Int),(42:UInt8)),((2:Int),(0:Int),(2:Int),(47:UInt8)),((2:Int),(0:Int),(3:Int),(94:UInt8)),((1:Int),(0:Int),(4:Int),(82:UInt8)),((2:Int),(0:Int),(0:Int),(61:UInt8)),((2:Int),(0:Int),(0:Int),(60:UInt8))] x0_2 (eQ N.1 x0_0 x0_1)+(1:Int))) (aP N.1 x0_0 x0_1) (aC.wrap (aN N.1 x0_0 x0_1+(1:Int))))).2.2.2.2) (jO N.1 [((0:Int),(999999:Int),(4:Int),(0:UInt8)),((0:Int),(25:Int),(4:Int),(0:UInt8)),((1:Int),(0:Int),(3:Int),(45:UInt8)),((2:Int),(0:Int),(1:Int),(43:UInt8)),((2:Int),(0:Int),(1:Int),(45:UInt8)),((2:Int),(0:Int),(2:Int),(42:UInt8)),((2:Int),(0:Int),(2:Int),(47:UInt8)),((2:Int),(0:Int),(3:Int),(94:UInt8)),((1:Int),(0:Int),(4:Int),(82:UInt8)),((2:Int),(0:Int),(0:Int),(61:UInt8)),((2:Int),(0:Int),(0:Int),(60:UInt8))] x0_2 (eQ N.1 x0_0 x0_1)) (wF N.1 [((0:Int),(999999:Int),(4:Int),(0:UInt8)),((0:Int),(25:Int),(4:Int),(0:UInt8)),((1:Int),(0:Int),(3:Int),(45:UInt8)),((2:Int),(0:Int),(1:Int),(43:UInt8)),((2:Int),(0:Int),(1:Int),(45:UInt8)),((2:Int),(0:Int),(2:Int),(42:UInt8)),((2:Int),(0:Int),(2:Int),(47:UInt8)),((2:Int),(0:Int),(3:Int),(94:UInt8)),((1:Int),(0:Int),(4:Int),(82:UInt8)),((2:Int),(0:Int),(0:Int),(61:UInt8)),((2:Int),(0:Int),(0:Int),(60:UInt8))] x0_2 (eQ N.1 x0_0 x0_1)) 0 [Ex.mk x0_5 x0_6 x0_7,Ex.mk (aV ((0:Int),(0:Int),[],[],(0:Int)) (N.snd.snd.2 (aC.wrap (jO N.1 [((0:Int),(999999:Int),(4:Int),(0:UInt8)),((0:Int),(25:Int),(4:Int),(0:UInt8)),((1:Int),(0:Int),(3:Int),(45:UInt8)),((2:Int),(0:Int),(1:Int),(43:UInt8)),((2:Int),(0:Int),(1:Int),(45:UInt8)),((2:Int),(0:Int),(2:Int),(42:UInt8)),((2:Int),(0:Int),(2:Int),(47:UInt8)),((2:Int),(0:Int),(3:Int),(94:UInt8)),((1:Int),(0:Int),(4:Int),(82:UInt8)),((2:Int),(0:Int),(0:Int),(61:UInt8)),((2:Int),(0:Int),(0:Int),(60:UInt8))] x0_2 (eQ N.1 x0_0 x0_1)+(1:Int))) (aP N.1 x0_0 x0_1) (aC.wrap (aN N.1 x0_0 x0_1+(1:Int))))).1 (aV ((0:Int),(0:Int),[],[],(0:Int)) (N.snd.snd.2 (aC.wrap (jO N.1 [((0:Int),(999999:Int),(4:Int),(0:UInt8)),((0:Int),(25:Int),(4:Int),(0:UInt8)),((1:Int),(0:Int),(3:Int),(45:UInt8)),((2:Int),(0:Int),(1:Int),(43:UInt8)),((2:Int),(0:Int),(1:Int),(45:UInt8)),((2:Int),(0:Int),(2:Int),(42:UInt8)),((2:Int),(0:Int),(2:Int),(47:UInt8)),((2:Int),(0:Int),(3:Int),(94:UInt8)),((1:Int),(0:Int),(4:Int),(82:UInt8)),((2:Int),(0:Int),(0:Int),(61:UInt8)),((2:Int),(0:Int),(0:Int),(60:UInt8))] x0_2 (eQ N.1 x0_0 x0_1)+(1:Int))) (aP N.1 x0_0 x0_1) (aC.wrap (aN N.1 x0_0 x0_1+(1:Int))))).2.1 (aV ((0:Int),(0:Int),[],[],(0:Int)) (N.snd.snd.2 (aC.wrap (jO N.1 [((0:Int),(999999:Int),(4:Int),(0:UInt8)),((0:Int),(25:Int),(4:Int),(0:UInt8)),((1:Int),(0:Int),(3:Int),(45:UInt8)),((2:Int),(0:Int),(1:Int),(43:UInt8)),((2:Int),(0:Int),(1:Int),(45:UInt8)),((2:Int),(0:Int),(2:Int),(42:UInt8)),((2:Int),(0:Int),(2:Int),(47:UInt8)),((2:Int),(0:Int),(3:Int),(94:UInt8)),((1:Int),(0:Int),(4:Int),(82:UInt8)),((2:Int),(0:Int),(0:Int),(61:UInt8)),((2:Int),(0:Int),(0:Int),(60:UInt8))] x0_2 (eQ N.1 x0_0 x0_1)+(1:Int))) (aP N.1 x0_0 x0_1) (aC.wrap (aN N.1 x0_0 x0_1+(1:Int))))).2.2.1]))
   (k1 ((dF ((0:Int),[],(0:Int)) (N.snd.snd.2 (aC.wrap (jO N.1 [((0:Int),(999999:Int),(4:Int),(0:UInt8)),((0:Int),(25:Int),(4:Int),(0:UInt8)),((1:Int),(0:Int),(3:Int),(45:UInt8)),((2:Int),(0:Int),(1:Int),(43:UInt8)),((2:Int),(0:Int),(1:Int),(45:UInt8)),((2:Int),(0:Int),(2:Int),(42:UInt8)),((2:Int),(0:Int),(2:Int),(47:UInt8)),((2:Int),(0:Int),(3:Int),(94:UInt8)),((1:Int),(0:Int),(4:Int),(82:UInt8)),((2:Int),(0:Int),(0:Int),(61:UInt8)),((2:Int),(0:Int),(0:Int),(60:UInt8))] x0_2 (eQ N.1 x0_0 x0_1)+(1:Int))) (aP N.1 x0_0 x0_1) (aC.wrap (aN N.1 x0_0 x0_1+(1:Int))))).1) ((dF ((0:Int),[],(0:Int)) (N.snd.snd.2 (aC.wrap (jO N.1 [((0:Int),(999999:Int),(4:Int),(0:UInt8)),((0:Int),(25:Int),(4:Int),(0:UInt8)),((1:Int),(0:Int),(3:Int),(45:UInt8)),((2:Int),(0:Int),(1:Int),(43:UInt8)),((2:Int),(0:Int),(1:Int),(45:UInt8)),((2:Int),(0:Int),(2:Int),(42:UInt8)),((2:Int),(0:Int),(2:Int),(47:UInt8)),((2:Int),(0:Int),(3:Int),(94:UInt8)),((1:Int),(0:Int),(4:Int),(82:UInt8)),((2:Int),(0:Int),(0:Int),(61:UInt8)),((2:Int),(0:Int),(0:Int),(60:UInt8))] x0_2 (eQ N.1 x0_0 x0_1)+(1:Int))) (aP N.1 x0_0 x0_1) (aC.wrap (aN N.1 x0_0 x0_1+(1:Int))))).2.1) ((dF ((0:Int),[],(0:Int)) (N.snd.snd.2 (aC.wrap (jO N.1 [((0:Int),(999999:Int),(4:Int),(0:UInt8)),((0:Int),(25:Int),(4:Int),(0:UInt8)),((1:Int),(0:Int),(3:Int),(45:UInt8)),((2:Int),(0:Int),(1:Int),(43:UInt8)),((2:Int),(0:Int),(1:Int),(45:UInt8)),((2:Int),(0:Int),(2:Int),(42:UInt8)),((2:Int),(0:Int),(2:Int),(47:UInt8)),((2:Int),(0:Int),(3:Int),(94:UInt8)),((1:Int),(0:Int),(4:Int),(82:UInt8)),((2:Int),(0:Int),(0:Int),(61:UInt8)),((2:Int),(0:Int),(0:Int),(60:UInt8))] x0_2 (eQ N.1 x0_0 x0_1)+(1:Int))) (aP N.1 x0_0 x0_1) (aC.wrap (aN N.1 x0_0 x0_1+(1:Int))))).2.2)))
def TQ:Code:=cK [1,1,1,0,0] LP
def aCu:Nm:=⟨[0,3,4,5],[],[.cv 5 2 (.sl .ex)]⟩
def AQ(x:bA×Int×Int×Int×Int×Int×Int×(List Ex)):Sg:=⟨[(0,.ref 50 0),(3,.ref 0 0),(4,.ref 1 0),(5,.ref 2 0)],[(50,.box 100 [.e .tx x.1,.e (.i .i64) x.2.1]),(0,.box 3 [.e (.i .i64) x.2.2.1]),(1,.box 25 [.e (.i .i64) x.2.2.2.1,.e (.i .i64) x.2.2.2.2.1,.cC]),(2,.box 25 [.e (.i .i64) x.2.2.2.2.2.1,.e (.i .i64) x.2.2.2.2.2.2.1,.e (.sl .ex) x.2.2.2.2.2.2.2])],100⟩
def LN(σ:Sg):bA×Int×Int×Int×Int×Int×Int×(List Ex):=(aL .tx 50 0 σ,aL (.i .i64) 50 1 σ,aL (.i .i64) 0 0 σ,aL (.i .i64) 1 0 σ,aL (.i .i64) 1 1 σ,aL (.i .i64) 2 0 σ,aL (.i .i64) 2 1 σ,aL (.sl .ex) 2 2 σ)
theorem aQj:∀x,LN (AQ x)=x:=λ_=>by kernel_rfl
def LR(y:bA×Int×Int×Int×(List Ex)):Exit×Sg:=(.ret,⟨[(4,.ref 0 0)],[(50,.box 100 [.e .tx y.1,.e (.i .i64) y.2.1]),(0,.box 25 [.e (.i .i64) y.2.2.1,.e (.i .i64) y.2.2.2.1,.e (.sl .ex) y.2.2.2.2])],100⟩)
def aQg(_:Exit)(σ:Sg):bA×Int×Int×Int×(List Ex):=(aL .tx 50 0 σ,aL (.i .i64) 50 1 σ,aL (.i .i64) 0 0 σ,aL (.i .i64) 0 1 σ,aL (.sl .ex) 0 2 σ)
def LQ(y:Int×bA×Int):Exit×Sg:=((.panic [lS (.iface 96 (.int .i64 y.1))]),⟨[],[(50,.box 100 [.e .tx y.2.1,.e (.i .i64) y.2.2])],100⟩)
def aQf(e:Exit)(σ:Sg):Int×bA×Int:=(lvP e,aL .tx 50 0 σ,aL (.i .i64) 50 1 σ)
def aQe:List (Exit×Nm):=[(.ret,⟨[4],[],[.cv 4 2 (.sl .ex)]⟩),((.panic []),⟨[],[],[]⟩)]
def qC[aA](N:j3):Nat->(bA×Int×Int×Int×Int×Int×Int×(List Ex))->((bA×Int×Int×Int×(List Ex))->O)->((Int×bA×Int)->O)->((Unit)->O)->O
 |0,_,_,_,_=>none
 |n+1,x,k0,k1,k2=>Cv N (λv0 v1 v2 v3 v4 v5=>qC N n (v0,v1,v2,x.2.2.2.1,x.2.2.2.2.1,v3,v4,v5) k0 k1 k2) (λy0 y1 y2 y3 y4=>k0 (y0,y1,y2,y3,y4)) (λy0 y1 y2=>k1 (y0,y1,y2)) x.2.2.2.1 x.2.2.2.2.1 x.1 x.2.1 x.2.2.1 x.2.2.2.2.2.1 x.2.2.2.2.2.2.1 x.2.2.2.2.2.2.2
def TP[aA] N a0 a1 a2 a3 a4 a5 a6 a7 (k0:bA->Int->Int->Int->(List Ex)->O) (k1:Int->bA->Int->O):=qC N N.1 (a0,a1,a2,a3,a4,a5,a6,a7) (λy=>k0 y.1 y.2.1 y.2.2.1 y.2.2.2.1 y.2.2.2.2) (λy=>k1 y.1 y.2.1 y.2.2) (λ_=>none)
def aCt[aA] N a0 a1 a2 a3 a4 a5 a6 a7 (k0:bA->Int->Int->Int->(List Ex)->O) (k1:Int->bA->Int->O):=aY AQ LN (qC N N.1) (AQ (a0,a1,a2,a3,a4,a5,a6,a7)) (λy=>k0 y.1 y.2.1 y.2.2.1 y.2.2.2.1 y.2.2.2.2) (λy=>k1 y.1 y.2.1 y.2.2) (λ_=>none)
theorem aQt[aA] N:aCt N=TP N:=funext λ_=>funext λ_=>funext λ_=>funext λ_=>funext λ_=>funext λ_=>funext λ_=>funext λ_=>funext λ_=>funext λ_=>cW aQj _ _ _ _
def aCw[aA](_:j3):Hint:=(.block (.seq .d (.seq .d (.seq .d (.seq .d (.seq (.gI [] [] [[],[],[],[],[],[50],[],[],[2]]) .d))))))
theorem aQp N:bJ (oX N) Tryz.f76.ntmps (aCw N) TQ:=bO _ _ (aG trivial (aG trivial (aG trivial (aG trivial (aG trivial trivial)))))
theorem aQk[aA](N:j3)(self:Sg->O)(K:Exit->Sg->O)(x:bA×Int×Int×Int×Int×Int×Int×(List Ex)):Cv N (λv0 v1 v2 v3 v4 v5=>self (AQ (v0,v1,v2,x.2.2.2.1,x.2.2.2.2.1,v3,v4,v5))) (λy0 y1 y2 y3 y4=>K (LR (y0,y1,y2,y3,y4)).1 (LR (y0,y1,y2,y3,y4)).2) (λy0 y1 y2=>K (LQ (y0,y1,y2)).1 (LQ (y0,y1,y2)).2) x.2.2.2.1 x.2.2.2.2.1 x.1 x.2.1 x.2.2.1 x.2.2.2.2.2.1 x.2.2.2.2.2.2.1 x.2.2.2.2.2.2.2=exec (oX N) Tryz.f76.ntmps (aCw N) TQ (AQ x) (eN aCu aQe self K):=by kernel_rfl
theorem aQv N (hc:aF (oX N)):cN (oX N) Tryz.f76.ntmps (.loop TQ) LR LQ (aW 2) (aY AQ LN (qC N N.1)):=
 eV hc (aQp N) (iS aQg aQf .ret (.panic []) (λ_=>by kernel_rfl) (λ_=>by kernel_rfl) (λ_=>rfl) (λ_=>rfl) (by kernel_rfl)) (n:=N.1) (λx K=>eW (qC N) (λ_ _ _ _=>rfl) (λn K ih x=>by
  refine fK ?_ (aQk N _ K x);simp only[<-ih];rfl) N.1 x K)
def wP[aA](N:j3)(in0:bA->Int->Int->Int->Int->Int->Int->(List Ex)->(bA->Int->Int->Int->(List Ex)->O)->(Int->bA->Int->O)->O)(n1:Int)(g0:bA)(g1:Int):O:=
 br (decide (n1=3))
  (ck ((N.snd.snd.1 g0 g1).isSome)<|
  br (kM (N.snd.snd.1 g0 g1))
   (some (AP ((aV ((0:Int),(0:Int),[],[],(0:Int)) (N.snd.snd.1 g0 g1)).1) ((aV ((0:Int),(0:Int),[],[],(0:Int)) (N.snd.snd.1 g0 g1)).2.1) ((aV ((0:Int),(0:Int),[],[],(0:Int)) (N.snd.snd.1 g0 g1)).2.2.1) ((aV ((0:Int),(0:Int),[],[],(0:Int)) (N.snd.snd.1 g0 g1)).2.2.2.1) ((aV ((0:Int),(0:Int),[],[],(0:Int)) (N.snd.snd.1 g0 g1)).2.2.2.2)))
   (some (wN ((dF ((0:Int),[],(0:Int)) (N.snd.snd.1 g0 g1)).1) ((dF ((0:Int),[],(0:Int)) (N.snd.snd.1 g0 g1)).2.1) ((dF ((0:Int),[],(0:Int)) (N.snd.snd.1 g0 g1)).2.2))))
  (ck ((N.snd.snd.2 (aC.wrap (n1+1)) g0 g1).isSome)<|
  br (kM (N.snd.snd.2 (aC.wrap (n1+1)) g0 g1))
   (in0 ((aV ((0:Int),(0:Int),[],[],(0:Int)) (N.snd.snd.2 (aC.wrap (n1+1)) g0 g1)).2.2.2.1) ((aV ((0:Int),(0:Int),[],[],(0:Int)) (N.snd.snd.2 (aC.wrap (n1+1)) g0 g1)).2.2.2.2) n1 0 0 ((aV ((0:Int),(0:Int),[],[],(0:Int)) (N.snd.snd.2 (aC.wrap (n1+1)) g0 g1)).1) ((aV ((0:Int),(0:Int),[],[],(0:Int)) (N.snd.snd.2 (aC.wrap (n1+1)) g0 g1)).2.1) ((aV ((0:Int),(0:Int),[],[],(0:Int)) (N.snd.snd.2 (aC.wrap (n1+1)) g0 g1)).2.2.1)
    (λz1 z2 z3 z4 z5=>
     some (AP (z3) (z4) (z5) z1 z2))
    (λz6 z7 z8=>
     some (wN z6 z7 z8)))
   (some (wN ((dF ((0:Int),[],(0:Int)) (N.snd.snd.2 (aC.wrap (n1+1)) g0 g1)).1) ((dF ((0:Int),[],(0:Int)) (N.snd.snd.2 (aC.wrap (n1+1)) g0 g1)).2.1) ((dF ((0:Int),[],(0:Int)) (N.snd.snd.2 (aC.wrap (n1+1)) g0 g1)).2.2))))
def w76[aA] N n1 g0 g1:=wP N (TP N) n1 g0 g1
def aCx[aA](N:j3):Hint:=(.seq .d (.seq .d (.seq .d (.block (.sub aCu _ _ _ LR LQ (aW 2) (aY AQ LN (qC N N.1)))))))
theorem aQq N (hc:aF (oX N)):bJ (oX N) Tryz.f76.ntmps (aCx N) LP:=bO _ _ (aG trivial (aG trivial (aG trivial (aQv N hc))))
theorem aQl[aA] N n1 g0 g1:wP N (aCt N) n1 g0 g1=exec (oX N) Tryz.f76.ntmps (aCx N) LP ⟨bU 0 [.ref 50 0,.e (.i .i64) n1],[(50,.box 100 [.e .tx g0,.e (.i .i64) g1])],100⟩ (bX (oX N) Tryz.f76 false):=by kernel_rfl
theorem aCz{N:j3}(hc:aF (oX N)){n1:Int}{g0:bA}{g1:Int}{r:aE}(h:w76 N n1 g0 g1=some r):iL Tryz.prog 76 (([.ref 50 0,.e (.i .i64) n1]:List X).map X.D) (HA [(50,.box 100 [.e .tx g0,.e (.i .i64) g1])]) r:=
 yU hc (f:=76) (fn:=Tryz.f76) (code:=LP) (by kernel_rfl) (by kernel_rfl) (aQq N hc) (fN (by kernel_rfl)) (ow:=false) ((aQl N n1 g0 g1).symm.trans (by rw[aQt N];exact h))
def wM(r:aE):Option ((Int×Int×(List Ex)×bA×Int) ⊕ (Int×bA×Int)):=match r with
 |(.dY (.iface 96 (.int .i64 a0)),[(50,.box 100 [x1,x2])])=>(match ue .tx x1,ue (.i .i64) x2 with|some a1,some a2=>some (.inr (a0,a1,a2))|_,_=>none)
 |(.agg [x0,x1,x2],[(50,.box 100 [x3,x4])])=>(match ue (.i .i64) x0,ue (.i .i64) x1,ue (.sl .ex) x2,ue .tx x3,ue (.i .i64) x4 with|some a0,some a1,some a2,some a3,some a4=>some (.inl (a0,a1,a2,a3,a4))|_,_,_,_,_=>none)
 |_=>none
theorem aQi{r d}(h:wM r=some (.inl d)):r=AP d.1 d.2.1 d.2.2.1 d.2.2.2.1 d.2.2.2.2:=by
 unfold wM at h;split at h
 .split at h
  .cases h
  .cases h
 .split at h
  .rename_i h0 h1 h2 h3 h4;cases h;rw[aH h0,aH h1,aH h2,aH h3,aH h4];rfl
  .cases h
 .cases h
theorem aQh{r d}(h:wM r=some (.inr d)):r=wN d.1 d.2.1 d.2.2:=by
 unfold wM at h;split at h
 .split at h
  .rename_i h1 h2;cases h;rw[aH h1,aH h2];rfl
  .cases h
 .split at h
  .cases h
  .cases h
 .cases h
def AO N n1 g0 g1:=(w76 N n1 g0 g1).bind wM
theorem aQs{N}(hc:aF (oX N)){n1 g0 g1 d}(hd:AO N n1 g0 g1=some (.inl d)):cB Tryz.prog 76 [.ref 50 0,.e (.i .i64) n1] [(50,.box 100 [.e .tx g0,.e (.i .i64) g1])] (AP d.1 d.2.1 d.2.2.1 d.2.2.2.1 d.2.2.2.2):=by
 obtain⟨r,hr,hu⟩:=lH.1 hd;have:=aCz hc hr;rw[aQi hu]at this;exact this
theorem aQr{N}(hc:aF (oX N)){n1 g0 g1 d}(hd:AO N n1 g0 g1=some (.inr d)):iL Tryz.prog 76 (([.ref 50 0,.e (.i .i64) n1]:List X).map X.D) (HA [(50,.box 100 [.e .tx g0,.e (.i .i64) g1])]) (wN d.1 d.2.1 d.2.2):=by
 obtain⟨r,hr,hu⟩:=lH.1 hd;have:=aCz hc hr;rw[aQh hu]at this;exact this
def gQ(N:Nat):Nat->(bA->Int->Option ((Int×Int×(List Ex)×bA×Int) ⊕ (Int×bA×Int)))×(bA->Int->Option ((Int×Int×(List Ex)×bA×Int) ⊕ (Int×bA×Int)))×(Int->bA->Int->Option ((Int×Int×(List Ex)×bA×Int) ⊕ (Int×bA×Int)))
 |0=>(λ_ _=>none,λ_ _=>none,λ_ _ _=>none)
 |n+1=>(λg0 g1=>qI (N,gQ N n) g0 g1,λg0 g1=>wH (N,gQ N n) g0 g1,λn1 g0 g1=>AO (N,gQ N n) n1 g0 g1)
theorem aJP(N:Nat):∀n,kA Tryz.prog 106 (Bg (N,gQ N n))/\kA Tryz.prog 97 (zZ (N,gQ N n))/\kA Tryz.prog 76 (AR (N,gQ N n))
 |0=>⟨vL aJN (λ_ h=>by cases h),vL aBY (λ_ h=>by cases h),vL aCv (λ_ h=>by cases h)⟩
 |n+1=>
   have ih:=aJP N n
   ⟨vL aJN (λd h=>JV (zz:=qI (N,gQ N n) d.1 d.2) (R:=λy=>xR y.1 y.2.1 y.2.2.1 y.2.2.2.1 y.2.2.2.2) (R':=λy=>qJ y.1 y.2.1 y.2.2) (d0:=(0,0,[],[],0)) (d0':=(0,[],0)) (λ_ hy=>a3L (aJR (N,gQ N n) ih.1 ih.2.1 ih.2.2) hy) (λ_ hy=>a3K (aJR (N,gQ N n) ih.1 ih.2.1 ih.2.2) hy) h),vL aBY (λd h=>JV (zz:=wH (N,gQ N n) d.1 d.2) (R:=λy=>zX y.1 y.2.1 y.2.2.1 y.2.2.2.1 y.2.2.2.2) (R':=λy=>zW y.1 y.2.1 y.2.2) (d0:=(0,0,[],[],0)) (d0':=(0,[],0)) (λ_ hy=>aNg (aB1 (N,gQ N n) ih.1 ih.2.1 ih.2.2) hy) (λ_ hy=>aNf (aB1 (N,gQ N n) ih.1 ih.2.1 ih.2.2) hy) h),vL aCv (λd h=>JV (zz:=AO (N,gQ N n) d.1 d.2.1 d.2.2) (R:=λy=>AP y.1 y.2.1 y.2.2.1 y.2.2.2.1 y.2.2.2.2) (R':=λy=>wN y.1 y.2.1 y.2.2) (d0:=(0,0,[],[],0)) (d0':=(0,[],0)) (λ_ hy=>aQs (aDA (N,gQ N n) ih.1 ih.2.1 ih.2.2) hy) (λ_ hy=>aQr (aDA (N,gQ N n) ih.1 ih.2.1 ih.2.2) hy) h)⟩
def Cu N n1 g0 g1:=((gQ N N).2.2 n1 g0 g1).isSome
def oW N n1 g0 g1:=(aV (0,0,[],[],0) ((gQ N N).2.2 n1 g0 g1)).1
def oV N n1 g0 g1:=(aV (0,0,[],[],0) ((gQ N N).2.2 n1 g0 g1)).2.1
def oU N n1 g0 g1:=(aV (0,0,[],[],0) ((gQ N N).2.2 n1 g0 g1)).2.2.1
def gM N n1 g0 g1:=(aV (0,0,[],[],0) ((gQ N N).2.2 n1 g0 g1)).2.2.2.1
def gL N n1 g0 g1:=(aV (0,0,[],[],0) ((gQ N N).2.2 n1 g0 g1)).2.2.2.2
def wO(N:Nat)(n1:Int)(g0:bA)(g1:Int):Bool:=kM ((gQ N N).2.2 n1 g0 g1)
def Ct(N:Nat)(n1:Int)(g0:bA)(g1:Int):Int:=(dF (0,[],0) ((gQ N N).2.2 n1 g0 g1)).1
def aQn(N:Nat)(n1:Int)(g0:bA)(g1:Int):bA:=(dF (0,[],0) ((gQ N N).2.2 n1 g0 g1)).2.1
def aQm(N:Nat)(n1:Int)(g0:bA)(g1:Int):Int:=(dF (0,[],0) ((gQ N N).2.2 n1 g0 g1)).2.2
def aCy(N:Nat):kT:=vM LO (λd=>Cu N d.1 d.2.1 d.2.2) (λd=>some (wO N d.1 d.2.1 d.2.2)) (λd=>AP (oW N d.1 d.2.1 d.2.2) (oV N d.1 d.2.1 d.2.2) (oU N d.1 d.2.1 d.2.2) (gM N d.1 d.2.1 d.2.2) (gL N d.1 d.2.1 d.2.2)) (λd=>wN (Ct N d.1 d.2.1 d.2.2) (aQn N d.1 d.2.1 d.2.2) (aQm N d.1 d.2.1 d.2.2))
theorem aQo N:kA Tryz.prog 76 (aCy N):=(aJP N N).2.2
def nO(a0:Int):aE:=(.e (.i .i64) a0,[])
abbrev o6:=Nat×(Int->Int->(List Ex)->Option (Int))
def tV(N:o6):Cx:=⟨Tryz.prog,25,[(49,E1 .ex (λx0=>((N.2 (Ex.op x0) (Ex.num x0) (Ex.kids x0)).isSome,nO (((N.2 (Ex.op x0) (Ex.num x0) (Ex.kids x0)).getD 0)))))],[]⟩
def Uq:Code:=Tryz.f49.body.getD .skip
theorem aVG N (hs:aM Tryz.prog 49 (E1 .ex (λx0=>((N.2 (Ex.op x0) (Ex.num x0) (Ex.kids x0)).isSome,nO (((N.2 (Ex.op x0) (Ex.num x0) (Ex.kids x0)).getD 0)))))):aF (tV N):=bY (by kernel_rfl) (.cons (by kernel_rfl) hs .nil) .nil
def D2[aA](N:o6)(self:Int->Int->O)(k0:Int->O)(x0_1:(List Ex))(x0_2 x0_0 x0_3:Int):O:=
 br (decide (x0_3<x0_2))
  (gx x0_1 x0_3 λy3=>
  ck ((N.2 y3.op y3.num y3.kids).isSome)<|
  self (aC.wrap (x0_0+(N.2 y3.op y3.num y3.kids).getD (0:Int))) (aC.wrap (x0_3+1)))
  (k0 x0_0)
def Up:Code:=cK [1,1,0,1,0,0] Uq
def aFK:Nm:=⟨[3,7,8,9],[],[]⟩
def Af(x:Int×(List Ex)×Int×Int):Sg:=⟨[(3,.e (.i .i64) x.1),(7,.e (.sl .ex) x.2.1),(8,.e (.i .i64) x.2.2.1),(9,.e (.i .i64) x.2.2.2)],[],100⟩
def Mn(σ:Sg):Int×(List Ex)×Int×Int:=(aO (.i .i64) 3 0 σ,aO (.sl .ex) 7 0 σ,aO (.i .i64) 8 0 σ,aO (.i .i64) 9 0 σ)
theorem aUz:∀x,Mn (Af x)=x:=λ_=>by kernel_rfl
def Mp(y:Int):Exit×Sg:=((.exit 0),⟨[(3,.e (.i .i64) y)],[],100⟩)
def aUx(_:Exit)(σ:Sg):Int:=aO (.i .i64) 3 0 σ
def aUw:List (Exit×Nm):=[((.exit 0),⟨[3],[],[]⟩)]
def Ae[aA](N:o6):Nat->(Int×(List Ex)×Int×Int)->((Int)->O)->((Unit)->O)->((Unit)->O)->O
 |0,_,_,_,_=>none
 |n+1,x,k0,k1,k2=>D2 N (λv0 v1=>Ae N n (v0,x.2.1,x.2.2.1,v1) k0 k1 k2) (λy0=>k0 y0) x.2.1 x.2.2.1 x.1 x.2.2.2
def Uo[aA] N a0 a1 a2 a3 (k0:Int->O):=Ae N N.1 (a0,a1,a2,a3) (λy=>k0 y) (λ_=>none) (λ_=>none)
def aFJ[aA] N a0 a1 a2 a3 (k0:Int->O):=aY Af Mn (Ae N N.1) (Af (a0,a1,a2,a3)) (λy=>k0 y) (λ_=>none) (λ_=>none)
theorem aVF[aA] N:aFJ N=Uo N:=funext λ_=>funext λ_=>funext λ_=>funext λ_=>funext λ_=>cW aUz _ _ _ _
theorem aVA[aA](N:o6)(self:Sg->O)(K:Exit->Sg->O)(x:Int×(List Ex)×Int×Int):D2 N (λv0 v1=>self (Af (v0,x.2.1,x.2.2.1,v1))) (λy0=>K (Mp y0).1 (Mp y0).2) x.2.1 x.2.2.1 x.1 x.2.2.2=exec (tV N) Tryz.f49.ntmps .d Up (Af x) (eN aFK aUw self K):=by kernel_rfl
theorem aVJ N (hc:aF (tV N)):cN (tV N) Tryz.f49.ntmps (.loop Up) Mp (aW 1) (aW 2) (aY Af Mn (Ae N N.1)):=
 eV hc (cO Up) (eZ aUx (.exit 0) (λ_=>by kernel_rfl) (λ_=>rfl) (by kernel_rfl)) (n:=N.1) (λx K=>eW (Ae N) (λ_ _ _ _=>rfl) (λn K ih x=>by
  refine fK ?_ (aVA N _ K x);simp only[<-ih];rfl) N.1 x K)
def Us[aA](_:o6)(in0:Int->(List Ex)->Int->Int->(Int->O)->O)(_e0_0 _e0_1:Int)(C:(List Ex)):O:=
 in0 1 C ((↑C.length:Int)) 0
  (λz4=>
   some (nO z4))
def w49[aA] N A B C:=Us N (Uo N) A B C
def aFL[aA](N:o6):Hint:=(.seq .d (.seq .d (.seq (.seq .d (.block (.sub aFK _ _ _ Mp (aW 1) (aW 2) (aY Af Mn (Ae N N.1))))) .d)))
theorem aVD N (hc:aF (tV N)):bJ (tV N) Tryz.f49.ntmps (aFL N) Uq:=bO _ _ (aG trivial (aG trivial (aG (aG trivial (aVJ N hc)) trivial)))
theorem aVB[aA] N A B C:Us N (aFJ N) A B C=exec (tV N) Tryz.f49.ntmps (aFL N) Uq ⟨bU 0 [.agg [.e (.i .i64) A,.e (.i .i64) B,.e (.sl .ex) C]],[],100⟩ (bX (tV N) Tryz.f49 false):=by kernel_rfl
def HG(r:aE):Option (Int):=match r with
 |(x0,[])=>(match ue (.i .i64) x0 with|some a0=>some a0|_=>none)
 |_=>none
theorem aUy{r d}(h:HG r=some d):r=nO (d):=by
 unfold HG at h;split at h
 .split at h
  .rename_i h0;cases h;rw[aH h0];rfl
  .cases h
 .cases h
def Mm N A B C:=(w49 N A B C).bind HG
theorem aVE{N}(hc:aF (tV N)){A B C d}(hd:Mm N A B C=some d):cB Tryz.prog 49 [.agg [.e (.i .i64) A,.e (.i .i64) B,.e (.sl .ex) C]] [] (nO (d)):=
 cD hc (by kernel_rfl) (by kernel_rfl) (aVD N hc) (by kernel_rfl) aUy (λhr=>(aVB N A B C).symm.trans (by rw[aVF N];exact hr)) hd
def mM(N:Nat):Nat->Int->Int->(List Ex)->Option (Int)
 |0,_,_,_=>none
 |n+1,A,B,C=>Mm (N,mM N n) A B C
theorem aFO(N:Nat):∀n,aM Tryz.prog 49 (E1 .ex (λx0=>((mM N n (Ex.op x0) (Ex.num x0) (Ex.kids x0)).isSome,nO (((mM N n (Ex.op x0) (Ex.num x0) (Ex.kids x0)).getD 0)))))
 |0=>aM.e1 (λ_ h=>by cases h)
 |n+1=>aM.e1 (λx0 h=>by
   obtain⟨d,hd⟩:=s9.1 h;have hd':mM N (n+1) (Ex.op x0) (Ex.num x0) (Ex.kids x0)=some d:=hd;have e:nO (((mM N (n+1) (Ex.op x0) (Ex.num x0) (Ex.kids x0)).getD 0))=nO (d):=by rw[hd'];rfl
   show cR _ _ _ _ (nO (((mM N (n+1) (Ex.op x0) (Ex.num x0) (Ex.kids x0)).getD 0))).1.D (HA (nO (((mM N (n+1) (Ex.op x0) (Ex.num x0) (Ex.kids x0)).getD 0))).2);rw[e];exact aVE (N:=(N,mM N n)) (aVG (N,mM N n) (aFO N n)) hd')
def Mo N A B C:=(mM N N A B C).isSome
def HF N A B C:=((mM N N A B C).getD 0)
def aFM(N:Nat):bK:=E1 .ex (λx0=>(Mo N (Ex.op x0) (Ex.num x0) (Ex.kids x0),nO (HF N (Ex.op x0) (Ex.num x0) (Ex.kids x0))))
theorem aVC N:aM Tryz.prog 49 (aFM N):=aFO N N
def nN(a0:Int):aE:=(.e (.i .i64) a0,[])
def tU(N:o6):Cx:=⟨Tryz.prog,25,[(50,E1 .ex (λx0=>((N.2 (Ex.op x0) (Ex.num x0) (Ex.kids x0)).isSome,nN (((N.2 (Ex.op x0) (Ex.num x0) (Ex.kids x0)).getD 0)))))],[]⟩
def Ul:Code:=Tryz.f50.body.getD .skip
theorem aUs N (hs:aM Tryz.prog 50 (E1 .ex (λx0=>((N.2 (Ex.op x0) (Ex.num x0) (Ex.kids x0)).isSome,nN (((N.2 (Ex.op x0) (Ex.num x0) (Ex.kids x0)).getD 0)))))):aF (tU N):=bY (by kernel_rfl) (.cons (by kernel_rfl) hs .nil) .nil
def D1[aA](N:o6)(self:Int->Int->O)(k0:Int->O)(x0_1:(List Ex))(x0_2 x0_0 x0_3:Int):O:=
 br (decide (x0_3<x0_2))
  (gx x0_1 x0_3 λy3=>
  ck ((N.2 y3.op y3.num y3.kids).isSome)<|
  self (max x0_0 ((N.2 y3.op y3.num y3.kids).getD (0:Int))) (aC.wrap (x0_3+1)))
  (k0 x0_0)
def Uk:Code:=cK [1,1,0,1,0,0] Ul
def aFD:Nm:=⟨[3,7,8,9],[],[]⟩
def Ad(x:Int×(List Ex)×Int×Int):Sg:=⟨[(3,.e (.i .i64) x.1),(7,.e (.sl .ex) x.2.1),(8,.e (.i .i64) x.2.2.1),(9,.e (.i .i64) x.2.2.2)],[],100⟩
def Mj(σ:Sg):Int×(List Ex)×Int×Int:=(aO (.i .i64) 3 0 σ,aO (.sl .ex) 7 0 σ,aO (.i .i64) 8 0 σ,aO (.i .i64) 9 0 σ)
theorem aUl:∀x,Mj (Ad x)=x:=λ_=>by kernel_rfl
def Ml(y:Int):Exit×Sg:=((.exit 0),⟨[(3,.e (.i .i64) y)],[],100⟩)
def aUj(_:Exit)(σ:Sg):Int:=aO (.i .i64) 3 0 σ
def aUi:List (Exit×Nm):=[((.exit 0),⟨[3],[],[]⟩)]
def Ac[aA](N:o6):Nat->(Int×(List Ex)×Int×Int)->((Int)->O)->((Unit)->O)->((Unit)->O)->O
 |0,_,_,_,_=>none
 |n+1,x,k0,k1,k2=>D1 N (λv0 v1=>Ac N n (v0,x.2.1,x.2.2.1,v1) k0 k1 k2) (λy0=>k0 y0) x.2.1 x.2.2.1 x.1 x.2.2.2
def Uj[aA] N a0 a1 a2 a3 (k0:Int->O):=Ac N N.1 (a0,a1,a2,a3) (λy=>k0 y) (λ_=>none) (λ_=>none)
def aFC[aA] N a0 a1 a2 a3 (k0:Int->O):=aY Ad Mj (Ac N N.1) (Ad (a0,a1,a2,a3)) (λy=>k0 y) (λ_=>none) (λ_=>none)
theorem aUr[aA] N:aFC N=Uj N:=funext λ_=>funext λ_=>funext λ_=>funext λ_=>funext λ_=>cW aUl _ _ _ _
theorem aUm[aA](N:o6)(self:Sg->O)(K:Exit->Sg->O)(x:Int×(List Ex)×Int×Int):D1 N (λv0 v1=>self (Ad (v0,x.2.1,x.2.2.1,v1))) (λy0=>K (Ml y0).1 (Ml y0).2) x.2.1 x.2.2.1 x.1 x.2.2.2=exec (tU N) Tryz.f50.ntmps .d Uk (Ad x) (eN aFD aUi self K):=by kernel_rfl
theorem aUv N (hc:aF (tU N)):cN (tU N) Tryz.f50.ntmps (.loop Uk) Ml (aW 1) (aW 2) (aY Ad Mj (Ac N N.1)):=
 eV hc (cO Uk) (eZ aUj (.exit 0) (λ_=>by kernel_rfl) (λ_=>rfl) (by kernel_rfl)) (n:=N.1) (λx K=>eW (Ac N) (λ_ _ _ _=>rfl) (λn K ih x=>by
  refine fK ?_ (aUm N _ K x);simp only[<-ih];rfl) N.1 x K)
def Un[aA](_:o6)(in0:Int->(List Ex)->Int->Int->(Int->O)->O)(_e0_0 _e0_1:Int)(C:(List Ex)):O:=
 in0 0 C ((↑C.length:Int)) 0
  (λz4=>
   some (nN (aC.wrap (z4+1))))
def w50[aA] N A B C:=Un N (Uj N) A B C
def aFE[aA](N:o6):Hint:=(.seq .d (.seq .d (.seq (.seq .d (.block (.sub aFD _ _ _ Ml (aW 1) (aW 2) (aY Ad Mj (Ac N N.1))))) .d)))
theorem aUp N (hc:aF (tU N)):bJ (tU N) Tryz.f50.ntmps (aFE N) Ul:=bO _ _ (aG trivial (aG trivial (aG (aG trivial (aUv N hc)) trivial)))
theorem aUn[aA] N A B C:Un N (aFC N) A B C=exec (tU N) Tryz.f50.ntmps (aFE N) Ul ⟨bU 0 [.agg [.e (.i .i64) A,.e (.i .i64) B,.e (.sl .ex) C]],[],100⟩ (bX (tU N) Tryz.f50 false):=by kernel_rfl
def HE(r:aE):Option (Int):=match r with
 |(x0,[])=>(match ue (.i .i64) x0 with|some a0=>some a0|_=>none)
 |_=>none
theorem aUk{r d}(h:HE r=some d):r=nN (d):=by
 unfold HE at h;split at h
 .split at h
  .rename_i h0;cases h;rw[aH h0];rfl
  .cases h
 .cases h
def Mh N A B C:=(w50 N A B C).bind HE
theorem aUq{N}(hc:aF (tU N)){A B C d}(hd:Mh N A B C=some d):cB Tryz.prog 50 [.agg [.e (.i .i64) A,.e (.i .i64) B,.e (.sl .ex) C]] [] (nN (d)):=
 cD hc (by kernel_rfl) (by kernel_rfl) (aUp N hc) (by kernel_rfl) aUk (λhr=>(aUn N A B C).symm.trans (by rw[aUr N];exact hr)) hd
def mL(N:Nat):Nat->Int->Int->(List Ex)->Option (Int)
 |0,_,_,_=>none
 |n+1,A,B,C=>Mh (N,mL N n) A B C
theorem aFH(N:Nat):∀n,aM Tryz.prog 50 (E1 .ex (λx0=>((mL N n (Ex.op x0) (Ex.num x0) (Ex.kids x0)).isSome,nN (((mL N n (Ex.op x0) (Ex.num x0) (Ex.kids x0)).getD 0)))))
 |0=>aM.e1 (λ_ h=>by cases h)
 |n+1=>aM.e1 (λx0 h=>by
   obtain⟨d,hd⟩:=s9.1 h;have hd':mL N (n+1) (Ex.op x0) (Ex.num x0) (Ex.kids x0)=some d:=hd;have e:nN (((mL N (n+1) (Ex.op x0) (Ex.num x0) (Ex.kids x0)).getD 0))=nN (d):=by rw[hd'];rfl
   show cR _ _ _ _ (nN (((mL N (n+1) (Ex.op x0) (Ex.num x0) (Ex.kids x0)).getD 0))).1.D (HA (nN (((mL N (n+1) (Ex.op x0) (Ex.num x0) (Ex.kids x0)).getD 0))).2);rw[e];exact aUq (N:=(N,mL N n)) (aUs (N,mL N n) (aFH N n)) hd')
def Mk N A B C:=(mL N N A B C).isSome
def Mi N A B C:=((mL N N A B C).getD 0)
def aFF(N:Nat):bK:=E1 .ex (λx0=>(Mk N (Ex.op x0) (Ex.num x0) (Ex.kids x0),nN (Mi N (Ex.op x0) (Ex.num x0) (Ex.kids x0))))
theorem aUo N:aM Tryz.prog 50 (aFF N):=aFH N N
def GM(a0:Bool):aE:=(.e .bo a0,[])
def Sv(xs:List X)(H:XH):Option (Int×Int×(List Ex)):=match xs,H with
 |[.agg [x0,x1,x2]],[]=>(match ue (.i .i64) x0,ue (.i .i64) x1,ue (.sl .ex) x2 with|some a0,some a1,some a2=>some (a0,a1,a2)|_,_,_=>none)
 |_,_=>none
theorem aCP{xs H d}(h:Sv xs H=some d):xs=[.agg [.e (.i .i64) d.1,.e (.i .i64) d.2.1,.e (.sl .ex) d.2.2]]/\H=[]:=by
 unfold Sv at h;split at h
 .split at h
  .rename_i h0 h1 h2;cases h;rw[aH h0,aH h1,aH h2];exact⟨rfl,rfl⟩
  .cases h
 .cases h
abbrev jY:=Nat×((Int->Int->(List Ex)->Option (Bool))×((List Ex)->Option (Int))×((List Ex)->Option (Bool))×(Int->Int->(List Ex)->Bool->Option (Bool)))
def tH(N:jY):bK:=fD Sv (λd=>(N.2.1 d.1 d.2.1 d.2.2).isSome) (λd=>GM (((N.2.1 d.1 d.2.1 d.2.2).getD false)))
def xS(a0:Int):aE:=(.e (.i .i64) a0,[])
def Xr(xs:List X)(H:XH):Option ((List Ex)):=match xs,H with
 |[x0,.fn 83 []],[]=>(match ue (.sl .ex) x0 with|some a0=>some a0|_=>none)
 |_,_=>none
theorem aJY{xs H d}(h:Xr xs H=some d):xs=[.e (.sl .ex) (d),.fn 83 []]/\H=[]:=by
 unfold Xr at h;split at h
 .split at h
  .rename_i h0;cases h;rw[aH h0];exact⟨rfl,rfl⟩
  .cases h
 .cases h
def uY(N:jY):bK:=fD Xr (λd=>(N.2.2.1 (d)).isSome) (λd=>xS (((N.2.2.1 (d)).getD 0)))
def GP(a0:Bool):aE:=(.e .bo a0,[])
def Sy(xs:List X)(H:XH):Option ((List Ex)):=match xs,H with
 |[x0,.fn 83 []],[]=>(match ue (.sl .ex) x0 with|some a0=>some a0|_=>none)
 |_,_=>none
theorem aCU{xs H d}(h:Sy xs H=some d):xs=[.e (.sl .ex) (d),.fn 83 []]/\H=[]:=by
 unfold Sy at h;split at h
 .split at h
  .rename_i h0;cases h;rw[aH h0];exact⟨rfl,rfl⟩
  .cases h
 .cases h
def tI(N:jY):bK:=fD Sy (λd=>(N.2.2.2.1 (d)).isSome) (λd=>GP (((N.2.2.2.1 (d)).getD false)))
def rT(a0:Bool):aE:=(.e .bo a0,[])
def Mg(xs:List X)(H:XH):Option (Int×Int×(List Ex)×Bool):=match xs,H with
 |[.agg [x0,x1,x2],x3],[]=>(match ue (.i .i64) x0,ue (.i .i64) x1,ue (.sl .ex) x2,ue .bo x3 with|some a0,some a1,some a2,some a3=>some (a0,a1,a2,a3)|_,_,_,_=>none)
 |_,_=>none
theorem aEw{xs H d}(h:Mg xs H=some d):xs=[.agg [.e (.i .i64) d.1,.e (.i .i64) d.2.1,.e (.sl .ex) d.2.2.1],.e .bo d.2.2.2]/\H=[]:=by
 unfold Mg at h;split at h
 .split at h
  .rename_i h0 h1 h2 h3;cases h;rw[aH h0,aH h1,aH h2,aH h3];exact⟨rfl,rfl⟩
  .cases h
 .cases h
def tT(N:jY):bK:=fD Mg (λd=>(N.2.2.2.2 d.1 d.2.1 d.2.2.1 d.2.2.2).isSome) (λd=>rT (((N.2.2.2.2 d.1 d.2.1 d.2.2.1 d.2.2.2).getD false)))
def GN(N:jY):Cx:=⟨Tryz.prog,25,[(83,tH N),(102,uY N),(82,tI N),(51,tT N)],[]⟩
def aCS:Code:=Tryz.f83.body.getD .skip
theorem aP9 N (hw89:aM Tryz.prog 83 (tH N)) (hw108:aM Tryz.prog 102 (uY N)) (hw88:aM Tryz.prog 82 (tI N)) (hw56:aM Tryz.prog 51 (tT N)):aF (GN N):=bY (by kernel_rfl) (.cons (by kernel_rfl) hw89 (.cons (by kernel_rfl) hw108 (.cons (by kernel_rfl) hw88 (.cons (by kernel_rfl) hw56 .nil)))) .nil
def Sw[aA](N:jY)(k0_0 k0_1:Int)(k0_2:(List Ex)):O:=
 ck ((N.snd.snd.snd.2 k0_0 k0_1 k0_2 false).isSome)<|
 some (GM (!(N.snd.snd.snd.2 k0_0 k0_1 k0_2 false).getD false))
def w83[aA] N k0_0 k0_1 k0_2:=Sw N k0_0 k0_1 k0_2
def aCQ[aA](_:jY):Hint:=.d
theorem aP7 N:bJ (GN N) Tryz.f83.ntmps (aCQ N) aCS:=bO _ _ trivial
theorem aP6[aA] N k0_0 k0_1 k0_2:Sw N k0_0 k0_1 k0_2=exec (GN N) Tryz.f83.ntmps (aCQ N) aCS ⟨bU 0 [.agg [.e (.i .i64) k0_0,.e (.i .i64) k0_1,.e (.sl .ex) k0_2]],[],100⟩ (bX (GN N) Tryz.f83 false):=by kernel_rfl
def Su(r:aE):Option (Bool):=match r with
 |(x0,[])=>(match ue .bo x0 with|some a0=>some a0|_=>none)
 |_=>none
theorem aP5{r d}(h:Su r=some d):r=GM (d):=by
 unfold Su at h;split at h
 .split at h
  .rename_i h0;cases h;rw[aH h0];rfl
  .cases h
 .cases h
def GL N k0_0 k0_1 k0_2:=(w83 N k0_0 k0_1 k0_2).bind Su
theorem aP8{N}(hc:aF (GN N)){k0_0 k0_1 k0_2 d}(hd:GL N k0_0 k0_1 k0_2=some d):cB Tryz.prog 83 [.agg [.e (.i .i64) k0_0,.e (.i .i64) k0_1,.e (.sl .ex) k0_2]] [] (GM (d)):=
 cD hc (by kernel_rfl) (by kernel_rfl) (aP7 N) (by kernel_rfl) aP5 (aP6 N k0_0 k0_1 k0_2).symm.trans hd
def uX(N:jY):Cx:=⟨Tryz.prog,25,[(83,tH N),(102,uY N),(82,tI N),(51,tT N)],[]⟩
def Xt:Code:=Tryz.f102.body.getD .skip
theorem a35 N (hw89:aM Tryz.prog 83 (tH N)) (hw108:aM Tryz.prog 102 (uY N)) (hw88:aM Tryz.prog 82 (tI N)) (hw56:aM Tryz.prog 51 (tT N)):aF (uX N):=bY (by kernel_rfl) (.cons (by kernel_rfl) hw89 (.cons (by kernel_rfl) hw108 (.cons (by kernel_rfl) hw88 (.cons (by kernel_rfl) hw56 .nil)))) .nil
def Eg[aA](N:jY)(self:Int->O)(k0:Int->O)(k1:Unit->O)(x0_0:(List Ex))(x0_1 x0_2:Int):O:=
 br (decide (x0_2<x0_1))
  (gx x0_0 x0_2 λy3=>
  ck ((N.snd.1 y3.op y3.num y3.kids).isSome)<|
  br ((N.snd.1 y3.op y3.num y3.kids).getD false)
   (k0 x0_2)
   (self (aC.wrap (x0_2+1))))
  (k1 ())
def Xs:Code:=cK [1,0,1,0,0] Xt
def aJX:Nm:=⟨[0,1,7,8],[],[]⟩
def Bi(x:(List Ex)×Int×Int):Sg:=⟨[(0,.e (.sl .ex) x.1),(1,.fn 83 []),(7,.e (.i .i64) x.2.1),(8,.e (.i .i64) x.2.2)],[],100⟩
def Px(σ:Sg):(List Ex)×Int×Int:=(aO (.sl .ex) 0 0 σ,aO (.i .i64) 7 0 σ,aO (.i .i64) 8 0 σ)
theorem a3Y:∀x,Px (Bi x)=x:=λ_=>by kernel_rfl
def QA(y:Int):Exit×Sg:=(.ret,⟨[(4,.e (.i .i64) y)],[],100⟩)
def a3W(_:Exit)(σ:Sg):Int:=aO (.i .i64) 4 0 σ
def Pz(_:Unit):Exit×Sg:=((.exit 0),⟨[],[],100⟩)
def a3V(_:Exit)(_:Sg):Unit:=()
def a3U:List (Exit×Nm):=[(.ret,⟨[4],[],[]⟩),((.exit 0),⟨[],[],[]⟩)]
def sA[aA](N:jY):Nat->((List Ex)×Int×Int)->((Int)->O)->((Unit)->O)->((Unit)->O)->O
 |0,_,_,_,_=>none
 |n+1,x,k0,k1,k2=>Eg N (λv0=>sA N n (x.1,x.2.1,v0) k0 k1 k2) (λy0=>k0 y0) (λ(_:Unit)=>k1 ()) x.1 x.2.1 x.2.2
def Py[aA] N a0 a1 a2 (k0:Int->O) (k1:Unit->O):=sA N N.1 (a0,a1,a2) (λy=>k0 y) (λy=>k1 y) (λ_=>none)
def aJW[aA] N a0 a1 a2 (k0:Int->O) (k1:Unit->O):=aY Bi Px (sA N N.1) (Bi (a0,a1,a2)) (λy=>k0 y) (λy=>k1 y) (λ_=>none)
theorem a34[aA] N:aJW N=Py N:=funext λ_=>funext λ_=>funext λ_=>funext λ_=>funext λ_=>cW a3Y _ _ _ _
theorem a3Z[aA](N:jY)(self:Sg->O)(K:Exit->Sg->O)(x:(List Ex)×Int×Int):Eg N (λv0=>self (Bi (x.1,x.2.1,v0))) (λy0=>K (QA y0).1 (QA y0).2) (λ(_:Unit)=>K (Pz ()).1 (Pz ()).2) x.1 x.2.1 x.2.2=exec (uX N) Tryz.f102.ntmps .d Xs (Bi x) (eN aJX a3U self K):=by kernel_rfl
theorem a36 N (hc:aF (uX N)):cN (uX N) Tryz.f102.ntmps (.loop Xs) QA Pz (aW 2) (aY Bi Px (sA N N.1)):=
 eV hc (cO Xs) (iS a3W a3V .ret (.exit 0) (λ_=>by kernel_rfl) (λ_=>by kernel_rfl) (λ_=>rfl) (λ_=>rfl) (by kernel_rfl)) (n:=N.1) (λx K=>eW (sA N) (λ_ _ _ _=>rfl) (λn K ih x=>by
  refine fK ?_ (a3Z N _ K x);simp only[<-ih];rfl) N.1 x K)
def QB[aA](_:jY)(in0:(List Ex)->Int->Int->(Int->O)->(Unit->O)->O)(s0:(List Ex)):O:=
 in0 s0 ((↑s0.length:Int)) 0
  (λz4=>
   some (xS z4))
  (λ(_:Unit)=>
   some (xS ((-1:Int))))
def Xu[aA] N s0:=QB N (Py N) s0
def aJZ[aA](N:jY):Hint:=(.seq .d (.seq (.seq .d (.block (.sub aJX _ _ _ QA Pz (aW 2) (aY Bi Px (sA N N.1))))) .d))
theorem a32 N (hc:aF (uX N)):bJ (uX N) Tryz.f102.ntmps (aJZ N) Xt:=bO _ _ (aG trivial (aG (aG trivial (a36 N hc)) trivial))
theorem a30[aA] N s0:QB N (aJW N) s0=exec (uX N) Tryz.f102.ntmps (aJZ N) Xt ⟨bU 0 [.e (.sl .ex) s0,.fn 83 []],[],100⟩ (bX (uX N) Tryz.f102 false):=by kernel_rfl
def Ig(r:aE):Option (Int):=match r with
 |(x0,[])=>(match ue (.i .i64) x0 with|some a0=>some a0|_=>none)
 |_=>none
theorem a3X{r d}(h:Ig r=some d):r=xS (d):=by
 unfold Ig at h;split at h
 .split at h
  .rename_i h0;cases h;rw[aH h0];rfl
  .cases h
 .cases h
def Bh N s0:=(Xu N s0).bind Ig
theorem a33{N}(hc:aF (uX N)){s0 d}(hd:Bh N s0=some d):cB Tryz.prog 102 [.e (.sl .ex) s0,.fn 83 []] [] (xS (d)):=
 cD hc (by kernel_rfl) (by kernel_rfl) (a32 N hc) (by kernel_rfl) a3X (λhr=>(a30 N s0).symm.trans (by rw[a34 N];exact hr)) hd
def GQ(N:jY):Cx:=⟨Tryz.prog,25,[(83,tH N),(102,uY N),(82,tI N),(51,tT N)],[]⟩
def aCW:Code:=Tryz.f82.body.getD .skip
theorem aPe N (hw89:aM Tryz.prog 83 (tH N)) (hw108:aM Tryz.prog 102 (uY N)) (hw88:aM Tryz.prog 82 (tI N)) (hw56:aM Tryz.prog 51 (tT N)):aF (GQ N):=bY (by kernel_rfl) (.cons (by kernel_rfl) hw89 (.cons (by kernel_rfl) hw108 (.cons (by kernel_rfl) hw88 (.cons (by kernel_rfl) hw56 .nil)))) .nil
def Sz[aA](N:jY)(s0:(List Ex)):O:=
 ck ((N.snd.snd.1 s0).isSome)<|
 some (GP (decide ((0:Int)<=(N.snd.snd.1 s0).getD (0:Int))))
def w82[aA] N s0:=Sz N s0
def aCV[aA](_:jY):Hint:=.d
theorem aPc N:bJ (GQ N) Tryz.f82.ntmps (aCV N) aCW:=bO _ _ trivial
theorem aPb[aA] N s0:Sz N s0=exec (GQ N) Tryz.f82.ntmps (aCV N) aCW ⟨bU 0 [.e (.sl .ex) s0,.fn 83 []],[],100⟩ (bX (GQ N) Tryz.f82 false):=by kernel_rfl
def Sx(r:aE):Option (Bool):=match r with
 |(x0,[])=>(match ue .bo x0 with|some a0=>some a0|_=>none)
 |_=>none
theorem aPa{r d}(h:Sx r=some d):r=GP (d):=by
 unfold Sx at h;split at h
 .split at h
  .rename_i h0;cases h;rw[aH h0];rfl
  .cases h
 .cases h
def GO N s0:=(w82 N s0).bind Sx
theorem aPd{N}(hc:aF (GQ N)){s0 d}(hd:GO N s0=some d):cB Tryz.prog 82 [.e (.sl .ex) s0,.fn 83 []] [] (GP (d)):=
 cD hc (by kernel_rfl) (by kernel_rfl) (aPc N) (by kernel_rfl) aPa (aPb N s0).symm.trans hd
def HD(N:jY):Cx:=⟨Tryz.prog,25,[(83,tH N),(102,uY N),(82,tI N),(51,tT N)],[]⟩
def aEz:Code:=Tryz.f51.body.getD .skip
theorem aUg N (hw89:aM Tryz.prog 83 (tH N)) (hw108:aM Tryz.prog 102 (uY N)) (hw88:aM Tryz.prog 82 (tI N)) (hw56:aM Tryz.prog 51 (tT N)):aF (HD N):=bY (by kernel_rfl) (.cons (by kernel_rfl) hw89 (.cons (by kernel_rfl) hw108 (.cons (by kernel_rfl) hw88 (.cons (by kernel_rfl) hw56 .nil)))) .nil
def Ui[aA](N:jY)(A B:Int)(C:(List Ex))(root1:Bool):O:=
 br (decide (A<(0:Int))||decide ((11:Int)<=A))
  (some (rT false))
  (gx [((0:Int),(999999:Int),(4:Int),(0:UInt8)),((0:Int),(25:Int),(4:Int),(0:UInt8)),((1:Int),(0:Int),(3:Int),(45:UInt8)),((2:Int),(0:Int),(1:Int),(43:UInt8)),((2:Int),(0:Int),(1:Int),(45:UInt8)),((2:Int),(0:Int),(2:Int),(42:UInt8)),((2:Int),(0:Int),(2:Int),(47:UInt8)),((2:Int),(0:Int),(3:Int),(94:UInt8)),((1:Int),(0:Int),(4:Int),(82:UInt8)),((2:Int),(0:Int),(0:Int),(61:UInt8)),((2:Int),(0:Int),(0:Int),(60:UInt8))] A λy0=>
  br (decide ((↑C.length:Int)≠y0.1)||decide (B<(0:Int))||decide (y0.2.1<B)||decide (y0.2.2.1=0)&&!root1)
   (some (rT false))
   (ck ((N.snd.snd.snd.1 C).isSome)<|
   some (rT (!(N.snd.snd.snd.1 C).getD false))))
def w51[aA] N A B C root1:=Ui N A B C root1
def aEx[aA](_:jY):Hint:=.d
theorem aUe N:bJ (HD N) Tryz.f51.ntmps (aEx N) aEz:=bO _ _ trivial
theorem aUc[aA] N A B C root1:Ui N A B C root1=exec (HD N) Tryz.f51.ntmps (aEx N) aEz ⟨bU 0 [.agg [.e (.i .i64) A,.e (.i .i64) B,.e (.sl .ex) C],.e .bo root1],[],100⟩ (bX (HD N) Tryz.f51 false):=by kernel_rfl
def D0(r:aE):Option (Bool):=match r with
 |(x0,[])=>(match ue .bo x0 with|some a0=>some a0|_=>none)
 |_=>none
theorem aUb{r d}(h:D0 r=some d):r=rT (d):=by
 unfold D0 at h;split at h
 .split at h
  .rename_i h0;cases h;rw[aH h0];rfl
  .cases h
 .cases h
def DZ N A B C root1:=(w51 N A B C root1).bind D0
theorem aUf{N}(hc:aF (HD N)){A B C root1 d}(hd:DZ N A B C root1=some d):cB Tryz.prog 51 [.agg [.e (.i .i64) A,.e (.i .i64) B,.e (.sl .ex) C],.e .bo root1] [] (rT (d)):=
 cD hc (by kernel_rfl) (by kernel_rfl) (aUe N) (by kernel_rfl) aUb (aUc N A B C root1).symm.trans hd
def fR(N:Nat):Nat->(Int->Int->(List Ex)->Option (Bool))×((List Ex)->Option (Int))×((List Ex)->Option (Bool))×(Int->Int->(List Ex)->Bool->Option (Bool))
 |0=>(λ_ _ _=>none,λ_=>none,λ_=>none,λ_ _ _ _=>none)
 |n+1=>(λk0_0 k0_1 k0_2=>GL (N,fR N n) k0_0 k0_1 k0_2,λs0=>Bh (N,fR N n) s0,λs0=>GO (N,fR N n) s0,λA B C root1=>DZ (N,fR N n) A B C root1)
theorem aCR(N:Nat):∀n,aM Tryz.prog 83 (tH (N,fR N n))/\aM Tryz.prog 102 (uY (N,fR N n))/\aM Tryz.prog 82 (tI (N,fR N n))/\aM Tryz.prog 51 (tT (N,fR N n))
 |0=>⟨eO aCP (λ_ h=>by cases h),eO aJY (λ_ h=>by cases h),eO aCU (λ_ h=>by cases h),eO aEw (λ_ h=>by cases h)⟩
 |n+1=>
   have ih:=aCR N n
   ⟨eO aCP (λd h=>pM (zz:=GL (N,fR N n) d.1 d.2.1 d.2.2) (R:=λy=>GM (y)) (d0:=false) (λ_ hy=>aP8 (aP9 (N,fR N n) ih.1 ih.2.1 ih.2.2.1 ih.2.2.2) hy) h),eO aJY (λd h=>pM (zz:=Bh (N,fR N n) (d)) (R:=λy=>xS (y)) (d0:=0) (λ_ hy=>a33 (a35 (N,fR N n) ih.1 ih.2.1 ih.2.2.1 ih.2.2.2) hy) h),eO aCU (λd h=>pM (zz:=GO (N,fR N n) (d)) (R:=λy=>GP (y)) (d0:=false) (λ_ hy=>aPd (aPe (N,fR N n) ih.1 ih.2.1 ih.2.2.1 ih.2.2.2) hy) h),eO aEw (λd h=>pM (zz:=DZ (N,fR N n) d.1 d.2.1 d.2.2.1 d.2.2.2) (R:=λy=>rT (y)) (d0:=false) (λ_ hy=>aUf (aUg (N,fR N n) ih.1 ih.2.1 ih.2.2.1 ih.2.2.2) hy) h)⟩
def Mf N A B C root1:=((fR N N).2.2.2 A B C root1).isSome
def Me N A B C root1:=(((fR N N).2.2.2 A B C root1).getD false)
def aEy(N:Nat):bK:=fD Mg (λd=>Mf N d.1 d.2.1 d.2.2.1 d.2.2.2) (λd=>rT (Me N d.1 d.2.1 d.2.2.1 d.2.2.2))
theorem aUd N:aM Tryz.prog 51 (aEy N):=(aCR N N).2.2.2
def Dy(a0:Int):aE:=(.e (.i .i64) a0,[])
def He(N:Nat):Cx:=⟨Tryz.prog,25,[(49,aFM N),(50,aFF N),(51,aEy N)],[]⟩
def aGr:Code:=Tryz.f29.body.getD .skip
theorem aY6 N:aF (He N):=bY (by kernel_rfl) (.cons (by kernel_rfl) (aVC N) (.cons (by kernel_rfl) (aUo N) (.cons (by kernel_rfl) (aUd N) .nil))) .nil
def Vu[aA](N:Nat)(A B:Int)(C:(List Ex)):O:=
 ck (Mo N A B C)<|
 ck (!!decide ((256:Int)<HF N A B C)||Mk N A B C)<|
 br (decide ((256:Int)<HF N A B C)||decide ((16:Int)<Mi N A B C))
  (some (Dy 4))
  (ck (Mf N A B C true)<|
  br (!Me N A B C true)
   (some (Dy 1))
   (some (Dy 0)))
def w29[aA] N A B C:=Vu N A B C
def aGq[aA](_:Nat):Hint:=.d
theorem aY4 N:bJ (He N) Tryz.f29.ntmps (aGq N) aGr:=bO _ _ trivial
theorem aY3[aA] N A B C:Vu N A B C=exec (He N) Tryz.f29.ntmps (aGq N) aGr ⟨bU 0 [.agg [.e (.i .i64) A,.e (.i .i64) B,.e (.sl .ex) C]],[],100⟩ (bX (He N) Tryz.f29 false):=by kernel_rfl
def Vt(r:aE):Option (Int):=match r with
 |(x0,[])=>(match ue (.i .i64) x0 with|some a0=>some a0|_=>none)
 |_=>none
theorem aY2{r d}(h:Vt r=some d):r=Dy (d):=by
 unfold Vt at h;split at h
 .split at h
  .rename_i h0;cases h;rw[aH h0];rfl
  .cases h
 .cases h
def Hc N A B C:=(w29 N A B C).bind Vt
theorem aY5{N}(hc:aF (He N)){A B C d}(hd:Hc N A B C=some d):cB Tryz.prog 29 [.agg [.e (.i .i64) A,.e (.i .i64) B,.e (.sl .ex) C]] [] (Dy (d)):=
 cD hc (by kernel_rfl) (by kernel_rfl) (aY4 N) (by kernel_rfl) aY2 (aY3 N A B C).symm.trans hd
def uD N A B C:=(Hc N A B C).isSome
def qG N A B C:=((Hc N A B C).getD 0)
def Hd(N:Nat):bK:=E1 .ex (λx0=>(uD N (Ex.op x0) (Ex.num x0) (Ex.kids x0),Dy (qG N (Ex.op x0) (Ex.num x0) (Ex.kids x0))))
theorem O0 N:aM Tryz.prog 29 (Hd N):=aM.e1 (λ_ h=>cY h (aY5 (aY6 N)) rfl)
def Ie(a0:bA):aE:=(.own 100,[(100,.row 5 .u8 a0 true)])
def If(N:Nat):Cx:=⟨Tryz.prog,25,[(109,aJJ N)],[]⟩
def aJV:Code:=Tryz.f104.body.getD .skip
theorem a3S N:aF (If N):=bY (by kernel_rfl) (.cons (by kernel_rfl) (a2x N) .nil) .nil
def Pw[aA](N:Nat)(i1 base2:Int)(g0:bA):O:=
 br (decide (i1<0))
  (ck (cF (g0++[(45:UInt8)]).length (1:Nat))<|
  ck (Bd N (IntKind.u64.wrap (-IntKind.u64.wrap i1)) base2 (g0++[(45:UInt8)]))<|
  some (Ie (Xl N (IntKind.u64.wrap (-IntKind.u64.wrap i1)) base2 (g0++[(45:UInt8)]))))
  (ck (Bd N (IntKind.u64.wrap i1) base2 g0)<|
  some (Ie (Xl N (IntKind.u64.wrap i1) base2 g0)))
def a3T[aA] N i1 base2 g0:=Pw N i1 base2 g0
def aJT[aA](_:Nat):Hint:=.d
theorem a3Q N:bJ (If N) Tryz.f104.ntmps (aJT N) aJV:=bO _ _ trivial
theorem a3N[aA] N i1 base2 g0:Pw N i1 base2 g0=exec (If N) Tryz.f104.ntmps (aJT N) aJV ⟨bU 0 [.own 50,.e (.i .i64) i1,.e (.i .i64) base2],[(50,.row 5 .u8 g0 true)],100⟩ (bX (If N) Tryz.f104 true):=by kernel_rfl
def Pu(r:aE):Option (bA):=match r with
 |(.own 100,[(100,x0)])=>(match ur 5 .u8 true x0 with|some a0=>some a0|_=>none)
 |_=>none
theorem a3M{r d}(h:Pu r=some d):r=Ie (d):=by
 unfold Pu at h;split at h
 .split at h
  .rename_i h0;cases h;rw[jF h0];rfl
  .cases h
 .cases h
def Ic N i1 base2 g0:=(a3T N i1 base2 g0).bind Pu
theorem a3R{N}(hc:aF (If N)){i1 base2 g0 d}(hd:Ic N i1 base2 g0=some d):cB Tryz.prog 104 [.own 50,.e (.i .i64) i1,.e (.i .i64) base2] [(50,.row 5 .u8 g0 true)] (Ie (d)):=
 cD hc (by kernel_rfl) (by kernel_rfl) (a3Q N) (by kernel_rfl) a3M (a3N N i1 base2 g0).symm.trans hd
def Pv N i1 base2 g0:=(Ic N i1 base2 g0).isSome
def Pt N i1 base2 g0:=((Ic N i1 base2 g0).getD [])
def Xq(xs:List X)(H:XH):Option (Int×Int×bA):=match xs,H with
 |[.own 50,x0,x1],[(50,x2)]=>(match ue (.i .i64) x0,ue (.i .i64) x1,ur 5 .u8 true x2 with|some a0,some a1,some a2=>some (a0,a1,a2)|_,_,_=>none)
 |_,_=>none
theorem a3P{xs H d}(h:Xq xs H=some d):xs=[.own 50,.e (.i .i64) d.1,.e (.i .i64) d.2.1]/\H=[(50,.row 5 .u8 d.2.2 true)]:=by
 unfold Xq at h;split at h
 .split at h
  .rename_i h0 h1 h2;cases h;rw[aH h0,aH h1,jF h2];exact⟨rfl,rfl⟩
  .cases h
 .cases h
def aJU(N:Nat):bK:=fD Xq (λd=>Pv N d.1 d.2.1 d.2.2) (λd=>Ie (Pt N d.1 d.2.1 d.2.2))
theorem a3O N:aM Tryz.prog 104 (aJU N):=eO a3P (λd h=>cY (z:=Ic N d.1 d.2.1 d.2.2) h (a3R (a3S N)) rfl)
def Kl(a0:bA):aE:=(.own 100,[(100,.row 5 .u8 a0 true)])
def GH(N:Nat):Cx:=⟨Tryz.prog,25,[(104,aJU N)],[]⟩
def aCG:Code:=Tryz.f90.body.getD .skip
theorem aPN N:aF (GH N):=bY (by kernel_rfl) (.cons (by kernel_rfl) (a3O N) .nil) .nil
def Kn[aA](N:Nat)(i1 base2:Int)(g0:bA):O:=
 ck (Pv N i1 base2 g0)<|
 some (Kl (Pt N i1 base2 g0))
def w90[aA] N i1 base2 g0:=Kn N i1 base2 g0
def aCE[aA](_:Nat):Hint:=.d
theorem aPL N:bJ (GH N) Tryz.f90.ntmps (aCE N) aCG:=bO _ _ trivial
theorem aPI[aA] N i1 base2 g0:Kn N i1 base2 g0=exec (GH N) Tryz.f90.ntmps (aCE N) aCG ⟨bU 0 [.own 50,.e (.i .i64) i1,.e (.i .i64) base2],[(50,.row 5 .u8 g0 true)],100⟩ (bX (GH N) Tryz.f90 true):=by kernel_rfl
def Kk(r:aE):Option (bA):=match r with
 |(.own 100,[(100,x0)])=>(match ur 5 .u8 true x0 with|some a0=>some a0|_=>none)
 |_=>none
theorem aPH{r d}(h:Kk r=some d):r=Kl (d):=by
 unfold Kk at h;split at h
 .split at h
  .rename_i h0;cases h;rw[jF h0];rfl
  .cases h
 .cases h
def GG N i1 base2 g0:=(w90 N i1 base2 g0).bind Kk
theorem aPM{N}(hc:aF (GH N)){i1 base2 g0 d}(hd:GG N i1 base2 g0=some d):cB Tryz.prog 90 [.own 50,.e (.i .i64) i1,.e (.i .i64) base2] [(50,.row 5 .u8 g0 true)] (Kl (d)):=
 cD hc (by kernel_rfl) (by kernel_rfl) (aPL N) (by kernel_rfl) aPH (aPI N i1 base2 g0).symm.trans hd
def Km N i1 base2 g0:=(GG N i1 base2 g0).isSome
def Kj N i1 base2 g0:=((GG N i1 base2 g0).getD [])
def Sn(xs:List X)(H:XH):Option (Int×Int×bA):=match xs,H with
 |[.own 50,x0,x1],[(50,x2)]=>(match ue (.i .i64) x0,ue (.i .i64) x1,ur 5 .u8 true x2 with|some a0,some a1,some a2=>some (a0,a1,a2)|_,_,_=>none)
 |_,_=>none
theorem aPK{xs H d}(h:Sn xs H=some d):xs=[.own 50,.e (.i .i64) d.1,.e (.i .i64) d.2.1]/\H=[(50,.row 5 .u8 d.2.2 true)]:=by
 unfold Sn at h;split at h
 .split at h
  .rename_i h0 h1 h2;cases h;rw[aH h0,aH h1,jF h2];exact⟨rfl,rfl⟩
  .cases h
 .cases h
def aCF(N:Nat):bK:=fD Sn (λd=>Km N d.1 d.2.1 d.2.2) (λd=>Kl (Kj N d.1 d.2.1 d.2.2))
theorem aPJ N:aM Tryz.prog 90 (aCF N):=eO aPK (λd h=>cY (z:=GG N d.1 d.2.1 d.2.2) h (aPM (aPN N)) rfl)
end
end Go.Proofs
