/- What functions do: the reader of the reference. Conditions are in the theorems. -/
import Derived.Test.YtlhdefefoaldfaaGreatDoorE7
import Derived.Test.YtlhdefefoaldfaaGreatDoorProg
import Derived.KernelRfl
import Derived.Test.YtlhdefefoaldfaaGreatDoorF0
import Derived.Test.YtlhdefefoaldfaaGreatDoorF3
open And renaming intro->aH
open Eq renaming trans->gM
open Go.IntKind renaming i64->aB
/- What functions do. -/
namespace Go.Proofs
noncomputable section
open Go.Ax Go.Ax.aA Go.RowKit Go.Ab
open Go
abbrev aY:=List UInt8
def Ez(a0:aY)(a1:Int)(a2:Bool):aC:=(.bD [],[(50,.box 104 [.e .tx a0,.e (.i .i64) a1,.e .bo a2])])
def sL(_:Nat):Cx:=⟨Tryz.prog,25,[],[]⟩
def QG:Code:=Tryz.f81.body.getD .skip
theorem aLo N:aD (sL N):=bZ (by kernel_rfl) .nil .nil
def Bm[aA](_:Nat)(self:Int->O)(k0:aY->Int->Bool->O)(x0_0:aY)(x0_2:Bool)(x0_1:Int):O:=
 gc (decide (x0_1<(↑x0_0.length:Int))) 0 x0_0 x0_1 λy3=>
 br (decide (x0_1<(↑x0_0.length:Int))&&decide (y3=32))
  (self (aB.wrap (x0_1+1)))
  (k0 x0_0 x0_1 x0_2)
def QF:Code:=cP [0,0] QG
def ZN:Nm:=⟨[0],[],[]⟩
def yV(x:aY×Int×Bool):Sg:=⟨[(0,.ref 50 0)],[(50,.box 104 [.e .tx x.1,.e (.i .i64) x.2.1,.e .bo x.2.2])],100⟩
def JQ(σ:Sg):aY×Int×Bool:=(aL .tx 50 0 σ,aL (.i .i64) 50 1 σ,aL .bo 50 2 σ)
theorem aLh:∀x,JQ (yV x)=x:=λ_=>by kernel_rfl
def JS(y:aY×Int×Bool):Exit×Sg:=((.exit 0),⟨[],[(50,.box 104 [.e .tx y.1,.e (.i .i64) y.2.1,.e .bo y.2.2])],100⟩)
def aLf(_:Exit)(σ:Sg):aY×Int×Bool:=(aL .tx 50 0 σ,aL (.i .i64) 50 1 σ,aL .bo 50 2 σ)
def aLe:List (Exit×Nm):=[((.exit 0),⟨[],[],[]⟩)]
def yU[aA](N:Nat):Nat->(aY×Int×Bool)->((aY×Int×Bool)->O)->((Unit)->O)->((Unit)->O)->O
 |0,_,_,_,_=>none
 |n+1,x,k0,k1,k2=>Bm N (λv0=>yU N n (x.1,v0,x.2.2) k0 k1 k2) (λy0 y1 y2=>k0 (y0,y1,y2)) x.1 x.2.2 x.2.1
def ZM[aA] N a0 a1 a2 (k0:aY->Int->Bool->O):=yU N N (a0,a1,a2) (λy=>k0 y.1 y.2.1 y.2.2) (λ_=>none) (λ_=>none)
def ZK[aA] N a0 a1 a2 (k0:aY->Int->Bool->O):=bB yV JQ (yU N N) (yV (a0,a1,a2)) (λy=>k0 y.1 y.2.1 y.2.2) (λ_=>none) (λ_=>none)
theorem aLn[aA] N:ZK N=ZM N:=funext λ_=>funext λ_=>funext λ_=>funext λ_=>dD aLh _ _ _ _
theorem aLi[aA](N:Nat)(self:Sg->O)(K:Exit->Sg->O)(x:aY×Int×Bool):Bm N (λv0=>self (yV (x.1,v0,x.2.2))) (λy0 y1 y2=>K (JS (y0,y1,y2)).1 (JS (y0,y1,y2)).2) x.1 x.2.2 x.2.1=exec (sL N) Tryz.f81.ntmps .d QF (yV x) (fE ZN aLe self K):=by kernel_rfl
theorem aLp N (hc:aD (sL N)):cU (sL N) Tryz.f81.ntmps (.loop QF) JS (aV 1) (aV 2) (bB yV JQ (yU N N)):=
 fW hc (cT QF) (fF aLf (.exit 0) (λ_=>by kernel_rfl) (λ_=>rfl) (by kernel_rfl)) (n:=N) (λx K=>fY (yU N) (λ_ _ _ _=>rfl) (λn K ih x=>by
  refine gM ?_ (aLi N _ K x);simp only[<-ih];rfl) N x K)
def ZU[aA](_:Nat)(in0:aY->Int->Bool->(aY->Int->Bool->O)->O)(g0:aY)(g1:Int)(g2:Bool):O:=
 in0 g0 g1 g2
  (λz4 z5 z6=>
   some (Ez z4 z5 z6))
def w81[aA] N g0 g1 g2:=ZU N (ZM N) g0 g1 g2
def ZO[aA](N:Nat):Hint:=(.block (.sub ZN _ _ _ JS (aV 1) (aV 2) (bB yV JQ (yU N N))))
theorem aLl N (hc:aD (sL N)):bJ (sL N) Tryz.f81.ntmps (ZO N) QG:=bR _ _ (aLp N hc)
theorem aLj[aA] N g0 g1 g2:ZU N (ZK N) g0 g1 g2=exec (sL N) Tryz.f81.ntmps (ZO N) QG ⟨bW 0 [.ref 50 0],[(50,.box 104 [.e .tx g0,.e (.i .i64) g1,.e .bo g2])],100⟩ (bX (sL N) Tryz.f81 false):=by kernel_rfl
def JP(r:aC):Option (aY×Int×Bool):=match r with
 |(.bD [],[(50,.box 104 [x0,x1,x2])])=>(match ue .tx x0,ue (.i .i64) x1,ue .bo x2 with|some a0,some a1,some a2=>some (a0,a1,a2)|_,_,_=>none)
 |_=>none
theorem aLg{r d}(h:JP r=some d):r=Ez d.1 d.2.1 d.2.2:=by
 unfold JP at h;split at h
 .split at h
  .rename_i h0 h1 h2;cases h;rw[aE h0,aE h1,aE h2];rfl
  .cases h
 .cases h
def yT N g0 g1 g2:=(w81 N g0 g1 g2).bind JP
theorem aLm{N}(hc:aD (sL N)){g0 g1 g2 d}(hd:yT N g0 g1 g2=some d):cB Tryz.prog 81 [.ref 50 0] [(50,.box 104 [.e .tx g0,.e (.i .i64) g1,.e .bo g2])] (Ez d.1 d.2.1 d.2.2):=
 cD hc (by kernel_rfl) (by kernel_rfl) (aLl N hc) (by kernel_rfl) aLg (λhr=>(aLj N g0 g1 g2).symm.trans (by rw[aLn N];exact hr)) hd
def FA N g0 g1 g2:=(yT N g0 g1 g2).isSome
def vG N g0 g1 g2:=((yT N g0 g1 g2).getD ([],0,false)).1
def vF N g0 g1 g2:=((yT N g0 g1 g2).getD ([],0,false)).2.1
def Bl N g0 g1 g2:=((yT N g0 g1 g2).getD ([],0,false)).2.2
def QD(xs:List X)(H:XH):Option (aY×Int×Bool):=match xs,H with
 |[.ref 50 0],[(50,.box 104 [x0,x1,x2])]=>(match ue .tx x0,ue (.i .i64) x1,ue .bo x2 with|some a0,some a1,some a2=>some (a0,a1,a2)|_,_,_=>none)
 |_,_=>none
theorem aLk{xs H d}(h:QD xs H=some d):xs=[.ref 50 0]/\H=[(50,.box 104 [.e .tx d.1,.e (.i .i64) d.2.1,.e .bo d.2.2])]:=by
 unfold QD at h;split at h
 .split at h
  .rename_i h0 h1 h2;cases h;rw[aE h0,aE h1,aE h2];exact⟨rfl,rfl⟩
  .cases h
 .cases h
def QE(N:Nat):bK:=eU QD (λd=>FA N d.1 d.2.1 d.2.2) (λd=>Ez (vG N d.1 d.2.1 d.2.2) (vF N d.1 d.2.1 d.2.2) (Bl N d.1 d.2.1 d.2.2))
theorem ZL N:aK Tryz.prog 81 (QE N):=eH aLk (λd h=>cV (z:=yT N d.1 d.2.1 d.2.2) h (aLm (aLo N)) rfl)
def Gu(a0:UInt8)(a1:aY)(a2:Int)(a3:Bool):aC:=(.e .u8 a0,[(50,.box 104 [.e .tx a1,.e (.i .i64) a2,.e .bo a3])])
def Gw(N:Nat):Cx:=⟨Tryz.prog,25,[(81,QE N)],[]⟩
def aFe:Code:=Tryz.f101.body.getD .skip
theorem aYE N:aD (Gw N):=bZ (by kernel_rfl) (.cons (by kernel_rfl) (ZL N) .nil) .nil
def NV[aA](N:Nat)(g0:aY)(g1:Int)(g2:Bool):O:=
 ck (FA N g0 g1 g2)<|
 br (decide ((↑(vG N g0 g1 g2).length:Int)<=vF N g0 g1 g2))
  (some (Gu 0 (vG N g0 g1 g2) (vF N g0 g1 g2) (Bl N g0 g1 g2)))
  (gx (vG N g0 g1 g2) (vF N g0 g1 g2) λy0=>
  some (Gu y0 (vG N g0 g1 g2) (vF N g0 g1 g2) (Bl N g0 g1 g2)))
def aYF[aA] N g0 g1 g2:=NV N g0 g1 g2
def aFd[aA](_:Nat):Hint:=.d
theorem aYC N:bJ (Gw N) Tryz.f101.ntmps (aFd N) aFe:=bR _ _ trivial
theorem aYA[aA] N g0 g1 g2:NV N g0 g1 g2=exec (Gw N) Tryz.f101.ntmps (aFd N) aFe ⟨bW 0 [.ref 50 0],[(50,.box 104 [.e .tx g0,.e (.i .i64) g1,.e .bo g2])],100⟩ (bX (Gw N) Tryz.f101 false):=by kernel_rfl
def NU(r:aC):Option (UInt8×aY×Int×Bool):=match r with
 |(x0,[(50,.box 104 [x1,x2,x3])])=>(match ue .u8 x0,ue .tx x1,ue (.i .i64) x2,ue .bo x3 with|some a0,some a1,some a2,some a3=>some (a0,a1,a2,a3)|_,_,_,_=>none)
 |_=>none
theorem aXz{r d}(h:NU r=some d):r=Gu d.1 d.2.1 d.2.2.1 d.2.2.2:=by
 unfold NU at h;split at h
 .split at h
  .rename_i h0 h1 h2 h3;cases h;rw[aE h0,aE h1,aE h2,aE h3];rfl
  .cases h
 .cases h
def wL N g0 g1 g2:=(aYF N g0 g1 g2).bind NU
theorem aYD{N}(hc:aD (Gw N)){g0 g1 g2 d}(hd:wL N g0 g1 g2=some d):cB Tryz.prog 101 [.ref 50 0] [(50,.box 104 [.e .tx g0,.e (.i .i64) g1,.e .bo g2])] (Gu d.1 d.2.1 d.2.2.1 d.2.2.2):=
 cD hc (by kernel_rfl) (by kernel_rfl) (aYC N) (by kernel_rfl) aXz (aYA N g0 g1 g2).symm.trans hd
def Gv N g0 g1 g2:=(wL N g0 g1 g2).isSome
def tV N g0 g1 g2:=((wL N g0 g1 g2).getD (0,[],0,false)).1
def Ar N g0 g1 g2:=((wL N g0 g1 g2).getD (0,[],0,false)).2.1
def wM N g0 g1 g2:=((wL N g0 g1 g2).getD (0,[],0,false)).2.2.1
def D0 N g0 g1 g2:=((wL N g0 g1 g2).getD (0,[],0,false)).2.2.2
def U6(xs:List X)(H:XH):Option (aY×Int×Bool):=match xs,H with
 |[.ref 50 0],[(50,.box 104 [x0,x1,x2])]=>(match ue .tx x0,ue (.i .i64) x1,ue .bo x2 with|some a0,some a1,some a2=>some (a0,a1,a2)|_,_,_=>none)
 |_,_=>none
theorem aYB{xs H d}(h:U6 xs H=some d):xs=[.ref 50 0]/\H=[(50,.box 104 [.e .tx d.1,.e (.i .i64) d.2.1,.e .bo d.2.2])]:=by
 unfold U6 at h;split at h
 .split at h
  .rename_i h0 h1 h2;cases h;rw[aE h0,aE h1,aE h2];exact⟨rfl,rfl⟩
  .cases h
 .cases h
def U7(N:Nat):bK:=eU U6 (λd=>Gv N d.1 d.2.1 d.2.2) (λd=>Gu (tV N d.1 d.2.1 d.2.2) (Ar N d.1 d.2.1 d.2.2) (wM N d.1 d.2.1 d.2.2) (D0 N d.1 d.2.1 d.2.2))
theorem aFc N:aK Tryz.prog 101 (U7 N):=eH aYB (λd h=>cV (z:=wL N d.1 d.2.1 d.2.2) h (aYD (aYE N)) rfl)
def yW(a0:Bool)(a1:aY)(a2:Int)(a3:Bool):aC:=(.e .bo a0,[(50,.box 104 [.e .tx a1,.e (.i .i64) a2,.e .bo a3])])
def FC(N:Nat):Cx:=⟨Tryz.prog,25,[(101,U7 N)],[]⟩
def ZW:Code:=Tryz.f80.body.getD .skip
theorem aLw N:aD (FC N):=bZ (by kernel_rfl) (.cons (by kernel_rfl) (aFc N) .nil) .nil
def Bo[aA](N:Nat)(c1:UInt8)(g0:aY)(g1:Int)(g2:Bool):O:=
 br g2
  (br (true||decide ((↑g0.length:Int)<=g1))
   (some (yW false g0 g1 g2))
   (some (yW true g0 (aB.wrap (g1+1)) g2)))
  (ck (Gv N g0 g1 g2)<|
  br (decide (tV N g0 g1 g2≠c1)||decide ((↑(Ar N g0 g1 g2).length:Int)<=wM N g0 g1 g2))
   (some (yW false (Ar N g0 g1 g2) (wM N g0 g1 g2) (D0 N g0 g1 g2)))
   (some (yW true (Ar N g0 g1 g2) (aB.wrap (wM N g0 g1 g2+(1:Int))) (D0 N g0 g1 g2))))
def w80[aA] N c1 g0 g1 g2:=Bo N c1 g0 g1 g2
def ZV[aA](_:Nat):Hint:=(.seq .d (.seq (.seq (.gO [1005] [] [[],[],[],[],[],[],[50],[],[],[],[],[],[],[],[],[],[],[],[],[],[],[]]) .d) .d))
theorem aLu N:bJ (FC N) Tryz.f80.ntmps (ZV N) ZW:=bR _ _ (aH trivial (aH (aH trivial trivial) trivial))
theorem aLs[aA] N c1 g0 g1 g2:Bo N c1 g0 g1 g2=exec (FC N) Tryz.f80.ntmps (ZV N) ZW ⟨bW 0 [.ref 50 0,.e .u8 c1],[(50,.box 104 [.e .tx g0,.e (.i .i64) g1,.e .bo g2])],100⟩ (bX (FC N) Tryz.f80 false):=by kernel_rfl
def FB(r:aC):Option (Bool×aY×Int×Bool):=match r with
 |(x0,[(50,.box 104 [x1,x2,x3])])=>(match ue .bo x0,ue .tx x1,ue (.i .i64) x2,ue .bo x3 with|some a0,some a1,some a2,some a3=>some (a0,a1,a2,a3)|_,_,_,_=>none)
 |_=>none
theorem aLr{r d}(h:FB r=some d):r=yW d.1 d.2.1 d.2.2.1 d.2.2.2:=by
 unfold FB at h;split at h
 .split at h
  .rename_i h0 h1 h2 h3;cases h;rw[aE h0,aE h1,aE h2,aE h3];rfl
  .cases h
 .cases h
def k7 N c1 g0 g1 g2:=(w80 N c1 g0 g1 g2).bind FB
theorem aLv{N}(hc:aD (FC N)){c1 g0 g1 g2 d}(hd:k7 N c1 g0 g1 g2=some d):cB Tryz.prog 80 [.ref 50 0,.e .u8 c1] [(50,.box 104 [.e .tx g0,.e (.i .i64) g1,.e .bo g2])] (yW d.1 d.2.1 d.2.2.1 d.2.2.2):=
 cD hc (by kernel_rfl) (by kernel_rfl) (aLu N) (by kernel_rfl) aLr (aLs N c1 g0 g1 g2).symm.trans hd
def mQ N c1 g0 g1 g2:=(k7 N c1 g0 g1 g2).isSome
def mP N c1 g0 g1 g2:=((k7 N c1 g0 g1 g2).getD (false,[],0,false)).1
def kL N c1 g0 g1 g2:=((k7 N c1 g0 g1 g2).getD (false,[],0,false)).2.1
def kK N c1 g0 g1 g2:=((k7 N c1 g0 g1 g2).getD (false,[],0,false)).2.2.1
def k8 N c1 g0 g1 g2:=((k7 N c1 g0 g1 g2).getD (false,[],0,false)).2.2.2
def QH(xs:List X)(H:XH):Option (UInt8×aY×Int×Bool):=match xs,H with
 |[.ref 50 0,x0],[(50,.box 104 [x1,x2,x3])]=>(match ue .u8 x0,ue .tx x1,ue (.i .i64) x2,ue .bo x3 with|some a0,some a1,some a2,some a3=>some (a0,a1,a2,a3)|_,_,_,_=>none)
 |_,_=>none
theorem aLt{xs H d}(h:QH xs H=some d):xs=[.ref 50 0,.e .u8 d.1]/\H=[(50,.box 104 [.e .tx d.2.1,.e (.i .i64) d.2.2.1,.e .bo d.2.2.2])]:=by
 unfold QH at h;split at h
 .split at h
  .rename_i h0 h1 h2 h3;cases h;rw[aE h0,aE h1,aE h2,aE h3];exact⟨rfl,rfl⟩
  .cases h
 .cases h
def yX(N:Nat):bK:=eU QH (λd=>mQ N d.1 d.2.1 d.2.2.1 d.2.2.2) (λd=>yW (mP N d.1 d.2.1 d.2.2.1 d.2.2.2) (kL N d.1 d.2.1 d.2.2.1 d.2.2.2) (kK N d.1 d.2.1 d.2.2.1 d.2.2.2) (k8 N d.1 d.2.1 d.2.2.1 d.2.2.2))
theorem Bn N:aK Tryz.prog 80 (yX N):=eH aLt (λd h=>cV (z:=k7 N d.1 d.2.1 d.2.2.1 d.2.2.2) h (aLv (aLw N)) rfl)
def A7(a0 a1:Int)(a2:(List Ex))(a3:aY)(a4:Int)(a5:Bool):aC:=(.agg [.e (.i .i64) a0,.e (.i .i64) a1,.e (.sl .ex) a2],[(50,.box 104 [.e .tx a3,.e (.i .i64) a4,.e .bo a5])])
def tK(_:Nat):Cx:=⟨Tryz.prog,25,[],[]⟩
def Tw:Code:=Tryz.f118.body.getD .skip
theorem aWd N:aD (tK N):=bZ (by kernel_rfl) .nil .nil
def wE[aA](_:Nat)(self:Int->Int->O)(k0:Int->Int->Int->Int->aY->Int->Bool->Int->Int->O)(x0_0 x0_1:Int)(x0_4:aY)(x0_5:Int)(x0_6:Bool)(x0_7 x0_8 x0_2 x0_3:Int):O:=
 gc (decide (x0_3<(↑x0_4.length:Int))) 0 x0_4 x0_3 λy7=>
 gc (decide (x0_3<(↑x0_4.length:Int))&&decide (48<=y7)) 0 x0_4 x0_3 λy8=>
 br (decide (x0_3<(↑x0_4.length:Int))&&decide (48<=y7)&&decide (y8<=57))
  (br (decide (aB.wrap (x0_3-x0_1)<(7:Int)))
   (gx x0_4 x0_3 λy9=>
   self (aB.wrap (aB.wrap ((10:Int)*x0_2)+aB.wrap (↑(y9-(48:UInt8)).toNat:Int))) (aB.wrap (x0_3+1)))
   (self x0_2 (aB.wrap (x0_3+1))))
  (k0 x0_0 x0_1 x0_2 x0_3 x0_4 x0_5 x0_6 x0_7 x0_8)
def Tv:Code:=cP [1,1,1,1,0,0,0] Tw
def aEq:Nm:=⟨[0,2,7,9,3,4,5],[],[]⟩
def A8(x:Int×Int×Int×Int×aY×Int×Bool×Int×Int):Sg:=⟨[(0,.ref 50 0),(2,.ref 0 0),(7,.ref 50 0),(9,.e (.i .i64) x.1),(3,.e (.i .i64) x.2.1),(4,.e (.i .i64) x.2.2.1),(5,.e (.i .i64) x.2.2.2.1)],[(50,.box 104 [.e .tx x.2.2.2.2.1,.e (.i .i64) x.2.2.2.2.2.1,.e .bo x.2.2.2.2.2.2.1]),(0,.box 25 [.e (.i .i64) x.2.2.2.2.2.2.2.1,.e (.i .i64) x.2.2.2.2.2.2.2.2,.cH])],100⟩
def NA(σ:Sg):Int×Int×Int×Int×aY×Int×Bool×Int×Int:=(aW (.i .i64) 9 0 σ,aW (.i .i64) 3 0 σ,aW (.i .i64) 4 0 σ,aW (.i .i64) 5 0 σ,aL .tx 50 0 σ,aL (.i .i64) 50 1 σ,aL .bo 50 2 σ,aL (.i .i64) 0 0 σ,aL (.i .i64) 0 1 σ)
theorem aW5:∀x,NA (A8 x)=x:=λ_=>by kernel_rfl
def NB(y:Int×Int×Int×Int×aY×Int×Bool×Int×Int):Exit×Sg:=((.exit 0),⟨[(0,.ref 50 0),(2,.ref 0 0),(9,.e (.i .i64) y.1),(3,.e (.i .i64) y.2.1),(4,.e (.i .i64) y.2.2.1),(5,.e (.i .i64) y.2.2.2.1)],[(50,.box 104 [.e .tx y.2.2.2.2.1,.e (.i .i64) y.2.2.2.2.2.1,.e .bo y.2.2.2.2.2.2.1]),(0,.box 25 [.e (.i .i64) y.2.2.2.2.2.2.2.1,.e (.i .i64) y.2.2.2.2.2.2.2.2,.cH])],100⟩)
def aW3(_:Exit)(σ:Sg):Int×Int×Int×Int×aY×Int×Bool×Int×Int:=(aW (.i .i64) 9 0 σ,aW (.i .i64) 3 0 σ,aW (.i .i64) 4 0 σ,aW (.i .i64) 5 0 σ,aL .tx 50 0 σ,aL (.i .i64) 50 1 σ,aL .bo 50 2 σ,aL (.i .i64) 0 0 σ,aL (.i .i64) 0 1 σ)
def aW2:List (Exit×Nm):=[((.exit 0),⟨[0,2,9,3,4,5],[],[]⟩)]
def rB[aA](N:Nat):Nat->(Int×Int×Int×Int×aY×Int×Bool×Int×Int)->((Int×Int×Int×Int×aY×Int×Bool×Int×Int)->O)->((Unit)->O)->((Unit)->O)->O
 |0,_,_,_,_=>none
 |n+1,x,k0,k1,k2=>wE N (λv0 v1=>rB N n (x.1,x.2.1,v0,v1,x.2.2.2.2.1,x.2.2.2.2.2.1,x.2.2.2.2.2.2.1,x.2.2.2.2.2.2.2.1,x.2.2.2.2.2.2.2.2) k0 k1 k2) (λy0 y1 y2 y3 y4 y5 y6 y7 y8=>k0 (y0,y1,y2,y3,y4,y5,y6,y7,y8)) x.1 x.2.1 x.2.2.2.2.1 x.2.2.2.2.2.1 x.2.2.2.2.2.2.1 x.2.2.2.2.2.2.2.1 x.2.2.2.2.2.2.2.2 x.2.2.1 x.2.2.2.1
def aEp[aA] N a0 a1 a2 a3 a4 a5 a6 a7 a8 (k0:Int->Int->Int->Int->aY->Int->Bool->Int->Int->O):=rB N N (a0,a1,a2,a3,a4,a5,a6,a7,a8) (λy=>k0 y.1 y.2.1 y.2.2.1 y.2.2.2.1 y.2.2.2.2.1 y.2.2.2.2.2.1 y.2.2.2.2.2.2.1 y.2.2.2.2.2.2.2.1 y.2.2.2.2.2.2.2.2) (λ_=>none) (λ_=>none)
def aEo[aA] N a0 a1 a2 a3 a4 a5 a6 a7 a8 (k0:Int->Int->Int->Int->aY->Int->Bool->Int->Int->O):=bB A8 NA (rB N N) (A8 (a0,a1,a2,a3,a4,a5,a6,a7,a8)) (λy=>k0 y.1 y.2.1 y.2.2.1 y.2.2.2.1 y.2.2.2.2.1 y.2.2.2.2.2.1 y.2.2.2.2.2.2.1 y.2.2.2.2.2.2.2.1 y.2.2.2.2.2.2.2.2) (λ_=>none) (λ_=>none)
theorem aWc[aA] N:aEo N=aEp N:=funext λ_=>funext λ_=>funext λ_=>funext λ_=>funext λ_=>funext λ_=>funext λ_=>funext λ_=>funext λ_=>funext λ_=>dD aW5 _ _ _ _
theorem aW6[aA](N:Nat)(self:Sg->O)(K:Exit->Sg->O)(x:Int×Int×Int×Int×aY×Int×Bool×Int×Int):wE N (λv0 v1=>self (A8 (x.1,x.2.1,v0,v1,x.2.2.2.2.1,x.2.2.2.2.2.1,x.2.2.2.2.2.2.1,x.2.2.2.2.2.2.2.1,x.2.2.2.2.2.2.2.2))) (λy0 y1 y2 y3 y4 y5 y6 y7 y8=>K (NB (y0,y1,y2,y3,y4,y5,y6,y7,y8)).1 (NB (y0,y1,y2,y3,y4,y5,y6,y7,y8)).2) x.1 x.2.1 x.2.2.2.2.1 x.2.2.2.2.2.1 x.2.2.2.2.2.2.1 x.2.2.2.2.2.2.2.1 x.2.2.2.2.2.2.2.2 x.2.2.1 x.2.2.2.1=exec (tK N) Tryz.f118.ntmps .d Tv (A8 x) (fE aEq aW2 self K):=by kernel_rfl
theorem aWf N (hc:aD (tK N)):cU (tK N) Tryz.f118.ntmps (.loop Tv) NB (aV 1) (aV 2) (bB A8 NA (rB N N)):=
 fW hc (cT Tv) (fF aW3 (.exit 0) (λ_=>by kernel_rfl) (λ_=>rfl) (by kernel_rfl)) (n:=N) (λx K=>fY (rB N) (λ_ _ _ _=>rfl) (λn K ih x=>by
  refine gM ?_ (aW6 N _ K x);simp only[<-ih];rfl) N x K)
def aEt[aA](_:Nat)(in0:Int->Int->Int->Int->aY->Int->Bool->Int->Int->(Int->Int->Int->Int->aY->Int->Bool->Int->Int->O)->O)(g0:aY)(g1:Int)(g2:Bool):O:=
 in0 g1 g1 0 g1 g0 g1 g2 0 0
  (λ_ z11 z12 z13 z14 z15 z16 _ _=>
   gc (!decide ((6:Int)<aB.wrap (z13-z11))&&decide ((1:Int)<aB.wrap (z13-z11))) 0 z14 z11 λy19=>
   br (decide ((6:Int)<aB.wrap (z13-z11))||decide ((1:Int)<aB.wrap (z13-z11))&&decide (y19=48))
    (some (A7 0 0 [] z14 z15 true))
    (some (A7 0 (z12) ([]) z14 z13 z16)))
def aWg[aA] N g0 g1 g2:=aEt N (aEp N) g0 g1 g2
def aEr[aA](N:Nat):Hint:=(.seq .d (.seq .d (.seq .d (.seq .d (.seq (.block (.sub aEq _ _ _ NB (aV 1) (aV 2) (bB A8 NA (rB N N)))) .d)))))
theorem aWa N (hc:aD (tK N)):bJ (tK N) Tryz.f118.ntmps (aEr N) Tw:=bR _ _ (aH trivial (aH trivial (aH trivial (aH trivial (aH (aWf N hc) trivial)))))
theorem aW7[aA] N g0 g1 g2:aEt N (aEo N) g0 g1 g2=exec (tK N) Tryz.f118.ntmps (aEr N) Tw ⟨bW 0 [.ref 50 0],[(50,.box 104 [.e .tx g0,.e (.i .i64) g1,.e .bo g2])],100⟩ (bX (tK N) Tryz.f118 false):=by kernel_rfl
def Mz(r:aC):Option (Int×Int×(List Ex)×aY×Int×Bool):=match r with
 |(.agg [x0,x1,x2],[(50,.box 104 [x3,x4,x5])])=>(match ue (.i .i64) x0,ue (.i .i64) x1,ue (.sl .ex) x2,ue .tx x3,ue (.i .i64) x4,ue .bo x5 with|some a0,some a1,some a2,some a3,some a4,some a5=>some (a0,a1,a2,a3,a4,a5)|_,_,_,_,_,_=>none)
 |_=>none
theorem aW4{r d}(h:Mz r=some d):r=A7 d.1 d.2.1 d.2.2.1 d.2.2.2.1 d.2.2.2.2.1 d.2.2.2.2.2:=by
 unfold Mz at h;split at h
 .split at h
  .rename_i h0 h1 h2 h3 h4 h5;cases h;rw[aE h0,aE h1,aE h2,aE h3,aE h4,aE h5];rfl
  .cases h
 .cases h
def rA N g0 g1 g2:=(aWg N g0 g1 g2).bind Mz
theorem aWb{N}(hc:aD (tK N)){g0 g1 g2 d}(hd:rA N g0 g1 g2=some d):cB Tryz.prog 118 [.ref 50 0] [(50,.box 104 [.e .tx g0,.e (.i .i64) g1,.e .bo g2])] (A7 d.1 d.2.1 d.2.2.1 d.2.2.2.1 d.2.2.2.2.1 d.2.2.2.2.2):=
 cD hc (by kernel_rfl) (by kernel_rfl) (aWa N hc) (by kernel_rfl) aW4 (λhr=>(aW7 N g0 g1 g2).symm.trans (by rw[aWc N];exact hr)) hd
def Tt N g0 g1 g2:=(rA N g0 g1 g2).isSome
def Ts N g0 g1 g2:=((rA N g0 g1 g2).getD (0,0,[],[],0,false)).1
def Tr N g0 g1 g2:=((rA N g0 g1 g2).getD (0,0,[],[],0,false)).2.1
def Tq N g0 g1 g2:=((rA N g0 g1 g2).getD (0,0,[],[],0,false)).2.2.1
def Tp N g0 g1 g2:=((rA N g0 g1 g2).getD (0,0,[],[],0,false)).2.2.2.1
def To N g0 g1 g2:=((rA N g0 g1 g2).getD (0,0,[],[],0,false)).2.2.2.2.1
def Tn N g0 g1 g2:=((rA N g0 g1 g2).getD (0,0,[],[],0,false)).2.2.2.2.2
def Tu(xs:List X)(H:XH):Option (aY×Int×Bool):=match xs,H with
 |[.ref 50 0],[(50,.box 104 [x0,x1,x2])]=>(match ue .tx x0,ue (.i .i64) x1,ue .bo x2 with|some a0,some a1,some a2=>some (a0,a1,a2)|_,_,_=>none)
 |_,_=>none
theorem aW9{xs H d}(h:Tu xs H=some d):xs=[.ref 50 0]/\H=[(50,.box 104 [.e .tx d.1,.e (.i .i64) d.2.1,.e .bo d.2.2])]:=by
 unfold Tu at h;split at h
 .split at h
  .rename_i h0 h1 h2;cases h;rw[aE h0,aE h1,aE h2];exact⟨rfl,rfl⟩
  .cases h
 .cases h
def aEs(N:Nat):bK:=eU Tu (λd=>Tt N d.1 d.2.1 d.2.2) (λd=>A7 (Ts N d.1 d.2.1 d.2.2) (Tr N d.1 d.2.1 d.2.2) (Tq N d.1 d.2.1 d.2.2) (Tp N d.1 d.2.1 d.2.2) (To N d.1 d.2.1 d.2.2) (Tn N d.1 d.2.1 d.2.2))
theorem aW8 N:aK Tryz.prog 118 (aEs N):=eH aW9 (λd h=>cV (z:=rA N d.1 d.2.1 d.2.2) h (aWb (aWd N)) rfl)
def Gc(a0:aY)(a1:Int)(a2:Bool):aC:=(.bD [],[(50,.box 104 [.e .tx a0,.e (.i .i64) a1,.e .bo a2])])
def Gf(N:Nat):Cx:=⟨Tryz.prog,25,[(80,yX N)],[]⟩
def aEn:Code:=Tryz.f119.body.getD .skip
theorem aW0 N:aD (Gf N):=bZ (by kernel_rfl) (.cons (by kernel_rfl) (Bn N) .nil) .nil
def My[aA](N:Nat)(c1:UInt8)(g0:aY)(g1:Int)(g2:Bool):O:=
 ck (mQ N c1 g0 g1 g2)<|
 br (!mP N c1 g0 g1 g2)
  (some (Gc (kL N c1 g0 g1 g2) (kK N c1 g0 g1 g2) true))
  (some (Gc (kL N c1 g0 g1 g2) (kK N c1 g0 g1 g2) (k8 N c1 g0 g1 g2)))
def aW1[aA] N c1 g0 g1 g2:=My N c1 g0 g1 g2
def aEl[aA](_:Nat):Hint:=.d
theorem aWY N:bJ (Gf N) Tryz.f119.ntmps (aEl N) aEn:=bR _ _ trivial
theorem aWV[aA] N c1 g0 g1 g2:My N c1 g0 g1 g2=exec (Gf N) Tryz.f119.ntmps (aEl N) aEn ⟨bW 0 [.ref 50 0,.e .u8 c1],[(50,.box 104 [.e .tx g0,.e (.i .i64) g1,.e .bo g2])],100⟩ (bX (Gf N) Tryz.f119 false):=by kernel_rfl
def Mx(r:aC):Option (aY×Int×Bool):=match r with
 |(.bD [],[(50,.box 104 [x0,x1,x2])])=>(match ue .tx x0,ue (.i .i64) x1,ue .bo x2 with|some a0,some a1,some a2=>some (a0,a1,a2)|_,_,_=>none)
 |_=>none
theorem aWU{r d}(h:Mx r=some d):r=Gc d.1 d.2.1 d.2.2:=by
 unfold Mx at h;split at h
 .split at h
  .rename_i h0 h1 h2;cases h;rw[aE h0,aE h1,aE h2];rfl
  .cases h
 .cases h
def nE N c1 g0 g1 g2:=(aW1 N c1 g0 g1 g2).bind Mx
theorem aWZ{N}(hc:aD (Gf N)){c1 g0 g1 g2 d}(hd:nE N c1 g0 g1 g2=some d):cB Tryz.prog 119 [.ref 50 0,.e .u8 c1] [(50,.box 104 [.e .tx g0,.e (.i .i64) g1,.e .bo g2])] (Gc d.1 d.2.1 d.2.2):=
 cD hc (by kernel_rfl) (by kernel_rfl) (aWY N) (by kernel_rfl) aWU (aWV N c1 g0 g1 g2).symm.trans hd
def Ge N c1 g0 g1 g2:=(nE N c1 g0 g1 g2).isSome
def Gb N c1 g0 g1 g2:=((nE N c1 g0 g1 g2).getD ([],0,false)).1
def Ga N c1 g0 g1 g2:=((nE N c1 g0 g1 g2).getD ([],0,false)).2.1
def G9 N c1 g0 g1 g2:=((nE N c1 g0 g1 g2).getD ([],0,false)).2.2
def Tm(xs:List X)(H:XH):Option (UInt8×aY×Int×Bool):=match xs,H with
 |[.ref 50 0,x0],[(50,.box 104 [x1,x2,x3])]=>(match ue .u8 x0,ue .tx x1,ue (.i .i64) x2,ue .bo x3 with|some a0,some a1,some a2,some a3=>some (a0,a1,a2,a3)|_,_,_,_=>none)
 |_,_=>none
theorem aWX{xs H d}(h:Tm xs H=some d):xs=[.ref 50 0,.e .u8 d.1]/\H=[(50,.box 104 [.e .tx d.2.1,.e (.i .i64) d.2.2.1,.e .bo d.2.2.2])]:=by
 unfold Tm at h;split at h
 .split at h
  .rename_i h0 h1 h2 h3;cases h;rw[aE h0,aE h1,aE h2,aE h3];exact⟨rfl,rfl⟩
  .cases h
 .cases h
def aEm(N:Nat):bK:=eU Tm (λd=>Ge N d.1 d.2.1 d.2.2.1 d.2.2.2) (λd=>Gc (Gb N d.1 d.2.1 d.2.2.1 d.2.2.2) (Ga N d.1 d.2.1 d.2.2.1 d.2.2.2) (G9 N d.1 d.2.1 d.2.2.1 d.2.2.2))
theorem aWW N:aK Tryz.prog 119 (aEm N):=eH aWX (λd h=>cV (z:=nE N d.1 d.2.1 d.2.2.1 d.2.2.2) h (aWZ (aW0 N)) rfl)
def tO(a0 a1:Int)(a2:(List Ex))(a3:aY)(a4:Int)(a5:Bool):aC:=(.agg [.e (.i .i64) a0,.e (.i .i64) a1,.e (.sl .ex) a2],[(50,.box 104 [.e .tx a3,.e (.i .i64) a4,.e .bo a5])])
def UA(xs:List X)(H:XH):Option (aY×Int×Bool):=match xs,H with
 |[.ref 50 0],[(50,.box 104 [x0,x1,x2])]=>(match ue .tx x0,ue (.i .i64) x1,ue .bo x2 with|some a0,some a1,some a2=>some (a0,a1,a2)|_,_,_=>none)
 |_,_=>none
theorem aEv{xs H d}(h:UA xs H=some d):xs=[.ref 50 0]/\H=[(50,.box 104 [.e .tx d.1,.e (.i .i64) d.2.1,.e .bo d.2.2])]:=by
 unfold UA at h;split at h
 .split at h
  .rename_i h0 h1 h2;cases h;rw[aE h0,aE h1,aE h2];exact⟨rfl,rfl⟩
  .cases h
 .cases h
abbrev hJ:=Nat×((aY->Int->Bool->Option (Int×Int×(List Ex)×aY×Int×Bool))×(aY->Int->Bool->Option (Int×Int×(List Ex)×aY×Int×Bool))×(aY->Int->Bool->Option (Int×Int×(List Ex)×aY×Int×Bool))×(aY->Int->Bool->Option (Int×Int×(List Ex)×aY×Int×Bool)))
def tP(N:hJ):bK:=eU UA (λd=>(N.2.1 d.1 d.2.1 d.2.2).isSome) (λd=>tO (((N.2.1 d.1 d.2.1 d.2.2).getD (0,0,[],[],0,false)).1) (((N.2.1 d.1 d.2.1 d.2.2).getD (0,0,[],[],0,false)).2.1) (((N.2.1 d.1 d.2.1 d.2.2).getD (0,0,[],[],0,false)).2.2.1) (((N.2.1 d.1 d.2.1 d.2.2).getD (0,0,[],[],0,false)).2.2.2.1) (((N.2.1 d.1 d.2.1 d.2.2).getD (0,0,[],[],0,false)).2.2.2.2.1) (((N.2.1 d.1 d.2.1 d.2.2).getD (0,0,[],[],0,false)).2.2.2.2.2))
def wI(a0 a1:Int)(a2:(List Ex))(a3:aY)(a4:Int)(a5:Bool):aC:=(.agg [.e (.i .i64) a0,.e (.i .i64) a1,.e (.sl .ex) a2],[(50,.box 104 [.e .tx a3,.e (.i .i64) a4,.e .bo a5])])
def UW(xs:List X)(H:XH):Option (aY×Int×Bool):=match xs,H with
 |[.ref 50 0],[(50,.box 104 [x0,x1,x2])]=>(match ue .tx x0,ue (.i .i64) x1,ue .bo x2 with|some a0,some a1,some a2=>some (a0,a1,a2)|_,_,_=>none)
 |_,_=>none
theorem aFV{xs H d}(h:UW xs H=some d):xs=[.ref 50 0]/\H=[(50,.box 104 [.e .tx d.1,.e (.i .i64) d.2.1,.e .bo d.2.2])]:=by
 unfold UW at h;split at h
 .split at h
  .rename_i h0 h1 h2;cases h;rw[aE h0,aE h1,aE h2];exact⟨rfl,rfl⟩
  .cases h
 .cases h
def tS(N:hJ):bK:=eU UW (λd=>(N.2.2.1 d.1 d.2.1 d.2.2).isSome) (λd=>wI (((N.2.2.1 d.1 d.2.1 d.2.2).getD (0,0,[],[],0,false)).1) (((N.2.2.1 d.1 d.2.1 d.2.2).getD (0,0,[],[],0,false)).2.1) (((N.2.2.1 d.1 d.2.1 d.2.2).getD (0,0,[],[],0,false)).2.2.1) (((N.2.2.1 d.1 d.2.1 d.2.2).getD (0,0,[],[],0,false)).2.2.2.1) (((N.2.2.1 d.1 d.2.1 d.2.2).getD (0,0,[],[],0,false)).2.2.2.2.1) (((N.2.2.1 d.1 d.2.1 d.2.2).getD (0,0,[],[],0,false)).2.2.2.2.2))
def Gy(a0 a1:Int)(a2:(List Ex))(a3:aY)(a4:Int)(a5:Bool):aC:=(.agg [.e (.i .i64) a0,.e (.i .i64) a1,.e (.sl .ex) a2],[(50,.box 104 [.e .tx a3,.e (.i .i64) a4,.e .bo a5])])
def U9(xs:List X)(H:XH):Option (aY×Int×Bool):=match xs,H with
 |[.ref 50 0],[(50,.box 104 [x0,x1,x2])]=>(match ue .tx x0,ue (.i .i64) x1,ue .bo x2 with|some a0,some a1,some a2=>some (a0,a1,a2)|_,_,_=>none)
 |_,_=>none
theorem aFh{xs H d}(h:U9 xs H=some d):xs=[.ref 50 0]/\H=[(50,.box 104 [.e .tx d.1,.e (.i .i64) d.2.1,.e .bo d.2.2])]:=by
 unfold U9 at h;split at h
 .split at h
  .rename_i h0 h1 h2;cases h;rw[aE h0,aE h1,aE h2];exact⟨rfl,rfl⟩
  .cases h
 .cases h
def tW(N:hJ):bK:=eU U9 (λd=>(N.2.2.2.1 d.1 d.2.1 d.2.2).isSome) (λd=>Gy (((N.2.2.2.1 d.1 d.2.1 d.2.2).getD (0,0,[],[],0,false)).1) (((N.2.2.2.1 d.1 d.2.1 d.2.2).getD (0,0,[],[],0,false)).2.1) (((N.2.2.2.1 d.1 d.2.1 d.2.2).getD (0,0,[],[],0,false)).2.2.1) (((N.2.2.2.1 d.1 d.2.1 d.2.2).getD (0,0,[],[],0,false)).2.2.2.1) (((N.2.2.2.1 d.1 d.2.1 d.2.2).getD (0,0,[],[],0,false)).2.2.2.2.1) (((N.2.2.2.1 d.1 d.2.1 d.2.2).getD (0,0,[],[],0,false)).2.2.2.2.2))
def Bv(a0 a1:Int)(a2:(List Ex))(a3:aY)(a4:Int)(a5:Bool):aC:=(.agg [.e (.i .i64) a0,.e (.i .i64) a1,.e (.sl .ex) a2],[(50,.box 104 [.e .tx a3,.e (.i .i64) a4,.e .bo a5])])
def JW(xs:List X)(H:XH):Option (aY×Int×Bool):=match xs,H with
 |[.ref 50 0],[(50,.box 104 [x0,x1,x2])]=>(match ue .tx x0,ue (.i .i64) x1,ue .bo x2 with|some a0,some a1,some a2=>some (a0,a1,a2)|_,_,_=>none)
 |_,_=>none
theorem ZZ{xs H d}(h:JW xs H=some d):xs=[.ref 50 0]/\H=[(50,.box 104 [.e .tx d.1,.e (.i .i64) d.2.1,.e .bo d.2.2])]:=by
 unfold JW at h;split at h
 .split at h
  .rename_i h0 h1 h2;cases h;rw[aE h0,aE h1,aE h2];exact⟨rfl,rfl⟩
  .cases h
 .cases h
def sM(N:hJ):bK:=eU JW (λd=>(N.2.2.2.2 d.1 d.2.1 d.2.2).isSome) (λd=>Bv (((N.2.2.2.2 d.1 d.2.1 d.2.2).getD (0,0,[],[],0,false)).1) (((N.2.2.2.2 d.1 d.2.1 d.2.2).getD (0,0,[],[],0,false)).2.1) (((N.2.2.2.2 d.1 d.2.1 d.2.2).getD (0,0,[],[],0,false)).2.2.1) (((N.2.2.2.2 d.1 d.2.1 d.2.2).getD (0,0,[],[],0,false)).2.2.2.1) (((N.2.2.2.2 d.1 d.2.1 d.2.2).getD (0,0,[],[],0,false)).2.2.2.2.1) (((N.2.2.2.2 d.1 d.2.1 d.2.2).getD (0,0,[],[],0,false)).2.2.2.2.2))
def Gg(N:hJ):Cx:=⟨Tryz.prog,25,[(112,tP N),(107,tS N),(100,tW N),(79,sM N),(101,U7 N.1),(118,aEs N.1),(80,yX N.1),(119,aEm N.1)],[]⟩
def aEy:Code:=Tryz.f112.body.getD .skip
theorem aWn N (hw119:aK Tryz.prog 112 (tP N)) (hw109:aK Tryz.prog 107 (tS N)) (hw90:aK Tryz.prog 100 (tW N)) (hw61:aK Tryz.prog 79 (sM N)):aD (Gg N):=bZ (by kernel_rfl) (.cons (by kernel_rfl) hw119 (.cons (by kernel_rfl) hw109 (.cons (by kernel_rfl) hw90 (.cons (by kernel_rfl) hw61 (.cons (by kernel_rfl) (aFc N.1) (.cons (by kernel_rfl) (aW8 N.1) (.cons (by kernel_rfl) (Bn N.1) (.cons (by kernel_rfl) (aWW N.1) .nil)))))))) .nil
def nF[aA](N:hJ)(g0:aY)(g1:Int)(g2:Bool):O:=
 let b1:=D0 N.1 g0 g1 g2
 let b2:=Ar N.1 g0 g1 g2
 let b3:=wM N.1 g0 g1 g2
 let b4:=kL N.1 (82:UInt8) b2 b3 b1
 let b5:=kK N.1 (82:UInt8) b2 b3 b1
 let b6:=k8 N.1 (82:UInt8) b2 b3 b1
 let b10:=N.snd.snd.snd.2 (Gb N.1 (40:UInt8) b4 b5 b6) (Ga N.1 (40:UInt8) b4 b5 b6) (G9 N.1 (40:UInt8) b4 b5 b6)
 let b0:=b10.getD ((0:Int),(0:Int),[],[],(0:Int),false)
 let b7:=Gb N.1 (41:UInt8) b0.2.2.2.1 b0.2.2.2.2.1 b0.2.2.2.2.2
 let b8:=Ga N.1 (41:UInt8) b0.2.2.2.1 b0.2.2.2.2.1 b0.2.2.2.2.2
 let b9:=G9 N.1 (41:UInt8) b0.2.2.2.1 b0.2.2.2.2.1 b0.2.2.2.2.2
 ck (Gv N.1 g0 g1 g2)<|
 br b1
  (some (tO 0 0 [] b2 b3 b1))
  (br (decide ((48:UInt8)<=tV N.1 g0 g1 g2)&&decide (tV N.1 g0 g1 g2<=(57:UInt8)))
   (ck (Tt N.1 b2 b3 b1)<|
   some (tO ((Ts N.1 b2 b3 b1)) ((Tr N.1 b2 b3 b1)) ((Tq N.1 b2 b3 b1)) (Tp N.1 b2 b3 b1) (To N.1 b2 b3 b1) (Tn N.1 b2 b3 b1)))
   (br (decide ((97:UInt8)<=tV N.1 g0 g1 g2)&&decide (tV N.1 g0 g1 g2<=(122:UInt8)))
    (some (tO 1 ((aB.wrap (↑(tV N.1 g0 g1 g2-(97:UInt8)).toNat:Int))) ([]) b2 (aB.wrap (wM N.1 g0 g1 g2+(1:Int))) b1))
    (ck (mQ N.1 (82:UInt8) b2 b3 b1)<|
    ck (Ge N.1 (40:UInt8) b4 b5 b6)<|
    ck (b10.isSome)<|
    ck (Ge N.1 (41:UInt8) b0.2.2.2.1 b0.2.2.2.2.1 b0.2.2.2.2.2)<|
    br (mP N.1 (82:UInt8) b2 b3 b1)
     (some (tO 8 0 ([Ex.mk b0.1 b0.2.1 b0.2.2.1]) b7 b8 b9))
     (some (tO b0.1 b0.2.1 b0.2.2.1 b7 b8 b9)))))
def aWo[aA] N g0 g1 g2:=nF N g0 g1 g2
def aEw[aA](_:hJ):Hint:=.d
theorem aWl N:bJ (Gg N) Tryz.f112.ntmps (aEw N) aEy:=bR _ _ trivial
theorem aWk[aA] N g0 g1 g2:nF N g0 g1 g2=exec (Gg N) Tryz.f112.ntmps (aEw N) aEy ⟨bW 0 [.ref 50 0],[(50,.box 104 [.e .tx g0,.e (.i .i64) g1,.e .bo g2])],100⟩ (bX (Gg N) Tryz.f112 false):=by kernel_rfl
def tN(r:aC):Option (Int×Int×(List Ex)×aY×Int×Bool):=match r with
 |(.agg [x0,x1,x2],[(50,.box 104 [x3,x4,x5])])=>(match ue (.i .i64) x0,ue (.i .i64) x1,ue (.sl .ex) x2,ue .tx x3,ue (.i .i64) x4,ue .bo x5 with|some a0,some a1,some a2,some a3,some a4,some a5=>some (a0,a1,a2,a3,a4,a5)|_,_,_,_,_,_=>none)
 |_=>none
theorem aWj{r d}(h:tN r=some d):r=tO d.1 d.2.1 d.2.2.1 d.2.2.2.1 d.2.2.2.2.1 d.2.2.2.2.2:=by
 unfold tN at h;split at h
 .split at h
  .rename_i h0 h1 h2 h3 h4 h5;cases h;rw[aE h0,aE h1,aE h2,aE h3,aE h4,aE h5];rfl
  .cases h
 .cases h
def tM N g0 g1 g2:=(aWo N g0 g1 g2).bind tN
theorem aWm{N}(hc:aD (Gg N)){g0 g1 g2 d}(hd:tM N g0 g1 g2=some d):cB Tryz.prog 112 [.ref 50 0] [(50,.box 104 [.e .tx g0,.e (.i .i64) g1,.e .bo g2])] (tO d.1 d.2.1 d.2.2.1 d.2.2.2.1 d.2.2.2.2.1 d.2.2.2.2.2):=
 cD hc (by kernel_rfl) (by kernel_rfl) (aWl N) (by kernel_rfl) aWj (aWk N g0 g1 g2).symm.trans hd
def Gn(N:hJ):Cx:=⟨Tryz.prog,25,[(112,tP N),(107,tS N),(100,tW N),(79,sM N),(80,yX N.1)],[]⟩
def aFX:Code:=Tryz.f107.body.getD .skip
theorem aX7 N (hw119:aK Tryz.prog 112 (tP N)) (hw109:aK Tryz.prog 107 (tS N)) (hw90:aK Tryz.prog 100 (tW N)) (hw61:aK Tryz.prog 79 (sM N)):aD (Gn N):=bZ (by kernel_rfl) (.cons (by kernel_rfl) hw119 (.cons (by kernel_rfl) hw109 (.cons (by kernel_rfl) hw90 (.cons (by kernel_rfl) hw61 (.cons (by kernel_rfl) (Bn N.1) .nil))))) .nil
def rC[aA](N:hJ)(g0:aY)(g1:Int)(g2:Bool):O:=
 let b6:=N.snd.snd.1 (kL N.1 (45:UInt8) g0 g1 g2) (kK N.1 (45:UInt8) g0 g1 g2) (k8 N.1 (45:UInt8) g0 g1 g2)
 let b7:=N.snd.1 (kL N.1 (45:UInt8) g0 g1 g2) (kK N.1 (45:UInt8) g0 g1 g2) (k8 N.1 (45:UInt8) g0 g1 g2)
 let b8:=((0:Int),(0:Int),[],[],(0:Int),false)
 let b0:=b7.getD b8
 let b2:=b6.getD b8
 let b3:=kL N.1 (94:UInt8) b0.2.2.2.1 b0.2.2.2.2.1 b0.2.2.2.2.2
 let b4:=kK N.1 (94:UInt8) b0.2.2.2.1 b0.2.2.2.2.1 b0.2.2.2.2.2
 let b5:=k8 N.1 (94:UInt8) b0.2.2.2.1 b0.2.2.2.2.1 b0.2.2.2.2.2
 let b1:=(N.snd.snd.1 b3 b4 b5).getD b8
 br g2
  (some (wI 0 0 [] g0 g1 g2))
  (ck (mQ N.1 (45:UInt8) g0 g1 g2)<|
  br (mP N.1 (45:UInt8) g0 g1 g2)
   (ck (b6.isSome)<|
   some (wI 2 0 ([Ex.mk b2.1 b2.2.1 b2.2.2.1]) b2.2.2.2.1 b2.2.2.2.2.1 b2.2.2.2.2.2))
   (ck (b7.isSome)<|
   ck (mQ N.1 (94:UInt8) b0.2.2.2.1 b0.2.2.2.2.1 b0.2.2.2.2.2)<|
   br (mP N.1 (94:UInt8) b0.2.2.2.1 b0.2.2.2.2.1 b0.2.2.2.2.2)
    (ck ((N.snd.snd.1 b3 b4 b5).isSome)<|
    some (wI 7 0 ([Ex.mk b0.1 b0.2.1 b0.2.2.1,Ex.mk b1.1 b1.2.1 b1.2.2.1]) b1.2.2.2.1 b1.2.2.2.2.1 b1.2.2.2.2.2))
    (some (wI b0.1 b0.2.1 b0.2.2.1 b3 b4 b5))))
def aX8[aA] N g0 g1 g2:=rC N g0 g1 g2
def aFW[aA](_:hJ):Hint:=(.seq .d (.seq .d (.seq .d (.seq .d (.seq (.seq .d (.cond (.seq (.gO [] [] [[],[],[50],[],[],[100]]) .d) .d)) .d)))))
theorem aX5 N:bJ (Gn N) Tryz.f107.ntmps (aFW N) aFX:=bR _ _ (aH trivial (aH trivial (aH trivial (aH trivial (aH (aH trivial (aH (aH trivial trivial) trivial)) trivial)))))
theorem aX4[aA] N g0 g1 g2:rC N g0 g1 g2=exec (Gn N) Tryz.f107.ntmps (aFW N) aFX ⟨bW 0 [.ref 50 0],[(50,.box 104 [.e .tx g0,.e (.i .i64) g1,.e .bo g2])],100⟩ (bX (Gn N) Tryz.f107 false):=by kernel_rfl
def Am(r:aC):Option (Int×Int×(List Ex)×aY×Int×Bool):=match r with
 |(.agg [x0,x1,x2],[(50,.box 104 [x3,x4,x5])])=>(match ue (.i .i64) x0,ue (.i .i64) x1,ue (.sl .ex) x2,ue .tx x3,ue (.i .i64) x4,ue .bo x5 with|some a0,some a1,some a2,some a3,some a4,some a5=>some (a0,a1,a2,a3,a4,a5)|_,_,_,_,_,_=>none)
 |_=>none
theorem aX3{r d}(h:Am r=some d):r=wI d.1 d.2.1 d.2.2.1 d.2.2.2.1 d.2.2.2.2.1 d.2.2.2.2.2:=by
 unfold Am at h;split at h
 .split at h
  .rename_i h0 h1 h2 h3 h4 h5;cases h;rw[aE h0,aE h1,aE h2,aE h3,aE h4,aE h5];rfl
  .cases h
 .cases h
def wH N g0 g1 g2:=(aX8 N g0 g1 g2).bind Am
theorem aX6{N}(hc:aD (Gn N)){g0 g1 g2 d}(hd:wH N g0 g1 g2=some d):cB Tryz.prog 107 [.ref 50 0] [(50,.box 104 [.e .tx g0,.e (.i .i64) g1,.e .bo g2])] (wI d.1 d.2.1 d.2.2.1 d.2.2.2.1 d.2.2.2.2.1 d.2.2.2.2.2):=
 cD hc (by kernel_rfl) (by kernel_rfl) (aX5 N) (by kernel_rfl) aX3 (aX4 N g0 g1 g2).symm.trans hd
def rE(N:hJ):Cx:=⟨Tryz.prog,25,[(112,tP N),(107,tS N),(100,tW N),(79,sM N),(80,yX N.1)],[]⟩
def Ub:Code:=Tryz.f100.body.getD .skip
theorem aYQ N (hw119:aK Tryz.prog 112 (tP N)) (hw109:aK Tryz.prog 107 (tS N)) (hw90:aK Tryz.prog 100 (tW N)) (hw61:aK Tryz.prog 79 (sM N)):aD (rE N):=bZ (by kernel_rfl) (.cons (by kernel_rfl) hw119 (.cons (by kernel_rfl) hw109 (.cons (by kernel_rfl) hw90 (.cons (by kernel_rfl) hw61 (.cons (by kernel_rfl) (Bn N.1) .nil))))) .nil
def D1[aA](N:hJ)(self:aY->Int->Bool->Int->Int->(List Ex)->O)(k0:aY->Int->Bool->Int->Int->Int->Int->(List Ex)->O)(x0_3 x0_4:Int)(x0_0:aY)(x0_1:Int)(x0_2:Bool)(x0_5 x0_6:Int)(x0_7:(List Ex)):O:=
 let b3:=kL N.1 (42:UInt8) x0_0 x0_1 x0_2
 let b4:=kK N.1 (42:UInt8) x0_0 x0_1 x0_2
 let b5:=k8 N.1 (42:UInt8) x0_0 x0_1 x0_2
 let b0:=N.snd.snd.1 (kL N.1 (47:UInt8) b3 b4 b5) (kK N.1 (47:UInt8) b3 b4 b5) (k8 N.1 (47:UInt8) b3 b4 b5)
 let b1:=(N.snd.snd.1 b3 b4 b5).getD ((0:Int),(0:Int),[],[],(0:Int),false)
 let b2:=b0.getD ((0:Int),(0:Int),[],[],(0:Int),false)
 br (!x0_2)
  (ck (mQ N.1 (42:UInt8) x0_0 x0_1 x0_2)<|
  br (mP N.1 (42:UInt8) x0_0 x0_1 x0_2)
   (ck ((N.snd.snd.1 b3 b4 b5).isSome)<|
   self b1.2.2.2.1 b1.2.2.2.2.1 b1.2.2.2.2.2 5 0 [Ex.mk x0_5 x0_6 x0_7,Ex.mk b1.1 b1.2.1 b1.2.2.1])
   (ck (mQ N.1 (47:UInt8) b3 b4 b5)<|
   br (mP N.1 (47:UInt8) b3 b4 b5)
    (ck (b0.isSome)<|
    self b2.2.2.2.1 b2.2.2.2.2.1 b2.2.2.2.2.2 6 0 [Ex.mk x0_5 x0_6 x0_7,Ex.mk b2.1 b2.2.1 b2.2.2.1])
    (k0 (kL N.1 (47:UInt8) b3 b4 b5) (kK N.1 (47:UInt8) b3 b4 b5) (k8 N.1 (47:UInt8) b3 b4 b5) x0_3 x0_4 x0_5 x0_6 x0_7)))
  (k0 x0_0 x0_1 x0_2 x0_3 x0_4 x0_5 x0_6 x0_7)
def Ua:Code:=cP [1,1,0,0,0] Ub
def aFg:Nm:=⟨[0,2,3],[],[.cv 3 2 (.sl .ex)]⟩
def As(x:aY×Int×Bool×Int×Int×Int×Int×(List Ex)):Sg:=⟨[(0,.ref 50 0),(2,.ref 0 0),(3,.ref 1 0)],[(50,.box 104 [.e .tx x.1,.e (.i .i64) x.2.1,.e .bo x.2.2.1]),(0,.box 25 [.e (.i .i64) x.2.2.2.1,.e (.i .i64) x.2.2.2.2.1,.cH]),(1,.box 25 [.e (.i .i64) x.2.2.2.2.2.1,.e (.i .i64) x.2.2.2.2.2.2.1,.e (.sl .ex) x.2.2.2.2.2.2.2])],100⟩
def NY(σ:Sg):aY×Int×Bool×Int×Int×Int×Int×(List Ex):=(aL .tx 50 0 σ,aL (.i .i64) 50 1 σ,aL .bo 50 2 σ,aL (.i .i64) 0 0 σ,aL (.i .i64) 0 1 σ,aL (.i .i64) 1 0 σ,aL (.i .i64) 1 1 σ,aL (.sl .ex) 1 2 σ)
theorem aYJ:∀x,NY (As x)=x:=λ_=>by kernel_rfl
def NZ(y:aY×Int×Bool×Int×Int×Int×Int×(List Ex)):Exit×Sg:=((.exit 0),⟨[(2,.ref 0 0),(3,.ref 1 0)],[(50,.box 104 [.e .tx y.1,.e (.i .i64) y.2.1,.e .bo y.2.2.1]),(0,.box 25 [.e (.i .i64) y.2.2.2.1,.e (.i .i64) y.2.2.2.2.1,.cH]),(1,.box 25 [.e (.i .i64) y.2.2.2.2.2.1,.e (.i .i64) y.2.2.2.2.2.2.1,.e (.sl .ex) y.2.2.2.2.2.2.2])],100⟩)
def aYH(_:Exit)(σ:Sg):aY×Int×Bool×Int×Int×Int×Int×(List Ex):=(aL .tx 50 0 σ,aL (.i .i64) 50 1 σ,aL .bo 50 2 σ,aL (.i .i64) 0 0 σ,aL (.i .i64) 0 1 σ,aL (.i .i64) 1 0 σ,aL (.i .i64) 1 1 σ,aL (.sl .ex) 1 2 σ)
def aYG:List (Exit×Nm):=[((.exit 0),⟨[2,3],[],[]⟩)]
def nH[aA](N:hJ):Nat->(aY×Int×Bool×Int×Int×Int×Int×(List Ex))->((aY×Int×Bool×Int×Int×Int×Int×(List Ex))->O)->((Unit)->O)->((Unit)->O)->O
 |0,_,_,_,_=>none
 |n+1,x,k0,k1,k2=>D1 N (λv0 v1 v2 v3 v4 v5=>nH N n (v0,v1,v2,x.2.2.2.1,x.2.2.2.2.1,v3,v4,v5) k0 k1 k2) (λy0 y1 y2 y3 y4 y5 y6 y7=>k0 (y0,y1,y2,y3,y4,y5,y6,y7)) x.2.2.2.1 x.2.2.2.2.1 x.1 x.2.1 x.2.2.1 x.2.2.2.2.2.1 x.2.2.2.2.2.2.1 x.2.2.2.2.2.2.2
def U8[aA] N a0 a1 a2 a3 a4 a5 a6 a7 (k0:aY->Int->Bool->Int->Int->Int->Int->(List Ex)->O):=nH N N.1 (a0,a1,a2,a3,a4,a5,a6,a7) (λy=>k0 y.1 y.2.1 y.2.2.1 y.2.2.2.1 y.2.2.2.2.1 y.2.2.2.2.2.1 y.2.2.2.2.2.2.1 y.2.2.2.2.2.2.2) (λ_=>none) (λ_=>none)
def aFf[aA] N a0 a1 a2 a3 a4 a5 a6 a7 (k0:aY->Int->Bool->Int->Int->Int->Int->(List Ex)->O):=bB As NY (nH N N.1) (As (a0,a1,a2,a3,a4,a5,a6,a7)) (λy=>k0 y.1 y.2.1 y.2.2.1 y.2.2.2.1 y.2.2.2.2.1 y.2.2.2.2.2.1 y.2.2.2.2.2.2.1 y.2.2.2.2.2.2.2) (λ_=>none) (λ_=>none)
theorem aYP[aA] N:aFf N=U8 N:=funext λ_=>funext λ_=>funext λ_=>funext λ_=>funext λ_=>funext λ_=>funext λ_=>funext λ_=>funext λ_=>dD aYJ _ _ _ _
def aFi[aA](_:hJ):Hint:=(.seq .d (.block (.seq .d (.seq .d (.gO [] [] [[],[],[],[50],[],[],[1]])))))
theorem aYM N:bJ (rE N) Tryz.f100.ntmps (aFi N) Ua:=bR _ _ (aH trivial (aH trivial (aH trivial trivial)))
theorem aYK[aA](N:hJ)(self:Sg->O)(K:Exit->Sg->O)(x:aY×Int×Bool×Int×Int×Int×Int×(List Ex)):D1 N (λv0 v1 v2 v3 v4 v5=>self (As (v0,v1,v2,x.2.2.2.1,x.2.2.2.2.1,v3,v4,v5))) (λy0 y1 y2 y3 y4 y5 y6 y7=>K (NZ (y0,y1,y2,y3,y4,y5,y6,y7)).1 (NZ (y0,y1,y2,y3,y4,y5,y6,y7)).2) x.2.2.2.1 x.2.2.2.2.1 x.1 x.2.1 x.2.2.1 x.2.2.2.2.2.1 x.2.2.2.2.2.2.1 x.2.2.2.2.2.2.2=exec (rE N) Tryz.f100.ntmps (aFi N) Ua (As x) (fE aFg aYG self K):=by kernel_rfl
theorem aYT N (hc:aD (rE N)):cU (rE N) Tryz.f100.ntmps (.loop Ua) NZ (aV 1) (aV 2) (bB As NY (nH N N.1)):=
 fW hc (aYM N) (fF aYH (.exit 0) (λ_=>by kernel_rfl) (λ_=>rfl) (by kernel_rfl)) (n:=N.1) (λx K=>fY (nH N) (λ_ _ _ _=>rfl) (λn K ih x=>by
  refine gM ?_ (aYK N _ K x);simp only[<-ih];rfl) N.1 x K)
def N0[aA](N:hJ)(in0:aY->Int->Bool->Int->Int->Int->Int->(List Ex)->(aY->Int->Bool->Int->Int->Int->Int->(List Ex)->O)->O)(g0:aY)(g1:Int)(g2:Bool):O:=
 let b0:=(N.snd.snd.1 g0 g1 g2).getD ((0:Int),(0:Int),[],[],(0:Int),false)
 ck ((N.snd.snd.1 g0 g1 g2).isSome)<|
 in0 b0.2.2.2.1 b0.2.2.2.2.1 b0.2.2.2.2.2 0 0 b0.1 b0.2.1 b0.2.2.1
  (λz1 z2 z3 _ _ z6 z7 z8=>
   some (Gy (z6) (z7) (z8) z1 z2 z3))
def aYU[aA] N g0 g1 g2:=N0 N (U8 N) g0 g1 g2
def aFj[aA](N:hJ):Hint:=(.seq .d (.seq .d (.seq (.block (.sub aFg _ _ _ NZ (aV 1) (aV 2) (bB As NY (nH N N.1)))) .d)))
theorem aYN N (hc:aD (rE N)):bJ (rE N) Tryz.f100.ntmps (aFj N) Ub:=bR _ _ (aH trivial (aH trivial (aH (aYT N hc) trivial)))
theorem aYL[aA] N g0 g1 g2:N0 N (aFf N) g0 g1 g2=exec (rE N) Tryz.f100.ntmps (aFj N) Ub ⟨bW 0 [.ref 50 0],[(50,.box 104 [.e .tx g0,.e (.i .i64) g1,.e .bo g2])],100⟩ (bX (rE N) Tryz.f100 false):=by kernel_rfl
def NX(r:aC):Option (Int×Int×(List Ex)×aY×Int×Bool):=match r with
 |(.agg [x0,x1,x2],[(50,.box 104 [x3,x4,x5])])=>(match ue (.i .i64) x0,ue (.i .i64) x1,ue (.sl .ex) x2,ue .tx x3,ue (.i .i64) x4,ue .bo x5 with|some a0,some a1,some a2,some a3,some a4,some a5=>some (a0,a1,a2,a3,a4,a5)|_,_,_,_,_,_=>none)
 |_=>none
theorem aYI{r d}(h:NX r=some d):r=Gy d.1 d.2.1 d.2.2.1 d.2.2.2.1 d.2.2.2.2.1 d.2.2.2.2.2:=by
 unfold NX at h;split at h
 .split at h
  .rename_i h0 h1 h2 h3 h4 h5;cases h;rw[aE h0,aE h1,aE h2,aE h3,aE h4,aE h5];rfl
  .cases h
 .cases h
def NW N g0 g1 g2:=(aYU N g0 g1 g2).bind NX
theorem aYO{N}(hc:aD (rE N)){g0 g1 g2 d}(hd:NW N g0 g1 g2=some d):cB Tryz.prog 100 [.ref 50 0] [(50,.box 104 [.e .tx g0,.e (.i .i64) g1,.e .bo g2])] (Gy d.1 d.2.1 d.2.2.1 d.2.2.2.1 d.2.2.2.2.1 d.2.2.2.2.2):=
 cD hc (by kernel_rfl) (by kernel_rfl) (aYN N hc) (by kernel_rfl) aYI (λhr=>(aYL N g0 g1 g2).symm.trans (by rw[aYP N];exact hr)) hd
def qV(N:hJ):Cx:=⟨Tryz.prog,25,[(112,tP N),(107,tS N),(100,tW N),(79,sM N),(80,yX N.1)],[]⟩
def QK:Code:=Tryz.f79.body.getD .skip
theorem aMJ N (hw119:aK Tryz.prog 112 (tP N)) (hw109:aK Tryz.prog 107 (tS N)) (hw90:aK Tryz.prog 100 (tW N)) (hw61:aK Tryz.prog 79 (sM N)):aD (qV N):=bZ (by kernel_rfl) (.cons (by kernel_rfl) hw119 (.cons (by kernel_rfl) hw109 (.cons (by kernel_rfl) hw90 (.cons (by kernel_rfl) hw61 (.cons (by kernel_rfl) (Bn N.1) .nil))))) .nil
def Bx[aA](N:hJ)(self:aY->Int->Bool->Int->Int->(List Ex)->O)(k0:aY->Int->Bool->Int->Int->Int->Int->(List Ex)->O)(x0_3 x0_4:Int)(x0_0:aY)(x0_1:Int)(x0_2:Bool)(x0_5 x0_6:Int)(x0_7:(List Ex)):O:=
 let b3:=kL N.1 (43:UInt8) x0_0 x0_1 x0_2
 let b4:=kK N.1 (43:UInt8) x0_0 x0_1 x0_2
 let b5:=k8 N.1 (43:UInt8) x0_0 x0_1 x0_2
 let b0:=N.snd.snd.snd.1 (kL N.1 (45:UInt8) b3 b4 b5) (kK N.1 (45:UInt8) b3 b4 b5) (k8 N.1 (45:UInt8) b3 b4 b5)
 let b1:=(N.snd.snd.snd.1 b3 b4 b5).getD ((0:Int),(0:Int),[],[],(0:Int),false)
 let b2:=b0.getD ((0:Int),(0:Int),[],[],(0:Int),false)
 br (!x0_2)
  (ck (mQ N.1 (43:UInt8) x0_0 x0_1 x0_2)<|
  br (mP N.1 (43:UInt8) x0_0 x0_1 x0_2)
   (ck ((N.snd.snd.snd.1 b3 b4 b5).isSome)<|
   self b1.2.2.2.1 b1.2.2.2.2.1 b1.2.2.2.2.2 3 0 [Ex.mk x0_5 x0_6 x0_7,Ex.mk b1.1 b1.2.1 b1.2.2.1])
   (ck (mQ N.1 (45:UInt8) b3 b4 b5)<|
   br (mP N.1 (45:UInt8) b3 b4 b5)
    (ck (b0.isSome)<|
    self b2.2.2.2.1 b2.2.2.2.2.1 b2.2.2.2.2.2 4 0 [Ex.mk x0_5 x0_6 x0_7,Ex.mk b2.1 b2.2.1 b2.2.2.1])
    (k0 (kL N.1 (45:UInt8) b3 b4 b5) (kK N.1 (45:UInt8) b3 b4 b5) (k8 N.1 (45:UInt8) b3 b4 b5) x0_3 x0_4 x0_5 x0_6 x0_7)))
  (k0 x0_0 x0_1 x0_2 x0_3 x0_4 x0_5 x0_6 x0_7)
def QJ:Code:=cP [1,1,0,0,0] QK
def ZY:Nm:=⟨[0,2,3],[],[.cv 3 2 (.sl .ex)]⟩
def yY(x:aY×Int×Bool×Int×Int×Int×Int×(List Ex)):Sg:=⟨[(0,.ref 50 0),(2,.ref 0 0),(3,.ref 1 0)],[(50,.box 104 [.e .tx x.1,.e (.i .i64) x.2.1,.e .bo x.2.2.1]),(0,.box 25 [.e (.i .i64) x.2.2.2.1,.e (.i .i64) x.2.2.2.2.1,.cH]),(1,.box 25 [.e (.i .i64) x.2.2.2.2.2.1,.e (.i .i64) x.2.2.2.2.2.2.1,.e (.sl .ex) x.2.2.2.2.2.2.2])],100⟩
def JV(σ:Sg):aY×Int×Bool×Int×Int×Int×Int×(List Ex):=(aL .tx 50 0 σ,aL (.i .i64) 50 1 σ,aL .bo 50 2 σ,aL (.i .i64) 0 0 σ,aL (.i .i64) 0 1 σ,aL (.i .i64) 1 0 σ,aL (.i .i64) 1 1 σ,aL (.sl .ex) 1 2 σ)
theorem aMB:∀x,JV (yY x)=x:=λ_=>by kernel_rfl
def JY(y:aY×Int×Bool×Int×Int×Int×Int×(List Ex)):Exit×Sg:=((.exit 0),⟨[(2,.ref 0 0),(3,.ref 1 0)],[(50,.box 104 [.e .tx y.1,.e (.i .i64) y.2.1,.e .bo y.2.2.1]),(0,.box 25 [.e (.i .i64) y.2.2.2.1,.e (.i .i64) y.2.2.2.2.1,.cH]),(1,.box 25 [.e (.i .i64) y.2.2.2.2.2.1,.e (.i .i64) y.2.2.2.2.2.2.1,.e (.sl .ex) y.2.2.2.2.2.2.2])],100⟩)
def aLz(_:Exit)(σ:Sg):aY×Int×Bool×Int×Int×Int×Int×(List Ex):=(aL .tx 50 0 σ,aL (.i .i64) 50 1 σ,aL .bo 50 2 σ,aL (.i .i64) 0 0 σ,aL (.i .i64) 0 1 σ,aL (.i .i64) 1 0 σ,aL (.i .i64) 1 1 σ,aL (.sl .ex) 1 2 σ)
def aLy:List (Exit×Nm):=[((.exit 0),⟨[2,3],[],[]⟩)]
def mR[aA](N:hJ):Nat->(aY×Int×Bool×Int×Int×Int×Int×(List Ex))->((aY×Int×Bool×Int×Int×Int×Int×(List Ex))->O)->((Unit)->O)->((Unit)->O)->O
 |0,_,_,_,_=>none
 |n+1,x,k0,k1,k2=>Bx N (λv0 v1 v2 v3 v4 v5=>mR N n (v0,v1,v2,x.2.2.2.1,x.2.2.2.2.1,v3,v4,v5) k0 k1 k2) (λy0 y1 y2 y3 y4 y5 y6 y7=>k0 (y0,y1,y2,y3,y4,y5,y6,y7)) x.2.2.2.1 x.2.2.2.2.1 x.1 x.2.1 x.2.2.1 x.2.2.2.2.2.1 x.2.2.2.2.2.2.1 x.2.2.2.2.2.2.2
def QI[aA] N a0 a1 a2 a3 a4 a5 a6 a7 (k0:aY->Int->Bool->Int->Int->Int->Int->(List Ex)->O):=mR N N.1 (a0,a1,a2,a3,a4,a5,a6,a7) (λy=>k0 y.1 y.2.1 y.2.2.1 y.2.2.2.1 y.2.2.2.2.1 y.2.2.2.2.2.1 y.2.2.2.2.2.2.1 y.2.2.2.2.2.2.2) (λ_=>none) (λ_=>none)
def ZX[aA] N a0 a1 a2 a3 a4 a5 a6 a7 (k0:aY->Int->Bool->Int->Int->Int->Int->(List Ex)->O):=bB yY JV (mR N N.1) (yY (a0,a1,a2,a3,a4,a5,a6,a7)) (λy=>k0 y.1 y.2.1 y.2.2.1 y.2.2.2.1 y.2.2.2.2.1 y.2.2.2.2.2.1 y.2.2.2.2.2.2.1 y.2.2.2.2.2.2.2) (λ_=>none) (λ_=>none)
theorem aMI[aA] N:ZX N=QI N:=funext λ_=>funext λ_=>funext λ_=>funext λ_=>funext λ_=>funext λ_=>funext λ_=>funext λ_=>funext λ_=>dD aMB _ _ _ _
def Z0[aA](_:hJ):Hint:=(.seq .d (.block (.seq .d (.seq .d (.gO [] [] [[],[],[],[50],[],[],[1]])))))
theorem aMF N:bJ (qV N) Tryz.f79.ntmps (Z0 N) QJ:=bR _ _ (aH trivial (aH trivial (aH trivial trivial)))
theorem aMC[aA](N:hJ)(self:Sg->O)(K:Exit->Sg->O)(x:aY×Int×Bool×Int×Int×Int×Int×(List Ex)):Bx N (λv0 v1 v2 v3 v4 v5=>self (yY (v0,v1,v2,x.2.2.2.1,x.2.2.2.2.1,v3,v4,v5))) (λy0 y1 y2 y3 y4 y5 y6 y7=>K (JY (y0,y1,y2,y3,y4,y5,y6,y7)).1 (JY (y0,y1,y2,y3,y4,y5,y6,y7)).2) x.2.2.2.1 x.2.2.2.2.1 x.1 x.2.1 x.2.2.1 x.2.2.2.2.2.1 x.2.2.2.2.2.2.1 x.2.2.2.2.2.2.2=exec (qV N) Tryz.f79.ntmps (Z0 N) QJ (yY x) (fE ZY aLy self K):=by kernel_rfl
theorem aMM N (hc:aD (qV N)):cU (qV N) Tryz.f79.ntmps (.loop QJ) JY (aV 1) (aV 2) (bB yY JV (mR N N.1)):=
 fW hc (aMF N) (fF aLz (.exit 0) (λ_=>by kernel_rfl) (λ_=>rfl) (by kernel_rfl)) (n:=N.1) (λx K=>fY (mR N) (λ_ _ _ _=>rfl) (λn K ih x=>by
  refine gM ?_ (aMC N _ K x);simp only[<-ih];rfl) N.1 x K)
def JZ[aA](N:hJ)(in0:aY->Int->Bool->Int->Int->Int->Int->(List Ex)->(aY->Int->Bool->Int->Int->Int->Int->(List Ex)->O)->O)(g0:aY)(g1:Int)(g2:Bool):O:=
 let b0:=(N.snd.snd.snd.1 g0 g1 g2).getD ((0:Int),(0:Int),[],[],(0:Int),false)
 ck ((N.snd.snd.snd.1 g0 g1 g2).isSome)<|
 in0 b0.2.2.2.1 b0.2.2.2.2.1 b0.2.2.2.2.2 0 0 b0.1 b0.2.1 b0.2.2.1
  (λz1 z2 z3 _ _ z6 z7 z8=>
   some (Bv (z6) (z7) (z8) z1 z2 z3))
def w79[aA] N g0 g1 g2:=JZ N (QI N) g0 g1 g2
def Z1[aA](N:hJ):Hint:=(.seq .d (.seq .d (.seq (.block (.sub ZY _ _ _ JY (aV 1) (aV 2) (bB yY JV (mR N N.1)))) .d)))
theorem aMG N (hc:aD (qV N)):bJ (qV N) Tryz.f79.ntmps (Z1 N) QK:=bR _ _ (aH trivial (aH trivial (aH (aMM N hc) trivial)))
theorem aMD[aA] N g0 g1 g2:JZ N (ZX N) g0 g1 g2=exec (qV N) Tryz.f79.ntmps (Z1 N) QK ⟨bW 0 [.ref 50 0],[(50,.box 104 [.e .tx g0,.e (.i .i64) g1,.e .bo g2])],100⟩ (bX (qV N) Tryz.f79 false):=by kernel_rfl
def JU(r:aC):Option (Int×Int×(List Ex)×aY×Int×Bool):=match r with
 |(.agg [x0,x1,x2],[(50,.box 104 [x3,x4,x5])])=>(match ue (.i .i64) x0,ue (.i .i64) x1,ue (.sl .ex) x2,ue .tx x3,ue (.i .i64) x4,ue .bo x5 with|some a0,some a1,some a2,some a3,some a4,some a5=>some (a0,a1,a2,a3,a4,a5)|_,_,_,_,_,_=>none)
 |_=>none
theorem aMA{r d}(h:JU r=some d):r=Bv d.1 d.2.1 d.2.2.1 d.2.2.2.1 d.2.2.2.2.1 d.2.2.2.2.2:=by
 unfold JU at h;split at h
 .split at h
  .rename_i h0 h1 h2 h3 h4 h5;cases h;rw[aE h0,aE h1,aE h2,aE h3,aE h4,aE h5];rfl
  .cases h
 .cases h
def JT N g0 g1 g2:=(w79 N g0 g1 g2).bind JU
theorem aMH{N}(hc:aD (qV N)){g0 g1 g2 d}(hd:JT N g0 g1 g2=some d):cB Tryz.prog 79 [.ref 50 0] [(50,.box 104 [.e .tx g0,.e (.i .i64) g1,.e .bo g2])] (Bv d.1 d.2.1 d.2.2.1 d.2.2.2.1 d.2.2.2.2.1 d.2.2.2.2.2):=
 cD hc (by kernel_rfl) (by kernel_rfl) (aMG N hc) (by kernel_rfl) aMA (λhr=>(aMD N g0 g1 g2).symm.trans (by rw[aMI N];exact hr)) hd
def gZ(N:Nat):Nat->(aY->Int->Bool->Option (Int×Int×(List Ex)×aY×Int×Bool))×(aY->Int->Bool->Option (Int×Int×(List Ex)×aY×Int×Bool))×(aY->Int->Bool->Option (Int×Int×(List Ex)×aY×Int×Bool))×(aY->Int->Bool->Option (Int×Int×(List Ex)×aY×Int×Bool))
 |0=>(λ_ _ _=>none,λ_ _ _=>none,λ_ _ _=>none,λ_ _ _=>none)
 |n+1=>(λg0 g1 g2=>tM (N,gZ N n) g0 g1 g2,λg0 g1 g2=>wH (N,gZ N n) g0 g1 g2,λg0 g1 g2=>NW (N,gZ N n) g0 g1 g2,λg0 g1 g2=>JT (N,gZ N n) g0 g1 g2)
theorem aEx(N:Nat):∀n,aK Tryz.prog 112 (tP (N,gZ N n))/\aK Tryz.prog 107 (tS (N,gZ N n))/\aK Tryz.prog 100 (tW (N,gZ N n))/\aK Tryz.prog 79 (sM (N,gZ N n))
 |0=>⟨eH aEv (λ_ h=>by cases h),eH aFV (λ_ h=>by cases h),eH aFh (λ_ h=>by cases h),eH ZZ (λ_ h=>by cases h)⟩
 |n+1=>
   have ih:=aEx N n
   ⟨eH aEv (λd h=>oV (zz:=tM (N,gZ N n) d.1 d.2.1 d.2.2) (R:=λy=>tO y.1 y.2.1 y.2.2.1 y.2.2.2.1 y.2.2.2.2.1 y.2.2.2.2.2) (d0:=(0,0,[],[],0,false)) (λ_ hy=>aWm (aWn (N,gZ N n) ih.1 ih.2.1 ih.2.2.1 ih.2.2.2) hy) h),eH aFV (λd h=>oV (zz:=wH (N,gZ N n) d.1 d.2.1 d.2.2) (R:=λy=>wI y.1 y.2.1 y.2.2.1 y.2.2.2.1 y.2.2.2.2.1 y.2.2.2.2.2) (d0:=(0,0,[],[],0,false)) (λ_ hy=>aX6 (aX7 (N,gZ N n) ih.1 ih.2.1 ih.2.2.1 ih.2.2.2) hy) h),eH aFh (λd h=>oV (zz:=NW (N,gZ N n) d.1 d.2.1 d.2.2) (R:=λy=>Gy y.1 y.2.1 y.2.2.1 y.2.2.2.1 y.2.2.2.2.1 y.2.2.2.2.2) (d0:=(0,0,[],[],0,false)) (λ_ hy=>aYO (aYQ (N,gZ N n) ih.1 ih.2.1 ih.2.2.1 ih.2.2.2) hy) h),eH ZZ (λd h=>oV (zz:=JT (N,gZ N n) d.1 d.2.1 d.2.2) (R:=λy=>Bv y.1 y.2.1 y.2.2.1 y.2.2.2.1 y.2.2.2.2.1 y.2.2.2.2.2) (d0:=(0,0,[],[],0,false)) (λ_ hy=>aMH (aMJ (N,gZ N n) ih.1 ih.2.1 ih.2.2.1 ih.2.2.2) hy) h)⟩
def Bw N g0 g1 g2:=((gZ N N).2.2.2 g0 g1 g2).isSome
def Bu N g0 g1 g2:=(((gZ N N).2.2.2 g0 g1 g2).getD (0,0,[],[],0,false)).1
def Bt N g0 g1 g2:=(((gZ N N).2.2.2 g0 g1 g2).getD (0,0,[],[],0,false)).2.1
def Bs N g0 g1 g2:=(((gZ N N).2.2.2 g0 g1 g2).getD (0,0,[],[],0,false)).2.2.1
def Br N g0 g1 g2:=(((gZ N N).2.2.2 g0 g1 g2).getD (0,0,[],[],0,false)).2.2.2.1
def Bq N g0 g1 g2:=(((gZ N N).2.2.2 g0 g1 g2).getD (0,0,[],[],0,false)).2.2.2.2.1
def Bp N g0 g1 g2:=(((gZ N N).2.2.2 g0 g1 g2).getD (0,0,[],[],0,false)).2.2.2.2.2
def Z2(N:Nat):bK:=eU JW (λd=>Bw N d.1 d.2.1 d.2.2) (λd=>Bv (Bu N d.1 d.2.1 d.2.2) (Bt N d.1 d.2.1 d.2.2) (Bs N d.1 d.2.1 d.2.2) (Br N d.1 d.2.1 d.2.2) (Bq N d.1 d.2.1 d.2.2) (Bp N d.1 d.2.1 d.2.2))
theorem aME N:aK Tryz.prog 79 (Z2 N):=(aEx N N).2.2.2
end
end Go.Proofs
/- What functions do. -/
namespace Go.Proofs
noncomputable section
open Go.Ax Go.Ax.aA Go.RowKit Go.Ab
open Go
def s7(a0 a1:Int)(a2:(List Ex))(a3 a4:Int):aC:=(.bD [.agg [.e (.i .i64) a0,.e (.i .i64) a1,.e (.sl .ex) a2],.e (.i .i64) a3,.e (.i .i64) a4],[])
def mZ(N:Nat):Cx:=⟨Tryz.prog,25,[(79,Z2 N),(80,yX N),(81,QE N),(36,MM N)],[]⟩
def Lb:Code:=Tryz.f45.body.getD .skip
theorem aSA N:aD (mZ N):=bZ (by kernel_rfl) (.cons (by kernel_rfl) (aME N) (.cons (by kernel_rfl) (Bn N) (.cons (by kernel_rfl) (ZL N) (.cons (by kernel_rfl) (Sh N) .nil)))) .nil
def Le[aA](N:Nat)(k0:aY->Int->Int->Int->aY->Int->Bool->Int->Int->(List Ex)->O)(x0_0:aY)(x0_1 x0_2 x0_3:Int)(x0_4:aY)(x0_5:Int)(x0_6:Bool)(x0_7 x0_8:Int)(x0_9:(List Ex)):O:=
 let b0:=kL N (61:UInt8) x0_4 x0_5 x0_6
 let b1:=kK N (61:UInt8) x0_4 x0_5 x0_6
 let b2:=k8 N (61:UInt8) x0_4 x0_5 x0_6
 let b3:=kL N (60:UInt8) b0 b1 b2
 let b4:=kK N (60:UInt8) b0 b1 b2
 let b5:=k8 N (60:UInt8) b0 b1 b2
 ck (mQ N (61:UInt8) x0_4 x0_5 x0_6)<|
 br (mP N (61:UInt8) x0_4 x0_5 x0_6)
  (ck (Bw N b0 b1 b2)<|
  k0 x0_0 x0_1 x0_2 x0_3 (Br N b0 b1 b2) (Bq N b0 b1 b2) (Bp N b0 b1 b2) 9 0 [Ex.mk x0_7 x0_8 x0_9,Ex.mk (Bu N b0 b1 b2) (Bt N b0 b1 b2) (Bs N b0 b1 b2)])
  (ck (mQ N (60:UInt8) b0 b1 b2)<|
  br (mP N (60:UInt8) b0 b1 b2)
   (ck (Bw N b3 b4 b5)<|
   k0 x0_0 x0_1 x0_2 x0_3 (Br N b3 b4 b5) (Bq N b3 b4 b5) (Bp N b3 b4 b5) 10 0 [Ex.mk x0_7 x0_8 x0_9,Ex.mk (Bu N b3 b4 b5) (Bt N b3 b4 b5) (Bs N b3 b4 b5)])
   (k0 x0_0 x0_1 x0_2 x0_3 b3 b4 b5 x0_7 x0_8 x0_9))
def SL:Code:=cP [1,1,1,1,0] Lb
def aRu:Nm:=⟨[0,2,4,5,6],[],[]⟩
def Cf(x:aY×Int×Int×Int×aY×Int×Bool×Int×Int×(List Ex)):Sg:=⟨[(0,.e .tx x.1),(2,.ref 0 0),(4,.e (.i .i64) x.2.1),(5,.ref 1 0),(6,.ref 2 0)],[(0,.box 25 [.e (.i .i64) x.2.2.1,.e (.i .i64) x.2.2.2.1,.cH]),(1,.box 104 [.e .tx x.2.2.2.2.1,.e (.i .i64) x.2.2.2.2.2.1,.e .bo x.2.2.2.2.2.2.1]),(2,.box 25 [.e (.i .i64) x.2.2.2.2.2.2.2.1,.e (.i .i64) x.2.2.2.2.2.2.2.2.1,.e (.sl .ex) x.2.2.2.2.2.2.2.2.2])],100⟩
def L8(σ:Sg):aY×Int×Int×Int×aY×Int×Bool×Int×Int×(List Ex):=(aW .tx 0 0 σ,aW (.i .i64) 4 0 σ,aL (.i .i64) 0 0 σ,aL (.i .i64) 0 1 σ,aL .tx 1 0 σ,aL (.i .i64) 1 1 σ,aL .bo 1 2 σ,aL (.i .i64) 2 0 σ,aL (.i .i64) 2 1 σ,aL (.sl .ex) 2 2 σ)
theorem aRo:∀x,L8 (Cf x)=x:=λ_=>by kernel_rfl
def Ld(y:aY×Int×Int×Int×aY×Int×Bool×Int×Int×(List Ex)):Exit×Sg:=(.normal,⟨[(0,.e .tx y.1),(2,.ref 0 0),(4,.e (.i .i64) y.2.1),(5,.ref 1 0),(6,.ref 2 0)],[(0,.box 25 [.e (.i .i64) y.2.2.1,.e (.i .i64) y.2.2.2.1,.cH]),(1,.box 104 [.e .tx y.2.2.2.2.1,.e (.i .i64) y.2.2.2.2.2.1,.e .bo y.2.2.2.2.2.2.1]),(2,.box 25 [.e (.i .i64) y.2.2.2.2.2.2.2.1,.e (.i .i64) y.2.2.2.2.2.2.2.2.1,.e (.sl .ex) y.2.2.2.2.2.2.2.2.2])],100⟩)
def aRl(_:Exit)(σ:Sg):aY×Int×Int×Int×aY×Int×Bool×Int×Int×(List Ex):=(aW .tx 0 0 σ,aW (.i .i64) 4 0 σ,aL (.i .i64) 0 0 σ,aL (.i .i64) 0 1 σ,aL .tx 1 0 σ,aL (.i .i64) 1 1 σ,aL .bo 1 2 σ,aL (.i .i64) 2 0 σ,aL (.i .i64) 2 1 σ,aL (.sl .ex) 2 2 σ)
def aRj:List (Exit×Nm):=[(.normal,⟨[0,2,4,5,6],[],[.cv 6 2 (.sl .ex)]⟩)]
def Cd[aA](N _:Nat)(x:aY×Int×Int×Int×aY×Int×Bool×Int×Int×(List Ex))(k0:(aY×Int×Int×Int×aY×Int×Bool×Int×Int×(List Ex))->O)(_:(Unit)->O)(_:(Unit)->O):O:=Le N (λy0 y1 y2 y3 y4 y5 y6 y7 y8 y9=>k0 (y0,y1,y2,y3,y4,y5,y6,y7,y8,y9)) x.1 x.2.1 x.2.2.1 x.2.2.2.1 x.2.2.2.2.1 x.2.2.2.2.2.1 x.2.2.2.2.2.2.1 x.2.2.2.2.2.2.2.1 x.2.2.2.2.2.2.2.2.1 x.2.2.2.2.2.2.2.2.2
def Fl[aA] N a0 a1 a2 a3 a4 a5 a6 a7 a8 a9 (k0:aY->Int->Int->Int->aY->Int->Bool->Int->Int->(List Ex)->O):=Cd N N (a0,a1,a2,a3,a4,a5,a6,a7,a8,a9) (λy=>k0 y.1 y.2.1 y.2.2.1 y.2.2.2.1 y.2.2.2.2.1 y.2.2.2.2.2.1 y.2.2.2.2.2.2.1 y.2.2.2.2.2.2.2.1 y.2.2.2.2.2.2.2.2.1 y.2.2.2.2.2.2.2.2.2) (λ_=>none) (λ_=>none)
def aC0[aA] N a0 a1 a2 a3 a4 a5 a6 a7 a8 a9 (k0:aY->Int->Int->Int->aY->Int->Bool->Int->Int->(List Ex)->O):=bB Cf L8 (Cd N N) (Cf (a0,a1,a2,a3,a4,a5,a6,a7,a8,a9)) (λy=>k0 y.1 y.2.1 y.2.2.1 y.2.2.2.1 y.2.2.2.2.1 y.2.2.2.2.2.1 y.2.2.2.2.2.2.1 y.2.2.2.2.2.2.2.1 y.2.2.2.2.2.2.2.2.1 y.2.2.2.2.2.2.2.2.2) (λ_=>none) (λ_=>none)
theorem aRz[aA] N:aC0 N=Fl N:=funext λ_=>funext λ_=>funext λ_=>funext λ_=>funext λ_=>funext λ_=>funext λ_=>funext λ_=>funext λ_=>funext λ_=>funext λ_=>dD aRo _ _ _ _
def aC1[aA](_:Nat):Hint:=(.seq .d (.cond (.gO [] [] [[],[],[1],[],[],[2]]) (.seq .d (.cond (.gO [] [] [[],[],[1],[],[],[2]]) .d))))
theorem aRv N:bJ (mZ N) Tryz.f45.ntmps (aC1 N) SL:=bR _ _ (aH trivial (aH trivial (aH trivial (aH trivial trivial))))
theorem aRq[aA](N:Nat)(K:Exit->Sg->O)(x:aY×Int×Int×Int×aY×Int×Bool×Int×Int×(List Ex)):Le N (λy0 y1 y2 y3 y4 y5 y6 y7 y8 y9=>K (Ld (y0,y1,y2,y3,y4,y5,y6,y7,y8,y9)).1 (Ld (y0,y1,y2,y3,y4,y5,y6,y7,y8,y9)).2) x.1 x.2.1 x.2.2.1 x.2.2.2.1 x.2.2.2.2.1 x.2.2.2.2.2.1 x.2.2.2.2.2.2.1 x.2.2.2.2.2.2.2.1 x.2.2.2.2.2.2.2.2.1 x.2.2.2.2.2.2.2.2.2=exec (mZ N) Tryz.f45.ntmps (aC1 N) SL (Cf x) (iH aRj K):=by kernel_rfl
theorem aSE N (hc:aD (mZ N)):cU (mZ N) Tryz.f45.ntmps SL Ld (aV 1) (aV 2) (bB Cf L8 (Cd N N)):=
 jL hc (aRv N) (fF aRl .normal (λ_=>by kernel_rfl) (λ_=>rfl) (by kernel_rfl)) (λx K=>by
  exact aRq N K x)
def SM[aA](N:Nat)(k0:aY->Int->Int->Int->aY->Int->Bool->Int->Int->(List Ex)->O)(x11_0:aY)(x11_1 x11_2 x11_3:Int)(x11_4:aY)(x11_5:Int)(x11_6:Bool)(x11_7 x11_8:Int)(x11_9:(List Ex)):O:=
 br (!x11_6)
  (ck (FA N x11_4 x11_5 x11_6)<|
  k0 x11_0 x11_1 x11_2 x11_3 (vG N x11_4 x11_5 x11_6) (vF N x11_4 x11_5 x11_6) (Bl N x11_4 x11_5 x11_6) x11_7 x11_8 x11_9)
  (k0 x11_0 x11_1 x11_2 x11_3 x11_4 x11_5 x11_6 x11_7 x11_8 x11_9)
def SK:Code:=cP [1,1,1,1,1,0] Lb
def aRt:Nm:=⟨[0,2,4,5,6],[],[]⟩
def Ce(x:aY×Int×Int×Int×aY×Int×Bool×Int×Int×(List Ex)):Sg:=⟨[(0,.e .tx x.1),(2,.ref 0 0),(4,.e (.i .i64) x.2.1),(5,.ref 1 0),(6,.ref 2 0)],[(0,.box 25 [.e (.i .i64) x.2.2.1,.e (.i .i64) x.2.2.2.1,.cH]),(1,.box 104 [.e .tx x.2.2.2.2.1,.e (.i .i64) x.2.2.2.2.2.1,.e .bo x.2.2.2.2.2.2.1]),(2,.box 25 [.e (.i .i64) x.2.2.2.2.2.2.2.1,.e (.i .i64) x.2.2.2.2.2.2.2.2.1,.e (.sl .ex) x.2.2.2.2.2.2.2.2.2])],100⟩
def L7(σ:Sg):aY×Int×Int×Int×aY×Int×Bool×Int×Int×(List Ex):=(aW .tx 0 0 σ,aW (.i .i64) 4 0 σ,aL (.i .i64) 0 0 σ,aL (.i .i64) 0 1 σ,aL .tx 1 0 σ,aL (.i .i64) 1 1 σ,aL .bo 1 2 σ,aL (.i .i64) 2 0 σ,aL (.i .i64) 2 1 σ,aL (.sl .ex) 2 2 σ)
theorem aRn:∀x,L7 (Ce x)=x:=λ_=>by kernel_rfl
def Lc(y:aY×Int×Int×Int×aY×Int×Bool×Int×Int×(List Ex)):Exit×Sg:=(.normal,⟨[(0,.e .tx y.1),(2,.ref 0 0),(4,.e (.i .i64) y.2.1),(5,.ref 1 0),(6,.ref 2 0)],[(0,.box 25 [.e (.i .i64) y.2.2.1,.e (.i .i64) y.2.2.2.1,.cH]),(1,.box 104 [.e .tx y.2.2.2.2.1,.e (.i .i64) y.2.2.2.2.2.1,.e .bo y.2.2.2.2.2.2.1]),(2,.box 25 [.e (.i .i64) y.2.2.2.2.2.2.2.1,.e (.i .i64) y.2.2.2.2.2.2.2.2.1,.e (.sl .ex) y.2.2.2.2.2.2.2.2.2])],100⟩)
def aRk(_:Exit)(σ:Sg):aY×Int×Int×Int×aY×Int×Bool×Int×Int×(List Ex):=(aW .tx 0 0 σ,aW (.i .i64) 4 0 σ,aL (.i .i64) 0 0 σ,aL (.i .i64) 0 1 σ,aL .tx 1 0 σ,aL (.i .i64) 1 1 σ,aL .bo 1 2 σ,aL (.i .i64) 2 0 σ,aL (.i .i64) 2 1 σ,aL (.sl .ex) 2 2 σ)
def aRi:List (Exit×Nm):=[(.normal,⟨[0,2,4,5,6],[],[]⟩)]
def Fm[aA](N _:Nat)(x:aY×Int×Int×Int×aY×Int×Bool×Int×Int×(List Ex))(k0:(aY×Int×Int×Int×aY×Int×Bool×Int×Int×(List Ex))->O)(_:(Unit)->O)(_:(Unit)->O):O:=SM N (λy0 y1 y2 y3 y4 y5 y6 y7 y8 y9=>k0 (y0,y1,y2,y3,y4,y5,y6,y7,y8,y9)) x.1 x.2.1 x.2.2.1 x.2.2.2.1 x.2.2.2.2.1 x.2.2.2.2.2.1 x.2.2.2.2.2.2.1 x.2.2.2.2.2.2.2.1 x.2.2.2.2.2.2.2.2.1 x.2.2.2.2.2.2.2.2.2
def La[aA] N a0 a1 a2 a3 a4 a5 a6 a7 a8 a9 (k0:aY->Int->Int->Int->aY->Int->Bool->Int->Int->(List Ex)->O):=Fm N N (a0,a1,a2,a3,a4,a5,a6,a7,a8,a9) (λy=>k0 y.1 y.2.1 y.2.2.1 y.2.2.2.1 y.2.2.2.2.1 y.2.2.2.2.2.1 y.2.2.2.2.2.2.1 y.2.2.2.2.2.2.2.1 y.2.2.2.2.2.2.2.2.1 y.2.2.2.2.2.2.2.2.2) (λ_=>none) (λ_=>none)
def aCZ[aA] N a0 a1 a2 a3 a4 a5 a6 a7 a8 a9 (k0:aY->Int->Int->Int->aY->Int->Bool->Int->Int->(List Ex)->O):=bB Ce L7 (Fm N N) (Ce (a0,a1,a2,a3,a4,a5,a6,a7,a8,a9)) (λy=>k0 y.1 y.2.1 y.2.2.1 y.2.2.2.1 y.2.2.2.2.1 y.2.2.2.2.2.1 y.2.2.2.2.2.2.1 y.2.2.2.2.2.2.2.1 y.2.2.2.2.2.2.2.2.1 y.2.2.2.2.2.2.2.2.2) (λ_=>none) (λ_=>none)
theorem aRy[aA] N:aCZ N=La N:=funext λ_=>funext λ_=>funext λ_=>funext λ_=>funext λ_=>funext λ_=>funext λ_=>funext λ_=>funext λ_=>funext λ_=>funext λ_=>dD aRn _ _ _ _
theorem aRp[aA](N:Nat)(K:Exit->Sg->O)(x:aY×Int×Int×Int×aY×Int×Bool×Int×Int×(List Ex)):SM N (λy0 y1 y2 y3 y4 y5 y6 y7 y8 y9=>K (Lc (y0,y1,y2,y3,y4,y5,y6,y7,y8,y9)).1 (Lc (y0,y1,y2,y3,y4,y5,y6,y7,y8,y9)).2) x.1 x.2.1 x.2.2.1 x.2.2.2.1 x.2.2.2.2.1 x.2.2.2.2.2.1 x.2.2.2.2.2.2.1 x.2.2.2.2.2.2.2.1 x.2.2.2.2.2.2.2.2.1 x.2.2.2.2.2.2.2.2.2=exec (mZ N) Tryz.f45.ntmps .d SK (Ce x) (iH aRi K):=by kernel_rfl
theorem aSD N (hc:aD (mZ N)):cU (mZ N) Tryz.f45.ntmps SK Lc (aV 1) (aV 2) (bB Ce L7 (Fm N N)):=
 jL hc (cT SK) (fF aRk .normal (λ_=>by kernel_rfl) (λ_=>rfl) (by kernel_rfl)) (λx K=>by
  exact aRp N K x)
def Cg[aA](N:Nat)(in0:aY->Int->Int->Int->aY->Int->Bool->Int->Int->(List Ex)->(aY->Int->Int->Int->aY->Int->Bool->Int->Int->(List Ex)->O)->O)(in1:aY->Int->Int->Int->aY->Int->Bool->Int->Int->(List Ex)->(aY->Int->Int->Int->aY->Int->Bool->Int->Int->(List Ex)->O)->O)(s0:aY):O:=
 let b0:=some (s7 0 0 [] 0 4)
 br (decide ((8192:Int)<(↑s0.length:Int)))
  b0
  (ck (Bw N s0 (0:Int) false)<|
  in0 s0 0 0 0 (Br N s0 (0:Int) false) (Bq N s0 (0:Int) false) (Bp N s0 (0:Int) false) (Bu N s0 (0:Int) false) (Bt N s0 (0:Int) false) (Bs N s0 (0:Int) false)
   (λz1 z2 z3 z4 z5 z6 z7 z8 z9 z10=>
    in1 z1 z2 z3 z4 z5 z6 z7 z8 z9 z10
     (λz12 _ _ _ _ z17 z18 z19 z20 z21=>
      br (z18||decide (z17<(↑z12.length:Int)))
       (some (s7 0 0 [] z17 2))
       (ck (AQ N z19 z20 z21)<|
       br (decide (v8 N z19 z20 z21≠(0:Int)))
        b0
        (some (s7 (z19) (z20) (z21) 0 0))))))
def w45[aA] N s0:=Cg N (Fl N) (La N) s0
def aC2[aA](N:Nat):Hint:=(.seq .d (.seq .d (.seq .d (.seq .d (.seq (.sub aRu _ _ _ Ld (aV 1) (aV 2) (bB Cf L8 (Cd N N))) (.seq (.sub aRt _ _ _ Lc (aV 1) (aV 2) (bB Ce L7 (Fm N N))) (.seq (.seq .d (.cond (.seq (.gO [] [] [[],[],[],[],[],[0],[],[]]) .d) .d)) .d)))))))
theorem aRw N (hc:aD (mZ N)):bJ (mZ N) Tryz.f45.ntmps (aC2 N) Lb:=bR _ _ (aH trivial (aH trivial (aH trivial (aH trivial (aH (aSE N hc) (aH (aSD N hc) (aH (aH trivial (aH (aH trivial trivial) trivial)) trivial)))))))
theorem aRr[aA] N s0:Cg N (aC0 N) (aCZ N) s0=exec (mZ N) Tryz.f45.ntmps (aC2 N) Lb ⟨bW 0 [.e .tx s0],[],100⟩ (bX (mZ N) Tryz.f45 false):=by kernel_rfl
def vT(r:aC):Option (Int×Int×(List Ex)×Int×Int):=match r with
 |(.bD [.agg [x0,x1,x2],x3,x4],[])=>(match ue (.i .i64) x0,ue (.i .i64) x1,ue (.sl .ex) x2,ue (.i .i64) x3,ue (.i .i64) x4 with|some a0,some a1,some a2,some a3,some a4=>some (a0,a1,a2,a3,a4)|_,_,_,_,_=>none)
 |_=>none
theorem aRm{r d}(h:vT r=some d):r=s7 d.1 d.2.1 d.2.2.1 d.2.2.2.1 d.2.2.2.2:=by
 unfold vT at h;split at h
 .split at h
  .rename_i h0 h1 h2 h3 h4;cases h;rw[aE h0,aE h1,aE h2,aE h3,aE h4];rfl
  .cases h
 .cases h
def oK N s0:=(w45 N s0).bind vT
theorem aRx{N}(hc:aD (mZ N)){s0 d}(hd:oK N s0=some d):cB Tryz.prog 45 [.e .tx s0] [] (s7 d.1 d.2.1 d.2.2.1 d.2.2.2.1 d.2.2.2.2):=
 cD hc (by kernel_rfl) (by kernel_rfl) (aRw N hc) (by kernel_rfl) aRm (λhr=>(aRr N s0).symm.trans (by rw[aRz N,aRy N];exact hr)) hd
def L9 N s0:=(oK N s0).isSome
def L6 N s0:=((oK N s0).getD (0,0,[],0,0)).1
def L5 N s0:=((oK N s0).getD (0,0,[],0,0)).2.1
def L4 N s0:=((oK N s0).getD (0,0,[],0,0)).2.2.1
def aRh N s0:=((oK N s0).getD (0,0,[],0,0)).2.2.2.1
def L3 N s0:=((oK N s0).getD (0,0,[],0,0)).2.2.2.2
def aC3(N:Nat):bK:=E1 .tx (λx0=>(L9 N x0,s7 (L6 N x0) (L5 N x0) (L4 N x0) (aRh N x0) (L3 N x0)))
theorem aRs N:aK Tryz.prog 45 (aC3 N):=aK.e1 (λx0 h=>cV (z:=oK N x0) h (aRx (aSA N)) rfl)
end
end Go.Proofs
