/- What the functions of package linear do; the examples hold. Conditions are in the theorems. -/
import Derived.Test.YtlhdefefoaldfaaGreatDoorE7
import Derived.Test.YtlhdefefoaldfaaGreatDoorProg
import Derived.KernelRfl
import Derived.Test.YtlhdefefoaldfaaGreatDoorF0
import Derived.Test.YtlhdefefoaldfaaGreatDoorF5
import Derived.Test.YtlhdefefoaldfaaGreatDoorF1
import Derived.Test.YtlhdefefoaldfaaGreatDoorF2
import Derived.Test.YtlhdefefoaldfaaGreatDoorF3
open And renaming intro->aH
open Eq renaming trans->gM
open Go.IntKind renaming i64->aB
/- What functions do. -/
namespace Go.Proofs
noncomputable section
open Go.Ax Go.Ax.aA Go.RowKit Go.Ab
open Go
abbrev aP:=List UInt8
def K9(a0:Bool):aC:=(.e .bo a0,[])
def Fa(_:Nat):Cx:=⟨Tryz.prog,25,[],[]⟩
def aBP:Code:=Tryz.f57.body.getD .skip
theorem aP4 N:aD (Fa N):=bZ (by kernel_rfl) .nil .nil
def aBR[aA](_:Nat)(c0:Int):O:=
  some (K9 (decide (48<=c0)&&decide (c0<=57)))
def w57[aA] N c0:=aBR N c0
def aBN[aA](_:Nat):Hint:=.d
theorem aP2 N:bJ (Fa N) Tryz.f57.ntmps (aBN N) aBP:=bR _ _ trivial
theorem aP0[aA] N c0:aBR N c0=exec (Fa N) Tryz.f57.ntmps (aBN N) aBP ⟨bW 0 [.e (.i .i32) c0],[],100⟩ (bX (Fa N) Tryz.f57 false):=by kernel_rfl
def RG(r:aC):Option (Bool):=match r with
  |(x0,[])=>(match ue .bo x0 with|some a0=>some a0|_=>none)
  |_=>none
theorem aPZ{r d}(h:RG r=some d):r=K9 (d):=by
  unfold RG at h;split at h
  . split at h
    . rename_i h0;cases h;rw[aE h0];rfl
    . cases h
  . cases h
def F9 N c0:=(w57 N c0).bind RG
theorem aP3{N}(hc:aD (Fa N)){c0 d}(hd:F9 N c0=some d):cB Tryz.prog 57 [.e (.i .i32) c0] [] (K9 (d)):=
  cD hc (by kernel_rfl) (by kernel_rfl) (aP2 N) (by kernel_rfl) aPZ (aP0 N c0).symm.trans hd
def CS N c0:=(F9 N c0).isSome
def zS N c0:=((F9 N c0).getD false)
def aBO(N:Nat):bK:=E1 (.i .i32) (λx0=>(CS N x0,K9 (zS N x0)))
theorem aP1 N:aK Tryz.prog 57 (aBO N):=aK.e1 (λx0 h=>cV (z:=F9 N x0) h (aP3 (aP4 N)) rfl)
def K8(a0:Bool):aC:=(.e .bo a0,[])
def F8(_:Nat):Cx:=⟨Tryz.prog,25,[],[]⟩
def aBI:Code:=Tryz.f58.body.getD .skip
theorem aPX N:aD (F8 N):=bZ (by kernel_rfl) .nil .nil
def aBM[aA](_:Nat)(c0:Int):O:=
  some (K8 (decide (97<=c0)&&decide (c0<=122)))
def w58[aA] N c0:=aBM N c0
def aBG[aA](_:Nat):Hint:=.d
theorem aPV N:bJ (F8 N) Tryz.f58.ntmps (aBG N) aBI:=bR _ _ trivial
theorem aPT[aA] N c0:aBM N c0=exec (F8 N) Tryz.f58.ntmps (aBG N) aBI ⟨bW 0 [.e (.i .i32) c0],[],100⟩ (bX (F8 N) Tryz.f58 false):=by kernel_rfl
def RF(r:aC):Option (Bool):=match r with
  |(x0,[])=>(match ue .bo x0 with|some a0=>some a0|_=>none)
  |_=>none
theorem aPS{r d}(h:RF r=some d):r=K8 (d):=by
  unfold RF at h;split at h
  . split at h
    . rename_i h0;cases h;rw[aE h0];rfl
    . cases h
  . cases h
def F5 N c0:=(w58 N c0).bind RF
theorem aPW{N}(hc:aD (F8 N)){c0 d}(hd:F5 N c0=some d):cB Tryz.prog 58 [.e (.i .i32) c0] [] (K8 (d)):=
  cD hc (by kernel_rfl) (by kernel_rfl) (aPV N) (by kernel_rfl) aPS (aPT N c0).symm.trans hd
def F7 N c0:=(F5 N c0).isSome
def F6 N c0:=((F5 N c0).getD false)
def aBH(N:Nat):bK:=E1 (.i .i32) (λx0=>(F7 N x0,K8 (F6 N x0)))
theorem aPU N:aK Tryz.prog 58 (aBH N):=aK.e1 (λx0 h=>cV (z:=F5 N x0) h (aPW (aPX N)) rfl)
def MT(a0:aP)(a1:(List Int)):aC:=(.bD [.own 100,.own 101],[(100,.row 5 .u8 a0 true),(101,.row 3 (.i .i64) a1 true)])
def tC(N:Nat):Cx:=⟨Tryz.prog,25,[(57,aBO N),(58,aBH N),(59,aBF N),(60,aBE N)],[]⟩
def Sq:Code:=Tryz.f34.body.getD .skip
theorem aTw N:aD (tC N):=bZ (by kernel_rfl) (.cons (by kernel_rfl) (aP1 N) (.cons (by kernel_rfl) (aPU N) (.cons (by kernel_rfl) (aPO N) (.cons (by kernel_rfl) (aPK N) .nil)))) .nil
def Ct[aA](N:Nat)(self:Int->aP->(List Int)->Int->O)(k0:aP->(List Int)->O)(_x0_1 x0_4:aP)(x0_0:Int)(x0_2:aP)(x0_3:(List Int))(x0_5:Int):O:=
  let b0:=x0_5+(1:Int)
  br (decide (x0_5<(↑x0_4.length:Int)))
    (gx x0_4 x0_5 λy21=>
    ck (decide (y21.toNat<(128:Nat)))<|
    br true
      (ck (CS N (↑y21.toNat:Int))<|
      br (zS N (↑y21.toNat:Int))
        (ck (CS N x0_0)<|
        br (!zS N x0_0)
          (ck (cZ (x0_2++[(60:UInt8)]).length (1:Nat))<|
          gx [(26:UInt8),(1:UInt8),(3:UInt8),(9:UInt8),(25:UInt8),(17:UInt8),(11:UInt8),(27:UInt8),(19:UInt8),(10:UInt8)] (IntKind.i32.wrap ((↑y21.toNat:Int)-(48:Int))) λy22=>
          ck (cZ (x0_2++[(60:UInt8)]++[y22]).length (1:Nat))<|
          self ((↑y21.toNat:Int)) (x0_2++[(60:UInt8)]++[y22]) x0_3 b0)
          (gx [(26:UInt8),(1:UInt8),(3:UInt8),(9:UInt8),(25:UInt8),(17:UInt8),(11:UInt8),(27:UInt8),(19:UInt8),(10:UInt8)] (IntKind.i32.wrap ((↑y21.toNat:Int)-(48:Int))) λy23=>
          ck (cZ (x0_2++[y23]).length (1:Nat))<|
          self ((↑y21.toNat:Int)) (x0_2++[y23]) x0_3 b0))
        (ck (F7 N (↑y21.toNat:Int))<|
        br (F6 N (↑y21.toNat:Int))
          (gx [(1:UInt8),(3:UInt8),(9:UInt8),(25:UInt8),(17:UInt8),(11:UInt8),(27:UInt8),(19:UInt8),(10:UInt8),(26:UInt8),(5:UInt8),(7:UInt8),(13:UInt8),(29:UInt8),(21:UInt8),(15:UInt8),(31:UInt8),(23:UInt8),(14:UInt8),(30:UInt8),(37:UInt8),(39:UInt8),(58:UInt8),(45:UInt8),(61:UInt8),(53:UInt8)] (IntKind.i32.wrap ((↑y21.toNat:Int)-(97:Int))) λy24=>
          ck (cZ (x0_2++[(48:UInt8),y24]).length (1:Nat))<|
          self ((↑y21.toNat:Int)) (x0_2++[(48:UInt8),y24]) x0_3 b0)
          (ck (K7 N [(43:UInt8),(45:UInt8),(42:UInt8),(47:UInt8),(94:UInt8),(61:UInt8),(60:UInt8),(82:UInt8),(40:UInt8),(41:UInt8)] (↑y21.toNat:Int))<|
          gx [(22:UInt8),(36:UInt8),(33:UInt8),(12:UInt8),(24:UInt8),(54:UInt8),(42:UInt8),(28:UInt8),(55:UInt8),(62:UInt8)] (K6 N [(43:UInt8),(45:UInt8),(42:UInt8),(47:UInt8),(94:UInt8),(61:UInt8),(60:UInt8),(82:UInt8),(40:UInt8),(41:UInt8)] (↑y21.toNat:Int)) λy25=>
          ck (cZ (x0_2++[y25]).length (1:Nat))<|
          ck (K5 N [(43:UInt8),(45:UInt8),(42:UInt8),(47:UInt8),(61:UInt8),(60:UInt8)] (↑y21.toNat:Int))<|
          ck (!CR N [(43:UInt8),(45:UInt8),(42:UInt8),(47:UInt8),(61:UInt8),(60:UInt8)] (↑y21.toNat:Int)||CS N x0_0)<|
          ck (!(CR N [(43:UInt8),(45:UInt8),(42:UInt8),(47:UInt8),(61:UInt8),(60:UInt8)] (↑y21.toNat:Int)&&!zS N x0_0)||F7 N x0_0)<|
          br (CR N [(43:UInt8),(45:UInt8),(42:UInt8),(47:UInt8),(61:UInt8),(60:UInt8)] (↑y21.toNat:Int)&&(zS N x0_0||F6 N x0_0||decide (x0_0=41)))
            (ck (cZ (x0_3++[(↑(x0_2++[y25]).length:Int)]).length (8:Nat))<|
            self ((↑y21.toNat:Int)) (x0_2++[y25]) (x0_3++[(↑(x0_2++[y25]).length:Int)]) b0)
            (self ((↑y21.toNat:Int)) (x0_2++[y25]) x0_3 b0))))
      (k0 x0_2 x0_3))
    (br false
      (none)
      (k0 x0_2 x0_3))
def So:Code:=cP [1,1,1,1,0,1,0,0] Sq
def aD0:Nm:=⟨[2,4,5,6,9,10],[],[.Dp 4 (.row 5 .u8 [] true),.Dp 5 (.row 3 (.i .i64) [] true)]⟩
def AU(x:Int×aP×aP×(List Int)×aP×Int):Sg:=⟨[(2,.cH),(4,.own 0),(5,.own 1),(6,.e (.i .i32) x.1),(9,.e .tx x.2.1),(10,.own 2)],[(0,.row 5 .u8 x.2.2.1 true),(1,.row 3 (.i .i64) x.2.2.2.1 true),(2,.it x.2.2.2.2.1 x.2.2.2.2.2)],100⟩
def MS(σ:Sg):Int×aP×aP×(List Int)×aP×Int:=(aW (.i .i32) 6 0 σ,aW .tx 9 0 σ,fX .u8 0 σ,fX (.i .i64) 1 σ,a0z 2 σ,a1A 2 σ)
theorem aTq:∀x,MS (AU x)=x:=λ_=>by kernel_rfl
def MU(y:aP×(List Int)):Exit×Sg:=((.exit 0),⟨[(4,.own 0),(5,.own 1)],[(0,.row 5 .u8 y.1 true),(1,.row 3 (.i .i64) y.2 true)],100⟩)
def aTo(_:Exit)(σ:Sg):aP×(List Int):=(fX .u8 0 σ,fX (.i .i64) 1 σ)
def aTn:List (Exit×Nm):=[((.exit 0),⟨[4,5],[],[]⟩)]
def AS[aA](N:Nat):Nat->(Int×aP×aP×(List Int)×aP×Int)->((aP×(List Int))->O)->((Unit)->O)->((Unit)->O)->O
  |0,_,_,_,_=>none
  |n+1,x,k0,k1,k2=>Ct N (λv0 v1 v2 v3=>AS N n (v0,x.2.1,v1,v2,x.2.2.2.2.1,v3) k0 k1 k2) (λy0 y1=>k0 (y0,y1)) x.2.1 x.2.2.2.2.1 x.1 x.2.2.1 x.2.2.2.1 x.2.2.2.2.2
def Sm[aA] N a0 a1 a2 a3 a4 a5 (k0:aP->(List Int)->O):=AS N N (a0,a1,a2,a3,a4,a5) (λy=>k0 y.1 y.2) (λ_=>none) (λ_=>none)
def aDY[aA] N a0 a1 a2 a3 a4 a5 (k0:aP->(List Int)->O):=bB AU MS (AS N N) (AU (a0,a1,a2,a3,a4,a5)) (λy=>k0 y.1 y.2) (λ_=>none) (λ_=>none)
theorem aTv[aA] N:aDY N=Sm N:=funext λ_=>funext λ_=>funext λ_=>funext λ_=>funext λ_=>funext λ_=>funext λ_=>dD aTq _ _ _ _
theorem aTr[aA](N:Nat)(self:Sg->O)(K:Exit->Sg->O)(x:Int×aP×aP×(List Int)×aP×Int):Ct N (λv0 v1 v2 v3=>self (AU (v0,x.2.1,v1,v2,x.2.2.2.2.1,v3))) (λy0 y1=>K (MU (y0,y1)).1 (MU (y0,y1)).2) x.2.1 x.2.2.2.2.1 x.1 x.2.2.1 x.2.2.2.1 x.2.2.2.2.2=exec (tC N) Tryz.f34.ntmps .d So (AU x) (fE aD0 aTn self K):=by kernel_rfl
theorem aTz N (hc:aD (tC N)):cU (tC N) Tryz.f34.ntmps (.loop So) MU (aV 1) (aV 2) (bB AU MS (AS N N)):=
  fW hc (cT So) (fF aTo (.exit 0) (λ_=>by kernel_rfl) (λ_=>rfl) (by kernel_rfl)) (n:=N) (λx K=>fY (AS N) (λ_ _ _ _=>rfl) (λn K ih x=>by
    refine gM ?_ (aTr N _ K x);simp only[<-ih];rfl) N x K)
def Sr[aA](_:Nat)(in0:Int->aP->aP->(List Int)->aP->Int->(aP->(List Int)->O)->O)(s0:aP):O:=
  in0 40 s0 [] [] s0 0
    (λz26 z27=>
      ck (cZ (z26++[(63:UInt8)]).length (1:Nat))<|
      some (MT (z26++[(63:UInt8)]) z27))
def w34[aA] N s0:=Sr N (Sm N) s0
def aD1[aA](N:Nat):Hint:=(.seq .d (.seq .d (.seq .d (.seq .d (.seq (.seq .d (.block (.sub aD0 _ _ _ MU (aV 1) (aV 2) (bB AU MS (AS N N))))) .d)))))
theorem aTt N (hc:aD (tC N)):bJ (tC N) Tryz.f34.ntmps (aD1 N) Sq:=bR _ _ (aH trivial (aH trivial (aH trivial (aH trivial (aH (aH trivial (aTz N hc)) trivial)))))
theorem aTs[aA] N s0:Sr N (aDY N) s0=exec (tC N) Tryz.f34.ntmps (aD1 N) Sq ⟨bW 0 [.e .tx s0],[],100⟩ (bX (tC N) Tryz.f34 true):=by kernel_rfl
def MR(r:aC):Option (aP×(List Int)):=match r with
  |(.bD [.own 100,.own 101],[(100,x0),(101,x1)])=>(match ur 5 .u8 true x0,ur 3 (.i .i64) true x1 with|some a0,some a1=>some (a0,a1)|_,_=>none)
  |_=>none
theorem aTp{r d}(h:MR r=some d):r=MT d.1 d.2:=by
  unfold MR at h;split at h
  . split at h
    . rename_i h0 h1;cases h;rw[jK h0,jK h1];rfl
    . cases h
  . cases h
def wA N s0:=(w34 N s0).bind MR
theorem aTu{N}(hc:aD (tC N)){s0 d}(hd:wA N s0=some d):cB Tryz.prog 34 [.e .tx s0] [] (MT d.1 d.2):=
  cD hc (by kernel_rfl) (by kernel_rfl) (aTt N hc) (by kernel_rfl) aTp (λhr=>(aTs N s0).symm.trans (by rw[aTv N];exact hr)) hd
def GI N s0:=(wA N s0).isSome
def MQ N s0:=((wA N s0).getD ([],[])).1
def aDX N s0:=((wA N s0).getD ([],[])).2
def Sn(N:Nat):bK:=E1 .tx (λx0=>(GI N x0,MT (MQ N x0) (aDX N x0)))
theorem aDZ N:aK Tryz.prog 34 (Sn N):=aK.e1 (λx0 h=>cV (z:=wA N x0) h (aTu (aTw N)) rfl)
def Gk(a0:aP)(a1:Int):aC:=(.bD [.e (.sl .u8) a0,.e (.i .i64) a1],[])
def Gm(N:Nat):Cx:=⟨Tryz.prog,25,[(29,GM N),(35,Sl N),(34,Sn N)],[]⟩
def aFQ:Code:=Tryz.f10.body.getD .skip
theorem aXZ N:aD (Gm N):=bZ (by kernel_rfl) (.cons (by kernel_rfl) (MW N) (.cons (by kernel_rfl) (aDT N) (.cons (by kernel_rfl) (aDZ N) .nil))) .nil
def US[aA](N:Nat)(e0_0 e0_1:Int)(e0_2:(List Ex)):O:=
  let b0:=Ex.mk (Ex.mk e0_0 e0_1 e0_2).op (Ex.mk e0_0 e0_1 e0_2).num (Ex.mk e0_0 e0_1 e0_2).kids
  ck (tD N b0.op b0.num b0.kids)<|
  br (decide (pN N b0.op b0.num b0.kids≠(0:Int)))
    (some (Gk [] (pN N b0.op b0.num b0.kids)))
    (ck (GG N b0.op b0.num b0.kids)<|
    ck (GI N (AR N b0.op b0.num b0.kids))<|
    some (Gk (MQ N (AR N b0.op b0.num b0.kids)) 0))
def w10[aA] N e0_0 e0_1 e0_2:=US N e0_0 e0_1 e0_2
def aFP[aA](_:Nat):Hint:=.d
theorem aXX N:bJ (Gm N) Tryz.f10.ntmps (aFP N) aFQ:=bR _ _ trivial
theorem aXW[aA] N e0_0 e0_1 e0_2:US N e0_0 e0_1 e0_2=exec (Gm N) Tryz.f10.ntmps (aFP N) aFQ ⟨bW 0 [.agg [.e (.i .i64) e0_0,.e (.i .i64) e0_1,.e (.sl .ex) e0_2]],[],100⟩ (bX (Gm N) Tryz.f10 false):=by kernel_rfl
def UQ(r:aC):Option (aP×Int):=match r with
  |(.bD [x0,x1],[])=>(match ue (.sl .u8) x0,ue (.i .i64) x1 with|some a0,some a1=>some (a0,a1)|_,_=>none)
  |_=>none
theorem aXV{r d}(h:UQ r=some d):r=Gk d.1 d.2:=by
  unfold UQ at h;split at h
  . split at h
    . rename_i h0 h1;cases h;rw[aE h0,aE h1];rfl
    . cases h
  . cases h
def DX N e0_0 e0_1 e0_2:=(w10 N e0_0 e0_1 e0_2).bind UQ
theorem aXY{N}(hc:aD (Gm N)){e0_0 e0_1 e0_2 d}(hd:DX N e0_0 e0_1 e0_2=some d):cB Tryz.prog 10 [.agg [.e (.i .i64) e0_0,.e (.i .i64) e0_1,.e (.sl .ex) e0_2]] [] (Gk d.1 d.2):=
  cD hc (by kernel_rfl) (by kernel_rfl) (aXX N) (by kernel_rfl) aXV (aXW N e0_0 e0_1 e0_2).symm.trans hd
def DY N e0_0 e0_1 e0_2:=(DX N e0_0 e0_1 e0_2).isSome
def wG N e0_0 e0_1 e0_2:=((DX N e0_0 e0_1 e0_2).getD ([],0)).1
def Ak N e0_0 e0_1 e0_2:=((DX N e0_0 e0_1 e0_2).getD ([],0)).2
def Gl(N:Nat):bK:=E1 .ex (λx0=>(DY N (Ex.op x0) (Ex.num x0) (Ex.kids x0),Gk (wG N (Ex.op x0) (Ex.num x0) (Ex.kids x0)) (Ak N (Ex.op x0) (Ex.num x0) (Ex.kids x0))))
theorem NK N:aK Tryz.prog 10 (Gl N):=aK.e1 (λ_ h=>cV h (aXY (aXZ N)) rfl)
def Mj(a0:Int):aC:=(.e (.i .i64) a0,[])
def G2(N:Nat):Cx:=⟨Tryz.prog,25,[(10,Gl N)],[]⟩
def aEV:Code:=Tryz.f16.body.getD .skip
theorem aVa N:aD (G2 N):=bZ (by kernel_rfl) (.cons (by kernel_rfl) (NK N) .nil) .nil
def aEW[aA](N:Nat)(e0_0 e0_1:Int)(e0_2:(List Ex)):O:=
  let b0:=Ex.mk (Ex.mk e0_0 e0_1 e0_2).op (Ex.mk e0_0 e0_1 e0_2).num (Ex.mk e0_0 e0_1 e0_2).kids
  ck (DY N b0.op b0.num b0.kids)<|
  some (Mj ((↑(wG N b0.op b0.num b0.kids).length:Int)))
def w16[aA] N e0_0 e0_1 e0_2:=aEW N e0_0 e0_1 e0_2
def aET[aA](_:Nat):Hint:=.d
theorem aV8 N:bJ (G2 N) Tryz.f16.ntmps (aET N) aEV:=bR _ _ trivial
theorem aV5[aA] N e0_0 e0_1 e0_2:aEW N e0_0 e0_1 e0_2=exec (G2 N) Tryz.f16.ntmps (aET N) aEV ⟨bW 0 [.agg [.e (.i .i64) e0_0,.e (.i .i64) e0_1,.e (.sl .ex) e0_2]],[],100⟩ (bX (G2 N) Tryz.f16 false):=by kernel_rfl
def T6(r:aC):Option (Int):=match r with
  |(x0,[])=>(match ue (.i .i64) x0 with|some a0=>some a0|_=>none)
  |_=>none
theorem aV4{r d}(h:T6 r=some d):r=Mj (d):=by
  unfold T6 at h;split at h
  . split at h
    . rename_i h0;cases h;rw[aE h0];rfl
    . cases h
  . cases h
def T5 N e0_0 e0_1 e0_2:=(w16 N e0_0 e0_1 e0_2).bind T6
theorem aV9{N}(hc:aD (G2 N)){e0_0 e0_1 e0_2 d}(hd:T5 N e0_0 e0_1 e0_2=some d):cB Tryz.prog 16 [.agg [.e (.i .i64) e0_0,.e (.i .i64) e0_1,.e (.sl .ex) e0_2]] [] (Mj (d)):=
  cD hc (by kernel_rfl) (by kernel_rfl) (aV8 N) (by kernel_rfl) aV4 (aV5 N e0_0 e0_1 e0_2).symm.trans hd
def aV6 N e0_0 e0_1 e0_2:=(T5 N e0_0 e0_1 e0_2).isSome
def aV3 N e0_0 e0_1 e0_2:=((T5 N e0_0 e0_1 e0_2).getD 0)
def aEU(N:Nat):bK:=E1 .ex (λx0=>(aV6 N (Ex.op x0) (Ex.num x0) (Ex.kids x0),Mj (aV3 N (Ex.op x0) (Ex.num x0) (Ex.kids x0))))
theorem aV7 N:aK Tryz.prog 16 (aEU N):=aK.e1 (λ_ h=>cV h (aV9 (aVa N)) rfl)
def Mu(a0:Int)(a1:(List Int)):aC:=(.bD [.own 100,.e (.i .i64) a0],[(100,.row 3 (.i .i64) a1 true)])
def aWI(a0:Int):aC:=(.bD [.cH,.e (.i .i64) a0],[])
def G5(N:Nat):Cx:=⟨Tryz.prog,25,[(29,GM N),(35,Sl N),(34,Sn N)],[]⟩
def aEe:Code:=Tryz.f12.body.getD .skip
theorem aWM N:aD (G5 N):=bZ (by kernel_rfl) (.cons (by kernel_rfl) (MW N) (.cons (by kernel_rfl) (aDT N) (.cons (by kernel_rfl) (aDZ N) .nil))) .nil
def aEf[aA](N:Nat)(e0_0 e0_1:Int)(e0_2:(List Ex)):O:=
  let b0:=Ex.mk (Ex.mk e0_0 e0_1 e0_2).op (Ex.mk e0_0 e0_1 e0_2).num (Ex.mk e0_0 e0_1 e0_2).kids
  ck (tD N b0.op b0.num b0.kids)<|
  br (decide (pN N b0.op b0.num b0.kids≠(0:Int)))
    (some (aWI (pN N b0.op b0.num b0.kids)))
    (ck (GG N b0.op b0.num b0.kids)<|
    ck (GI N (AR N b0.op b0.num b0.kids))<|
    some (Mu 0 (aDX N (AR N b0.op b0.num b0.kids))))
def w12[aA] N e0_0 e0_1 e0_2:=aEf N e0_0 e0_1 e0_2
def aEd[aA](_:Nat):Hint:=.d
theorem aWK N:bJ (G5 N) Tryz.f12.ntmps (aEd N) aEe:=bR _ _ trivial
theorem aWJ[aA] N e0_0 e0_1 e0_2:aEf N e0_0 e0_1 e0_2=exec (G5 N) Tryz.f12.ntmps (aEd N) aEe ⟨bW 0 [.agg [.e (.i .i64) e0_0,.e (.i .i64) e0_1,.e (.sl .ex) e0_2]],[],100⟩ (bX (G5 N) Tryz.f12 true):=by kernel_rfl
def Tg(r:aC):Option (Int×(List Int)):=match r with
  |(.bD [.own 100,x0],[(100,x1)])=>(match ue (.i .i64) x0,ur 3 (.i .i64) true x1 with|some a0,some a1=>some (a0,a1)|_,_=>none)
  |_=>none
theorem aWH{r d}(h:Tg r=some d):r=Mu d.1 d.2:=by
  unfold Tg at h;split at h
  . split at h
    . rename_i h0 h1;cases h;rw[aE h0,jK h1];rfl
    . cases h
  . cases h
def Mt N e0_0 e0_1 e0_2:=(w12 N e0_0 e0_1 e0_2).bind Tg
theorem aWL{N}(hc:aD (G5 N)){e0_0 e0_1 e0_2 d}(hd:Mt N e0_0 e0_1 e0_2=some d):cB Tryz.prog 12 [.agg [.e (.i .i64) e0_0,.e (.i .i64) e0_1,.e (.sl .ex) e0_2]] [] (Mu d.1 d.2):=
  cD hc (by kernel_rfl) (by kernel_rfl) (aWK N) (by kernel_rfl) aWH (aWJ N e0_0 e0_1 e0_2).symm.trans hd
def aEb N e0_0 e0_1 e0_2:=(Mt N e0_0 e0_1 e0_2).isSome
def aWG N e0_0 e0_1 e0_2:=((Mt N e0_0 e0_1 e0_2).getD (0,[])).1
def aEa N e0_0 e0_1 e0_2:=((Mt N e0_0 e0_1 e0_2).getD (0,[])).2
def Th(N:Nat):bK:=E1 .ex (λx0=>(aEb N (Ex.op x0) (Ex.num x0) (Ex.kids x0),Mu (aWG N (Ex.op x0) (Ex.num x0) (Ex.kids x0)) (aEa N (Ex.op x0) (Ex.num x0) (Ex.kids x0))))
theorem aEc N:aK Tryz.prog 12 (Th N):=aK.e1 (λ_ h=>cV h (aWL (aWM N)) rfl)
def LL(a0:Bool)(a1:Int)(a2:(List Int))(a3:Int)(a4:aP)(a5:(List aP)):aC:=(.e .bo a0,[(50,.box 3 [.e (.i .i64) a1]),(51,.box 22 [.e (.sl (.i .i64)) a2]),(52,.box 3 [.e (.i .i64) a3]),(53,.box 47 [.own 100]),(54,.box 28 [.e (.sl .u8) a4]),(100,.row 28 (.sl .u8) a5 true)])
def oJ(_:Nat):Cx:=⟨Tryz.prog,25,[],[]⟩
def LN:Code:=Tryz.f47.body.getD .skip
theorem aRM N:aD (oJ N):=bZ (by kernel_rfl) .nil .nil
def aCN[aA](_:Nat)(k0:Int->(List Int)->Int->aP->(List aP)->aP->O)(x0_0:Int)(x0_1:(List Int))(x0_2:Int)(x0_3:aP)(x0_4:(List aP)):O:=
  br (decide (0<x0_0))
    (ck true <|
    ck true <|
    k0 x0_0 x0_1 x0_2 x0_3 x0_4 [(0:UInt8),(0:UInt8)])
    (k0 x0_0 x0_1 x0_2 x0_3 x0_4 [])
def SC:Code:=cP [1,1,0] LN
def aRG:Nm:=⟨[0,1,2,3,4,6],[],[]⟩
def C8(x:Int×(List Int)×Int×aP×(List aP)):Sg:=⟨[(0,.ref 50 0),(1,.ref 51 0),(2,.ref 52 0),(3,.ref 53 0),(4,.ref 54 0),(6,.cH)],[(50,.box 3 [.e (.i .i64) x.1]),(51,.box 22 [.e (.sl (.i .i64)) x.2.1]),(52,.box 3 [.e (.i .i64) x.2.2.1]),(53,.box 47 [.own 55]),(54,.box 28 [.e (.sl .u8) x.2.2.2.1]),(55,.row 28 (.sl .u8) x.2.2.2.2 true)],100⟩
def LK(σ:Sg):Int×(List Int)×Int×aP×(List aP):=(aL (.i .i64) 50 0 σ,aL (.sl (.i .i64)) 51 0 σ,aL (.i .i64) 52 0 σ,aL (.sl .u8) 54 0 σ,fX (.sl .u8) 55 σ)
theorem aRB:∀x,LK (C8 x)=x:=λ_=>by kernel_rfl
def LP(y:Int×(List Int)×Int×aP×(List aP)×aP):Exit×Sg:=(.normal,⟨[(0,.ref 50 0),(1,.ref 51 0),(2,.ref 52 0),(3,.ref 53 0),(4,.ref 54 0),(6,.own 0)],[(50,.box 3 [.e (.i .i64) y.1]),(51,.box 22 [.e (.sl (.i .i64)) y.2.1]),(52,.box 3 [.e (.i .i64) y.2.2.1]),(53,.box 47 [.own 55]),(54,.box 28 [.e (.sl .u8) y.2.2.2.1]),(55,.row 28 (.sl .u8) y.2.2.2.2.1 true),(0,.row 5 .u8 y.2.2.2.2.2 false)],100⟩)
def aQy(_:Exit)(σ:Sg):Int×(List Int)×Int×aP×(List aP)×aP:=(aL (.i .i64) 50 0 σ,aL (.sl (.i .i64)) 51 0 σ,aL (.i .i64) 52 0 σ,aL (.sl .u8) 54 0 σ,fX (.sl .u8) 55 σ,fX .u8 0 σ)
def aQw:List (Exit×Nm):=[(.normal,⟨[0,1,2,3,4,6],[],[.Dp 6 (.row 5 .u8 [] false)]⟩)]
def LM[aA](N:Nat)(_:Nat)(x:Int×(List Int)×Int×aP×(List aP))(k0:(Int×(List Int)×Int×aP×(List aP)×aP)->O)(_:(Unit)->O)(_:(Unit)->O):O:=aCN N (λy0 y1 y2 y3 y4 y5=>k0 (y0,y1,y2,y3,y4,y5)) x.1 x.2.1 x.2.2.1 x.2.2.2.1 x.2.2.2.2
def aCH[aA] N a0 a1 a2 a3 a4 (k0:Int->(List Int)->Int->aP->(List aP)->aP->O):=LM N N (a0,a1,a2,a3,a4) (λy=>k0 y.1 y.2.1 y.2.2.1 y.2.2.2.1 y.2.2.2.2.1 y.2.2.2.2.2) (λ_=>none) (λ_=>none)
def aCE[aA] N a0 a1 a2 a3 a4 (k0:Int->(List Int)->Int->aP->(List aP)->aP->O):=bB C8 LK (LM N N) (C8 (a0,a1,a2,a3,a4)) (λy=>k0 y.1 y.2.1 y.2.2.1 y.2.2.2.1 y.2.2.2.2.1 y.2.2.2.2.2) (λ_=>none) (λ_=>none)
theorem aRL[aA] N:aCE N=aCH N:=funext λ_=>funext λ_=>funext λ_=>funext λ_=>funext λ_=>funext λ_=>dD aRB _ _ _ _
theorem aRD[aA](N:Nat)(K:Exit->Sg->O)(x:Int×(List Int)×Int×aP×(List aP)):aCN N (λy0 y1 y2 y3 y4 y5=>K (LP (y0,y1,y2,y3,y4,y5)).1 (LP (y0,y1,y2,y3,y4,y5)).2) x.1 x.2.1 x.2.2.1 x.2.2.2.1 x.2.2.2.2=exec (oJ N) Tryz.f47.ntmps .d SC (C8 x) (iH aQw K):=by kernel_rfl
theorem aRO N (hc:aD (oJ N)):cU (oJ N) Tryz.f47.ntmps SC LP (aV 1) (aV 2) (bB C8 LK (LM N N)):=
  jL hc (cT SC) (fF aQy .normal (λ_=>by kernel_rfl) (λ_=>rfl) (by kernel_rfl)) (λx K=>by
    exact aRD N K x)
def aCM[aA](_:Nat)(self:Int->Int->O)(k0:Int->Int->(List Int)->Int->aP->(List aP)->aP->O)(x7_1:(List Int))(x7_2 x7_4:Int)(x7_5:(List Int))(x7_6:Int)(x7_7:aP)(x7_8:(List aP))(x7_9:aP)(x7_0 x7_3:Int):O:=
  br (decide (x7_3<x7_2))
    (gx x7_1 x7_3 λy10=>
    br (decide (x7_4<y10)&&decide (aB.wrap (aB.wrap ((↑x7_9.length:Int)+y10)-x7_4)<=x7_6))
      (self y10 (aB.wrap (x7_3+1)))
      (self x7_0 (aB.wrap (x7_3+1))))
    (k0 x7_0 x7_4 x7_5 x7_6 x7_7 x7_8 x7_9)
def SB:Code:=cP [1,1,1,1,0,1,0,0] LN
def aCI:Nm:=⟨[0,2,3,4,6,7,14,15,16],[],[]⟩
def AD(x:Int×(List Int)×Int×Int×Int×(List Int)×Int×aP×(List aP)×aP):Sg:=⟨[(0,.ref 50 0),(2,.ref 52 0),(3,.ref 53 0),(4,.ref 54 0),(6,.own 0),(7,.e (.i .i64) x.1),(14,.e (.sl (.i .i64)) x.2.1),(15,.e (.i .i64) x.2.2.1),(16,.e (.i .i64) x.2.2.2.1)],[(50,.box 3 [.e (.i .i64) x.2.2.2.2.1]),(51,.box 22 [.e (.sl (.i .i64)) x.2.2.2.2.2.1]),(52,.box 3 [.e (.i .i64) x.2.2.2.2.2.2.1]),(53,.box 47 [.own 55]),(54,.box 28 [.e (.sl .u8) x.2.2.2.2.2.2.2.1]),(55,.row 28 (.sl .u8) x.2.2.2.2.2.2.2.2.1 true),(0,.row 5 .u8 x.2.2.2.2.2.2.2.2.2 false)],100⟩
def LJ(σ:Sg):Int×(List Int)×Int×Int×Int×(List Int)×Int×aP×(List aP)×aP:=(aW (.i .i64) 7 0 σ,aW (.sl (.i .i64)) 14 0 σ,aW (.i .i64) 15 0 σ,aW (.i .i64) 16 0 σ,aL (.i .i64) 50 0 σ,aL (.sl (.i .i64)) 51 0 σ,aL (.i .i64) 52 0 σ,aL (.sl .u8) 54 0 σ,fX (.sl .u8) 55 σ,fX .u8 0 σ)
theorem aRA:∀x,LJ (AD x)=x:=λ_=>by kernel_rfl
def LO(y:Int×Int×(List Int)×Int×aP×(List aP)×aP):Exit×Sg:=((.exit 0),⟨[(0,.ref 50 0),(3,.ref 53 0),(4,.ref 54 0),(6,.own 0),(7,.e (.i .i64) y.1)],[(50,.box 3 [.e (.i .i64) y.2.1]),(51,.box 22 [.e (.sl (.i .i64)) y.2.2.1]),(52,.box 3 [.e (.i .i64) y.2.2.2.1]),(53,.box 47 [.own 55]),(54,.box 28 [.e (.sl .u8) y.2.2.2.2.1]),(55,.row 28 (.sl .u8) y.2.2.2.2.2.1 true),(0,.row 5 .u8 y.2.2.2.2.2.2 false)],100⟩)
def aQx(_:Exit)(σ:Sg):Int×Int×(List Int)×Int×aP×(List aP)×aP:=(aW (.i .i64) 7 0 σ,aL (.i .i64) 50 0 σ,aL (.sl (.i .i64)) 51 0 σ,aL (.i .i64) 52 0 σ,aL (.sl .u8) 54 0 σ,fX (.sl .u8) 55 σ,fX .u8 0 σ)
def aQv:List (Exit×Nm):=[((.exit 0),⟨[0,3,4,6,7],[],[]⟩)]
def C7[aA](N:Nat):Nat->(Int×(List Int)×Int×Int×Int×(List Int)×Int×aP×(List aP)×aP)->((Int×Int×(List Int)×Int×aP×(List aP)×aP)->O)->((Unit)->O)->((Unit)->O)->O
  |0,_,_,_,_=>none
  |n+1,x,k0,k1,k2=>aCM N (λv0 v1=>C7 N n (v0,x.2.1,x.2.2.1,v1,x.2.2.2.2.1,x.2.2.2.2.2.1,x.2.2.2.2.2.2.1,x.2.2.2.2.2.2.2.1,x.2.2.2.2.2.2.2.2.1,x.2.2.2.2.2.2.2.2.2) k0 k1 k2) (λy0 y1 y2 y3 y4 y5 y6=>k0 (y0,y1,y2,y3,y4,y5,y6)) x.2.1 x.2.2.1 x.2.2.2.2.1 x.2.2.2.2.2.1 x.2.2.2.2.2.2.1 x.2.2.2.2.2.2.2.1 x.2.2.2.2.2.2.2.2.1 x.2.2.2.2.2.2.2.2.2 x.1 x.2.2.2.1
def aCG[aA] N a0 a1 a2 a3 a4 a5 a6 a7 a8 a9 (k0:Int->Int->(List Int)->Int->aP->(List aP)->aP->O):=C7 N N (a0,a1,a2,a3,a4,a5,a6,a7,a8,a9) (λy=>k0 y.1 y.2.1 y.2.2.1 y.2.2.2.1 y.2.2.2.2.1 y.2.2.2.2.2.1 y.2.2.2.2.2.2) (λ_=>none) (λ_=>none)
def aCD[aA] N a0 a1 a2 a3 a4 a5 a6 a7 a8 a9 (k0:Int->Int->(List Int)->Int->aP->(List aP)->aP->O):=bB AD LJ (C7 N N) (AD (a0,a1,a2,a3,a4,a5,a6,a7,a8,a9)) (λy=>k0 y.1 y.2.1 y.2.2.1 y.2.2.2.1 y.2.2.2.2.1 y.2.2.2.2.2.1 y.2.2.2.2.2.2) (λ_=>none) (λ_=>none)
theorem aRK[aA] N:aCD N=aCG N:=funext λ_=>funext λ_=>funext λ_=>funext λ_=>funext λ_=>funext λ_=>funext λ_=>funext λ_=>funext λ_=>funext λ_=>funext λ_=>dD aRA _ _ _ _
theorem aRC[aA](N:Nat)(self:Sg->O)(K:Exit->Sg->O)(x:Int×(List Int)×Int×Int×Int×(List Int)×Int×aP×(List aP)×aP):aCM N (λv0 v1=>self (AD (v0,x.2.1,x.2.2.1,v1,x.2.2.2.2.1,x.2.2.2.2.2.1,x.2.2.2.2.2.2.1,x.2.2.2.2.2.2.2.1,x.2.2.2.2.2.2.2.2.1,x.2.2.2.2.2.2.2.2.2))) (λy0 y1 y2 y3 y4 y5 y6=>K (LO (y0,y1,y2,y3,y4,y5,y6)).1 (LO (y0,y1,y2,y3,y4,y5,y6)).2) x.2.1 x.2.2.1 x.2.2.2.2.1 x.2.2.2.2.2.1 x.2.2.2.2.2.2.1 x.2.2.2.2.2.2.2.1 x.2.2.2.2.2.2.2.2.1 x.2.2.2.2.2.2.2.2.2 x.1 x.2.2.2.1=exec (oJ N) Tryz.f47.ntmps .d SB (AD x) (fE aCI aQv self K):=by kernel_rfl
theorem aRN N (hc:aD (oJ N)):cU (oJ N) Tryz.f47.ntmps (.loop SB) LO (aV 1) (aV 2) (bB AD LJ (C7 N N)):=
  fW hc (cT SB) (fF aQx (.exit 0) (λ_=>by kernel_rfl) (λ_=>rfl) (by kernel_rfl)) (n:=N) (λx K=>fY (C7 N) (λ_ _ _ _=>rfl) (λn K ih x=>by
    refine gM ?_ (aRC N _ K x);simp only[<-ih];rfl) N x K)
def aCL[aA](_:Nat)(in0:Int->(List Int)->Int->aP->(List aP)->(Int->(List Int)->Int->aP->(List aP)->aP->O)->O)(in1:Int->(List Int)->Int->Int->Int->(List Int)->Int->aP->(List aP)->aP->(Int->Int->(List Int)->Int->aP->(List aP)->aP->O)->O)(h50_0:Int)(h51_0:(List Int))(h52_0:Int)(h54_0:aP)(h55_0:(List aP)):O:=
  in0 h50_0 h51_0 h52_0 h54_0 h55_0
    (λz1 z2 z3 z4 z5 z6=>
      in1 z1 z2 ((↑z2.length:Int)) 0 z1 z2 z3 z4 z5 z6
        (λz11 z12 z13 z14 z15 z16 z17=>
          ck (eQ z15.length (some z12) (some z11))<|
          ck (cZ (z17++dY z15 (some z12) (some z11)).length (1:Nat))<|
          ck (cZ (z16++[z17++dY z15 (some z12) (some z11)]).length (24:Nat))<|
          some (LL (decide (z12<z11)) z11 z13 z14 z15 (z16++[z17++dY z15 (some z12) (some z11)]))))
def w47[aA] N h50_0 h51_0 h52_0 h54_0 h55_0:=aCL N (aCH N) (aCG N) h50_0 h51_0 h52_0 h54_0 h55_0
def aCJ[aA](N:Nat):Hint:=(.seq .d (.seq .d (.seq (.sub aRG _ _ _ LP (aV 1) (aV 2) (bB C8 LK (LM N N))) (.seq .d (.seq (.seq .d (.block (.sub aCI _ _ _ LO (aV 1) (aV 2) (bB AD LJ (C7 N N))))) (.seq (.gO [] [.VA 6] [[],[],[],[],[],[],[148,0],[],[164,55],[53]]) .d))))))
theorem aRI N (hc:aD (oJ N)):bJ (oJ N) Tryz.f47.ntmps (aCJ N) LN:=bR _ _ (aH trivial (aH trivial (aH (aRO N hc) (aH trivial (aH (aH trivial (aRN N hc)) (aH trivial trivial))))))
theorem aRE[aA] N h50_0 h51_0 h52_0 h54_0 h55_0:aCL N (aCE N) (aCD N) h50_0 h51_0 h52_0 h54_0 h55_0=exec (oJ N) Tryz.f47.ntmps (aCJ N) LN ⟨bW 0 [.ref 50 0,.ref 51 0,.ref 52 0,.ref 53 0,.ref 54 0],[(50,.box 3 [.e (.i .i64) h50_0]),(51,.box 22 [.e (.sl (.i .i64)) h51_0]),(52,.box 3 [.e (.i .i64) h52_0]),(53,.box 47 [.own 55]),(54,.box 28 [.e (.sl .u8) h54_0]),(55,.row 28 (.sl .u8) h55_0 true)],100⟩ (bX (oJ N) Tryz.f47 true):=by kernel_rfl
def Rz(r:aC):Option (Bool×Int×(List Int)×Int×aP×(List aP)):=match r with
  |(x0,[(50,.box 3 [x1]),(51,.box 22 [x2]),(52,.box 3 [x3]),(53,.box 47 [.own 100]),(54,.box 28 [x4]),(100,x5)])=>(match ue .bo x0,ue (.i .i64) x1,ue (.sl (.i .i64)) x2,ue (.i .i64) x3,ue (.sl .u8) x4,ur 28 (.sl .u8) true x5 with|some a0,some a1,some a2,some a3,some a4,some a5=>some (a0,a1,a2,a3,a4,a5)|_,_,_,_,_,_=>none)
  |_=>none
theorem aQz{r d}(h:Rz r=some d):r=LL d.1 d.2.1 d.2.2.1 d.2.2.2.1 d.2.2.2.2.1 d.2.2.2.2.2:=by
  unfold Rz at h;split at h
  . split at h
    . rename_i h0 h1 h2 h3 h4 h5;cases h;rw[aE h0,aE h1,aE h2,aE h3,aE h4,jK h5];rfl
    . cases h
  . cases h
def sZ N h50_0 h51_0 h52_0 h54_0 h55_0:=(w47 N h50_0 h51_0 h52_0 h54_0 h55_0).bind Rz
theorem aRJ{N}(hc:aD (oJ N)){h50_0 h51_0 h52_0 h54_0 h55_0 d}(hd:sZ N h50_0 h51_0 h52_0 h54_0 h55_0=some d):cB Tryz.prog 47 [.ref 50 0,.ref 51 0,.ref 52 0,.ref 53 0,.ref 54 0] [(50,.box 3 [.e (.i .i64) h50_0]),(51,.box 22 [.e (.sl (.i .i64)) h51_0]),(52,.box 3 [.e (.i .i64) h52_0]),(53,.box 47 [.own 55]),(54,.box 28 [.e (.sl .u8) h54_0]),(55,.row 28 (.sl .u8) h55_0 true)] (LL d.1 d.2.1 d.2.2.1 d.2.2.2.1 d.2.2.2.2.1 d.2.2.2.2.2):=
  cD hc (by kernel_rfl) (by kernel_rfl) (aRI N hc) (by kernel_rfl) aQz (λhr=>(aRE N h50_0 h51_0 h52_0 h54_0 h55_0).symm.trans (by rw[aRL N,aRK N];exact hr)) hd
def aCF N h50_0 h51_0 h52_0 h54_0 h55_0:=(sZ N h50_0 h51_0 h52_0 h54_0 h55_0).isSome
def aCC N h50_0 h51_0 h52_0 h54_0 h55_0:=((sZ N h50_0 h51_0 h52_0 h54_0 h55_0).getD (false,0,[],0,[],[])).1
def aCB N h50_0 h51_0 h52_0 h54_0 h55_0:=((sZ N h50_0 h51_0 h52_0 h54_0 h55_0).getD (false,0,[],0,[],[])).2.1
def aCA N h50_0 h51_0 h52_0 h54_0 h55_0:=((sZ N h50_0 h51_0 h52_0 h54_0 h55_0).getD (false,0,[],0,[],[])).2.2.1
def aBz N h50_0 h51_0 h52_0 h54_0 h55_0:=((sZ N h50_0 h51_0 h52_0 h54_0 h55_0).getD (false,0,[],0,[],[])).2.2.2.1
def aBy N h50_0 h51_0 h52_0 h54_0 h55_0:=((sZ N h50_0 h51_0 h52_0 h54_0 h55_0).getD (false,0,[],0,[],[])).2.2.2.2.1
def aBx N h50_0 h51_0 h52_0 h54_0 h55_0:=((sZ N h50_0 h51_0 h52_0 h54_0 h55_0).getD (false,0,[],0,[],[])).2.2.2.2.2
def SA(xs:List X)(H:XH):Option (Int×(List Int)×Int×aP×(List aP)):=match xs,H with
  |[.ref 50 0,.ref 51 0,.ref 52 0,.ref 53 0,.ref 54 0],[(50,.box 3 [x0]),(51,.box 22 [x1]),(52,.box 3 [x2]),(53,.box 47 [.own 55]),(54,.box 28 [x3]),(55,x4)]=>(match ue (.i .i64) x0,ue (.sl (.i .i64)) x1,ue (.i .i64) x2,ue (.sl .u8) x3,ur 28 (.sl .u8) true x4 with|some a0,some a1,some a2,some a3,some a4=>some (a0,a1,a2,a3,a4)|_,_,_,_,_=>none)
  |_,_=>none
theorem aRH{xs H d}(h:SA xs H=some d):xs=[.ref 50 0,.ref 51 0,.ref 52 0,.ref 53 0,.ref 54 0]/\H=[(50,.box 3 [.e (.i .i64) d.1]),(51,.box 22 [.e (.sl (.i .i64)) d.2.1]),(52,.box 3 [.e (.i .i64) d.2.2.1]),(53,.box 47 [.own 55]),(54,.box 28 [.e (.sl .u8) d.2.2.2.1]),(55,.row 28 (.sl .u8) d.2.2.2.2 true)]:=by
  unfold SA at h;split at h
  . split at h
    . rename_i h0 h1 h2 h3 h4;cases h;rw[aE h0,aE h1,aE h2,aE h3,jK h4];exact⟨rfl,rfl⟩
    . cases h
  . cases h
def aCK(N:Nat):bK:=eU SA (λd=>aCF N d.1 d.2.1 d.2.2.1 d.2.2.2.1 d.2.2.2.2) (λd=>LL (aCC N d.1 d.2.1 d.2.2.1 d.2.2.2.1 d.2.2.2.2) (aCB N d.1 d.2.1 d.2.2.1 d.2.2.2.1 d.2.2.2.2) (aCA N d.1 d.2.1 d.2.2.1 d.2.2.2.1 d.2.2.2.2) (aBz N d.1 d.2.1 d.2.2.1 d.2.2.2.1 d.2.2.2.2) (aBy N d.1 d.2.1 d.2.2.1 d.2.2.2.1 d.2.2.2.2) (aBx N d.1 d.2.1 d.2.2.1 d.2.2.2.1 d.2.2.2.2))
theorem aRF N:aK Tryz.prog 47 (aCK N):=eH aRH (λd h=>cV (z:=sZ N d.1 d.2.1 d.2.2.1 d.2.2.2.1 d.2.2.2.2) h (aRJ (aRM N)) rfl)
def AW(a0:(List aP))(a1:Int):aC:=(.bD [.e (.sl (.sl .u8)) a0,.e (.i .i64) a1],[])
def tF(N:Nat):Cx:=⟨Tryz.prog,25,[(47,aCK N),(10,Gl N),(12,Th N)],[]⟩
def TE:Code:=Tryz.f24.body.getD .skip
theorem aUh N:aD (tF N):=bZ (by kernel_rfl) (.cons (by kernel_rfl) (aRF N) (.cons (by kernel_rfl) (NK N) (.cons (by kernel_rfl) (aEc N) .nil))) .nil
def aDp[aA](N:Nat)(self:aP->Int->(List Int)->Int->(List aP)->O)(k0:Int->O)(k1:(List aP)->O)(x0_0:aP)(x0_1:Int)(x0_2:(List Int))(x0_3:Int)(x0_4:(List aP)):O:=
  br (decide (x0_1<(↑x0_0.length:Int)))
    (ck (aCF N x0_1 x0_2 x0_3 x0_0 x0_4)<|
    br (!aCC N x0_1 x0_2 x0_3 x0_0 x0_4)
      (k0 14)
      (self (aBy N x0_1 x0_2 x0_3 x0_0 x0_4) (aCB N x0_1 x0_2 x0_3 x0_0 x0_4) (aCA N x0_1 x0_2 x0_3 x0_0 x0_4) (aBz N x0_1 x0_2 x0_3 x0_0 x0_4) (aBx N x0_1 x0_2 x0_3 x0_0 x0_4)))
    (k1 x0_4)
def TD:Code:=cP [1,1,1,1,1,1,1,1,1,0,0,0] TE
def aDl:Nm:=⟨[6,11,12,13],[],[]⟩
def AX(x:aP×Int×(List Int)×Int×(List aP)):Sg:=⟨[(6,.ref 0 0),(11,.ref 1 0),(12,.ref 2 0),(13,.fn 47 [.ref 2 0,.ref 3 0,.ref 4 0,.ref 1 0,.ref 0 0])],[(0,.box 28 [.e (.sl .u8) x.1]),(1,.box 47 [.own 5]),(2,.box 3 [.e (.i .i64) x.2.1]),(3,.box 22 [.e (.sl (.i .i64)) x.2.2.1]),(4,.box 3 [.e (.i .i64) x.2.2.2.1]),(5,.row 28 (.sl .u8) x.2.2.2.2 true)],100⟩
def M3(σ:Sg):aP×Int×(List Int)×Int×(List aP):=(aL (.sl .u8) 0 0 σ,aL (.i .i64) 2 0 σ,aL (.sl (.i .i64)) 3 0 σ,aL (.i .i64) 4 0 σ,fX (.sl .u8) 5 σ)
theorem aU9:∀x,M3 (AX x)=x:=λ_=>by kernel_rfl
def M5(y:Int):Exit×Sg:=(.ret,⟨[(4,.cH),(5,.e (.i .i64) y)],[],100⟩)
def aU7(_:Exit)(σ:Sg):Int:=aW (.i .i64) 5 0 σ
def M4(y:(List aP)):Exit×Sg:=((.exit 0),⟨[(11,.ref 0 0)],[(0,.box 47 [.own 1]),(1,.row 28 (.sl .u8) y true)],100⟩)
def aU6(_:Exit)(σ:Sg):(List aP):=fX (.sl .u8) 1 σ
def aU5:List (Exit×Nm):=[(.ret,⟨[4,5],[],[]⟩),((.exit 0),⟨[11],[],[]⟩)]
def DB[aA](N:Nat):Nat->(aP×Int×(List Int)×Int×(List aP))->((Int)->O)->(((List aP))->O)->((Unit)->O)->O
  |0,_,_,_,_=>none
  |n+1,x,k0,k1,k2=>aDp N (λv0 v1 v2 v3 v4=>DB N n (v0,v1,v2,v3,v4) k0 k1 k2) (λy0=>k0 y0) (λy0=>k1 y0) x.1 x.2.1 x.2.2.1 x.2.2.2.1 x.2.2.2.2
def aDk[aA] N a0 a1 a2 a3 a4 (k0:Int->O) (k1:(List aP)->O):=DB N N (a0,a1,a2,a3,a4) (λy=>k0 y) (λy=>k1 y) (λ_=>none)
def aDj[aA] N a0 a1 a2 a3 a4 (k0:Int->O) (k1:(List aP)->O):=bB AX M3 (DB N N) (AX (a0,a1,a2,a3,a4)) (λy=>k0 y) (λy=>k1 y) (λ_=>none)
theorem aUg[aA] N:aDj N=aDk N:=funext λ_=>funext λ_=>funext λ_=>funext λ_=>funext λ_=>funext λ_=>funext λ_=>dD aU9 _ _ _ _
theorem aUa[aA](N:Nat)(self:Sg->O)(K:Exit->Sg->O)(x:aP×Int×(List Int)×Int×(List aP)):aDp N (λv0 v1 v2 v3 v4=>self (AX (v0,v1,v2,v3,v4))) (λy0=>K (M5 y0).1 (M5 y0).2) (λy0=>K (M4 y0).1 (M4 y0).2) x.1 x.2.1 x.2.2.1 x.2.2.2.1 x.2.2.2.2=exec (tF N) Tryz.f24.ntmps .d TD (AX x) (fE aDl aU5 self K):=by kernel_rfl
theorem aUi N (hc:aD (tF N)):cU (tF N) Tryz.f24.ntmps (.loop TD) M5 M4 (aV 2) (bB AX M3 (DB N N)):=
  fW hc (cT TD) (kS aU7 aU6 .ret (.exit 0) (λ_=>by kernel_rfl) (λ_=>by kernel_rfl) (λ_=>rfl) (λ_=>rfl) (by kernel_rfl)) (n:=N) (λx K=>fY (DB N) (λ_ _ _ _=>rfl) (λn K ih x=>by
    refine gM ?_ (aUa N _ K x);simp only[<-ih];rfl) N x K)
def aDo[aA](N:Nat)(in0:aP->Int->(List Int)->Int->(List aP)->(Int->O)->((List aP)->O)->O)(e0_0 e0_1:Int)(e0_2:(List Ex))(width1:Int):O:=
  let b0:=Ex.mk (Ex.mk e0_0 e0_1 e0_2).op (Ex.mk e0_0 e0_1 e0_2).num (Ex.mk e0_0 e0_1 e0_2).kids
  let b1:=aEa N b0.op b0.num b0.kids++[(↑(wG N b0.op b0.num b0.kids).length:Int)]
  ck (DY N b0.op b0.num b0.kids)<|
  br (decide (Ak N b0.op b0.num b0.kids≠(0:Int)))
    (some (AW [] (Ak N b0.op b0.num b0.kids)))
    (br (decide (width1<4)||decide (40<width1))
      (some (AW [] 5))
      (ck (aEb N b0.op b0.num b0.kids)<|
      ck (cZ b1.length (8:Nat))<|
      in0 (wG N b0.op b0.num b0.kids) 0 b1 width1 []
        (λz1=>
          some (AW [] z1))
        (λz2=>
          some (AW z2 0))))
def w24[aA] N e0_0 e0_1 e0_2 width1:=aDo N (aDk N) e0_0 e0_1 e0_2 width1
def aDm[aA](N:Nat):Hint:=(.seq .d (.seq .d (.seq .d (.seq .d (.seq .d (.seq .d (.seq .d (.seq .d (.seq (.gO [] [.cv 10 0 (.sl (.i .i64)),.OI 11 0 (.row 28 (.sl .u8) [] true)] []) (.seq (.block (.sub aDl _ _ _ M5 M4 (aV 2) (bB AX M3 (DB N N)))) .d))))))))))
theorem aUe N (hc:aD (tF N)):bJ (tF N) Tryz.f24.ntmps (aDm N) TE:=bR _ _ (aH trivial (aH trivial (aH trivial (aH trivial (aH trivial (aH trivial (aH trivial (aH trivial (aH trivial (aH (aUi N hc) trivial))))))))))
theorem aUb[aA] N e0_0 e0_1 e0_2 width1:aDo N (aDj N) e0_0 e0_1 e0_2 width1=exec (tF N) Tryz.f24.ntmps (aDm N) TE ⟨bW 0 [.agg [.e (.i .i64) e0_0,.e (.i .i64) e0_1,.e (.sl .ex) e0_2],.e (.i .i64) width1],[],100⟩ (bX (tF N) Tryz.f24 false):=by kernel_rfl
def TC(r:aC):Option ((List aP)×Int):=match r with
  |(.bD [x0,x1],[])=>(match ue (.sl (.sl .u8)) x0,ue (.i .i64) x1 with|some a0,some a1=>some (a0,a1)|_,_=>none)
  |_=>none
theorem aU8{r d}(h:TC r=some d):r=AW d.1 d.2:=by
  unfold TC at h;split at h
  . split at h
    . rename_i h0 h1;cases h;rw[aE h0,aE h1];rfl
    . cases h
  . cases h
def M1 N e0_0 e0_1 e0_2 width1:=(w24 N e0_0 e0_1 e0_2 width1).bind TC
theorem aUf{N}(hc:aD (tF N)){e0_0 e0_1 e0_2 width1 d}(hd:M1 N e0_0 e0_1 e0_2 width1=some d):cB Tryz.prog 24 [.agg [.e (.i .i64) e0_0,.e (.i .i64) e0_1,.e (.sl .ex) e0_2],.e (.i .i64) width1] [] (AW d.1 d.2):=
  cD hc (by kernel_rfl) (by kernel_rfl) (aUe N hc) (by kernel_rfl) aU8 (λhr=>(aUb N e0_0 e0_1 e0_2 width1).symm.trans (by rw[aUg N];exact hr)) hd
def aUc N e0_0 e0_1 e0_2 width1:=(M1 N e0_0 e0_1 e0_2 width1).isSome
def aU4 N e0_0 e0_1 e0_2 width1:=((M1 N e0_0 e0_1 e0_2 width1).getD ([],0)).1
def aU3 N e0_0 e0_1 e0_2 width1:=((M1 N e0_0 e0_1 e0_2 width1).getD ([],0)).2
def aDn(N:Nat):bK:=E2 .ex (.i .i64) (λx0 x1=>(aUc N (Ex.op x0) (Ex.num x0) (Ex.kids x0) x1,AW (aU4 N (Ex.op x0) (Ex.num x0) (Ex.kids x0) x1) (aU3 N (Ex.op x0) (Ex.num x0) (Ex.kids x0) x1)))
theorem aUd N:aK Tryz.prog 24 (aDn N):=aK.e2 (λ_ _ h=>cV h (aUf (aUh N)) rfl)
def Je(a0:aP):aC:=(.v Value.nilIface,[(50,.box 91 [.via 50 0,.own 100]),(100,.row 5 .u8 a0 true)])
def FG(N:Nat):Cx:=⟨Tryz.prog,25,[(96,YM N)],[]⟩
def Zv:Code:=Tryz.f73.body.getD .skip
theorem aNK N:aD (FG N):=bZ (by kernel_rfl) (.cons (by kernel_rfl) (aJg N) .nil) .nil
def Q1[aA](_:Nat)(c1:UInt8)(h51_0:aP):O:=
  ck true <|
  ck (cZ (h51_0++[c1]).length (1:Nat))<|
  some (Je (h51_0++[c1]))
def Zx[aA] N c1 h51_0:=Q1 N c1 h51_0
def Zt[aA](_:Nat):Hint:=.d
theorem aNI N:bJ (FG N) Tryz.f73.ntmps (Zt N) Zv:=bR _ _ trivial
theorem aNF[aA] N c1 h51_0:Q1 N c1 h51_0=exec (FG N) Tryz.f73.ntmps (Zt N) Zv ⟨bW 0 [.ref 50 0,.e .u8 c1],[(50,.box 91 [.via 50 0,.own 51]),(51,.row 5 .u8 h51_0 true)],100⟩ (bX (FG N) Tryz.f73 true):=by kernel_rfl
def QX(r:aC):Option (aP):=match r with
  |(.v Value.nilIface,[(50,.box 91 [.via 50 0,.own 100]),(100,x0)])=>(match ur 5 .u8 true x0 with|some a0=>some a0|_=>none)
  |_=>none
theorem aNE{r d}(h:QX r=some d):r=Je (d):=by
  unfold QX at h;split at h
  . split at h
    . rename_i h0;cases h;rw[jK h0];rfl
    . cases h
  . cases h
def CF N c1 h51_0:=(Zx N c1 h51_0).bind QX
theorem aNJ{N}(hc:aD (FG N)){c1 h51_0 d}(hd:CF N c1 h51_0=some d):cB Tryz.prog 73 [.ref 50 0,.e .u8 c1] [(50,.box 91 [.via 50 0,.own 51]),(51,.row 5 .u8 h51_0 true)] (Je (d)):=
  cD hc (by kernel_rfl) (by kernel_rfl) (aNI N) (by kernel_rfl) aNE (aNF N c1 h51_0).symm.trans hd
def CH N c1 h51_0:=(CF N c1 h51_0).isSome
def CG N c1 h51_0:=((CF N c1 h51_0).getD [])
def QY(xs:List X)(H:XH):Option (UInt8×aP):=match xs,H with
  |[.ref 50 0,x0],[(50,.box 91 [.via 50 0,.own 51]),(51,x1)]=>(match ue .u8 x0,ur 5 .u8 true x1 with|some a0,some a1=>some (a0,a1)|_,_=>none)
  |_,_=>none
theorem aNH{xs H d}(h:QY xs H=some d):xs=[.ref 50 0,.e .u8 d.1]/\H=[(50,.box 91 [.via 50 0,.own 51]),(51,.row 5 .u8 d.2 true)]:=by
  unfold QY at h;split at h
  . split at h
    . rename_i h0 h1;cases h;rw[aE h0,jK h1];exact⟨rfl,rfl⟩
    . cases h
  . cases h
def Zu(N:Nat):bK:=eU QY (λd=>CH N d.1 d.2) (λd=>Je (CG N d.1 d.2))
theorem aNG N:aK Tryz.prog 73 (Zu N):=eH aNH (λd h=>cV (z:=CF N d.1 d.2) h (aNJ (aNK N)) rfl)
def Jc(a0:aP):aC:=(.e .tx a0,[])
def FF(_:Nat):Cx:=⟨Tryz.prog,25,[],[]⟩
def Zq:Code:=Tryz.f74.body.getD .skip
theorem aNB N:aD (FF N):=bZ (by kernel_rfl) .nil .nil
def QW[aA](_:Nat)(h51_0:aP):O:=
  ck (decide ((↑h51_0.length:Int)=(↑h51_0.length:Int)))<|
  some (Jc h51_0)
def Zs[aA] N h51_0:=QW N h51_0
def Zo[aA](_:Nat):Hint:=(.seq .d (.seq (.gO [] [] [[],[],[],[],[],[],[],[],[],[],[51],[]]) .d))
theorem aMz N:bJ (FF N) Tryz.f74.ntmps (Zo N) Zq:=bR _ _ (aH trivial (aH trivial trivial))
theorem aMw[aA] N h51_0:QW N h51_0=exec (FF N) Tryz.f74.ntmps (Zo N) Zq ⟨bW 0 [.ref 50 0],[(50,.box 91 [.via 50 0,.own 51]),(51,.row 5 .u8 h51_0 true)],100⟩ (bX (FF N) Tryz.f74 true):=by kernel_rfl
def QU(r:aC):Option (aP):=match r with
  |(x0,[])=>(match ue .tx x0 with|some a0=>some a0|_=>none)
  |_=>none
theorem aMv{r d}(h:QU r=some d):r=Jc (d):=by
  unfold QU at h;split at h
  . split at h
    . rename_i h0;cases h;rw[aE h0];rfl
    . cases h
  . cases h
def CE N h51_0:=(Zs N h51_0).bind QU
theorem aNA{N}(hc:aD (FF N)){h51_0 d}(hd:CE N h51_0=some d):cB Tryz.prog 74 [.ref 50 0] [(50,.box 91 [.via 50 0,.own 51]),(51,.row 5 .u8 h51_0 true)] (Jc (d)):=
  cD hc (by kernel_rfl) (by kernel_rfl) (aMz N) (by kernel_rfl) aMv (aMw N h51_0).symm.trans hd
def Jd N h51_0:=(CE N h51_0).isSome
def Jb N h51_0:=((CE N h51_0).getD [])
def QV(xs:List X)(H:XH):Option (aP):=match xs,H with
  |[.ref 50 0],[(50,.box 91 [.via 50 0,.own 51]),(51,x0)]=>(match ur 5 .u8 true x0 with|some a0=>some a0|_=>none)
  |_,_=>none
theorem aMy{xs H d}(h:QV xs H=some d):xs=[.ref 50 0]/\H=[(50,.box 91 [.via 50 0,.own 51]),(51,.row 5 .u8 (d) true)]:=by
  unfold QV at h;split at h
  . split at h
    . rename_i h0;cases h;rw[jK h0];exact⟨rfl,rfl⟩
    . cases h
  . cases h
def Zp(N:Nat):bK:=eU QV (λd=>Jd N (d)) (λd=>Jc (Jb N (d)))
theorem aMx N:aK Tryz.prog 74 (Zp N):=eH aMy (λd h=>cV (z:=CE N (d)) h (aNA (aNB N)) rfl)
def Ft(a0:aP)(a1:Bool):aC:=(.bD [.e .tx a0,.e .bo a1],[])
def tB(N:Nat):Cx:=⟨Tryz.prog,25,[(40,S5 N),(73,Zu N),(74,Zp N)],[]⟩
def S1:Code:=Tryz.f41.body.getD .skip
theorem aSi N:aD (tB N):=bZ (by kernel_rfl) (.cons (by kernel_rfl) (aCx N) (.cons (by kernel_rfl) (aNG N) (.cons (by kernel_rfl) (aMx N) .nil))) .nil
def Ck[aA](N:Nat)(self:Bool->Int->aP->O)(k0:aP->Bool->O)(k1:aP->O)(x0_0:aP)(x0_1:Bool)(x0_2:Int)(x0_3:aP):O:=
  let b0:=aB.wrap (x0_2+1)
  br (decide (x0_2<(↑x0_0.length:Int)))
    (gx x0_0 x0_2 λy7=>
    ck (Cl N [(26:UInt8),(1:UInt8),(3:UInt8),(9:UInt8),(25:UInt8),(17:UInt8),(11:UInt8),(27:UInt8),(19:UInt8),(10:UInt8)] y7)<|
    br (x0_1&&decide ((0:Int)<=lA N [(26:UInt8),(1:UInt8),(3:UInt8),(9:UInt8),(25:UInt8),(17:UInt8),(11:UInt8),(27:UInt8),(19:UInt8),(10:UInt8)] y7))
      (ck (CH N (dV (aB.wrap ((48:Int)+lA N [(26:UInt8),(1:UInt8),(3:UInt8),(9:UInt8),(25:UInt8),(17:UInt8),(11:UInt8),(27:UInt8),(19:UInt8),(10:UInt8)] y7))) x0_3)<|
      self x0_1 b0 (CG N (dV (aB.wrap ((48:Int)+lA N [(26:UInt8),(1:UInt8),(3:UInt8),(9:UInt8),(25:UInt8),(17:UInt8),(11:UInt8),(27:UInt8),(19:UInt8),(10:UInt8)] y7))) x0_3))
      (br (decide (y7=60))
        (self (decide (y7=60)) b0 x0_3)
        (br (decide (y7=48))
          (br (decide ((↑x0_0.length:Int)<=aB.wrap (x0_2+1)))
            (k0 [] false)
            (gx x0_0 b0 λy8=>
            ck (Cl N [(1:UInt8),(3:UInt8),(9:UInt8),(25:UInt8),(17:UInt8),(11:UInt8),(27:UInt8),(19:UInt8),(10:UInt8),(26:UInt8),(5:UInt8),(7:UInt8),(13:UInt8),(29:UInt8),(21:UInt8),(15:UInt8),(31:UInt8),(23:UInt8),(14:UInt8),(30:UInt8),(37:UInt8),(39:UInt8),(58:UInt8),(45:UInt8),(61:UInt8),(53:UInt8)] y8)<|
            br (decide (lA N [(1:UInt8),(3:UInt8),(9:UInt8),(25:UInt8),(17:UInt8),(11:UInt8),(27:UInt8),(19:UInt8),(10:UInt8),(26:UInt8),(5:UInt8),(7:UInt8),(13:UInt8),(29:UInt8),(21:UInt8),(15:UInt8),(31:UInt8),(23:UInt8),(14:UInt8),(30:UInt8),(37:UInt8),(39:UInt8),(58:UInt8),(45:UInt8),(61:UInt8),(53:UInt8)] y8<(0:Int)))
              (k0 [] false)
              (ck (CH N (dV (aB.wrap ((97:Int)+lA N [(1:UInt8),(3:UInt8),(9:UInt8),(25:UInt8),(17:UInt8),(11:UInt8),(27:UInt8),(19:UInt8),(10:UInt8),(26:UInt8),(5:UInt8),(7:UInt8),(13:UInt8),(29:UInt8),(21:UInt8),(15:UInt8),(31:UInt8),(23:UInt8),(14:UInt8),(30:UInt8),(37:UInt8),(39:UInt8),(58:UInt8),(45:UInt8),(61:UInt8),(53:UInt8)] y8))) x0_3)<|
              self (decide (y7=60)) (aB.wrap (aB.wrap (x0_2+1)+(1:Int))) (CG N (dV (aB.wrap ((97:Int)+lA N [(1:UInt8),(3:UInt8),(9:UInt8),(25:UInt8),(17:UInt8),(11:UInt8),(27:UInt8),(19:UInt8),(10:UInt8),(26:UInt8),(5:UInt8),(7:UInt8),(13:UInt8),(29:UInt8),(21:UInt8),(15:UInt8),(31:UInt8),(23:UInt8),(14:UInt8),(30:UInt8),(37:UInt8),(39:UInt8),(58:UInt8),(45:UInt8),(61:UInt8),(53:UInt8)] y8))) x0_3))))
          (ck (Cl N [(22:UInt8),(36:UInt8),(33:UInt8),(12:UInt8),(24:UInt8),(54:UInt8),(42:UInt8),(28:UInt8),(55:UInt8),(62:UInt8)] y7)<|
          br (decide (lA N [(22:UInt8),(36:UInt8),(33:UInt8),(12:UInt8),(24:UInt8),(54:UInt8),(42:UInt8),(28:UInt8),(55:UInt8),(62:UInt8)] y7<(0:Int)))
            (k0 [] false)
            (gx [(43:UInt8),(45:UInt8),(42:UInt8),(47:UInt8),(94:UInt8),(61:UInt8),(60:UInt8),(82:UInt8),(40:UInt8),(41:UInt8)] (lA N [(22:UInt8),(36:UInt8),(33:UInt8),(12:UInt8),(24:UInt8),(54:UInt8),(42:UInt8),(28:UInt8),(55:UInt8),(62:UInt8)] y7) λy9=>
            ck (CH N y9 x0_3)<|
            self (decide (y7=60)) b0 (CG N y9 x0_3))))))
    (k1 x0_3)
def S0:Code:=cP [1,1,1,0,1,0,0] S1
def aCq:Nm:=⟨[0,4,5,6],[],[]⟩
def AN(x:aP×Bool×Int×aP):Sg:=⟨[(0,.e (.sl .u8) x.1),(4,.ref 0 0),(5,.e .bo x.2.1),(6,.e (.i .i64) x.2.2.1)],[(0,.box 91 [.via 0 0,.own 1]),(1,.row 5 .u8 x.2.2.2 true)],100⟩
def Lq(σ:Sg):aP×Bool×Int×aP:=(aW (.sl .u8) 0 0 σ,aW .bo 5 0 σ,aW (.i .i64) 6 0 σ,fX .u8 1 σ)
theorem aSb:∀x,Lq (AN x)=x:=λ_=>by kernel_rfl
def Lt(y:aP×Bool):Exit×Sg:=(.ret,⟨[(2,.e .tx y.1),(3,.e .bo y.2)],[],100⟩)
def aS9(_:Exit)(σ:Sg):aP×Bool:=(aW .tx 2 0 σ,aW .bo 3 0 σ)
def Ls(y:aP):Exit×Sg:=((.exit 0),⟨[(4,.ref 0 0)],[(0,.box 91 [.via 0 0,.own 1]),(1,.row 5 .u8 y true)],100⟩)
def aS8(_:Exit)(σ:Sg):aP:=fX .u8 1 σ
def aS7:List (Exit×Nm):=[(.ret,⟨[2,3],[],[]⟩),((.exit 0),⟨[4],[],[]⟩)]
def AM[aA](N:Nat):Nat->(aP×Bool×Int×aP)->((aP×Bool)->O)->((aP)->O)->((Unit)->O)->O
  |0,_,_,_,_=>none
  |n+1,x,k0,k1,k2=>Ck N (λv0 v1 v2=>AM N n (x.1,v0,v1,v2) k0 k1 k2) (λy0 y1=>k0 (y0,y1)) (λy0=>k1 y0) x.1 x.2.1 x.2.2.1 x.2.2.2
def SZ[aA] N a0 a1 a2 a3 (k0:aP->Bool->O) (k1:aP->O):=AM N N (a0,a1,a2,a3) (λy=>k0 y.1 y.2) (λy=>k1 y) (λ_=>none)
def aCp[aA] N a0 a1 a2 a3 (k0:aP->Bool->O) (k1:aP->O):=bB AN Lq (AM N N) (AN (a0,a1,a2,a3)) (λy=>k0 y.1 y.2) (λy=>k1 y) (λ_=>none)
theorem aSh[aA] N:aCp N=SZ N:=funext λ_=>funext λ_=>funext λ_=>funext λ_=>funext λ_=>funext λ_=>dD aSb _ _ _ _
theorem aSc[aA](N:Nat)(self:Sg->O)(K:Exit->Sg->O)(x:aP×Bool×Int×aP):Ck N (λv0 v1 v2=>self (AN (x.1,v0,v1,v2))) (λy0 y1=>K (Lt (y0,y1)).1 (Lt (y0,y1)).2) (λy0=>K (Ls y0).1 (Ls y0).2) x.1 x.2.1 x.2.2.1 x.2.2.2=exec (tB N) Tryz.f41.ntmps .d S0 (AN x) (fE aCq aS7 self K):=by kernel_rfl
theorem aSj N (hc:aD (tB N)):cU (tB N) Tryz.f41.ntmps (.loop S0) Lt Ls (aV 2) (bB AN Lq (AM N N)):=
  fW hc (cT S0) (kS aS9 aS8 .ret (.exit 0) (λ_=>by kernel_rfl) (λ_=>by kernel_rfl) (λ_=>rfl) (λ_=>rfl) (by kernel_rfl)) (n:=N) (λx K=>fY (AM N) (λ_ _ _ _=>rfl) (λn K ih x=>by
    refine gM ?_ (aSc N _ K x);simp only[<-ih];rfl) N x K)
def S4[aA](N:Nat)(in0:aP->Bool->Int->aP->(aP->Bool->O)->(aP->O)->O)(l0:aP):O:=
  in0 l0 false 0 []
    (λz10 z11=>
      some (Ft z10 z11))
    (λz12=>
      ck (Jd N z12)<|
      some (Ft (Jb N z12) true))
def w41[aA] N l0:=S4 N (SZ N) l0
def aCr[aA](N:Nat):Hint:=(.seq .d (.seq .d (.seq (.gO [] [.OI 4 1 (.row 5 .u8 [] true)] []) (.seq (.seq .d (.block (.sub aCq _ _ _ Lt Ls (aV 2) (bB AN Lq (AM N N))))) .d))))
theorem aSf N (hc:aD (tB N)):bJ (tB N) Tryz.f41.ntmps (aCr N) S1:=bR _ _ (aH trivial (aH trivial (aH trivial (aH (aH trivial (aSj N hc)) trivial))))
theorem aSd[aA] N l0:S4 N (aCp N) l0=exec (tB N) Tryz.f41.ntmps (aCr N) S1 ⟨bW 0 [.e (.sl .u8) l0],[],100⟩ (bX (tB N) Tryz.f41 false):=by kernel_rfl
def Lp(r:aC):Option (aP×Bool):=match r with
  |(.bD [x0,x1],[])=>(match ue .tx x0,ue .bo x1 with|some a0,some a1=>some (a0,a1)|_,_=>none)
  |_=>none
theorem aSa{r d}(h:Lp r=some d):r=Ft d.1 d.2:=by
  unfold Lp at h;split at h
  . split at h
    . rename_i h0 h1;cases h;rw[aE h0,aE h1];rfl
    . cases h
  . cases h
def AL N l0:=(w41 N l0).bind Lp
theorem aSg{N}(hc:aD (tB N)){l0 d}(hd:AL N l0=some d):cB Tryz.prog 41 [.e (.sl .u8) l0] [] (Ft d.1 d.2):=
  cD hc (by kernel_rfl) (by kernel_rfl) (aSf N hc) (by kernel_rfl) aSa (λhr=>(aSd N l0).symm.trans (by rw[aSh N];exact hr)) hd
def Lr N l0:=(AL N l0).isSome
def q9 N l0:=((AL N l0).getD ([],false)).1
def Fs N l0:=((AL N l0).getD ([],false)).2
def aCs(N:Nat):bK:=E1 (.sl .u8) (λx0=>(Lr N x0,Ft (q9 N x0) (Fs N x0)))
theorem aSe N:aK Tryz.prog 41 (aCs N):=aK.e1 (λx0 h=>cV (z:=AL N x0) h (aSg (aSi N)) rfl)
def Lk(a0:Bool):aC:=(.e .bo a0,[])
def Fp(_:Nat):Cx:=⟨Tryz.prog,25,[],[]⟩
def aCd:Code:=Tryz.f43.body.getD .skip
theorem aSX N:aD (Fp N):=bZ (by kernel_rfl) .nil .nil
def aCg[aA](_:Nat)(a0 b1:aP):O:=
  some (Lk (decide (a0=b1)))
def w43[aA] N a0 b1:=aCg N a0 b1
def aCb[aA](_:Nat):Hint:=.d
theorem aSV N:bJ (Fp N) Tryz.f43.ntmps (aCb N) aCd:=bR _ _ trivial
theorem aST[aA] N a0 b1:aCg N a0 b1=exec (Fp N) Tryz.f43.ntmps (aCb N) aCd ⟨bW 0 [.e (.sl .u8) a0,.e (.sl .u8) b1],[],100⟩ (bX (Fp N) Tryz.f43 false):=by kernel_rfl
def SW(r:aC):Option (Bool):=match r with
  |(x0,[])=>(match ue .bo x0 with|some a0=>some a0|_=>none)
  |_=>none
theorem aSS{r d}(h:SW r=some d):r=Lk (d):=by
  unfold SW at h;split at h
  . split at h
    . rename_i h0;cases h;rw[aE h0];rfl
    . cases h
  . cases h
def Lj N a0 b1:=(w43 N a0 b1).bind SW
theorem aSW{N}(hc:aD (Fp N)){a0 b1 d}(hd:Lj N a0 b1=some d):cB Tryz.prog 43 [.e (.sl .u8) a0,.e (.sl .u8) b1] [] (Lk (d)):=
  cD hc (by kernel_rfl) (by kernel_rfl) (aSV N) (by kernel_rfl) aSS (aST N a0 b1).symm.trans hd
def SX N a0 b1:=(Lj N a0 b1).isSome
def SV N a0 b1:=((Lj N a0 b1).getD false)
def aCc(N:Nat):bK:=E2 (.sl .u8) (.sl .u8) (λx0 x1=>(SX N x0 x1,Lk (SV N x0 x1)))
theorem aSU N:aK Tryz.prog 43 (aCc N):=aK.e2 (λx0 x1 h=>cV (z:=Lj N x0 x1) h (aSW (aSX N)) rfl)
def DG(a0 a1:Int)(a2:(List Ex))(a3 a4:Int):aC:=(.bD [.agg [.e (.i .i64) a0,.e (.i .i64) a1,.e (.sl .ex) a2],.e (.i .i64) a3,.e (.i .i64) a4],[])
def GV(N:Nat):Cx:=⟨Tryz.prog,25,[(40,S5 N),(41,aCs N),(42,aCh N),(10,Gl N),(43,aCc N)],[]⟩
def aEH:Code:=Tryz.f20.body.getD .skip
theorem aVO N:aD (GV N):=bZ (by kernel_rfl) (.cons (by kernel_rfl) (aCx N) (.cons (by kernel_rfl) (aSe N) (.cons (by kernel_rfl) (aSZ N) (.cons (by kernel_rfl) (NK N) (.cons (by kernel_rfl) (aSU N) .nil))))) .nil
def GW[aA](N:Nat)(l0:aP):O:=
  let b2:=dY l0 none (some (lA N l0 (63:UInt8)))
  let b0:=Ex.mk (vW N (q9 N b2)) (vV N (q9 N b2)) (vU N (q9 N b2))
  let b1:=Ex.mk b0.op b0.num b0.kids
  let b3:=aB.wrap (lA N l0 (63:UInt8)+(1:Int))
  let b4:=decide (s9 N (q9 N b2)≠(0:Int))||decide (Ak N b1.op b1.num b1.kids≠(0:Int))
  let b5:=some (DG 0 0 [] 0 2)
  ck (Cl N l0 (63:UInt8))<|
  br (decide (lA N l0 (63:UInt8)<(0:Int)))
    (some (DG 0 0 [] 0 3))
    (ck (eQ l0.length none (some (lA N l0 (63:UInt8))))<|
    ck (Lr N b2)<|
    br (!Fs N b2)
      b5
      (ck (Ll N (q9 N b2))<|
      ck (DY N b1.op b1.num b1.kids)<|
      ck (!!b4||eQ l0.length none (some b3))<|
      ck (!!b4||SX N (wG N b1.op b1.num b1.kids) (dY l0 none (some b3)))<|
      br (decide (s9 N (q9 N b2)≠(0:Int))||decide (Ak N b1.op b1.num b1.kids≠(0:Int))||!SV N (wG N b1.op b1.num b1.kids) (dY l0 none (some b3)))
        b5
        (some (DG (b0.op) (b0.num) (b0.kids) b3 0))))
def Mh[aA] N l0:=GW N l0
def aEG[aA](_:Nat):Hint:=.d
theorem aVM N:bJ (GV N) Tryz.f20.ntmps (aEG N) aEH:=bR _ _ trivial
theorem aVL[aA] N l0:GW N l0=exec (GV N) Tryz.f20.ntmps (aEG N) aEH ⟨bW 0 [.e (.sl .u8) l0],[],100⟩ (bX (GV N) Tryz.f20 false):=by kernel_rfl
def TT(r:aC):Option (Int×Int×(List Ex)×Int×Int):=match r with
  |(.bD [.agg [x0,x1,x2],x3,x4],[])=>(match ue (.i .i64) x0,ue (.i .i64) x1,ue (.sl .ex) x2,ue (.i .i64) x3,ue (.i .i64) x4 with|some a0,some a1,some a2,some a3,some a4=>some (a0,a1,a2,a3,a4)|_,_,_,_,_=>none)
  |_=>none
theorem aVK{r d}(h:TT r=some d):r=DG d.1 d.2.1 d.2.2.1 d.2.2.2.1 d.2.2.2.2:=by
  unfold TT at h;split at h
  . split at h
    . rename_i h0 h1 h2 h3 h4;cases h;rw[aE h0,aE h1,aE h2,aE h3,aE h4];rfl
    . cases h
  . cases h
def nD N l0:=(Mh N l0).bind TT
theorem aVN{N}(hc:aD (GV N)){l0 d}(hd:nD N l0=some d):cB Tryz.prog 20 [.e (.sl .u8) l0] [] (DG d.1 d.2.1 d.2.2.1 d.2.2.2.1 d.2.2.2.2):=
  cD hc (by kernel_rfl) (by kernel_rfl) (aVM N) (by kernel_rfl) aVK (aVL N l0).symm.trans hd
def Mg N l0:=(nD N l0).isSome
def iV N l0:=((nD N l0).getD (0,0,[],0,0)).1
def iU N l0:=((nD N l0).getD (0,0,[],0,0)).2.1
def iT N l0:=((nD N l0).getD (0,0,[],0,0)).2.2.1
def GU N l0:=((nD N l0).getD (0,0,[],0,0)).2.2.2.1
def GS N l0:=((nD N l0).getD (0,0,[],0,0)).2.2.2.2
def TU(N:Nat):bK:=E1 (.sl .u8) (λx0=>(Mg N x0,DG (iV N x0) (iU N x0) (iT N x0) (GU N x0) (GS N x0)))
theorem aEF N:aK Tryz.prog 20 (TU N):=aK.e1 (λx0 h=>cV (z:=nD N x0) h (aVN (aVO N)) rfl)
def Mi(a0:aP):aC:=(.own 100,[(100,.row 5 .u8 a0 true)])
def GX(_:Nat):Cx:=⟨Tryz.prog,25,[],[]⟩
def aEK:Code:=Tryz.f19.body.getD .skip
theorem aVU N:aD (GX N):=bZ (by kernel_rfl) .nil .nil
def TY[aA](_:Nat)(b0:aP)(most1:Int):O:=
  ck (eQ b0.length none (some (min (↑b0.length:Int) most1)))<|
  ck (cZ (dY b0 none (some (min (↑b0.length:Int) most1))).length (1:Nat))<|
  some (Mi (dY b0 none (some (min (↑b0.length:Int) most1))))
def w19[aA] N b0 most1:=TY N b0 most1
def aEJ[aA](_:Nat):Hint:=.d
theorem aVS N:bJ (GX N) Tryz.f19.ntmps (aEJ N) aEK:=bR _ _ trivial
theorem aVR[aA] N b0 most1:TY N b0 most1=exec (GX N) Tryz.f19.ntmps (aEJ N) aEK ⟨bW 0 [.e (.sl .u8) b0,.e (.i .i64) most1],[],100⟩ (bX (GX N) Tryz.f19 true):=by kernel_rfl
def TW(r:aC):Option (aP):=match r with
  |(.own 100,[(100,x0)])=>(match ur 5 .u8 true x0 with|some a0=>some a0|_=>none)
  |_=>none
theorem aVQ{r d}(h:TW r=some d):r=Mi (d):=by
  unfold TW at h;split at h
  . split at h
    . rename_i h0;cases h;rw[jK h0];rfl
    . cases h
  . cases h
def DH N b0 most1:=(w19 N b0 most1).bind TW
theorem aVT{N}(hc:aD (GX N)){b0 most1 d}(hd:DH N b0 most1=some d):cB Tryz.prog 19 [.e (.sl .u8) b0,.e (.i .i64) most1] [] (Mi (d)):=
  cD hc (by kernel_rfl) (by kernel_rfl) (aVS N) (by kernel_rfl) aVQ (aVR N b0 most1).symm.trans hd
def wC N b0 most1:=(DH N b0 most1).isSome
def iW N b0 most1:=((DH N b0 most1).getD [])
def TX(N:Nat):bK:=E2 (.sl .u8) (.i .i64) (λx0 x1=>(wC N x0 x1,Mi (iW N x0 x1)))
theorem aEI N:aK Tryz.prog 19 (TX N):=aK.e2 (λx0 x1 h=>cV (z:=DH N x0 x1) h (aVT (aVU N)) rfl)
def DM(a0:Bool):aC:=(.e .bo a0,[])
def tJ(_:Nat):Cx:=⟨Tryz.prog,25,[],[]⟩
def Te:Code:=Tryz.f14.body.getD .skip
theorem aWC N:aD (tJ N):=bZ (by kernel_rfl) .nil .nil
def DN[aA](_:Nat)(self:Int->O)(k0:Bool->O)(k1:Unit->O)(x0_0 x0_1:aP)(x0_2:Int):O:=
  br (decide (x0_2<(↑x0_0.length:Int)))
    (gx x0_0 x0_2 λy5=>
    gx x0_1 x0_2 λy6=>
    br (decide (y5≠y6))
      (k0 false)
      (self (aB.wrap (x0_2+1))))
    (k1 ())
def Td:Code:=cP [1,1,0,1,0,0] Te
def aE5:Nm:=⟨[0,1,5],[],[]⟩
def A5(x:aP×aP×Int):Sg:=⟨[(0,.e (.sl .u8) x.1),(1,.e (.sl .u8) x.2.1),(5,.e (.i .i64) x.2.2)],[],100⟩
def Mp(σ:Sg):aP×aP×Int:=(aW (.sl .u8) 0 0 σ,aW (.sl .u8) 1 0 σ,aW (.i .i64) 5 0 σ)
theorem aVw:∀x,Mp (A5 x)=x:=λ_=>by kernel_rfl
def Ms(y:Bool):Exit×Sg:=(.ret,⟨[(4,.e .bo y)],[],100⟩)
def aVu(_:Exit)(σ:Sg):Bool:=aW .bo 4 0 σ
def Mr(_:Unit):Exit×Sg:=((.exit 0),⟨[],[],100⟩)
def aVt(_:Exit)(_:Sg):Unit:=()
def aVs:List (Exit×Nm):=[(.ret,⟨[4],[],[]⟩),((.exit 0),⟨[],[],[]⟩)]
def A4[aA](N:Nat):Nat->(aP×aP×Int)->((Bool)->O)->((Unit)->O)->((Unit)->O)->O
  |0,_,_,_,_=>none
  |n+1,x,k0,k1,k2=>DN N (λv0=>A4 N n (x.1,x.2.1,v0) k0 k1 k2) (λy0=>k0 y0) (λ(_:Unit)=>k1 ()) x.1 x.2.1 x.2.2
def Tc[aA] N a0 a1 a2 (k0:Bool->O) (k1:Unit->O):=A4 N N (a0,a1,a2) (λy=>k0 y) (λy=>k1 y) (λ_=>none)
def aE4[aA] N a0 a1 a2 (k0:Bool->O) (k1:Unit->O):=bB A5 Mp (A4 N N) (A5 (a0,a1,a2)) (λy=>k0 y) (λy=>k1 y) (λ_=>none)
theorem aWB[aA] N:aE4 N=Tc N:=funext λ_=>funext λ_=>funext λ_=>funext λ_=>funext λ_=>dD aVw _ _ _ _
theorem aVx[aA](N:Nat)(self:Sg->O)(K:Exit->Sg->O)(x:aP×aP×Int):DN N (λv0=>self (A5 (x.1,x.2.1,v0))) (λy0=>K (Ms y0).1 (Ms y0).2) (λ(_:Unit)=>K (Mr ()).1 (Mr ()).2) x.1 x.2.1 x.2.2=exec (tJ N) Tryz.f14.ntmps .d Td (A5 x) (fE aE5 aVs self K):=by kernel_rfl
theorem aWF N (hc:aD (tJ N)):cU (tJ N) Tryz.f14.ntmps (.loop Td) Ms Mr (aV 2) (bB A5 Mp (A4 N N)):=
  fW hc (cT Td) (kS aVu aVt .ret (.exit 0) (λ_=>by kernel_rfl) (λ_=>by kernel_rfl) (λ_=>rfl) (λ_=>rfl) (by kernel_rfl)) (n:=N) (λx K=>fY (A4 N) (λ_ _ _ _=>rfl) (λn K ih x=>by
    refine gM ?_ (aVx N _ K x);simp only[<-ih];rfl) N x K)
def Tf[aA](_:Nat)(in0:aP->aP->Int->(Bool->O)->(Unit->O)->O)(a0 b1:aP):O:=
  br (decide ((↑a0.length:Int)≠(↑b1.length:Int)))
    (some (DM false))
    (in0 a0 b1 0
      (λz7=>
        some (DM z7))
      (λ(_:Unit)=>
        some (DM true)))
def w14[aA] N a0 b1:=Tf N (Tc N) a0 b1
def aE6[aA](N:Nat):Hint:=(.seq .d (.seq .d (.seq (.seq .d (.block (.sub aE5 _ _ _ Ms Mr (aV 2) (bB A5 Mp (A4 N N))))) .d)))
theorem aVz N (hc:aD (tJ N)):bJ (tJ N) Tryz.f14.ntmps (aE6 N) Te:=bR _ _ (aH trivial (aH trivial (aH (aH trivial (aWF N hc)) trivial)))
theorem aVy[aA] N a0 b1:Tf N (aE4 N) a0 b1=exec (tJ N) Tryz.f14.ntmps (aE6 N) Te ⟨bW 0 [.e (.sl .u8) a0,.e (.sl .u8) b1],[],100⟩ (bX (tJ N) Tryz.f14 false):=by kernel_rfl
def Mo(r:aC):Option (Bool):=match r with
  |(x0,[])=>(match ue .bo x0 with|some a0=>some a0|_=>none)
  |_=>none
theorem aVv{r d}(h:Mo r=some d):r=DM (d):=by
  unfold Mo at h;split at h
  . split at h
    . rename_i h0;cases h;rw[aE h0];rfl
    . cases h
  . cases h
def DL N a0 b1:=(w14 N a0 b1).bind Mo
theorem aWA{N}(hc:aD (tJ N)){a0 b1 d}(hd:DL N a0 b1=some d):cB Tryz.prog 14 [.e (.sl .u8) a0,.e (.sl .u8) b1] [] (DM (d)):=
  cD hc (by kernel_rfl) (by kernel_rfl) (aVz N hc) (by kernel_rfl) aVv (λhr=>(aVy N a0 b1).symm.trans (by rw[aWB N];exact hr)) hd
def G4 N a0 b1:=(DL N a0 b1).isSome
def G3 N a0 b1:=((DL N a0 b1).getD false)
def Mq(N:Nat):bK:=E2 (.sl .u8) (.sl .u8) (λx0 x1=>(G4 N x0 x1,DM (G3 N x0 x1)))
theorem Tb N:aK Tryz.prog 14 (Mq N):=aK.e2 (λx0 x1 h=>cV (z:=DL N x0 x1) h (aWA (aWC N)) rfl)
def JL(a0 a1:Int)(a2:(List Ex)):aC:=(.agg [.e (.i .i64) a0,.e (.i .i64) a1,.e (.sl .ex) a2],[])
def Eo(N:Nat):Cx:=⟨Tryz.prog,25,[(33,aD5 N)],[]⟩
def Yv:Code:=Tryz.f8.body.getD .skip
theorem aLU N:aD (Eo N):=bZ (by kernel_rfl) (.cons (by kernel_rfl) (aUC N) .nil) .nil
def Pu[aA](N:Nat)(l0:(List Int)):O:=
  ck (MV N l0 (4:Int))<|
  some (JL ((Ex.mk (Cw N l0 (4:Int)) (Cv N l0 (4:Int)) (Cu N l0 (4:Int))).op) ((Ex.mk (Cw N l0 (4:Int)) (Cv N l0 (4:Int)) (Cu N l0 (4:Int))).num) ((Ex.mk (Cw N l0 (4:Int)) (Cv N l0 (4:Int)) (Cu N l0 (4:Int))).kids))
def w8[aA] N l0:=Pu N l0
def Yt[aA](_:Nat):Hint:=.d
theorem aLS N:bJ (Eo N) Tryz.f8.ntmps (Yt N) Yv:=bR _ _ trivial
theorem w8q[aA] N l0:Pu N l0=exec (Eo N) Tryz.f8.ntmps (Yt N) Yv ⟨bW 0 [.e (.sl (.i .i64)) l0],[],100⟩ (bX (Eo N) Tryz.f8 false):=by kernel_rfl
def Pt(r:aC):Option (Int×Int×(List Ex)):=match r with
  |(.agg [x0,x1,x2],[])=>(match ue (.i .i64) x0,ue (.i .i64) x1,ue (.sl .ex) x2 with|some a0,some a1,some a2=>some (a0,a1,a2)|_,_,_=>none)
  |_=>none
theorem aLP{r d}(h:Pt r=some d):r=JL d.1 d.2.1 d.2.2:=by
  unfold Pt at h;split at h
  . split at h
    . rename_i h0 h1 h2;cases h;rw[aE h0,aE h1,aE h2];rfl
    . cases h
  . cases h
def vE N l0:=(w8 N l0).bind Pt
theorem aLT{N}(hc:aD (Eo N)){l0 d}(hd:vE N l0=some d):cB Tryz.prog 8 [.e (.sl (.i .i64)) l0] [] (JL d.1 d.2.1 d.2.2):=
  cD hc (by kernel_rfl) (by kernel_rfl) (aLS N) (by kernel_rfl) aLP (w8q N l0).symm.trans hd
def JM N l0:=(vE N l0).isSome
def JK N l0:=((vE N l0).getD (0,0,[])).1
def JJ N l0:=((vE N l0).getD (0,0,[])).2.1
def JI N l0:=((vE N l0).getD (0,0,[])).2.2
def Yu(N:Nat):bK:=E1 (.sl (.i .i64)) (λx0=>(JM N x0,JL (JK N x0) (JJ N x0) (JI N x0)))
theorem aLR N:aK Tryz.prog 8 (Yu N):=aK.e1 (λx0 h=>cV (z:=vE N x0) h (aLT (aLU N)) rfl)
def Lu(a0 a1:Int)(a2:(List Ex)):aC:=(.agg [.e (.i .i64) a0,.e (.i .i64) a1,.e (.sl .ex) a2],[])
def Fu(_:Nat):Cx:=⟨Tryz.prog,25,[],[]⟩
def aDA:Code:=Tryz.f39.body.getD .skip
theorem aSv N:aD (Fu N):=bZ (by kernel_rfl) .nil .nil
def aDB[aA](_:Nat):O:=
  some (Lu 3 0 [Ex.mk (1:Int) (0:Int) [],Ex.mk (0:Int) (12:Int) []])
def w39[aA](N:Nat):O:=aDB N  
def aCy[aA](_:Nat):Hint:=.d
theorem aSt N:bJ (Fu N) Tryz.f39.ntmps (aCy N) aDA:=bR _ _ trivial
theorem aSq[aA] N:aDB N=exec (Fu N) Tryz.f39.ntmps (aCy N) aDA ⟨bW 0 [],[],100⟩ (bX (Fu N) Tryz.f39 false):=by kernel_rfl
def S6(r:aC):Option (Int×Int×(List Ex)):=match r with
  |(.agg [x0,x1,x2],[])=>(match ue (.i .i64) x0,ue (.i .i64) x1,ue (.sl .ex) x2 with|some a0,some a1,some a2=>some (a0,a1,a2)|_,_,_=>none)
  |_=>none
theorem aSp{r d}(h:S6 r=some d):r=Lu d.1 d.2.1 d.2.2:=by
  unfold S6 at h;split at h
  . split at h
    . rename_i h0 h1 h2;cases h;rw[aE h0,aE h1,aE h2];rfl
    . cases h
  . cases h
def Co(N:Nat):Option (Int×Int×(List Ex)):=(w39 N ).bind S6
theorem aSu{N}(hc:aD (Fu N)){d}(hd:Co N=some d):cB Tryz.prog 39 [] [] (Lu d.1 d.2.1 d.2.2):=
  cD hc (by kernel_rfl) (by kernel_rfl) (aSt N) (by kernel_rfl) aSp (aSq N).symm.trans hd
def aSr(N:Nat):Bool:=(Co N ).isSome
def aSo(N:Nat):Int:=((Co N ).getD (0,0,[])).1
def aSn(N:Nat):Int:=((Co N ).getD (0,0,[])).2.1
def aSm(N:Nat):(List Ex):=((Co N ).getD (0,0,[])).2.2
def aCz(N:Nat):bK:=E0 (aSr N ,Lu (aSo N ) (aSn N ) (aSm N ))
theorem aSs N:aK Tryz.prog 39 (aCz N):=aK.e0 (λh=>cV (z:=Co N ) h (aSu (aSv N)) rfl)
def Cz(a0:Bool):aC:=(.e .bo a0,[])
def tE(N:Nat):Cx:=⟨Tryz.prog,25,[(14,Mq N)],[]⟩
def TB:Code:=Tryz.f26.body.getD .skip
theorem aU0 N:aD (tE N):=bZ (by kernel_rfl) (.cons (by kernel_rfl) (Tb N) .nil) .nil
def aDi[aA](N:Nat)(self:Int->O)(k0:Bool->O)(k1:Unit->O)(x0_0 x0_1:(List aP))(x0_2:Int):O:=
  br (decide (x0_2<(↑x0_0.length:Int)))
    (gx x0_0 x0_2 λy5=>
    gx x0_1 x0_2 λy6=>
    ck (G4 N y5 y6)<|
    br (!G3 N y5 y6)
      (k0 false)
      (self (aB.wrap (x0_2+1))))
    (k1 ())
def TA:Code:=cP [1,1,0,1,0,0] TB
def aDe:Nm:=⟨[0,1,5],[],[]⟩
def AV(x:(List aP)×(List aP)×Int):Sg:=⟨[(0,.e (.sl (.sl .u8)) x.1),(1,.e (.sl (.sl .u8)) x.2.1),(5,.e (.i .i64) x.2.2)],[],100⟩
def MY(σ:Sg):(List aP)×(List aP)×Int:=(aW (.sl (.sl .u8)) 0 0 σ,aW (.sl (.sl .u8)) 1 0 σ,aW (.i .i64) 5 0 σ)
theorem aUS:∀x,MY (AV x)=x:=λ_=>by kernel_rfl
def M0(y:Bool):Exit×Sg:=(.ret,⟨[(4,.e .bo y)],[],100⟩)
def aUQ(_:Exit)(σ:Sg):Bool:=aW .bo 4 0 σ
def MZ(_:Unit):Exit×Sg:=((.exit 0),⟨[],[],100⟩)
def aUP(_:Exit)(_:Sg):Unit:=()
def aUO:List (Exit×Nm):=[(.ret,⟨[4],[],[]⟩),((.exit 0),⟨[],[],[]⟩)]
def DA[aA](N:Nat):Nat->((List aP)×(List aP)×Int)->((Bool)->O)->((Unit)->O)->((Unit)->O)->O
  |0,_,_,_,_=>none
  |n+1,x,k0,k1,k2=>aDi N (λv0=>DA N n (x.1,x.2.1,v0) k0 k1 k2) (λy0=>k0 y0) (λ(_:Unit)=>k1 ()) x.1 x.2.1 x.2.2
def aDd[aA] N a0 a1 a2 (k0:Bool->O) (k1:Unit->O):=DA N N (a0,a1,a2) (λy=>k0 y) (λy=>k1 y) (λ_=>none)
def aDc[aA] N a0 a1 a2 (k0:Bool->O) (k1:Unit->O):=bB AV MY (DA N N) (AV (a0,a1,a2)) (λy=>k0 y) (λy=>k1 y) (λ_=>none)
theorem aUZ[aA] N:aDc N=aDd N:=funext λ_=>funext λ_=>funext λ_=>funext λ_=>funext λ_=>dD aUS _ _ _ _
theorem aUT[aA](N:Nat)(self:Sg->O)(K:Exit->Sg->O)(x:(List aP)×(List aP)×Int):aDi N (λv0=>self (AV (x.1,x.2.1,v0))) (λy0=>K (M0 y0).1 (M0 y0).2) (λ(_:Unit)=>K (MZ ()).1 (MZ ()).2) x.1 x.2.1 x.2.2=exec (tE N) Tryz.f26.ntmps .d TA (AV x) (fE aDe aUO self K):=by kernel_rfl
theorem aU1 N (hc:aD (tE N)):cU (tE N) Tryz.f26.ntmps (.loop TA) M0 MZ (aV 2) (bB AV MY (DA N N)):=
  fW hc (cT TA) (kS aUQ aUP .ret (.exit 0) (λ_=>by kernel_rfl) (λ_=>by kernel_rfl) (λ_=>rfl) (λ_=>rfl) (by kernel_rfl)) (n:=N) (λx K=>fY (DA N) (λ_ _ _ _=>rfl) (λn K ih x=>by
    refine gM ?_ (aUT N _ K x);simp only[<-ih];rfl) N x K)
def aDh[aA](_:Nat)(in0:(List aP)->(List aP)->Int->(Bool->O)->(Unit->O)->O)(a0 b1:(List aP)):O:=
  br (decide ((↑a0.length:Int)≠(↑b1.length:Int)))
    (some (Cz false))
    (in0 a0 b1 0
      (λz7=>
        some (Cz z7))
      (λ(_:Unit)=>
        some (Cz true)))
def w26[aA] N a0 b1:=aDh N (aDd N) a0 b1
def aDf[aA](N:Nat):Hint:=(.seq .d (.seq .d (.seq (.seq .d (.block (.sub aDe _ _ _ M0 MZ (aV 2) (bB AV MY (DA N N))))) .d)))
theorem aUX N (hc:aD (tE N)):bJ (tE N) Tryz.f26.ntmps (aDf N) TB:=bR _ _ (aH trivial (aH trivial (aH (aH trivial (aU1 N hc)) trivial)))
theorem aUU[aA] N a0 b1:aDh N (aDc N) a0 b1=exec (tE N) Tryz.f26.ntmps (aDf N) TB ⟨bW 0 [.e (.sl (.sl .u8)) a0,.e (.sl (.sl .u8)) b1],[],100⟩ (bX (tE N) Tryz.f26 false):=by kernel_rfl
def Sz(r:aC):Option (Bool):=match r with
  |(x0,[])=>(match ue .bo x0 with|some a0=>some a0|_=>none)
  |_=>none
theorem aUR{r d}(h:Sz r=some d):r=Cz (d):=by
  unfold Sz at h;split at h
  . split at h
    . rename_i h0;cases h;rw[aE h0];rfl
    . cases h
  . cases h
def MX N a0 b1:=(w26 N a0 b1).bind Sz
theorem aUY{N}(hc:aD (tE N)){a0 b1 d}(hd:MX N a0 b1=some d):cB Tryz.prog 26 [.e (.sl (.sl .u8)) a0,.e (.sl (.sl .u8)) b1] [] (Cz (d)):=
  cD hc (by kernel_rfl) (by kernel_rfl) (aUX N hc) (by kernel_rfl) aUR (λhr=>(aUU N a0 b1).symm.trans (by rw[aUZ N];exact hr)) hd
def aUV N a0 b1:=(MX N a0 b1).isSome
def aUN N a0 b1:=((MX N a0 b1).getD false)
def aDg(N:Nat):bK:=E2 (.sl (.sl .u8)) (.sl (.sl .u8)) (λx0 x1=>(aUV N x0 x1,Cz (aUN N x0 x1)))
theorem aUW N:aK Tryz.prog 26 (aDg N):=aK.e2 (λx0 x1 h=>cV (z:=MX N x0 x1) h (aUY (aU0 N)) rfl)
end
end Go.Proofs
/- The examples hold. -/

namespace Go.Proofs
open Go Go.Ax
noncomputable def aV2(N:Nat):List (Nat×bK):=[(39,aCz N),(10,Gl N),(12,Th N),(24,aDn N),(20,TU N),(16,aEU N),(22,TK N),(14,Mq N),(15,aE1 N),(26,aDg N)]
noncomputable def T4(N:Nat):Cx:=⟨Tryz.prog,25,aV2 N,[]⟩
noncomputable def aES:Code:=Tryz.f17.body.getD .skip
theorem aV1(N:Nat):aD (T4 N):=bZ (by kernel_rfl) (.cons (by kernel_rfl) (aSs N) (.cons (by kernel_rfl) (NK N) (.cons (by kernel_rfl) (aEc N) (.cons (by kernel_rfl) (aUd N) (.cons (by kernel_rfl) (aEF N) (.cons (by kernel_rfl) (aV7 N) (.cons (by kernel_rfl) (aDw N) (.cons (by kernel_rfl) (Tb N) (.cons (by kernel_rfl) (aVl N) (.cons (by kernel_rfl) (aUW N) .nil)))))))))) .nil
theorem a1K:exec (T4 6000) Tryz.f17.ntmps .d aES ⟨bW 0 [],[],100⟩ (bX (T4 6000) Tryz.f17 false)=some (.e .bo true,[]):=by kernel_rfl
theorem a1d(N:Nat):aK Tryz.prog 17 (aH2 N):=aK.e0 (λ_=>
  xO (aV1 6000) (f:=17) (fn:=Tryz.f17) (code:=aES) (by kernel_rfl) (by kernel_rfl) (cT _) (Nat.le_of_ble_eq_true (by kernel_rfl)) (ow:=false) a1K)
end Go.Proofs
