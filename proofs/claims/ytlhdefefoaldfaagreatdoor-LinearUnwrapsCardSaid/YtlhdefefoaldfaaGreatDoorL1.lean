/- What the functions of package linear do; the examples hold. Conditions are in the theorems. -/
import Derived.Test.YtlhdefefoaldfaaGreatDoorE7
import Derived.Test.YtlhdefefoaldfaaGreatDoorProg
import Derived.KernelRfl
import Derived.Test.YtlhdefefoaldfaaGreatDoorF0
import Derived.Test.YtlhdefefoaldfaaGreatDoorF5
import Derived.Test.YtlhdefefoaldfaaGreatDoorF1
import Derived.Test.YtlhdefefoaldfaaGreatDoorF2
import Derived.Test.YtlhdefefoaldfaaGreatDoorF3
open And renaming intro->aG
open Eq renaming trans->fK
open Go.IntKind renaming i64->aC
/- What functions do. -/
namespace Go.Proofs
noncomputable section
open Go.Ax Go.Ax.aA Go.RowKit Go.Ab
open Go
abbrev aS:=List UInt8
def MW(a0:Bool):aE:=(.e .bo a0,[])
def Gy(_:Nat):Cx:=⟨Tryz.prog,25,[],[]⟩
def aEc:Code:=Tryz.f57.body.getD .skip
theorem aTv N:aF (Gy N):=bY (by kernel_rfl) .nil .nil
def aEe[aA](_:Nat)(c0:Int):O:=
  some (MW (decide (48<=c0)&&decide (c0<=57)))
def w57[aA] N c0:=aEe N c0
def aEa[aA](_:Nat):Hint:=.d
theorem aTt N:bJ (Gy N) Tryz.f57.ntmps (aEa N) aEc:=bO _ _ trivial
theorem aTr[aA] N c0:aEe N c0=exec (Gy N) Tryz.f57.ntmps (aEa N) aEc ⟨bU 0 [.e (.i .i32) c0],[],100⟩ (bX (Gy N) Tryz.f57 false):=by kernel_rfl
def US(r:aE):Option (Bool):=match r with
  |(x0,[])=>(match ue .bo x0 with|some a0=>some a0|_=>none)
  |_=>none
theorem aTq{r d}(h:US r=some d):r=MW (d):=by
  unfold US at h;split at h
  . split at h
    . rename_i h0;cases h;rw[aH h0];rfl
    . cases h
  . cases h
def Gx N c0:=(w57 N c0).bind US
theorem aTu{N}(hc:aF (Gy N)){c0 d}(hd:Gx N c0=some d):cB Tryz.prog 57 [.e (.i .i32) c0] [] (MW (d)):=
  cD hc (by kernel_rfl) (by kernel_rfl) (aTt N) (by kernel_rfl) aTq (aTr N c0).symm.trans hd
def DO N c0:=(Gx N c0).isSome
def A7 N c0:=((Gx N c0).getD false)
def aEb(N:Nat):bK:=E1 (.i .i32) (λx0=>(DO N x0,MW (A7 N x0)))
theorem aTs N:aM Tryz.prog 57 (aEb N):=aM.e1 (λx0 h=>cY (z:=Gx N x0) h (aTu (aTv N)) rfl)
def MV(a0:Bool):aE:=(.e .bo a0,[])
def Gw(_:Nat):Cx:=⟨Tryz.prog,25,[],[]⟩
def aE5:Code:=Tryz.f58.body.getD .skip
theorem aTo N:aF (Gw N):=bY (by kernel_rfl) .nil .nil
def aE9[aA](_:Nat)(c0:Int):O:=
  some (MV (decide (97<=c0)&&decide (c0<=122)))
def w58[aA] N c0:=aE9 N c0
def aE3[aA](_:Nat):Hint:=.d
theorem aTm N:bJ (Gw N) Tryz.f58.ntmps (aE3 N) aE5:=bO _ _ trivial
theorem aTk[aA] N c0:aE9 N c0=exec (Gw N) Tryz.f58.ntmps (aE3 N) aE5 ⟨bU 0 [.e (.i .i32) c0],[],100⟩ (bX (Gw N) Tryz.f58 false):=by kernel_rfl
def UR(r:aE):Option (Bool):=match r with
  |(x0,[])=>(match ue .bo x0 with|some a0=>some a0|_=>none)
  |_=>none
theorem aTj{r d}(h:UR r=some d):r=MV (d):=by
  unfold UR at h;split at h
  . split at h
    . rename_i h0;cases h;rw[aH h0];rfl
    . cases h
  . cases h
def Gt N c0:=(w58 N c0).bind UR
theorem aTn{N}(hc:aF (Gw N)){c0 d}(hd:Gt N c0=some d):cB Tryz.prog 58 [.e (.i .i32) c0] [] (MV (d)):=
  cD hc (by kernel_rfl) (by kernel_rfl) (aTm N) (by kernel_rfl) aTj (aTk N c0).symm.trans hd
def Gv N c0:=(Gt N c0).isSome
def Gu N c0:=((Gt N c0).getD false)
def aE4(N:Nat):bK:=E1 (.i .i32) (λx0=>(Gv N x0,MV (Gu N x0)))
theorem aTl N:aM Tryz.prog 58 (aE4 N):=aM.e1 (λx0 h=>cY (z:=Gt N x0) h (aTn (aTo N)) rfl)
def OX(a0:aS)(a1:(List Int)):aE:=(.bD [.own 100,.own 101],[(100,.row 5 .u8 a0 true),(101,.row 3 (.i .i64) a1 true)])
def uC(N:Nat):Cx:=⟨Tryz.prog,25,[(57,aEb N),(58,aE4 N),(59,aE2 N),(60,aE1 N)],[]⟩
def Vn:Code:=Tryz.f34.body.getD .skip
theorem aYR N:aF (uC N):=bY (by kernel_rfl) (.cons (by kernel_rfl) (aTs N) (.cons (by kernel_rfl) (aTl N) (.cons (by kernel_rfl) (aTf N) (.cons (by kernel_rfl) (aTb N) .nil)))) .nil
def Du[aA](N:Nat)(self:Int->aS->(List Int)->Int->O)(k0:aS->(List Int)->O)(_x0_1 x0_4:aS)(x0_0:Int)(x0_2:aS)(x0_3:(List Int))(x0_5:Int):O:=
  let b0:=x0_5+(1:Int)
  br (decide (x0_5<(↑x0_4.length:Int)))
    (gx x0_4 x0_5 λy21=>
    ck (decide (y21.toNat<(128:Nat)))<|
    br true
      (ck (DO N (↑y21.toNat:Int))<|
      br (A7 N (↑y21.toNat:Int))
        (ck (DO N x0_0)<|
        br (!A7 N x0_0)
          (ck (cF (x0_2++[(60:UInt8)]).length (1:Nat))<|
          gx [(26:UInt8),(1:UInt8),(3:UInt8),(9:UInt8),(25:UInt8),(17:UInt8),(11:UInt8),(27:UInt8),(19:UInt8),(10:UInt8)] (IntKind.i32.wrap ((↑y21.toNat:Int)-(48:Int))) λy22=>
          ck (cF (x0_2++[(60:UInt8)]++[y22]).length (1:Nat))<|
          self ((↑y21.toNat:Int)) (x0_2++[(60:UInt8)]++[y22]) x0_3 b0)
          (gx [(26:UInt8),(1:UInt8),(3:UInt8),(9:UInt8),(25:UInt8),(17:UInt8),(11:UInt8),(27:UInt8),(19:UInt8),(10:UInt8)] (IntKind.i32.wrap ((↑y21.toNat:Int)-(48:Int))) λy23=>
          ck (cF (x0_2++[y23]).length (1:Nat))<|
          self ((↑y21.toNat:Int)) (x0_2++[y23]) x0_3 b0))
        (ck (Gv N (↑y21.toNat:Int))<|
        br (Gu N (↑y21.toNat:Int))
          (gx [(1:UInt8),(3:UInt8),(9:UInt8),(25:UInt8),(17:UInt8),(11:UInt8),(27:UInt8),(19:UInt8),(10:UInt8),(26:UInt8),(5:UInt8),(7:UInt8),(13:UInt8),(29:UInt8),(21:UInt8),(15:UInt8),(31:UInt8),(23:UInt8),(14:UInt8),(30:UInt8),(37:UInt8),(39:UInt8),(58:UInt8),(45:UInt8),(61:UInt8),(53:UInt8)] (IntKind.i32.wrap ((↑y21.toNat:Int)-(97:Int))) λy24=>
          ck (cF (x0_2++[(48:UInt8),y24]).length (1:Nat))<|
          self ((↑y21.toNat:Int)) (x0_2++[(48:UInt8),y24]) x0_3 b0)
          (ck (MU N [(43:UInt8),(45:UInt8),(42:UInt8),(47:UInt8),(94:UInt8),(61:UInt8),(60:UInt8),(82:UInt8),(40:UInt8),(41:UInt8)] (↑y21.toNat:Int))<|
          gx [(22:UInt8),(36:UInt8),(33:UInt8),(12:UInt8),(24:UInt8),(54:UInt8),(42:UInt8),(28:UInt8),(55:UInt8),(62:UInt8)] (MT N [(43:UInt8),(45:UInt8),(42:UInt8),(47:UInt8),(94:UInt8),(61:UInt8),(60:UInt8),(82:UInt8),(40:UInt8),(41:UInt8)] (↑y21.toNat:Int)) λy25=>
          ck (cF (x0_2++[y25]).length (1:Nat))<|
          ck (MS N [(43:UInt8),(45:UInt8),(42:UInt8),(47:UInt8),(61:UInt8),(60:UInt8)] (↑y21.toNat:Int))<|
          ck (!DN N [(43:UInt8),(45:UInt8),(42:UInt8),(47:UInt8),(61:UInt8),(60:UInt8)] (↑y21.toNat:Int)||DO N x0_0)<|
          ck (!(DN N [(43:UInt8),(45:UInt8),(42:UInt8),(47:UInt8),(61:UInt8),(60:UInt8)] (↑y21.toNat:Int)&&!A7 N x0_0)||Gv N x0_0)<|
          br (DN N [(43:UInt8),(45:UInt8),(42:UInt8),(47:UInt8),(61:UInt8),(60:UInt8)] (↑y21.toNat:Int)&&(A7 N x0_0||Gu N x0_0||decide (x0_0=41)))
            (ck (cF (x0_3++[(↑(x0_2++[y25]).length:Int)]).length (8:Nat))<|
            self ((↑y21.toNat:Int)) (x0_2++[y25]) (x0_3++[(↑(x0_2++[y25]).length:Int)]) b0)
            (self ((↑y21.toNat:Int)) (x0_2++[y25]) x0_3 b0))))
      (k0 x0_2 x0_3))
    (br false
      (none)
      (k0 x0_2 x0_3))
def Vm:Code:=cK [1,1,1,1,0,1,0,0] Vn
def aGh:Nm:=⟨[2,4,5,6,9,10],[],[.qP 4 (.row 5 .u8 [] true),.qP 5 (.row 3 (.i .i64) [] true)]⟩
def BC(x:Int×aS×aS×(List Int)×aS×Int):Sg:=⟨[(2,.cC),(4,.own 0),(5,.own 1),(6,.e (.i .i32) x.1),(9,.e .tx x.2.1),(10,.own 2)],[(0,.row 5 .u8 x.2.2.1 true),(1,.row 3 (.i .i64) x.2.2.2.1 true),(2,.it x.2.2.2.2.1 x.2.2.2.2.2)],100⟩
def OW(σ:Sg):Int×aS×aS×(List Int)×aS×Int:=(aO (.i .i32) 6 0 σ,aO .tx 9 0 σ,dA .u8 0 σ,dA (.i .i64) 1 σ,a6h 2 σ,a6i 2 σ)
theorem aYL:∀x,OW (BC x)=x:=λ_=>by kernel_rfl
def OY(y:aS×(List Int)):Exit×Sg:=((.exit 0),⟨[(4,.own 0),(5,.own 1)],[(0,.row 5 .u8 y.1 true),(1,.row 3 (.i .i64) y.2 true)],100⟩)
def aYJ(_:Exit)(σ:Sg):aS×(List Int):=(dA .u8 0 σ,dA (.i .i64) 1 σ)
def aYI:List (Exit×Nm):=[((.exit 0),⟨[4,5],[],[]⟩)]
def BB[aA](N:Nat):Nat->(Int×aS×aS×(List Int)×aS×Int)->((aS×(List Int))->O)->((Unit)->O)->((Unit)->O)->O
  |0,_,_,_,_=>none
  |n+1,x,k0,k1,k2=>Du N (λv0 v1 v2 v3=>BB N n (v0,x.2.1,v1,v2,x.2.2.2.2.1,v3) k0 k1 k2) (λy0 y1=>k0 (y0,y1)) x.2.1 x.2.2.2.2.1 x.1 x.2.2.1 x.2.2.2.1 x.2.2.2.2.2
def Vk[aA] N a0 a1 a2 a3 a4 a5 (k0:aS->(List Int)->O):=BB N N (a0,a1,a2,a3,a4,a5) (λy=>k0 y.1 y.2) (λ_=>none) (λ_=>none)
def aGf[aA] N a0 a1 a2 a3 a4 a5 (k0:aS->(List Int)->O):=aY BC OW (BB N N) (BC (a0,a1,a2,a3,a4,a5)) (λy=>k0 y.1 y.2) (λ_=>none) (λ_=>none)
theorem aYQ[aA] N:aGf N=Vk N:=funext λ_=>funext λ_=>funext λ_=>funext λ_=>funext λ_=>funext λ_=>funext λ_=>cW aYL _ _ _ _
theorem aYM[aA](N:Nat)(self:Sg->O)(K:Exit->Sg->O)(x:Int×aS×aS×(List Int)×aS×Int):Du N (λv0 v1 v2 v3=>self (BC (v0,x.2.1,v1,v2,x.2.2.2.2.1,v3))) (λy0 y1=>K (OY (y0,y1)).1 (OY (y0,y1)).2) x.2.1 x.2.2.2.2.1 x.1 x.2.2.1 x.2.2.2.1 x.2.2.2.2.2=exec (uC N) Tryz.f34.ntmps .d Vm (BC x) (eN aGh aYI self K):=by kernel_rfl
theorem aYT N (hc:aF (uC N)):cN (uC N) Tryz.f34.ntmps (.loop Vm) OY (aW 1) (aW 2) (aY BC OW (BB N N)):=
  eV hc (cO Vm) (eZ aYJ (.exit 0) (λ_=>by kernel_rfl) (λ_=>rfl) (by kernel_rfl)) (n:=N) (λx K=>eW (BB N) (λ_ _ _ _=>rfl) (λn K ih x=>by
    refine fK ?_ (aYM N _ K x);simp only[<-ih];rfl) N x K)
def Vo[aA](_:Nat)(in0:Int->aS->aS->(List Int)->aS->Int->(aS->(List Int)->O)->O)(s0:aS):O:=
  in0 40 s0 [] [] s0 0
    (λz26 z27=>
      ck (cF (z26++[(63:UInt8)]).length (1:Nat))<|
      some (OX (z26++[(63:UInt8)]) z27))
def w34[aA] N s0:=Vo N (Vk N) s0
def aGi[aA](N:Nat):Hint:=(.seq .d (.seq .d (.seq .d (.seq .d (.seq (.seq .d (.block (.sub aGh _ _ _ OY (aW 1) (aW 2) (aY BC OW (BB N N))))) .d)))))
theorem aYO N (hc:aF (uC N)):bJ (uC N) Tryz.f34.ntmps (aGi N) Vn:=bO _ _ (aG trivial (aG trivial (aG trivial (aG trivial (aG (aG trivial (aYT N hc)) trivial)))))
theorem aYN[aA] N s0:Vo N (aGf N) s0=exec (uC N) Tryz.f34.ntmps (aGi N) Vn ⟨bU 0 [.e .tx s0],[],100⟩ (bX (uC N) Tryz.f34 true):=by kernel_rfl
def OV(r:aE):Option (aS×(List Int)):=match r with
  |(.bD [.own 100,.own 101],[(100,x0),(101,x1)])=>(match ur 5 .u8 true x0,ur 3 (.i .i64) true x1 with|some a0,some a1=>some (a0,a1)|_,_=>none)
  |_=>none
theorem aYK{r d}(h:OV r=some d):r=OX d.1 d.2:=by
  unfold OV at h;split at h
  . split at h
    . rename_i h0 h1;cases h;rw[jF h0,jF h1];rfl
    . cases h
  . cases h
def xG N s0:=(w34 N s0).bind OV
theorem aYP{N}(hc:aF (uC N)){s0 d}(hd:xG N s0=some d):cB Tryz.prog 34 [.e .tx s0] [] (OX d.1 d.2):=
  cD hc (by kernel_rfl) (by kernel_rfl) (aYO N hc) (by kernel_rfl) aYK (λhr=>(aYN N s0).symm.trans (by rw[aYQ N];exact hr)) hd
def BA N s0:=(xG N s0).isSome
def OU N s0:=((xG N s0).getD ([],[])).1
def OT N s0:=((xG N s0).getD ([],[])).2
def Vl(N:Nat):bK:=E1 .tx (λx0=>(BA N x0,OX (OU N x0) (OT N x0)))
theorem aGg N:aM Tryz.prog 34 (Vl N):=aM.e1 (λx0 h=>cY (z:=xG N x0) h (aYP (aYR N)) rfl)
def I8(a0:aS)(a1:Int):aE:=(.bD [.e (.sl .u8) a0,.e (.i .i64) a1],[])
def Ia(N:Nat):Cx:=⟨Tryz.prog,25,[(29,Hd N),(35,Vj N),(34,Vl N)],[]⟩
def aJI:Code:=Tryz.f10.body.getD .skip
theorem a2w N:aF (Ia N):=bY (by kernel_rfl) (.cons (by kernel_rfl) (O0 N) (.cons (by kernel_rfl) (aG9 N) (.cons (by kernel_rfl) (aGg N) .nil))) .nil
def Xk[aA](N:Nat)(e0_0 e0_1:Int)(e0_2:(List Ex)):O:=
  let b0:=Ex.mk (Ex.mk e0_0 e0_1 e0_2).op (Ex.mk e0_0 e0_1 e0_2).num (Ex.mk e0_0 e0_1 e0_2).kids
  ck (uD N b0.op b0.num b0.kids)<|
  br (decide (qG N b0.op b0.num b0.kids≠(0:Int)))
    (some (I8 [] (qG N b0.op b0.num b0.kids)))
    (ck (H8 N b0.op b0.num b0.kids)<|
    ck (BA N (Az N b0.op b0.num b0.kids))<|
    some (I8 (OU N (Az N b0.op b0.num b0.kids)) 0))
def w10[aA] N e0_0 e0_1 e0_2:=Xk N e0_0 e0_1 e0_2
def aJH[aA](_:Nat):Hint:=.d
theorem a2u N:bJ (Ia N) Tryz.f10.ntmps (aJH N) aJI:=bO _ _ trivial
theorem a2t[aA] N e0_0 e0_1 e0_2:Xk N e0_0 e0_1 e0_2=exec (Ia N) Tryz.f10.ntmps (aJH N) aJI ⟨bU 0 [.agg [.e (.i .i64) e0_0,.e (.i .i64) e0_1,.e (.sl .ex) e0_2]],[],100⟩ (bX (Ia N) Tryz.f10 false):=by kernel_rfl
def Xf(r:aE):Option (aS×Int):=match r with
  |(.bD [x0,x1],[])=>(match ue (.sl .u8) x0,ue (.i .i64) x1 with|some a0,some a1=>some (a0,a1)|_,_=>none)
  |_=>none
theorem a2s{r d}(h:Xf r=some d):r=I8 d.1 d.2:=by
  unfold Xf at h;split at h
  . split at h
    . rename_i h0 h1;cases h;rw[aH h0,aH h1];rfl
    . cases h
  . cases h
def Ee N e0_0 e0_1 e0_2:=(w10 N e0_0 e0_1 e0_2).bind Xf
theorem a2v{N}(hc:aF (Ia N)){e0_0 e0_1 e0_2 d}(hd:Ee N e0_0 e0_1 e0_2=some d):cB Tryz.prog 10 [.agg [.e (.i .i64) e0_0,.e (.i .i64) e0_1,.e (.sl .ex) e0_2]] [] (I8 d.1 d.2):=
  cD hc (by kernel_rfl) (by kernel_rfl) (a2u N) (by kernel_rfl) a2s (a2t N e0_0 e0_1 e0_2).symm.trans hd
def Ef N e0_0 e0_1 e0_2:=(Ee N e0_0 e0_1 e0_2).isSome
def xO N e0_0 e0_1 e0_2:=((Ee N e0_0 e0_1 e0_2).getD ([],0)).1
def Bc N e0_0 e0_1 e0_2:=((Ee N e0_0 e0_1 e0_2).getD ([],0)).2
def I9(N:Nat):bK:=E1 .ex (λx0=>(Ef N (Ex.op x0) (Ex.num x0) (Ex.kids x0),I8 (xO N (Ex.op x0) (Ex.num x0) (Ex.kids x0)) (Bc N (Ex.op x0) (Ex.num x0) (Ex.kids x0))))
theorem Ps N:aM Tryz.prog 10 (I9 N):=aM.e1 (λ_ h=>cY h (a2v (a2w N)) rfl)
def PZ(a0:Int):aE:=(.e (.i .i64) a0,[])
def IK(N:Nat):Cx:=⟨Tryz.prog,25,[(10,I9 N)],[]⟩
def aII:Code:=Tryz.f16.body.getD .skip
theorem a0w N:aF (IK N):=bY (by kernel_rfl) (.cons (by kernel_rfl) (Ps N) .nil) .nil
def aIJ[aA](N:Nat)(e0_0 e0_1:Int)(e0_2:(List Ex)):O:=
  let b0:=Ex.mk (Ex.mk e0_0 e0_1 e0_2).op (Ex.mk e0_0 e0_1 e0_2).num (Ex.mk e0_0 e0_1 e0_2).kids
  ck (Ef N b0.op b0.num b0.kids)<|
  some (PZ ((↑(xO N b0.op b0.num b0.kids).length:Int)))
def w16[aA] N e0_0 e0_1 e0_2:=aIJ N e0_0 e0_1 e0_2
def aIG[aA](_:Nat):Hint:=.d
theorem a0u N:bJ (IK N) Tryz.f16.ntmps (aIG N) aII:=bO _ _ trivial
theorem a0r[aA] N e0_0 e0_1 e0_2:aIJ N e0_0 e0_1 e0_2=exec (IK N) Tryz.f16.ntmps (aIG N) aII ⟨bU 0 [.agg [.e (.i .i64) e0_0,.e (.i .i64) e0_1,.e (.sl .ex) e0_2]],[],100⟩ (bX (IK N) Tryz.f16 false):=by kernel_rfl
def Wq(r:aE):Option (Int):=match r with
  |(x0,[])=>(match ue (.i .i64) x0 with|some a0=>some a0|_=>none)
  |_=>none
theorem a0q{r d}(h:Wq r=some d):r=PZ (d):=by
  unfold Wq at h;split at h
  . split at h
    . rename_i h0;cases h;rw[aH h0];rfl
    . cases h
  . cases h
def Wp N e0_0 e0_1 e0_2:=(w16 N e0_0 e0_1 e0_2).bind Wq
theorem a0v{N}(hc:aF (IK N)){e0_0 e0_1 e0_2 d}(hd:Wp N e0_0 e0_1 e0_2=some d):cB Tryz.prog 16 [.agg [.e (.i .i64) e0_0,.e (.i .i64) e0_1,.e (.sl .ex) e0_2]] [] (PZ (d)):=
  cD hc (by kernel_rfl) (by kernel_rfl) (a0u N) (by kernel_rfl) a0q (a0r N e0_0 e0_1 e0_2).symm.trans hd
def a0s N e0_0 e0_1 e0_2:=(Wp N e0_0 e0_1 e0_2).isSome
def a0p N e0_0 e0_1 e0_2:=((Wp N e0_0 e0_1 e0_2).getD 0)
def aIH(N:Nat):bK:=E1 .ex (λx0=>(a0s N (Ex.op x0) (Ex.num x0) (Ex.kids x0),PZ (a0p N (Ex.op x0) (Ex.num x0) (Ex.kids x0))))
theorem a0t N:aM Tryz.prog 16 (aIH N):=aM.e1 (λ_ h=>cY h (a0v (a0w N)) rfl)
def Pd(a0:Int)(a1:(List Int)):aE:=(.bD [.own 100,.e (.i .i64) a0],[(100,.row 3 (.i .i64) a1 true)])
def a1d(a0:Int):aE:=(.bD [.cC,.e (.i .i64) a0],[])
def IQ(N:Nat):Cx:=⟨Tryz.prog,25,[(29,Hd N),(35,Vj N),(34,Vl N)],[]⟩
def aI5:Code:=Tryz.f12.body.getD .skip
theorem a1h N:aF (IQ N):=bY (by kernel_rfl) (.cons (by kernel_rfl) (O0 N) (.cons (by kernel_rfl) (aG9 N) (.cons (by kernel_rfl) (aGg N) .nil))) .nil
def XF[aA](N:Nat)(e0_0 e0_1:Int)(e0_2:(List Ex)):O:=
  let b0:=Ex.mk (Ex.mk e0_0 e0_1 e0_2).op (Ex.mk e0_0 e0_1 e0_2).num (Ex.mk e0_0 e0_1 e0_2).kids
  ck (uD N b0.op b0.num b0.kids)<|
  br (decide (qG N b0.op b0.num b0.kids≠(0:Int)))
    (some (a1d (qG N b0.op b0.num b0.kids)))
    (ck (H8 N b0.op b0.num b0.kids)<|
    ck (BA N (Az N b0.op b0.num b0.kids))<|
    some (Pd 0 (OT N (Az N b0.op b0.num b0.kids))))
def w12[aA] N e0_0 e0_1 e0_2:=XF N e0_0 e0_1 e0_2
def aI4[aA](_:Nat):Hint:=.d
theorem a1f N:bJ (IQ N) Tryz.f12.ntmps (aI4 N) aI5:=bO _ _ trivial
theorem a1e[aA] N e0_0 e0_1 e0_2:XF N e0_0 e0_1 e0_2=exec (IQ N) Tryz.f12.ntmps (aI4 N) aI5 ⟨bU 0 [.agg [.e (.i .i64) e0_0,.e (.i .i64) e0_1,.e (.sl .ex) e0_2]],[],100⟩ (bX (IQ N) Tryz.f12 true):=by kernel_rfl
def XD(r:aE):Option (Int×(List Int)):=match r with
  |(.bD [.own 100,x0],[(100,x1)])=>(match ue (.i .i64) x0,ur 3 (.i .i64) true x1 with|some a0,some a1=>some (a0,a1)|_,_=>none)
  |_=>none
theorem a1c{r d}(h:XD r=some d):r=Pd d.1 d.2:=by
  unfold XD at h;split at h
  . split at h
    . rename_i h0 h1;cases h;rw[aH h0,jF h1];rfl
    . cases h
  . cases h
def EZ N e0_0 e0_1 e0_2:=(w12 N e0_0 e0_1 e0_2).bind XD
theorem a1g{N}(hc:aF (IQ N)){e0_0 e0_1 e0_2 d}(hd:EZ N e0_0 e0_1 e0_2=some d):cB Tryz.prog 12 [.agg [.e (.i .i64) e0_0,.e (.i .i64) e0_1,.e (.sl .ex) e0_2]] [] (Pd d.1 d.2):=
  cD hc (by kernel_rfl) (by kernel_rfl) (a1f N) (by kernel_rfl) a1c (a1e N e0_0 e0_1 e0_2).symm.trans hd
def Pe N e0_0 e0_1 e0_2:=(EZ N e0_0 e0_1 e0_2).isSome
def a1b N e0_0 e0_1 e0_2:=((EZ N e0_0 e0_1 e0_2).getD (0,[])).1
def Pc N e0_0 e0_1 e0_2:=((EZ N e0_0 e0_1 e0_2).getD (0,[])).2
def XE(N:Nat):bK:=E1 .ex (λx0=>(Pe N (Ex.op x0) (Ex.num x0) (Ex.kids x0),Pd (a1b N (Ex.op x0) (Ex.num x0) (Ex.kids x0)) (Pc N (Ex.op x0) (Ex.num x0) (Ex.kids x0))))
theorem aI3 N:aM Tryz.prog 12 (XE N):=aM.e1 (λ_ h=>cY h (a1g (a1h N)) rfl)
def NI(a0:Bool)(a1:Int)(a2:(List Int))(a3:Int)(a4:aS)(a5:(List aS)):aE:=(.e .bo a0,[(50,.box 3 [.e (.i .i64) a1]),(51,.box 22 [.e (.sl (.i .i64)) a2]),(52,.box 3 [.e (.i .i64) a3]),(53,.box 47 [.own 100]),(54,.box 28 [.e (.sl .u8) a4]),(100,.row 28 (.sl .u8) a5 true)])
def o7(_:Nat):Cx:=⟨Tryz.prog,25,[],[]⟩
def NL:Code:=Tryz.f47.body.getD .skip
theorem aVg N:aF (o7 N):=bY (by kernel_rfl) .nil .nil
def VC[aA](_:Nat)(k0:Int->(List Int)->Int->aS->(List aS)->aS->O)(x0_0:Int)(x0_1:(List Int))(x0_2:Int)(x0_3:aS)(x0_4:(List aS)):O:=
  br (decide (0<x0_0))
    (ck true <|
    ck true <|
    k0 x0_0 x0_1 x0_2 x0_3 x0_4 [(0:UInt8),(0:UInt8)])
    (k0 x0_0 x0_1 x0_2 x0_3 x0_4 [])
def VA:Code:=cK [1,1,0] NL
def aVa:Nm:=⟨[0,1,2,3,4,6],[],[]⟩
def D6(x:Int×(List Int)×Int×aS×(List aS)):Sg:=⟨[(0,.ref 50 0),(1,.ref 51 0),(2,.ref 52 0),(3,.ref 53 0),(4,.ref 54 0),(6,.cC)],[(50,.box 3 [.e (.i .i64) x.1]),(51,.box 22 [.e (.sl (.i .i64)) x.2.1]),(52,.box 3 [.e (.i .i64) x.2.2.1]),(53,.box 47 [.own 55]),(54,.box 28 [.e (.sl .u8) x.2.2.2.1]),(55,.row 28 (.sl .u8) x.2.2.2.2 true)],100⟩
def NH(σ:Sg):Int×(List Int)×Int×aS×(List aS):=(aL (.i .i64) 50 0 σ,aL (.sl (.i .i64)) 51 0 σ,aL (.i .i64) 52 0 σ,aL (.sl .u8) 54 0 σ,dA (.sl .u8) 55 σ)
theorem aV5:∀x,NH (D6 x)=x:=λ_=>by kernel_rfl
def NN(y:Int×(List Int)×Int×aS×(List aS)×aS):Exit×Sg:=(.normal,⟨[(0,.ref 50 0),(1,.ref 51 0),(2,.ref 52 0),(3,.ref 53 0),(4,.ref 54 0),(6,.own 0)],[(50,.box 3 [.e (.i .i64) y.1]),(51,.box 22 [.e (.sl (.i .i64)) y.2.1]),(52,.box 3 [.e (.i .i64) y.2.2.1]),(53,.box 47 [.own 55]),(54,.box 28 [.e (.sl .u8) y.2.2.2.1]),(55,.row 28 (.sl .u8) y.2.2.2.2.1 true),(0,.row 5 .u8 y.2.2.2.2.2 false)],100⟩)
def aV2(_:Exit)(σ:Sg):Int×(List Int)×Int×aS×(List aS)×aS:=(aL (.i .i64) 50 0 σ,aL (.sl (.i .i64)) 51 0 σ,aL (.i .i64) 52 0 σ,aL (.sl .u8) 54 0 σ,dA (.sl .u8) 55 σ,dA .u8 0 σ)
def aV0:List (Exit×Nm):=[(.normal,⟨[0,1,2,3,4,6],[],[.qP 6 (.row 5 .u8 [] false)]⟩)]
def HI[aA](N:Nat)(_:Nat)(x:Int×(List Int)×Int×aS×(List aS))(k0:(Int×(List Int)×Int×aS×(List aS)×aS)->O)(_:(Unit)->O)(_:(Unit)->O):O:=VC N (λy0 y1 y2 y3 y4 y5=>k0 (y0,y1,y2,y3,y4,y5)) x.1 x.2.1 x.2.2.1 x.2.2.2.1 x.2.2.2.2
def NK[aA] N a0 a1 a2 a3 a4 (k0:Int->(List Int)->Int->aS->(List aS)->aS->O):=HI N N (a0,a1,a2,a3,a4) (λy=>k0 y.1 y.2.1 y.2.2.1 y.2.2.2.1 y.2.2.2.2.1 y.2.2.2.2.2) (λ_=>none) (λ_=>none)
def aFY[aA] N a0 a1 a2 a3 a4 (k0:Int->(List Int)->Int->aS->(List aS)->aS->O):=aY D6 NH (HI N N) (D6 (a0,a1,a2,a3,a4)) (λy=>k0 y.1 y.2.1 y.2.2.1 y.2.2.2.1 y.2.2.2.2.1 y.2.2.2.2.2) (λ_=>none) (λ_=>none)
theorem aVf[aA] N:aFY N=NK N:=funext λ_=>funext λ_=>funext λ_=>funext λ_=>funext λ_=>funext λ_=>cW aV5 _ _ _ _
theorem aV7[aA](N:Nat)(K:Exit->Sg->O)(x:Int×(List Int)×Int×aS×(List aS)):VC N (λy0 y1 y2 y3 y4 y5=>K (NN (y0,y1,y2,y3,y4,y5)).1 (NN (y0,y1,y2,y3,y4,y5)).2) x.1 x.2.1 x.2.2.1 x.2.2.2.1 x.2.2.2.2=exec (o7 N) Tryz.f47.ntmps .d VA (D6 x) (hY aV0 K):=by kernel_rfl
theorem aVj N (hc:aF (o7 N)):cN (o7 N) Tryz.f47.ntmps VA NN (aW 1) (aW 2) (aY D6 NH (HI N N)):=
  iV hc (cO VA) (eZ aV2 .normal (λ_=>by kernel_rfl) (λ_=>rfl) (by kernel_rfl)) (λx K=>by
    exact aV7 N K x)
def D7[aA](_:Nat)(self:Int->Int->O)(k0:Int->Int->(List Int)->Int->aS->(List aS)->aS->O)(x7_1:(List Int))(x7_2 x7_4:Int)(x7_5:(List Int))(x7_6:Int)(x7_7:aS)(x7_8:(List aS))(x7_9:aS)(x7_0 x7_3:Int):O:=
  br (decide (x7_3<x7_2))
    (gx x7_1 x7_3 λy10=>
    br (decide (x7_4<y10)&&decide (aC.wrap (aC.wrap ((↑x7_9.length:Int)+y10)-x7_4)<=x7_6))
      (self y10 (aC.wrap (x7_3+1)))
      (self x7_0 (aC.wrap (x7_3+1))))
    (k0 x7_0 x7_4 x7_5 x7_6 x7_7 x7_8 x7_9)
def Uz:Code:=cK [1,1,1,1,0,1,0,0] NL
def aFZ:Nm:=⟨[0,2,3,4,6,7,14,15,16],[],[]⟩
def Aj(x:Int×(List Int)×Int×Int×Int×(List Int)×Int×aS×(List aS)×aS):Sg:=⟨[(0,.ref 50 0),(2,.ref 52 0),(3,.ref 53 0),(4,.ref 54 0),(6,.own 0),(7,.e (.i .i64) x.1),(14,.e (.sl (.i .i64)) x.2.1),(15,.e (.i .i64) x.2.2.1),(16,.e (.i .i64) x.2.2.2.1)],[(50,.box 3 [.e (.i .i64) x.2.2.2.2.1]),(51,.box 22 [.e (.sl (.i .i64)) x.2.2.2.2.2.1]),(52,.box 3 [.e (.i .i64) x.2.2.2.2.2.2.1]),(53,.box 47 [.own 55]),(54,.box 28 [.e (.sl .u8) x.2.2.2.2.2.2.2.1]),(55,.row 28 (.sl .u8) x.2.2.2.2.2.2.2.2.1 true),(0,.row 5 .u8 x.2.2.2.2.2.2.2.2.2 false)],100⟩
def NG(σ:Sg):Int×(List Int)×Int×Int×Int×(List Int)×Int×aS×(List aS)×aS:=(aO (.i .i64) 7 0 σ,aO (.sl (.i .i64)) 14 0 σ,aO (.i .i64) 15 0 σ,aO (.i .i64) 16 0 σ,aL (.i .i64) 50 0 σ,aL (.sl (.i .i64)) 51 0 σ,aL (.i .i64) 52 0 σ,aL (.sl .u8) 54 0 σ,dA (.sl .u8) 55 σ,dA .u8 0 σ)
theorem aV4:∀x,NG (Aj x)=x:=λ_=>by kernel_rfl
def NM(y:Int×Int×(List Int)×Int×aS×(List aS)×aS):Exit×Sg:=((.exit 0),⟨[(0,.ref 50 0),(3,.ref 53 0),(4,.ref 54 0),(6,.own 0),(7,.e (.i .i64) y.1)],[(50,.box 3 [.e (.i .i64) y.2.1]),(51,.box 22 [.e (.sl (.i .i64)) y.2.2.1]),(52,.box 3 [.e (.i .i64) y.2.2.2.1]),(53,.box 47 [.own 55]),(54,.box 28 [.e (.sl .u8) y.2.2.2.2.1]),(55,.row 28 (.sl .u8) y.2.2.2.2.2.1 true),(0,.row 5 .u8 y.2.2.2.2.2.2 false)],100⟩)
def aV1(_:Exit)(σ:Sg):Int×Int×(List Int)×Int×aS×(List aS)×aS:=(aO (.i .i64) 7 0 σ,aL (.i .i64) 50 0 σ,aL (.sl (.i .i64)) 51 0 σ,aL (.i .i64) 52 0 σ,aL (.sl .u8) 54 0 σ,dA (.sl .u8) 55 σ,dA .u8 0 σ)
def aVZ:List (Exit×Nm):=[((.exit 0),⟨[0,3,4,6,7],[],[]⟩)]
def Ai[aA](N:Nat):Nat->(Int×(List Int)×Int×Int×Int×(List Int)×Int×aS×(List aS)×aS)->((Int×Int×(List Int)×Int×aS×(List aS)×aS)->O)->((Unit)->O)->((Unit)->O)->O
  |0,_,_,_,_=>none
  |n+1,x,k0,k1,k2=>D7 N (λv0 v1=>Ai N n (v0,x.2.1,x.2.2.1,v1,x.2.2.2.2.1,x.2.2.2.2.2.1,x.2.2.2.2.2.2.1,x.2.2.2.2.2.2.2.1,x.2.2.2.2.2.2.2.2.1,x.2.2.2.2.2.2.2.2.2) k0 k1 k2) (λy0 y1 y2 y3 y4 y5 y6=>k0 (y0,y1,y2,y3,y4,y5,y6)) x.2.1 x.2.2.1 x.2.2.2.2.1 x.2.2.2.2.2.1 x.2.2.2.2.2.2.1 x.2.2.2.2.2.2.2.1 x.2.2.2.2.2.2.2.2.1 x.2.2.2.2.2.2.2.2.2 x.1 x.2.2.2.1
def Ux[aA] N a0 a1 a2 a3 a4 a5 a6 a7 a8 a9 (k0:Int->Int->(List Int)->Int->aS->(List aS)->aS->O):=Ai N N (a0,a1,a2,a3,a4,a5,a6,a7,a8,a9) (λy=>k0 y.1 y.2.1 y.2.2.1 y.2.2.2.1 y.2.2.2.2.1 y.2.2.2.2.2.1 y.2.2.2.2.2.2) (λ_=>none) (λ_=>none)
def aFX[aA] N a0 a1 a2 a3 a4 a5 a6 a7 a8 a9 (k0:Int->Int->(List Int)->Int->aS->(List aS)->aS->O):=aY Aj NG (Ai N N) (Aj (a0,a1,a2,a3,a4,a5,a6,a7,a8,a9)) (λy=>k0 y.1 y.2.1 y.2.2.1 y.2.2.2.1 y.2.2.2.2.1 y.2.2.2.2.2.1 y.2.2.2.2.2.2) (λ_=>none) (λ_=>none)
theorem aVe[aA] N:aFX N=Ux N:=funext λ_=>funext λ_=>funext λ_=>funext λ_=>funext λ_=>funext λ_=>funext λ_=>funext λ_=>funext λ_=>funext λ_=>funext λ_=>cW aV4 _ _ _ _
theorem aV6[aA](N:Nat)(self:Sg->O)(K:Exit->Sg->O)(x:Int×(List Int)×Int×Int×Int×(List Int)×Int×aS×(List aS)×aS):D7 N (λv0 v1=>self (Aj (v0,x.2.1,x.2.2.1,v1,x.2.2.2.2.1,x.2.2.2.2.2.1,x.2.2.2.2.2.2.1,x.2.2.2.2.2.2.2.1,x.2.2.2.2.2.2.2.2.1,x.2.2.2.2.2.2.2.2.2))) (λy0 y1 y2 y3 y4 y5 y6=>K (NM (y0,y1,y2,y3,y4,y5,y6)).1 (NM (y0,y1,y2,y3,y4,y5,y6)).2) x.2.1 x.2.2.1 x.2.2.2.2.1 x.2.2.2.2.2.1 x.2.2.2.2.2.2.1 x.2.2.2.2.2.2.2.1 x.2.2.2.2.2.2.2.2.1 x.2.2.2.2.2.2.2.2.2 x.1 x.2.2.2.1=exec (o7 N) Tryz.f47.ntmps .d Uz (Aj x) (eN aFZ aVZ self K):=by kernel_rfl
theorem aVi N (hc:aF (o7 N)):cN (o7 N) Tryz.f47.ntmps (.loop Uz) NM (aW 1) (aW 2) (aY Aj NG (Ai N N)):=
  eV hc (cO Uz) (eZ aV1 (.exit 0) (λ_=>by kernel_rfl) (λ_=>rfl) (by kernel_rfl)) (n:=N) (λx K=>eW (Ai N) (λ_ _ _ _=>rfl) (λn K ih x=>by
    refine fK ?_ (aV6 N _ K x);simp only[<-ih];rfl) N x K)
def VB[aA](_:Nat)(in0:Int->(List Int)->Int->aS->(List aS)->(Int->(List Int)->Int->aS->(List aS)->aS->O)->O)(in1:Int->(List Int)->Int->Int->Int->(List Int)->Int->aS->(List aS)->aS->(Int->Int->(List Int)->Int->aS->(List aS)->aS->O)->O)(h50_0:Int)(h51_0:(List Int))(h52_0:Int)(h54_0:aS)(h55_0:(List aS)):O:=
  in0 h50_0 h51_0 h52_0 h54_0 h55_0
    (λz1 z2 z3 z4 z5 z6=>
      in1 z1 z2 ((↑z2.length:Int)) 0 z1 z2 z3 z4 z5 z6
        (λz11 z12 z13 z14 z15 z16 z17=>
          ck (dX z15.length (some z12) (some z11))<|
          ck (cF (z17++c8 z15 (some z12) (some z11)).length (1:Nat))<|
          ck (cF (z16++[z17++c8 z15 (some z12) (some z11)]).length (24:Nat))<|
          some (NI (decide (z12<z11)) z11 z13 z14 z15 (z16++[z17++c8 z15 (some z12) (some z11)]))))
def w47[aA] N h50_0 h51_0 h52_0 h54_0 h55_0:=VB N (NK N) (Ux N) h50_0 h51_0 h52_0 h54_0 h55_0
def aF0[aA](N:Nat):Hint:=(.seq .d (.seq .d (.seq (.sub aVa _ _ _ NN (aW 1) (aW 2) (aY D6 NH (HI N N))) (.seq .d (.seq (.seq .d (.block (.sub aFZ _ _ _ NM (aW 1) (aW 2) (aY Aj NG (Ai N N))))) (.seq (.gI [] [.QU 6] [[],[],[],[],[],[],[148,0],[],[164,55],[53]]) .d))))))
theorem aVc N (hc:aF (o7 N)):bJ (o7 N) Tryz.f47.ntmps (aF0 N) NL:=bO _ _ (aG trivial (aG trivial (aG (aVj N hc) (aG trivial (aG (aG trivial (aVi N hc)) (aG trivial trivial))))))
theorem aV8[aA] N h50_0 h51_0 h52_0 h54_0 h55_0:VB N (aFY N) (aFX N) h50_0 h51_0 h52_0 h54_0 h55_0=exec (o7 N) Tryz.f47.ntmps (aF0 N) NL ⟨bU 0 [.ref 50 0,.ref 51 0,.ref 52 0,.ref 53 0,.ref 54 0],[(50,.box 3 [.e (.i .i64) h50_0]),(51,.box 22 [.e (.sl (.i .i64)) h51_0]),(52,.box 3 [.e (.i .i64) h52_0]),(53,.box 47 [.own 55]),(54,.box 28 [.e (.sl .u8) h54_0]),(55,.row 28 (.sl .u8) h55_0 true)],100⟩ (bX (o7 N) Tryz.f47 true):=by kernel_rfl
def NF(r:aE):Option (Bool×Int×(List Int)×Int×aS×(List aS)):=match r with
  |(x0,[(50,.box 3 [x1]),(51,.box 22 [x2]),(52,.box 3 [x3]),(53,.box 47 [.own 100]),(54,.box 28 [x4]),(100,x5)])=>(match ue .bo x0,ue (.i .i64) x1,ue (.sl (.i .i64)) x2,ue (.i .i64) x3,ue (.sl .u8) x4,ur 28 (.sl .u8) true x5 with|some a0,some a1,some a2,some a3,some a4,some a5=>some (a0,a1,a2,a3,a4,a5)|_,_,_,_,_,_=>none)
  |_=>none
theorem aV3{r d}(h:NF r=some d):r=NI d.1 d.2.1 d.2.2.1 d.2.2.2.1 d.2.2.2.2.1 d.2.2.2.2.2:=by
  unfold NF at h;split at h
  . split at h
    . rename_i h0 h1 h2 h3 h4 h5;cases h;rw[aH h0,aH h1,aH h2,aH h3,aH h4,jF h5];rfl
    . cases h
  . cases h
def qF N h50_0 h51_0 h52_0 h54_0 h55_0:=(w47 N h50_0 h51_0 h52_0 h54_0 h55_0).bind NF
theorem aVd{N}(hc:aF (o7 N)){h50_0 h51_0 h52_0 h54_0 h55_0 d}(hd:qF N h50_0 h51_0 h52_0 h54_0 h55_0=some d):cB Tryz.prog 47 [.ref 50 0,.ref 51 0,.ref 52 0,.ref 53 0,.ref 54 0] [(50,.box 3 [.e (.i .i64) h50_0]),(51,.box 22 [.e (.sl (.i .i64)) h51_0]),(52,.box 3 [.e (.i .i64) h52_0]),(53,.box 47 [.own 55]),(54,.box 28 [.e (.sl .u8) h54_0]),(55,.row 28 (.sl .u8) h55_0 true)] (NI d.1 d.2.1 d.2.2.1 d.2.2.2.1 d.2.2.2.2.1 d.2.2.2.2.2):=
  cD hc (by kernel_rfl) (by kernel_rfl) (aVc N hc) (by kernel_rfl) aV3 (λhr=>(aV8 N h50_0 h51_0 h52_0 h54_0 h55_0).symm.trans (by rw[aVf N,aVe N];exact hr)) hd
def NJ N h50_0 h51_0 h52_0 h54_0 h55_0:=(qF N h50_0 h51_0 h52_0 h54_0 h55_0).isSome
def ND N h50_0 h51_0 h52_0 h54_0 h55_0:=((qF N h50_0 h51_0 h52_0 h54_0 h55_0).getD (false,0,[],0,[],[])).1
def NB N h50_0 h51_0 h52_0 h54_0 h55_0:=((qF N h50_0 h51_0 h52_0 h54_0 h55_0).getD (false,0,[],0,[],[])).2.1
def NA N h50_0 h51_0 h52_0 h54_0 h55_0:=((qF N h50_0 h51_0 h52_0 h54_0 h55_0).getD (false,0,[],0,[],[])).2.2.1
def Mz N h50_0 h51_0 h52_0 h54_0 h55_0:=((qF N h50_0 h51_0 h52_0 h54_0 h55_0).getD (false,0,[],0,[],[])).2.2.2.1
def My N h50_0 h51_0 h52_0 h54_0 h55_0:=((qF N h50_0 h51_0 h52_0 h54_0 h55_0).getD (false,0,[],0,[],[])).2.2.2.2.1
def Mx N h50_0 h51_0 h52_0 h54_0 h55_0:=((qF N h50_0 h51_0 h52_0 h54_0 h55_0).getD (false,0,[],0,[],[])).2.2.2.2.2
def Uy(xs:List X)(H:XH):Option (Int×(List Int)×Int×aS×(List aS)):=match xs,H with
  |[.ref 50 0,.ref 51 0,.ref 52 0,.ref 53 0,.ref 54 0],[(50,.box 3 [x0]),(51,.box 22 [x1]),(52,.box 3 [x2]),(53,.box 47 [.own 55]),(54,.box 28 [x3]),(55,x4)]=>(match ue (.i .i64) x0,ue (.sl (.i .i64)) x1,ue (.i .i64) x2,ue (.sl .u8) x3,ur 28 (.sl .u8) true x4 with|some a0,some a1,some a2,some a3,some a4=>some (a0,a1,a2,a3,a4)|_,_,_,_,_=>none)
  |_,_=>none
theorem aVb{xs H d}(h:Uy xs H=some d):xs=[.ref 50 0,.ref 51 0,.ref 52 0,.ref 53 0,.ref 54 0]/\H=[(50,.box 3 [.e (.i .i64) d.1]),(51,.box 22 [.e (.sl (.i .i64)) d.2.1]),(52,.box 3 [.e (.i .i64) d.2.2.1]),(53,.box 47 [.own 55]),(54,.box 28 [.e (.sl .u8) d.2.2.2.1]),(55,.row 28 (.sl .u8) d.2.2.2.2 true)]:=by
  unfold Uy at h;split at h
  . split at h
    . rename_i h0 h1 h2 h3 h4;cases h;rw[aH h0,aH h1,aH h2,aH h3,jF h4];exact⟨rfl,rfl⟩
    . cases h
  . cases h
def aF1(N:Nat):bK:=fD Uy (λd=>NJ N d.1 d.2.1 d.2.2.1 d.2.2.2.1 d.2.2.2.2) (λd=>NI (ND N d.1 d.2.1 d.2.2.1 d.2.2.2.1 d.2.2.2.2) (NB N d.1 d.2.1 d.2.2.1 d.2.2.2.1 d.2.2.2.2) (NA N d.1 d.2.1 d.2.2.1 d.2.2.2.1 d.2.2.2.2) (Mz N d.1 d.2.1 d.2.2.1 d.2.2.2.1 d.2.2.2.2) (My N d.1 d.2.1 d.2.2.1 d.2.2.2.1 d.2.2.2.2) (Mx N d.1 d.2.1 d.2.2.1 d.2.2.2.1 d.2.2.2.2))
theorem aV9 N:aM Tryz.prog 47 (aF1 N):=eO aVb (λd h=>cY (z:=qF N d.1 d.2.1 d.2.2.1 d.2.2.2.1 d.2.2.2.2) h (aVd (aVg N)) rfl)
def BQ(a0:(List aS))(a1:Int):aE:=(.bD [.e (.sl (.sl .u8)) a0,.e (.i .i64) a1],[])
def uJ(N:Nat):Cx:=⟨Tryz.prog,25,[(47,aF1 N),(10,I9 N),(12,XE N)],[]⟩
def WZ:Code:=Tryz.f24.body.getD .skip
theorem a0A N:aF (uJ N):=bY (by kernel_rfl) (.cons (by kernel_rfl) (aV9 N) (.cons (by kernel_rfl) (Ps N) (.cons (by kernel_rfl) (aI3 N) .nil))) .nil
def EJ[aA](N:Nat)(self:aS->Int->(List Int)->Int->(List aS)->O)(k0:Int->O)(k1:(List aS)->O)(x0_0:aS)(x0_1:Int)(x0_2:(List Int))(x0_3:Int)(x0_4:(List aS)):O:=
  br (decide (x0_1<(↑x0_0.length:Int)))
    (ck (NJ N x0_1 x0_2 x0_3 x0_0 x0_4)<|
    br (!ND N x0_1 x0_2 x0_3 x0_0 x0_4)
      (k0 14)
      (self (My N x0_1 x0_2 x0_3 x0_0 x0_4) (NB N x0_1 x0_2 x0_3 x0_0 x0_4) (NA N x0_1 x0_2 x0_3 x0_0 x0_4) (Mz N x0_1 x0_2 x0_3 x0_0 x0_4) (Mx N x0_1 x0_2 x0_3 x0_0 x0_4)))
    (k1 x0_4)
def WY:Code:=cK [1,1,1,1,1,1,1,1,1,0,0,0] WZ
def aH8:Nm:=⟨[6,11,12,13],[],[]⟩
def BS(x:aS×Int×(List Int)×Int×(List aS)):Sg:=⟨[(6,.ref 0 0),(11,.ref 1 0),(12,.ref 2 0),(13,.fn 47 [.ref 2 0,.ref 3 0,.ref 4 0,.ref 1 0,.ref 0 0])],[(0,.box 28 [.e (.sl .u8) x.1]),(1,.box 47 [.own 5]),(2,.box 3 [.e (.i .i64) x.2.1]),(3,.box 22 [.e (.sl (.i .i64)) x.2.2.1]),(4,.box 3 [.e (.i .i64) x.2.2.2.1]),(5,.row 28 (.sl .u8) x.2.2.2.2 true)],100⟩
def PG(σ:Sg):aS×Int×(List Int)×Int×(List aS):=(aL (.sl .u8) 0 0 σ,aL (.i .i64) 2 0 σ,aL (.sl (.i .i64)) 3 0 σ,aL (.i .i64) 4 0 σ,dA (.sl .u8) 5 σ)
theorem aZu:∀x,PG (BS x)=x:=λ_=>by kernel_rfl
def PJ(y:Int):Exit×Sg:=(.ret,⟨[(4,.cC),(5,.e (.i .i64) y)],[],100⟩)
def aZs(_:Exit)(σ:Sg):Int:=aO (.i .i64) 5 0 σ
def PI(y:(List aS)):Exit×Sg:=((.exit 0),⟨[(11,.ref 0 0)],[(0,.box 47 [.own 1]),(1,.row 28 (.sl .u8) y true)],100⟩)
def aZr(_:Exit)(σ:Sg):(List aS):=dA (.sl .u8) 1 σ
def aZq:List (Exit×Nm):=[(.ret,⟨[4,5],[],[]⟩),((.exit 0),⟨[11],[],[]⟩)]
def BR[aA](N:Nat):Nat->(aS×Int×(List Int)×Int×(List aS))->((Int)->O)->(((List aS))->O)->((Unit)->O)->O
  |0,_,_,_,_=>none
  |n+1,x,k0,k1,k2=>EJ N (λv0 v1 v2 v3 v4=>BR N n (v0,v1,v2,v3,v4) k0 k1 k2) (λy0=>k0 y0) (λy0=>k1 y0) x.1 x.2.1 x.2.2.1 x.2.2.2.1 x.2.2.2.2
def WW[aA] N a0 a1 a2 a3 a4 (k0:Int->O) (k1:(List aS)->O):=BR N N (a0,a1,a2,a3,a4) (λy=>k0 y) (λy=>k1 y) (λ_=>none)
def aH6[aA] N a0 a1 a2 a3 a4 (k0:Int->O) (k1:(List aS)->O):=aY BS PG (BR N N) (BS (a0,a1,a2,a3,a4)) (λy=>k0 y) (λy=>k1 y) (λ_=>none)
theorem aZz[aA] N:aH6 N=WW N:=funext λ_=>funext λ_=>funext λ_=>funext λ_=>funext λ_=>funext λ_=>funext λ_=>cW aZu _ _ _ _
theorem aZv[aA](N:Nat)(self:Sg->O)(K:Exit->Sg->O)(x:aS×Int×(List Int)×Int×(List aS)):EJ N (λv0 v1 v2 v3 v4=>self (BS (v0,v1,v2,v3,v4))) (λy0=>K (PJ y0).1 (PJ y0).2) (λy0=>K (PI y0).1 (PI y0).2) x.1 x.2.1 x.2.2.1 x.2.2.2.1 x.2.2.2.2=exec (uJ N) Tryz.f24.ntmps .d WY (BS x) (eN aH8 aZq self K):=by kernel_rfl
theorem a0E N (hc:aF (uJ N)):cN (uJ N) Tryz.f24.ntmps (.loop WY) PJ PI (aW 2) (aY BS PG (BR N N)):=
  eV hc (cO WY) (iS aZs aZr .ret (.exit 0) (λ_=>by kernel_rfl) (λ_=>by kernel_rfl) (λ_=>rfl) (λ_=>rfl) (by kernel_rfl)) (n:=N) (λx K=>eW (BR N) (λ_ _ _ _=>rfl) (λn K ih x=>by
    refine fK ?_ (aZv N _ K x);simp only[<-ih];rfl) N x K)
def W3[aA](N:Nat)(in0:aS->Int->(List Int)->Int->(List aS)->(Int->O)->((List aS)->O)->O)(e0_0 e0_1:Int)(e0_2:(List Ex))(width1:Int):O:=
  let b0:=Ex.mk (Ex.mk e0_0 e0_1 e0_2).op (Ex.mk e0_0 e0_1 e0_2).num (Ex.mk e0_0 e0_1 e0_2).kids
  let b1:=Pc N b0.op b0.num b0.kids++[(↑(xO N b0.op b0.num b0.kids).length:Int)]
  ck (Ef N b0.op b0.num b0.kids)<|
  br (decide (Bc N b0.op b0.num b0.kids≠(0:Int)))
    (some (BQ [] (Bc N b0.op b0.num b0.kids)))
    (br (decide (width1<4)||decide (40<width1))
      (some (BQ [] 5))
      (ck (Pe N b0.op b0.num b0.kids)<|
      ck (cF b1.length (8:Nat))<|
      in0 (xO N b0.op b0.num b0.kids) 0 b1 width1 []
        (λz1=>
          some (BQ [] z1))
        (λz2=>
          some (BQ z2 0))))
def w24[aA] N e0_0 e0_1 e0_2 width1:=W3 N (WW N) e0_0 e0_1 e0_2 width1
def aH9[aA](N:Nat):Hint:=(.seq .d (.seq .d (.seq .d (.seq .d (.seq .d (.seq .d (.seq .d (.seq .d (.seq (.gI [] [.cv 10 0 (.sl (.i .i64)),.Qr 11 0 (.row 28 (.sl .u8) [] true)] []) (.seq (.block (.sub aH8 _ _ _ PJ PI (aW 2) (aY BS PG (BR N N)))) .d))))))))))
theorem aZx N (hc:aF (uJ N)):bJ (uJ N) Tryz.f24.ntmps (aH9 N) WZ:=bO _ _ (aG trivial (aG trivial (aG trivial (aG trivial (aG trivial (aG trivial (aG trivial (aG trivial (aG trivial (aG (a0E N hc) trivial))))))))))
theorem aZw[aA] N e0_0 e0_1 e0_2 width1:W3 N (aH6 N) e0_0 e0_1 e0_2 width1=exec (uJ N) Tryz.f24.ntmps (aH9 N) WZ ⟨bU 0 [.agg [.e (.i .i64) e0_0,.e (.i .i64) e0_1,.e (.sl .ex) e0_2],.e (.i .i64) width1],[],100⟩ (bX (uJ N) Tryz.f24 false):=by kernel_rfl
def PF(r:aE):Option ((List aS)×Int):=match r with
  |(.bD [x0,x1],[])=>(match ue (.sl (.sl .u8)) x0,ue (.i .i64) x1 with|some a0,some a1=>some (a0,a1)|_,_=>none)
  |_=>none
theorem aZt{r d}(h:PF r=some d):r=BQ d.1 d.2:=by
  unfold PF at h;split at h
  . split at h
    . rename_i h0 h1;cases h;rw[aH h0,aH h1];rfl
    . cases h
  . cases h
def EI N e0_0 e0_1 e0_2 width1:=(w24 N e0_0 e0_1 e0_2 width1).bind PF
theorem aZy{N}(hc:aF (uJ N)){e0_0 e0_1 e0_2 width1 d}(hd:EI N e0_0 e0_1 e0_2 width1=some d):cB Tryz.prog 24 [.agg [.e (.i .i64) e0_0,.e (.i .i64) e0_1,.e (.sl .ex) e0_2],.e (.i .i64) width1] [] (BQ d.1 d.2):=
  cD hc (by kernel_rfl) (by kernel_rfl) (aZx N hc) (by kernel_rfl) aZt (λhr=>(aZw N e0_0 e0_1 e0_2 width1).symm.trans (by rw[aZz N];exact hr)) hd
def PH N e0_0 e0_1 e0_2 width1:=(EI N e0_0 e0_1 e0_2 width1).isSome
def Hp N e0_0 e0_1 e0_2 width1:=((EI N e0_0 e0_1 e0_2 width1).getD ([],0)).1
def Ho N e0_0 e0_1 e0_2 width1:=((EI N e0_0 e0_1 e0_2 width1).getD ([],0)).2
def WX(N:Nat):bK:=E2 .ex (.i .i64) (λx0 x1=>(PH N (Ex.op x0) (Ex.num x0) (Ex.kids x0) x1,BQ (Hp N (Ex.op x0) (Ex.num x0) (Ex.kids x0) x1) (Ho N (Ex.op x0) (Ex.num x0) (Ex.kids x0) x1)))
theorem aH7 N:aM Tryz.prog 24 (WX N):=aM.e2 (λ_ _ h=>cY h (aZy (a0A N)) rfl)
def LW(a0:aS):aE:=(.v Value.nilIface,[(50,.box 91 [.via 50 0,.own 100]),(100,.row 5 .u8 a0 true)])
def GZ(N:Nat):Cx:=⟨Tryz.prog,25,[(96,aB3 N)],[]⟩
def aDJ:Code:=Tryz.f73.body.getD .skip
theorem aRL N:aF (GZ N):=bY (by kernel_rfl) (.cons (by kernel_rfl) (aNh N) .nil) .nil
def T0[aA](_:Nat)(c1:UInt8)(h51_0:aS):O:=
  ck true <|
  ck (cF (h51_0++[c1]).length (1:Nat))<|
  some (LW (h51_0++[c1]))
def w73[aA] N c1 h51_0:=T0 N c1 h51_0
def aDH[aA](_:Nat):Hint:=.d
theorem aRJ N:bJ (GZ N) Tryz.f73.ntmps (aDH N) aDJ:=bO _ _ trivial
theorem aRG[aA] N c1 h51_0:T0 N c1 h51_0=exec (GZ N) Tryz.f73.ntmps (aDH N) aDJ ⟨bU 0 [.ref 50 0,.e .u8 c1],[(50,.box 91 [.via 50 0,.own 51]),(51,.row 5 .u8 h51_0 true)],100⟩ (bX (GZ N) Tryz.f73 true):=by kernel_rfl
def TW(r:aE):Option (aS):=match r with
  |(.v Value.nilIface,[(50,.box 91 [.via 50 0,.own 100]),(100,x0)])=>(match ur 5 .u8 true x0 with|some a0=>some a0|_=>none)
  |_=>none
theorem aRF{r d}(h:TW r=some d):r=LW (d):=by
  unfold TW at h;split at h
  . split at h
    . rename_i h0;cases h;rw[jF h0];rfl
    . cases h
  . cases h
def Cy N c1 h51_0:=(w73 N c1 h51_0).bind TW
theorem aRK{N}(hc:aF (GZ N)){c1 h51_0 d}(hd:Cy N c1 h51_0=some d):cB Tryz.prog 73 [.ref 50 0,.e .u8 c1] [(50,.box 91 [.via 50 0,.own 51]),(51,.row 5 .u8 h51_0 true)] (LW (d)):=
  cD hc (by kernel_rfl) (by kernel_rfl) (aRJ N) (by kernel_rfl) aRF (aRG N c1 h51_0).symm.trans hd
def DA N c1 h51_0:=(Cy N c1 h51_0).isSome
def Cz N c1 h51_0:=((Cy N c1 h51_0).getD [])
def TX(xs:List X)(H:XH):Option (UInt8×aS):=match xs,H with
  |[.ref 50 0,x0],[(50,.box 91 [.via 50 0,.own 51]),(51,x1)]=>(match ue .u8 x0,ur 5 .u8 true x1 with|some a0,some a1=>some (a0,a1)|_,_=>none)
  |_,_=>none
theorem aRI{xs H d}(h:TX xs H=some d):xs=[.ref 50 0,.e .u8 d.1]/\H=[(50,.box 91 [.via 50 0,.own 51]),(51,.row 5 .u8 d.2 true)]:=by
  unfold TX at h;split at h
  . split at h
    . rename_i h0 h1;cases h;rw[aH h0,jF h1];exact⟨rfl,rfl⟩
    . cases h
  . cases h
def aDI(N:Nat):bK:=fD TX (λd=>DA N d.1 d.2) (λd=>LW (Cz N d.1 d.2))
theorem aRH N:aM Tryz.prog 73 (aDI N):=eO aRI (λd h=>cY (z:=Cy N d.1 d.2) h (aRK (aRL N)) rfl)
def LU(a0:aS):aE:=(.e .tx a0,[])
def GY(_:Nat):Cx:=⟨Tryz.prog,25,[],[]⟩
def aDE:Code:=Tryz.f74.body.getD .skip
theorem aRC N:aF (GY N):=bY (by kernel_rfl) .nil .nil
def TV[aA](_:Nat)(h51_0:aS):O:=
  ck (decide ((↑h51_0.length:Int)=(↑h51_0.length:Int)))<|
  some (LU h51_0)
def w74[aA] N h51_0:=TV N h51_0
def aDC[aA](_:Nat):Hint:=(.seq .d (.seq (.gI [] [] [[],[],[],[],[],[],[],[],[],[],[51],[]]) .d))
theorem aRA N:bJ (GY N) Tryz.f74.ntmps (aDC N) aDE:=bO _ _ (aG trivial (aG trivial trivial))
theorem aQx[aA] N h51_0:TV N h51_0=exec (GY N) Tryz.f74.ntmps (aDC N) aDE ⟨bU 0 [.ref 50 0],[(50,.box 91 [.via 50 0,.own 51]),(51,.row 5 .u8 h51_0 true)],100⟩ (bX (GY N) Tryz.f74 true):=by kernel_rfl
def TT(r:aE):Option (aS):=match r with
  |(x0,[])=>(match ue .tx x0 with|some a0=>some a0|_=>none)
  |_=>none
theorem aQw{r d}(h:TT r=some d):r=LU (d):=by
  unfold TT at h;split at h
  . split at h
    . rename_i h0;cases h;rw[aH h0];rfl
    . cases h
  . cases h
def Cw N h51_0:=(w74 N h51_0).bind TT
theorem aRB{N}(hc:aF (GY N)){h51_0 d}(hd:Cw N h51_0=some d):cB Tryz.prog 74 [.ref 50 0] [(50,.box 91 [.via 50 0,.own 51]),(51,.row 5 .u8 h51_0 true)] (LU (d)):=
  cD hc (by kernel_rfl) (by kernel_rfl) (aRA N) (by kernel_rfl) aQw (aQx N h51_0).symm.trans hd
def LV N h51_0:=(Cw N h51_0).isSome
def LS N h51_0:=((Cw N h51_0).getD [])
def TU(xs:List X)(H:XH):Option (aS):=match xs,H with
  |[.ref 50 0],[(50,.box 91 [.via 50 0,.own 51]),(51,x0)]=>(match ur 5 .u8 true x0 with|some a0=>some a0|_=>none)
  |_,_=>none
theorem aQz{xs H d}(h:TU xs H=some d):xs=[.ref 50 0]/\H=[(50,.box 91 [.via 50 0,.own 51]),(51,.row 5 .u8 (d) true)]:=by
  unfold TU at h;split at h
  . split at h
    . rename_i h0;cases h;rw[jF h0];exact⟨rfl,rfl⟩
    . cases h
  . cases h
def aDD(N:Nat):bK:=fD TU (λd=>LV N (d)) (λd=>LU (LS N (d)))
theorem aQy N:aM Tryz.prog 74 (aDD N):=eO aQz (λd h=>cY (z:=Cw N (d)) h (aRB (aRC N)) rfl)
def HS(a0:aS)(a1:Bool):aE:=(.bD [.e .tx a0,.e .bo a1],[])
def uB(N:Nat):Cx:=⟨Tryz.prog,25,[(40,V5 N),(73,aDI N),(74,aDD N)],[]⟩
def V1:Code:=Tryz.f41.body.getD .skip
theorem aXL N:aF (uB N):=bY (by kernel_rfl) (.cons (by kernel_rfl) (aGK N) (.cons (by kernel_rfl) (aRH N) (.cons (by kernel_rfl) (aQy N) .nil))) .nil
def Dj[aA](N:Nat)(self:Bool->Int->aS->O)(k0:aS->Bool->O)(k1:aS->O)(x0_0:aS)(x0_1:Bool)(x0_2:Int)(x0_3:aS):O:=
  let b0:=aC.wrap (x0_2+1)
  br (decide (x0_2<(↑x0_0.length:Int)))
    (gx x0_0 x0_2 λy7=>
    ck (Dk N [(26:UInt8),(1:UInt8),(3:UInt8),(9:UInt8),(25:UInt8),(17:UInt8),(11:UInt8),(27:UInt8),(19:UInt8),(10:UInt8)] y7)<|
    br (x0_1&&decide ((0:Int)<=lO N [(26:UInt8),(1:UInt8),(3:UInt8),(9:UInt8),(25:UInt8),(17:UInt8),(11:UInt8),(27:UInt8),(19:UInt8),(10:UInt8)] y7))
      (ck (DA N (eD (aC.wrap ((48:Int)+lO N [(26:UInt8),(1:UInt8),(3:UInt8),(9:UInt8),(25:UInt8),(17:UInt8),(11:UInt8),(27:UInt8),(19:UInt8),(10:UInt8)] y7))) x0_3)<|
      self x0_1 b0 (Cz N (eD (aC.wrap ((48:Int)+lO N [(26:UInt8),(1:UInt8),(3:UInt8),(9:UInt8),(25:UInt8),(17:UInt8),(11:UInt8),(27:UInt8),(19:UInt8),(10:UInt8)] y7))) x0_3))
      (br (decide (y7=60))
        (self (decide (y7=60)) b0 x0_3)
        (br (decide (y7=48))
          (br (decide ((↑x0_0.length:Int)<=aC.wrap (x0_2+1)))
            (k0 [] false)
            (gx x0_0 b0 λy8=>
            ck (Dk N [(1:UInt8),(3:UInt8),(9:UInt8),(25:UInt8),(17:UInt8),(11:UInt8),(27:UInt8),(19:UInt8),(10:UInt8),(26:UInt8),(5:UInt8),(7:UInt8),(13:UInt8),(29:UInt8),(21:UInt8),(15:UInt8),(31:UInt8),(23:UInt8),(14:UInt8),(30:UInt8),(37:UInt8),(39:UInt8),(58:UInt8),(45:UInt8),(61:UInt8),(53:UInt8)] y8)<|
            br (decide (lO N [(1:UInt8),(3:UInt8),(9:UInt8),(25:UInt8),(17:UInt8),(11:UInt8),(27:UInt8),(19:UInt8),(10:UInt8),(26:UInt8),(5:UInt8),(7:UInt8),(13:UInt8),(29:UInt8),(21:UInt8),(15:UInt8),(31:UInt8),(23:UInt8),(14:UInt8),(30:UInt8),(37:UInt8),(39:UInt8),(58:UInt8),(45:UInt8),(61:UInt8),(53:UInt8)] y8<(0:Int)))
              (k0 [] false)
              (ck (DA N (eD (aC.wrap ((97:Int)+lO N [(1:UInt8),(3:UInt8),(9:UInt8),(25:UInt8),(17:UInt8),(11:UInt8),(27:UInt8),(19:UInt8),(10:UInt8),(26:UInt8),(5:UInt8),(7:UInt8),(13:UInt8),(29:UInt8),(21:UInt8),(15:UInt8),(31:UInt8),(23:UInt8),(14:UInt8),(30:UInt8),(37:UInt8),(39:UInt8),(58:UInt8),(45:UInt8),(61:UInt8),(53:UInt8)] y8))) x0_3)<|
              self (decide (y7=60)) (aC.wrap (aC.wrap (x0_2+1)+(1:Int))) (Cz N (eD (aC.wrap ((97:Int)+lO N [(1:UInt8),(3:UInt8),(9:UInt8),(25:UInt8),(17:UInt8),(11:UInt8),(27:UInt8),(19:UInt8),(10:UInt8),(26:UInt8),(5:UInt8),(7:UInt8),(13:UInt8),(29:UInt8),(21:UInt8),(15:UInt8),(31:UInt8),(23:UInt8),(14:UInt8),(30:UInt8),(37:UInt8),(39:UInt8),(58:UInt8),(45:UInt8),(61:UInt8),(53:UInt8)] y8))) x0_3))))
          (ck (Dk N [(22:UInt8),(36:UInt8),(33:UInt8),(12:UInt8),(24:UInt8),(54:UInt8),(42:UInt8),(28:UInt8),(55:UInt8),(62:UInt8)] y7)<|
          br (decide (lO N [(22:UInt8),(36:UInt8),(33:UInt8),(12:UInt8),(24:UInt8),(54:UInt8),(42:UInt8),(28:UInt8),(55:UInt8),(62:UInt8)] y7<(0:Int)))
            (k0 [] false)
            (gx [(43:UInt8),(45:UInt8),(42:UInt8),(47:UInt8),(94:UInt8),(61:UInt8),(60:UInt8),(82:UInt8),(40:UInt8),(41:UInt8)] (lO N [(22:UInt8),(36:UInt8),(33:UInt8),(12:UInt8),(24:UInt8),(54:UInt8),(42:UInt8),(28:UInt8),(55:UInt8),(62:UInt8)] y7) λy9=>
            ck (DA N y9 x0_3)<|
            self (decide (y7=60)) b0 (Cz N y9 x0_3))))))
    (k1 x0_3)
def V0:Code:=cK [1,1,1,0,1,0,0] V1
def aGD:Nm:=⟨[0,4,5,6],[],[]⟩
def At(x:aS×Bool×Int×aS):Sg:=⟨[(0,.e (.sl .u8) x.1),(4,.ref 0 0),(5,.e .bo x.2.1),(6,.e (.i .i64) x.2.2.1)],[(0,.box 91 [.via 0 0,.own 1]),(1,.row 5 .u8 x.2.2.2 true)],100⟩
def Ns(σ:Sg):aS×Bool×Int×aS:=(aO (.sl .u8) 0 0 σ,aO .bo 5 0 σ,aO (.i .i64) 6 0 σ,dA .u8 1 σ)
theorem aXE:∀x,Ns (At x)=x:=λ_=>by kernel_rfl
def Nv(y:aS×Bool):Exit×Sg:=(.ret,⟨[(2,.e .tx y.1),(3,.e .bo y.2)],[],100⟩)
def aXC(_:Exit)(σ:Sg):aS×Bool:=(aO .tx 2 0 σ,aO .bo 3 0 σ)
def Nu(y:aS):Exit×Sg:=((.exit 0),⟨[(4,.ref 0 0)],[(0,.box 91 [.via 0 0,.own 1]),(1,.row 5 .u8 y true)],100⟩)
def aXB(_:Exit)(σ:Sg):aS:=dA .u8 1 σ
def aXA:List (Exit×Nm):=[(.ret,⟨[2,3],[],[]⟩),((.exit 0),⟨[4],[],[]⟩)]
def As[aA](N:Nat):Nat->(aS×Bool×Int×aS)->((aS×Bool)->O)->((aS)->O)->((Unit)->O)->O
  |0,_,_,_,_=>none
  |n+1,x,k0,k1,k2=>Dj N (λv0 v1 v2=>As N n (x.1,v0,v1,v2) k0 k1 k2) (λy0 y1=>k0 (y0,y1)) (λy0=>k1 y0) x.1 x.2.1 x.2.2.1 x.2.2.2
def VZ[aA] N a0 a1 a2 a3 (k0:aS->Bool->O) (k1:aS->O):=As N N (a0,a1,a2,a3) (λy=>k0 y.1 y.2) (λy=>k1 y) (λ_=>none)
def aGC[aA] N a0 a1 a2 a3 (k0:aS->Bool->O) (k1:aS->O):=aY At Ns (As N N) (At (a0,a1,a2,a3)) (λy=>k0 y.1 y.2) (λy=>k1 y) (λ_=>none)
theorem aXK[aA] N:aGC N=VZ N:=funext λ_=>funext λ_=>funext λ_=>funext λ_=>funext λ_=>funext λ_=>cW aXE _ _ _ _
theorem aXF[aA](N:Nat)(self:Sg->O)(K:Exit->Sg->O)(x:aS×Bool×Int×aS):Dj N (λv0 v1 v2=>self (At (x.1,v0,v1,v2))) (λy0 y1=>K (Nv (y0,y1)).1 (Nv (y0,y1)).2) (λy0=>K (Nu y0).1 (Nu y0).2) x.1 x.2.1 x.2.2.1 x.2.2.2=exec (uB N) Tryz.f41.ntmps .d V0 (At x) (eN aGD aXA self K):=by kernel_rfl
theorem aXM N (hc:aF (uB N)):cN (uB N) Tryz.f41.ntmps (.loop V0) Nv Nu (aW 2) (aY At Ns (As N N)):=
  eV hc (cO V0) (iS aXC aXB .ret (.exit 0) (λ_=>by kernel_rfl) (λ_=>by kernel_rfl) (λ_=>rfl) (λ_=>rfl) (by kernel_rfl)) (n:=N) (λx K=>eW (As N) (λ_ _ _ _=>rfl) (λn K ih x=>by
    refine fK ?_ (aXF N _ K x);simp only[<-ih];rfl) N x K)
def V4[aA](N:Nat)(in0:aS->Bool->Int->aS->(aS->Bool->O)->(aS->O)->O)(l0:aS):O:=
  in0 l0 false 0 []
    (λz10 z11=>
      some (HS z10 z11))
    (λz12=>
      ck (LV N z12)<|
      some (HS (LS N z12) true))
def w41[aA] N l0:=V4 N (VZ N) l0
def aGE[aA](N:Nat):Hint:=(.seq .d (.seq .d (.seq (.gI [] [.Qr 4 1 (.row 5 .u8 [] true)] []) (.seq (.seq .d (.block (.sub aGD _ _ _ Nv Nu (aW 2) (aY At Ns (As N N))))) .d))))
theorem aXI N (hc:aF (uB N)):bJ (uB N) Tryz.f41.ntmps (aGE N) V1:=bO _ _ (aG trivial (aG trivial (aG trivial (aG (aG trivial (aXM N hc)) trivial))))
theorem aXG[aA] N l0:V4 N (aGC N) l0=exec (uB N) Tryz.f41.ntmps (aGE N) V1 ⟨bU 0 [.e (.sl .u8) l0],[],100⟩ (bX (uB N) Tryz.f41 false):=by kernel_rfl
def Nr(r:aE):Option (aS×Bool):=match r with
  |(.bD [x0,x1],[])=>(match ue .tx x0,ue .bo x1 with|some a0,some a1=>some (a0,a1)|_,_=>none)
  |_=>none
theorem aXD{r d}(h:Nr r=some d):r=HS d.1 d.2:=by
  unfold Nr at h;split at h
  . split at h
    . rename_i h0 h1;cases h;rw[aH h0,aH h1];rfl
    . cases h
  . cases h
def Ar N l0:=(w41 N l0).bind Nr
theorem aXJ{N}(hc:aF (uB N)){l0 d}(hd:Ar N l0=some d):cB Tryz.prog 41 [.e (.sl .u8) l0] [] (HS d.1 d.2):=
  cD hc (by kernel_rfl) (by kernel_rfl) (aXI N hc) (by kernel_rfl) aXD (λhr=>(aXG N l0).symm.trans (by rw[aXK N];exact hr)) hd
def Nt N l0:=(Ar N l0).isSome
def rW N l0:=((Ar N l0).getD ([],false)).1
def HR N l0:=((Ar N l0).getD ([],false)).2
def aGF(N:Nat):bK:=E1 (.sl .u8) (λx0=>(Nt N x0,HS (rW N x0) (HR N x0)))
theorem aXH N:aM Tryz.prog 41 (aGF N):=aM.e1 (λx0 h=>cY (z:=Ar N x0) h (aXJ (aXL N)) rfl)
def Nj(a0:Bool):aE:=(.e .bo a0,[])
def HP(_:Nat):Cx:=⟨Tryz.prog,25,[],[]⟩
def aFs:Code:=Tryz.f43.body.getD .skip
theorem aWq N:aF (HP N):=bY (by kernel_rfl) .nil .nil
def aFt[aA](_:Nat)(a0 b1:aS):O:=
  some (Nj (decide (a0=b1)))
def w43[aA] N a0 b1:=aFt N a0 b1
def aFr[aA](_:Nat):Hint:=.d
theorem aWo N:bJ (HP N) Tryz.f43.ntmps (aFr N) aFs:=bO _ _ trivial
theorem aWn[aA] N a0 b1:aFt N a0 b1=exec (HP N) Tryz.f43.ntmps (aFr N) aFs ⟨bU 0 [.e (.sl .u8) a0,.e (.sl .u8) b1],[],100⟩ (bX (HP N) Tryz.f43 false):=by kernel_rfl
def VU(r:aE):Option (Bool):=match r with
  |(x0,[])=>(match ue .bo x0 with|some a0=>some a0|_=>none)
  |_=>none
theorem aWm{r d}(h:VU r=some d):r=Nj (d):=by
  unfold VU at h;split at h
  . split at h
    . rename_i h0;cases h;rw[aH h0];rfl
    . cases h
  . cases h
def Nh N a0 b1:=(w43 N a0 b1).bind VU
theorem aWp{N}(hc:aF (HP N)){a0 b1 d}(hd:Nh N a0 b1=some d):cB Tryz.prog 43 [.e (.sl .u8) a0,.e (.sl .u8) b1] [] (Nj (d)):=
  cD hc (by kernel_rfl) (by kernel_rfl) (aWo N) (by kernel_rfl) aWm (aWn N a0 b1).symm.trans hd
def Nk N a0 b1:=(Nh N a0 b1).isSome
def Ni N a0 b1:=((Nh N a0 b1).getD false)
def Nl(N:Nat):bK:=E2 (.sl .u8) (.sl .u8) (λx0 x1=>(Nk N x0 x1,Nj (Ni N x0 x1)))
theorem VV N:aM Tryz.prog 43 (Nl N):=aM.e2 (λx0 x1 h=>cY (z:=Nh N x0 x1) h (aWp (aWq N)) rfl)
def EP(a0 a1:Int)(a2:(List Ex))(a3 a4:Int):aE:=(.bD [.agg [.e (.i .i64) a0,.e (.i .i64) a1,.e (.sl .ex) a2],.e (.i .i64) a3,.e (.i .i64) a4],[])
def ID(N:Nat):Cx:=⟨Tryz.prog,25,[(40,V5 N),(41,aGF N),(42,aFu N),(10,I9 N),(43,Nl N)],[]⟩
def aHs:Code:=Tryz.f20.body.getD .skip
theorem a0a N:aF (ID N):=bY (by kernel_rfl) (.cons (by kernel_rfl) (aGK N) (.cons (by kernel_rfl) (aXH N) (.cons (by kernel_rfl) (aWs N) (.cons (by kernel_rfl) (Ps N) (.cons (by kernel_rfl) (VV N) .nil))))) .nil
def IE[aA](N:Nat)(l0:aS):O:=
  let b2:=c8 l0 none (some (lO N l0 (63:UInt8)))
  let b0:=Ex.mk (xA N (rW N b2)) (w9 N (rW N b2)) (w7 N (rW N b2))
  let b1:=Ex.mk b0.op b0.num b0.kids
  let b3:=aC.wrap (lO N l0 (63:UInt8)+(1:Int))
  let b4:=decide (tZ N (rW N b2)≠(0:Int))||decide (Bc N b1.op b1.num b1.kids≠(0:Int))
  let b5:=some (EP 0 0 [] 0 2)
  ck (Dk N l0 (63:UInt8))<|
  br (decide (lO N l0 (63:UInt8)<(0:Int)))
    (some (EP 0 0 [] 0 3))
    (ck (dX l0.length none (some (lO N l0 (63:UInt8))))<|
    ck (Nt N b2)<|
    br (!HR N b2)
      b5
      (ck (Nn N (rW N b2))<|
      ck (Ef N b1.op b1.num b1.kids)<|
      ck (!!b4||dX l0.length none (some b3))<|
      ck (!!b4||Nk N (xO N b1.op b1.num b1.kids) (c8 l0 none (some b3)))<|
      br (decide (tZ N (rW N b2)≠(0:Int))||decide (Bc N b1.op b1.num b1.kids≠(0:Int))||!Ni N (xO N b1.op b1.num b1.kids) (c8 l0 none (some b3)))
        b5
        (some (EP (b0.op) (b0.num) (b0.kids) b3 0))))
def PW[aA] N l0:=IE N l0
def aHr[aA](_:Nat):Hint:=.d
theorem a08 N:bJ (ID N) Tryz.f20.ntmps (aHr N) aHs:=bO _ _ trivial
theorem a07[aA] N l0:IE N l0=exec (ID N) Tryz.f20.ntmps (aHr N) aHs ⟨bU 0 [.e (.sl .u8) l0],[],100⟩ (bX (ID N) Tryz.f20 false):=by kernel_rfl
def Wg(r:aE):Option (Int×Int×(List Ex)×Int×Int):=match r with
  |(.bD [.agg [x0,x1,x2],x3,x4],[])=>(match ue (.i .i64) x0,ue (.i .i64) x1,ue (.sl .ex) x2,ue (.i .i64) x3,ue (.i .i64) x4 with|some a0,some a1,some a2,some a3,some a4=>some (a0,a1,a2,a3,a4)|_,_,_,_,_=>none)
  |_=>none
theorem a06{r d}(h:Wg r=some d):r=EP d.1 d.2.1 d.2.2.1 d.2.2.2.1 d.2.2.2.2:=by
  unfold Wg at h;split at h
  . split at h
    . rename_i h0 h1 h2 h3 h4;cases h;rw[aH h0,aH h1,aH h2,aH h3,aH h4];rfl
    . cases h
  . cases h
def nT N l0:=(PW N l0).bind Wg
theorem a09{N}(hc:aF (ID N)){l0 d}(hd:nT N l0=some d):cB Tryz.prog 20 [.e (.sl .u8) l0] [] (EP d.1 d.2.1 d.2.2.1 d.2.2.2.1 d.2.2.2.2):=
  cD hc (by kernel_rfl) (by kernel_rfl) (a08 N) (by kernel_rfl) a06 (a07 N l0).symm.trans hd
def IC N l0:=(nT N l0).isSome
def IB N l0:=((nT N l0).getD (0,0,[],0,0)).1
def IA N l0:=((nT N l0).getD (0,0,[],0,0)).2.1
def Hz N l0:=((nT N l0).getD (0,0,[],0,0)).2.2.1
def Hy N l0:=((nT N l0).getD (0,0,[],0,0)).2.2.2.1
def Hx N l0:=((nT N l0).getD (0,0,[],0,0)).2.2.2.2
def Wh(N:Nat):bK:=E1 (.sl .u8) (λx0=>(IC N x0,EP (IB N x0) (IA N x0) (Hz N x0) (Hy N x0) (Hx N x0)))
theorem aHq N:aM Tryz.prog 20 (Wh N):=aM.e1 (λx0 h=>cY (z:=nT N x0) h (a09 (a0a N)) rfl)
def PX(a0:aS):aE:=(.own 100,[(100,.row 5 .u8 a0 true)])
def IG(_:Nat):Cx:=⟨Tryz.prog,25,[],[]⟩
def aHw:Code:=Tryz.f19.body.getD .skip
theorem a0f N:aF (IG N):=bY (by kernel_rfl) .nil .nil
def Wl[aA](_:Nat)(b0:aS)(most1:Int):O:=
  ck (dX b0.length none (some (min (↑b0.length:Int) most1)))<|
  ck (cF (c8 b0 none (some (min (↑b0.length:Int) most1))).length (1:Nat))<|
  some (PX (c8 b0 none (some (min (↑b0.length:Int) most1))))
def w19[aA] N b0 most1:=Wl N b0 most1
def aHv[aA](_:Nat):Hint:=.d
theorem a0d N:bJ (IG N) Tryz.f19.ntmps (aHv N) aHw:=bO _ _ trivial
theorem a0c[aA] N b0 most1:Wl N b0 most1=exec (IG N) Tryz.f19.ntmps (aHv N) aHw ⟨bU 0 [.e (.sl .u8) b0,.e (.i .i64) most1],[],100⟩ (bX (IG N) Tryz.f19 true):=by kernel_rfl
def Wi(r:aE):Option (aS):=match r with
  |(.own 100,[(100,x0)])=>(match ur 5 .u8 true x0 with|some a0=>some a0|_=>none)
  |_=>none
theorem a0b{r d}(h:Wi r=some d):r=PX (d):=by
  unfold Wi at h;split at h
  . split at h
    . rename_i h0;cases h;rw[jF h0];rfl
    . cases h
  . cases h
def ER N b0 most1:=(w19 N b0 most1).bind Wi
theorem a0e{N}(hc:aF (IG N)){b0 most1 d}(hd:ER N b0 most1=some d):cB Tryz.prog 19 [.e (.sl .u8) b0,.e (.i .i64) most1] [] (PX (d)):=
  cD hc (by kernel_rfl) (by kernel_rfl) (a0d N) (by kernel_rfl) a0b (a0c N b0 most1).symm.trans hd
def IF N b0 most1:=(ER N b0 most1).isSome
def lP N b0 most1:=((ER N b0 most1).getD [])
def Wk(N:Nat):bK:=E2 (.sl .u8) (.i .i64) (λx0 x1=>(IF N x0 x1,PX (lP N x0 x1)))
theorem aHu N:aM Tryz.prog 19 (Wk N):=aM.e2 (λx0 x1 h=>cY (z:=ER N x0 x1) h (a0e (a0f N)) rfl)
def EW(a0:Bool):aE:=(.e .bo a0,[])
def uN(_:Nat):Cx:=⟨Tryz.prog,25,[],[]⟩
def Wz:Code:=Tryz.f14.body.getD .skip
theorem a1Y N:aF (uN N):=bY (by kernel_rfl) .nil .nil
def EX[aA](_:Nat)(self:Int->O)(k0:Bool->O)(k1:Unit->O)(x0_0 x0_1:aS)(x0_2:Int):O:=
  br (decide (x0_2<(↑x0_0.length:Int)))
    (gx x0_0 x0_2 λy5=>
    gx x0_1 x0_2 λy6=>
    br (decide (y5≠y6))
      (k0 false)
      (self (aC.wrap (x0_2+1))))
    (k1 ())
def Wy:Code:=cK [1,1,0,1,0,0] Wz
def aIS:Nm:=⟨[0,1,5],[],[]⟩
def BY(x:aS×aS×Int):Sg:=⟨[(0,.e (.sl .u8) x.1),(1,.e (.sl .u8) x.2.1),(5,.e (.i .i64) x.2.2)],[],100⟩
def P5(σ:Sg):aS×aS×Int:=(aO (.sl .u8) 0 0 σ,aO (.sl .u8) 1 0 σ,aO (.i .i64) 5 0 σ)
theorem a1S:∀x,P5 (BY x)=x:=λ_=>by kernel_rfl
def P8(y:Bool):Exit×Sg:=(.ret,⟨[(4,.e .bo y)],[],100⟩)
def a1Q(_:Exit)(σ:Sg):Bool:=aO .bo 4 0 σ
def P7(_:Unit):Exit×Sg:=((.exit 0),⟨[],[],100⟩)
def a1P(_:Exit)(_:Sg):Unit:=()
def a1O:List (Exit×Nm):=[(.ret,⟨[4],[],[]⟩),((.exit 0),⟨[],[],[]⟩)]
def BX[aA](N:Nat):Nat->(aS×aS×Int)->((Bool)->O)->((Unit)->O)->((Unit)->O)->O
  |0,_,_,_,_=>none
  |n+1,x,k0,k1,k2=>EX N (λv0=>BX N n (x.1,x.2.1,v0) k0 k1 k2) (λy0=>k0 y0) (λ(_:Unit)=>k1 ()) x.1 x.2.1 x.2.2
def Ww[aA] N a0 a1 a2 (k0:Bool->O) (k1:Unit->O):=BX N N (a0,a1,a2) (λy=>k0 y) (λy=>k1 y) (λ_=>none)
def aIR[aA] N a0 a1 a2 (k0:Bool->O) (k1:Unit->O):=aY BY P5 (BX N N) (BY (a0,a1,a2)) (λy=>k0 y) (λy=>k1 y) (λ_=>none)
theorem a1X[aA] N:aIR N=Ww N:=funext λ_=>funext λ_=>funext λ_=>funext λ_=>funext λ_=>cW a1S _ _ _ _
theorem a1T[aA](N:Nat)(self:Sg->O)(K:Exit->Sg->O)(x:aS×aS×Int):EX N (λv0=>self (BY (x.1,x.2.1,v0))) (λy0=>K (P8 y0).1 (P8 y0).2) (λ(_:Unit)=>K (P7 ()).1 (P7 ()).2) x.1 x.2.1 x.2.2=exec (uN N) Tryz.f14.ntmps .d Wy (BY x) (eN aIS a1O self K):=by kernel_rfl
theorem a1Z N (hc:aF (uN N)):cN (uN N) Tryz.f14.ntmps (.loop Wy) P8 P7 (aW 2) (aY BY P5 (BX N N)):=
  eV hc (cO Wy) (iS a1Q a1P .ret (.exit 0) (λ_=>by kernel_rfl) (λ_=>by kernel_rfl) (λ_=>rfl) (λ_=>rfl) (by kernel_rfl)) (n:=N) (λx K=>eW (BX N) (λ_ _ _ _=>rfl) (λn K ih x=>by
    refine fK ?_ (a1T N _ K x);simp only[<-ih];rfl) N x K)
def XA[aA](_:Nat)(in0:aS->aS->Int->(Bool->O)->(Unit->O)->O)(a0 b1:aS):O:=
  br (decide ((↑a0.length:Int)≠(↑b1.length:Int)))
    (some (EW false))
    (in0 a0 b1 0
      (λz7=>
        some (EW z7))
      (λ(_:Unit)=>
        some (EW true)))
def w14[aA] N a0 b1:=XA N (Ww N) a0 b1
def aIT[aA](N:Nat):Hint:=(.seq .d (.seq .d (.seq (.seq .d (.block (.sub aIS _ _ _ P8 P7 (aW 2) (aY BY P5 (BX N N))))) .d)))
theorem a1V N (hc:aF (uN N)):bJ (uN N) Tryz.f14.ntmps (aIT N) Wz:=bO _ _ (aG trivial (aG trivial (aG (aG trivial (a1Z N hc)) trivial)))
theorem a1U[aA] N a0 b1:XA N (aIR N) a0 b1=exec (uN N) Tryz.f14.ntmps (aIT N) Wz ⟨bU 0 [.e (.sl .u8) a0,.e (.sl .u8) b1],[],100⟩ (bX (uN N) Tryz.f14 false):=by kernel_rfl
def P4(r:aE):Option (Bool):=match r with
  |(x0,[])=>(match ue .bo x0 with|some a0=>some a0|_=>none)
  |_=>none
theorem a1R{r d}(h:P4 r=some d):r=EW (d):=by
  unfold P4 at h;split at h
  . split at h
    . rename_i h0;cases h;rw[aH h0];rfl
    . cases h
  . cases h
def EV N a0 b1:=(w14 N a0 b1).bind P4
theorem a1W{N}(hc:aF (uN N)){a0 b1 d}(hd:EV N a0 b1=some d):cB Tryz.prog 14 [.e (.sl .u8) a0,.e (.sl .u8) b1] [] (EW (d)):=
  cD hc (by kernel_rfl) (by kernel_rfl) (a1V N hc) (by kernel_rfl) a1R (λhr=>(a1U N a0 b1).symm.trans (by rw[a1X N];exact hr)) hd
def IM N a0 b1:=(EV N a0 b1).isSome
def IL N a0 b1:=((EV N a0 b1).getD false)
def P6(N:Nat):bK:=E2 (.sl .u8) (.sl .u8) (λx0 x1=>(IM N x0 x1,EW (IL N x0 x1)))
theorem Wv N:aM Tryz.prog 14 (P6 N):=aM.e2 (λx0 x1 h=>cY (z:=EV N x0 x1) h (a1W (a1Y N)) rfl)
def Kr(a0 a1:Int)(a2:(List Ex)):aE:=(.agg [.e (.i .i64) a0,.e (.i .i64) a1,.e (.sl .ex) a2],[])
def GI(N:Nat):Cx:=⟨Tryz.prog,25,[(33,aGn N)],[]⟩
def w8b:Code:=Tryz.f8.body.getD .skip
theorem aPV N:aF (GI N):=bY (by kernel_rfl) (.cons (by kernel_rfl) (aYW N) .nil) .nil
def Sq[aA](N:Nat)(l0:(List Int)):O:=
  ck (OZ N l0 (4:Int))<|
  some (Kr ((Ex.mk (Dx N l0 (4:Int)) (Dw N l0 (4:Int)) (Dv N l0 (4:Int))).op) ((Ex.mk (Dx N l0 (4:Int)) (Dw N l0 (4:Int)) (Dv N l0 (4:Int))).num) ((Ex.mk (Dx N l0 (4:Int)) (Dw N l0 (4:Int)) (Dv N l0 (4:Int))).kids))
def w8[aA] N l0:=Sq N l0
def w8h[aA](_:Nat):Hint:=.d
theorem aPT N:bJ (GI N) Tryz.f8.ntmps (w8h N) w8b:=bO _ _ trivial
theorem w8q[aA] N l0:Sq N l0=exec (GI N) Tryz.f8.ntmps (w8h N) w8b ⟨bU 0 [.e (.sl (.i .i64)) l0],[],100⟩ (bX (GI N) Tryz.f8 false):=by kernel_rfl
def So(r:aE):Option (Int×Int×(List Ex)):=match r with
  |(.agg [x0,x1,x2],[])=>(match ue (.i .i64) x0,ue (.i .i64) x1,ue (.sl .ex) x2 with|some a0,some a1,some a2=>some (a0,a1,a2)|_,_,_=>none)
  |_=>none
theorem aPQ{r d}(h:So r=some d):r=Kr d.1 d.2.1 d.2.2:=by
  unfold So at h;split at h
  . split at h
    . rename_i h0 h1 h2;cases h;rw[aH h0,aH h1,aH h2];rfl
    . cases h
  . cases h
def wJ N l0:=(w8 N l0).bind So
theorem aPU{N}(hc:aF (GI N)){l0 d}(hd:wJ N l0=some d):cB Tryz.prog 8 [.e (.sl (.i .i64)) l0] [] (Kr d.1 d.2.1 d.2.2):=
  cD hc (by kernel_rfl) (by kernel_rfl) (aPT N) (by kernel_rfl) aPQ (w8q N l0).symm.trans hd
def Ks N l0:=(wJ N l0).isSome
def Kq N l0:=((wJ N l0).getD (0,0,[])).1
def Kp N l0:=((wJ N l0).getD (0,0,[])).2.1
def Ko N l0:=((wJ N l0).getD (0,0,[])).2.2
def w8e(N:Nat):bK:=E1 (.sl (.i .i64)) (λx0=>(Ks N x0,Kr (Kq N x0) (Kp N x0) (Ko N x0)))
theorem aPS N:aM Tryz.prog 8 (w8e N):=aM.e1 (λx0 h=>cY (z:=wJ N x0) h (aPU (aPV N)) rfl)
def Nw(a0 a1:Int)(a2:(List Ex)):aE:=(.agg [.e (.i .i64) a0,.e (.i .i64) a1,.e (.sl .ex) a2],[])
def HT(_:Nat):Cx:=⟨Tryz.prog,25,[],[]⟩
def aGN:Code:=Tryz.f39.body.getD .skip
theorem aXY N:aF (HT N):=bY (by kernel_rfl) .nil .nil
def aGO[aA](_:Nat):O:=
  some (Nw 3 0 [Ex.mk (1:Int) (0:Int) [],Ex.mk (0:Int) (12:Int) []])
def w39[aA](N:Nat):O:=aGO N  
def aGL[aA](_:Nat):Hint:=.d
theorem aXW N:bJ (HT N) Tryz.f39.ntmps (aGL N) aGN:=bO _ _ trivial
theorem aXT[aA] N:aGO N=exec (HT N) Tryz.f39.ntmps (aGL N) aGN ⟨bU 0 [],[],100⟩ (bX (HT N) Tryz.f39 false):=by kernel_rfl
def V6(r:aE):Option (Int×Int×(List Ex)):=match r with
  |(.agg [x0,x1,x2],[])=>(match ue (.i .i64) x0,ue (.i .i64) x1,ue (.sl .ex) x2 with|some a0,some a1,some a2=>some (a0,a1,a2)|_,_,_=>none)
  |_=>none
theorem aXS{r d}(h:V6 r=some d):r=Nw d.1 d.2.1 d.2.2:=by
  unfold V6 at h;split at h
  . split at h
    . rename_i h0 h1 h2;cases h;rw[aH h0,aH h1,aH h2];rfl
    . cases h
  . cases h
def Dn(N:Nat):Option (Int×Int×(List Ex)):=(w39 N ).bind V6
theorem aXX{N}(hc:aF (HT N)){d}(hd:Dn N=some d):cB Tryz.prog 39 [] [] (Nw d.1 d.2.1 d.2.2):=
  cD hc (by kernel_rfl) (by kernel_rfl) (aXW N) (by kernel_rfl) aXS (aXT N).symm.trans hd
def aXU(N:Nat):Bool:=(Dn N ).isSome
def aXR(N:Nat):Int:=((Dn N ).getD (0,0,[])).1
def aXQ(N:Nat):Int:=((Dn N ).getD (0,0,[])).2.1
def aXP(N:Nat):(List Ex):=((Dn N ).getD (0,0,[])).2.2
def aGM(N:Nat):bK:=E0 (aXU N ,Nw (aXR N ) (aXQ N ) (aXP N ))
theorem aXV N:aM Tryz.prog 39 (aGM N):=aM.e0 (λh=>cY (z:=Dn N ) h (aXX (aXY N)) rfl)
def EC(a0:Bool):aE:=(.e .bo a0,[])
def uI(N:Nat):Cx:=⟨Tryz.prog,25,[(14,P6 N)],[]⟩
def WJ:Code:=Tryz.f26.body.getD .skip
theorem aZX N:aF (uI N):=bY (by kernel_rfl) (.cons (by kernel_rfl) (Wv N) .nil) .nil
def ED[aA](N:Nat)(self:Int->O)(k0:Bool->O)(k1:Unit->O)(x0_0 x0_1:(List aS))(x0_2:Int):O:=
  br (decide (x0_2<(↑x0_0.length:Int)))
    (gx x0_0 x0_2 λy5=>
    gx x0_1 x0_2 λy6=>
    ck (IM N y5 y6)<|
    br (!IL N y5 y6)
      (k0 false)
      (self (aC.wrap (x0_2+1))))
    (k1 ())
def WI:Code:=cK [1,1,0,1,0,0] WJ
def aHO:Nm:=⟨[0,1,5],[],[]⟩
def BK(x:(List aS)×(List aS)×Int):Sg:=⟨[(0,.e (.sl (.sl .u8)) x.1),(1,.e (.sl (.sl .u8)) x.2.1),(5,.e (.i .i64) x.2.2)],[],100⟩
def Oq(σ:Sg):(List aS)×(List aS)×Int:=(aO (.sl (.sl .u8)) 0 0 σ,aO (.sl (.sl .u8)) 1 0 σ,aO (.i .i64) 5 0 σ)
theorem aZR:∀x,Oq (BK x)=x:=λ_=>by kernel_rfl
def Ov(y:Bool):Exit×Sg:=(.ret,⟨[(4,.e .bo y)],[],100⟩)
def aZP(_:Exit)(σ:Sg):Bool:=aO .bo 4 0 σ
def Ou(_:Unit):Exit×Sg:=((.exit 0),⟨[],[],100⟩)
def aZO(_:Exit)(_:Sg):Unit:=()
def aZN:List (Exit×Nm):=[(.ret,⟨[4],[],[]⟩),((.exit 0),⟨[],[],[]⟩)]
def BJ[aA](N:Nat):Nat->((List aS)×(List aS)×Int)->((Bool)->O)->((Unit)->O)->((Unit)->O)->O
  |0,_,_,_,_=>none
  |n+1,x,k0,k1,k2=>ED N (λv0=>BJ N n (x.1,x.2.1,v0) k0 k1 k2) (λy0=>k0 y0) (λ(_:Unit)=>k1 ()) x.1 x.2.1 x.2.2
def WG[aA] N a0 a1 a2 (k0:Bool->O) (k1:Unit->O):=BJ N N (a0,a1,a2) (λy=>k0 y) (λy=>k1 y) (λ_=>none)
def aHM[aA] N a0 a1 a2 (k0:Bool->O) (k1:Unit->O):=aY BK Oq (BJ N N) (BK (a0,a1,a2)) (λy=>k0 y) (λy=>k1 y) (λ_=>none)
theorem aZW[aA] N:aHM N=WG N:=funext λ_=>funext λ_=>funext λ_=>funext λ_=>funext λ_=>cW aZR _ _ _ _
theorem aZS[aA](N:Nat)(self:Sg->O)(K:Exit->Sg->O)(x:(List aS)×(List aS)×Int):ED N (λv0=>self (BK (x.1,x.2.1,v0))) (λy0=>K (Ov y0).1 (Ov y0).2) (λ(_:Unit)=>K (Ou ()).1 (Ou ()).2) x.1 x.2.1 x.2.2=exec (uI N) Tryz.f26.ntmps .d WI (BK x) (eN aHO aZN self K):=by kernel_rfl
theorem aZ0 N (hc:aF (uI N)):cN (uI N) Tryz.f26.ntmps (.loop WI) Ov Ou (aW 2) (aY BK Oq (BJ N N)):=
  eV hc (cO WI) (iS aZP aZO .ret (.exit 0) (λ_=>by kernel_rfl) (λ_=>by kernel_rfl) (λ_=>rfl) (λ_=>rfl) (by kernel_rfl)) (n:=N) (λx K=>eW (BJ N) (λ_ _ _ _=>rfl) (λn K ih x=>by
    refine fK ?_ (aZS N _ K x);simp only[<-ih];rfl) N x K)
def WK[aA](_:Nat)(in0:(List aS)->(List aS)->Int->(Bool->O)->(Unit->O)->O)(a0 b1:(List aS)):O:=
  br (decide ((↑a0.length:Int)≠(↑b1.length:Int)))
    (some (EC false))
    (in0 a0 b1 0
      (λz7=>
        some (EC z7))
      (λ(_:Unit)=>
        some (EC true)))
def w26[aA] N a0 b1:=WK N (WG N) a0 b1
def aHP[aA](N:Nat):Hint:=(.seq .d (.seq .d (.seq (.seq .d (.block (.sub aHO _ _ _ Ov Ou (aW 2) (aY BK Oq (BJ N N))))) .d)))
theorem aZU N (hc:aF (uI N)):bJ (uI N) Tryz.f26.ntmps (aHP N) WJ:=bO _ _ (aG trivial (aG trivial (aG (aG trivial (aZ0 N hc)) trivial)))
theorem aZT[aA] N a0 b1:WK N (aHM N) a0 b1=exec (uI N) Tryz.f26.ntmps (aHP N) WJ ⟨bU 0 [.e (.sl (.sl .u8)) a0,.e (.sl (.sl .u8)) b1],[],100⟩ (bX (uI N) Tryz.f26 false):=by kernel_rfl
def Oo(r:aE):Option (Bool):=match r with
  |(x0,[])=>(match ue .bo x0 with|some a0=>some a0|_=>none)
  |_=>none
theorem aZQ{r d}(h:Oo r=some d):r=EC (d):=by
  unfold Oo at h;split at h
  . split at h
    . rename_i h0;cases h;rw[aH h0];rfl
    . cases h
  . cases h
def EB N a0 b1:=(w26 N a0 b1).bind Oo
theorem aZV{N}(hc:aF (uI N)){a0 b1 d}(hd:EB N a0 b1=some d):cB Tryz.prog 26 [.e (.sl (.sl .u8)) a0,.e (.sl (.sl .u8)) b1] [] (EC (d)):=
  cD hc (by kernel_rfl) (by kernel_rfl) (aZU N hc) (by kernel_rfl) aZQ (λhr=>(aZT N a0 b1).symm.trans (by rw[aZW N];exact hr)) hd
def Ot N a0 b1:=(EB N a0 b1).isSome
def Om N a0 b1:=((EB N a0 b1).getD false)
def WH(N:Nat):bK:=E2 (.sl (.sl .u8)) (.sl (.sl .u8)) (λx0 x1=>(Ot N x0 x1,EC (Om N x0 x1)))
theorem aHN N:aM Tryz.prog 26 (WH N):=aM.e2 (λx0 x1 h=>cY (z:=EB N x0 x1) h (aZV (aZX N)) rfl)
end
end Go.Proofs
/- The examples hold. -/

namespace Go.Proofs
open Go Go.Ax
noncomputable def a0o(N:Nat):List (Nat×bK):=[(39,aGM N),(10,I9 N),(12,XE N),(24,WX N),(20,Wh N),(16,aIH N),(22,W8 N),(14,P6 N),(15,aIO N),(26,WH N)]
noncomputable def Wo(N:Nat):Cx:=⟨Tryz.prog,25,a0o N,[]⟩
noncomputable def aIF:Code:=Tryz.f17.body.getD .skip
theorem a0n(N:Nat):aF (Wo N):=bY (by kernel_rfl) (.cons (by kernel_rfl) (aXV N) (.cons (by kernel_rfl) (Ps N) (.cons (by kernel_rfl) (aI3 N) (.cons (by kernel_rfl) (aH7 N) (.cons (by kernel_rfl) (aHq N) (.cons (by kernel_rfl) (a0t N) (.cons (by kernel_rfl) (aHh N) (.cons (by kernel_rfl) (Wv N) (.cons (by kernel_rfl) (a1H N) (.cons (by kernel_rfl) (aHN N) .nil)))))))))) .nil
theorem a6s:exec (Wo 6000) Tryz.f17.ntmps .d aIF ⟨bU 0 [],[],100⟩ (bX (Wo 6000) Tryz.f17 false)=some (.e .bo true,[]):=by kernel_rfl
theorem a7S(N:Nat):aM Tryz.prog 17 (aLU N):=aM.e0 (λ_=>
  yU (a0n 6000) (f:=17) (fn:=Tryz.f17) (code:=aIF) (by kernel_rfl) (by kernel_rfl) (cO _) (Nat.le_of_ble_eq_true (by kernel_rfl)) (ow:=false) a6s)
end Go.Proofs
