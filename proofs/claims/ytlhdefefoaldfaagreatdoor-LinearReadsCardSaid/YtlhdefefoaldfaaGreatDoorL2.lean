/- What the reference of package linear does. Conditions are in the theorems. -/
import Derived.Test.YtlhdefefoaldfaaGreatDoorE7
import Derived.Test.YtlhdefefoaldfaaGreatDoorProg
import Derived.KernelRfl
import Derived.Test.YtlhdefefoaldfaaGreatDoorF0
import Derived.Test.YtlhdefefoaldfaaGreatDoorL1
import Derived.Test.YtlhdefefoaldfaaGreatDoorF1
import Derived.Test.YtlhdefefoaldfaaGreatDoorF2
import Derived.Test.YtlhdefefoaldfaaGreatDoorF3
import Derived.Test.YtlhdefefoaldfaaGreatDoorF4
import Derived.Test.YtlhdefefoaldfaaGreatDoorF5
open And renaming intro->aH
open Eq renaming trans->gM
open Go.IntKind renaming i64->aB
/- What functions do. -/
namespace Go.Proofs
noncomputable section
open Go.Ax Go.Ax.aA Go.RowKit Go.Ab
open Go
abbrev aO:=List UInt8
def KC(a0:Bool):aC:=(.e .bo a0,[])
def FU(_:Nat):Cx:=⟨Tryz.prog,25,[],[]⟩
def aA7:Code:=Tryz.f65.body.getD .skip
theorem aOI N:aD (FU N):=bZ (by kernel_rfl) .nil .nil
def aAa[aA](_:Nat)(c0:UInt8):O:=
  some (KC (decide (48<=c0)&&decide (c0<=57)))
def w65[aA] N c0:=aAa N c0
def aA6[aA](_:Nat):Hint:=.d
theorem aOG N:bJ (FU N) Tryz.f65.ntmps (aA6 N) aA7:=bR _ _ trivial
theorem aOF[aA] N c0:aAa N c0=exec (FU N) Tryz.f65.ntmps (aA6 N) aA7 ⟨bW 0 [.e .u8 c0],[],100⟩ (bX (FU N) Tryz.f65 false):=by kernel_rfl
def Qj(r:aC):Option (Bool):=match r with
  |(x0,[])=>(match ue .bo x0 with|some a0=>some a0|_=>none)
  |_=>none
theorem aOE{r d}(h:Qj r=some d):r=KC (d):=by
  unfold Qj at h;split at h
  . split at h
    . rename_i h0;cases h;rw[aE h0];rfl
    . cases h
  . cases h
def KB N c0:=(w65 N c0).bind Qj
theorem aOH{N}(hc:aD (FU N)){c0 d}(hd:KB N c0=some d):cB Tryz.prog 65 [.e .u8 c0] [] (KC (d)):=
  cD hc (by kernel_rfl) (by kernel_rfl) (aOG N) (by kernel_rfl) aOE (aOF N c0).symm.trans hd
def FT N c0:=(KB N c0).isSome
def vO N c0:=((KB N c0).getD false)
def Qk(N:Nat):bK:=E1 .u8 (λx0=>(FT N x0,KC (vO N x0)))
theorem aA5 N:aK Tryz.prog 65 (Qk N):=aK.e1 (λx0 h=>cV (z:=KB N x0) h (aOH (aOI N)) rfl)
def KA(a0:aO):aC:=(.e (.sl .u8) a0,[])
def FR(_:Nat):Cx:=⟨Tryz.prog,25,[],[]⟩
def aA2:Code:=Tryz.f66.body.getD .skip
theorem aOB N:aD (FR N):=bZ (by kernel_rfl) .nil .nil
def aA4[aA](_:Nat):O:=
  some (KA [(26:UInt8),(1:UInt8),(3:UInt8),(9:UInt8),(25:UInt8),(17:UInt8),(11:UInt8),(27:UInt8),(19:UInt8),(10:UInt8)])
def w66[aA](N:Nat):O:=aA4 N  
def aA1[aA](_:Nat):Hint:=.d
theorem aNz N:bJ (FR N) Tryz.f66.ntmps (aA1 N) aA2:=bR _ _ trivial
theorem aNy[aA] N:aA4 N=exec (FR N) Tryz.f66.ntmps (aA1 N) aA2 ⟨bW 0 [],[],100⟩ (bX (FR N) Tryz.f66 false):=by kernel_rfl
def Qh(r:aC):Option (aO):=match r with
  |(x0,[])=>(match ue (.sl .u8) x0 with|some a0=>some a0|_=>none)
  |_=>none
theorem aNx{r d}(h:Qh r=some d):r=KA (d):=by
  unfold Qh at h;split at h
  . split at h
    . rename_i h0;cases h;rw[aE h0];rfl
    . cases h
  . cases h
def Jz(N:Nat):Option (aO):=(w66 N ).bind Qh
theorem aOA{N}(hc:aD (FR N)){d}(hd:Jz N=some d):cB Tryz.prog 66 [] [] (KA (d)):=
  cD hc (by kernel_rfl) (by kernel_rfl) (aNz N) (by kernel_rfl) aNx (aNy N).symm.trans hd
def zK(N:Nat):Bool:=(Jz N ).isSome
def pM(N:Nat):aO:=((Jz N ).getD [])
def Qi(N:Nat):bK:=E0 (zK N ,KA (pM N ))
theorem aA0 N:aK Tryz.prog 66 (Qi N):=aK.e0 (λh=>cV (z:=Jz N ) h (aOA (aOB N)) rfl)
def Jx(a0:Bool):aC:=(.e .bo a0,[])
def FQ(_:Nat):Cx:=⟨Tryz.prog,25,[],[]⟩
def aAW:Code:=Tryz.f67.body.getD .skip
theorem aNv N:aD (FQ N):=bZ (by kernel_rfl) .nil .nil
def aAZ[aA](_:Nat)(c0:UInt8):O:=
  some (Jx (decide (97<=c0)&&decide (c0<=122)))
def w67[aA] N c0:=aAZ N c0
def aAV[aA](_:Nat):Hint:=.d
theorem aNt N:bJ (FQ N) Tryz.f67.ntmps (aAV N) aAW:=bR _ _ trivial
theorem aNs[aA] N c0:aAZ N c0=exec (FQ N) Tryz.f67.ntmps (aAV N) aAW ⟨bW 0 [.e .u8 c0],[],100⟩ (bX (FQ N) Tryz.f67 false):=by kernel_rfl
def Qf(r:aC):Option (Bool):=match r with
  |(x0,[])=>(match ue .bo x0 with|some a0=>some a0|_=>none)
  |_=>none
theorem aNr{r d}(h:Qf r=some d):r=Jx (d):=by
  unfold Qf at h;split at h
  . split at h
    . rename_i h0;cases h;rw[aE h0];rfl
    . cases h
  . cases h
def Jw N c0:=(w67 N c0).bind Qf
theorem aNu{N}(hc:aD (FQ N)){c0 d}(hd:Jw N c0=some d):cB Tryz.prog 67 [.e .u8 c0] [] (Jx (d)):=
  cD hc (by kernel_rfl) (by kernel_rfl) (aNt N) (by kernel_rfl) aNr (aNs N c0).symm.trans hd
def Jy N c0:=(Jw N c0).isSome
def FP N c0:=((Jw N c0).getD false)
def Qg(N:Nat):bK:=E1 .u8 (λx0=>(Jy N x0,Jx (FP N x0)))
theorem aAU N:aK Tryz.prog 67 (Qg N):=aK.e1 (λx0 h=>cV (z:=Jw N x0) h (aNu (aNv N)) rfl)
def Ju(a0:aO):aC:=(.e (.sl .u8) a0,[])
def FO(_:Nat):Cx:=⟨Tryz.prog,25,[],[]⟩
def aAQ:Code:=Tryz.f68.body.getD .skip
theorem aNp N:aD (FO N):=bZ (by kernel_rfl) .nil .nil
def aAT[aA](_:Nat):O:=
  some (Ju [(1:UInt8),(3:UInt8),(9:UInt8),(25:UInt8),(17:UInt8),(11:UInt8),(27:UInt8),(19:UInt8),(10:UInt8),(26:UInt8),(5:UInt8),(7:UInt8),(13:UInt8),(29:UInt8),(21:UInt8),(15:UInt8),(31:UInt8),(23:UInt8),(14:UInt8),(30:UInt8),(37:UInt8),(39:UInt8),(58:UInt8),(45:UInt8),(61:UInt8),(53:UInt8)])
def w68[aA](N:Nat):O:=aAT N  
def aAP[aA](_:Nat):Hint:=.d
theorem aNn N:bJ (FO N) Tryz.f68.ntmps (aAP N) aAQ:=bR _ _ trivial
theorem aNm[aA] N:aAT N=exec (FO N) Tryz.f68.ntmps (aAP N) aAQ ⟨bW 0 [],[],100⟩ (bX (FO N) Tryz.f68 false):=by kernel_rfl
def Qd(r:aC):Option (aO):=match r with
  |(x0,[])=>(match ue (.sl .u8) x0 with|some a0=>some a0|_=>none)
  |_=>none
theorem aNl{r d}(h:Qd r=some d):r=Ju (d):=by
  unfold Qd at h;split at h
  . split at h
    . rename_i h0;cases h;rw[aE h0];rfl
    . cases h
  . cases h
def Jt(N:Nat):Option (aO):=(w68 N ).bind Qd
theorem aNo{N}(hc:aD (FO N)){d}(hd:Jt N=some d):cB Tryz.prog 68 [] [] (Ju (d)):=
  cD hc (by kernel_rfl) (by kernel_rfl) (aNn N) (by kernel_rfl) aNl (aNm N).symm.trans hd
def Jv(N:Nat):Bool:=(Jt N ).isSome
def CL(N:Nat):aO:=((Jt N ).getD [])
def Qe(N:Nat):bK:=E0 (Jv N ,Ju (CL N ))
theorem aAO N:aK Tryz.prog 68 (Qe N):=aK.e0 (λh=>cV (z:=Jt N ) h (aNo (aNp N)) rfl)
def FN(a0:UInt8):aC:=(.e .u8 a0,[])
def sR(_:Nat):Cx:=⟨Tryz.prog,25,[],[]⟩
def Qb:Code:=Tryz.f69.body.getD .skip
theorem aNh N:aD (sR N):=bZ (by kernel_rfl) .nil .nil
def vN[aA](_:Nat)(self:Int->O)(k0:UInt8->O)(k1:Unit->O)(x0_0:UInt8)(x0_1:aO)(x0_2:Int):O:=
  br (decide (x0_2<(↑x0_1.length:Int)))
    (gx x0_1 x0_2 λy5=>
    br (decide (y5=x0_0))
      (gx [(22:UInt8),(36:UInt8),(33:UInt8),(12:UInt8),(24:UInt8),(54:UInt8),(42:UInt8),(28:UInt8),(55:UInt8),(62:UInt8)] x0_2 λy6=>
      k0 y6)
      (self (aB.wrap (x0_2+1))))
    (k1 ())
def Qa:Code:=cP [1,1,0,1,0,0] Qb
def aAI:Nm:=⟨[0,3,4],[],[]⟩
def zJ(x:UInt8×aO×Int):Sg:=⟨[(0,.e .u8 x.1),(3,.e .tx x.2.1),(4,.e (.i .i64) x.2.2)],[],100⟩
def Jo(σ:Sg):UInt8×aO×Int:=(aW .u8 0 0 σ,aW .tx 3 0 σ,aW (.i .i64) 4 0 σ)
theorem aNb:∀x,Jo (zJ x)=x:=λ_=>by kernel_rfl
def Jr(y:UInt8):Exit×Sg:=(.ret,⟨[(2,.e .u8 y)],[],100⟩)
def aN9(_:Exit)(σ:Sg):UInt8:=aW .u8 2 0 σ
def Jq(_:Unit):Exit×Sg:=((.exit 0),⟨[],[],100⟩)
def aN8(_:Exit)(_:Sg):Unit:=()
def aN7:List (Exit×Nm):=[(.ret,⟨[2],[],[]⟩),((.exit 0),⟨[],[],[]⟩)]
def vM[aA](N:Nat):Nat->(UInt8×aO×Int)->((UInt8)->O)->((Unit)->O)->((Unit)->O)->O
  |0,_,_,_,_=>none
  |n+1,x,k0,k1,k2=>vN N (λv0=>vM N n (x.1,x.2.1,v0) k0 k1 k2) (λy0=>k0 y0) (λ(_:Unit)=>k1 ()) x.1 x.2.1 x.2.2
def Jp[aA] N a0 a1 a2 (k0:UInt8->O) (k1:Unit->O):=vM N N (a0,a1,a2) (λy=>k0 y) (λy=>k1 y) (λ_=>none)
def aAG[aA] N a0 a1 a2 (k0:UInt8->O) (k1:Unit->O):=bB zJ Jo (vM N N) (zJ (a0,a1,a2)) (λy=>k0 y) (λy=>k1 y) (λ_=>none)
theorem aNg[aA] N:aAG N=Jp N:=funext λ_=>funext λ_=>funext λ_=>funext λ_=>funext λ_=>dD aNb _ _ _ _
theorem aNc[aA](N:Nat)(self:Sg->O)(K:Exit->Sg->O)(x:UInt8×aO×Int):vN N (λv0=>self (zJ (x.1,x.2.1,v0))) (λy0=>K (Jr y0).1 (Jr y0).2) (λ(_:Unit)=>K (Jq ()).1 (Jq ()).2) x.1 x.2.1 x.2.2=exec (sR N) Tryz.f69.ntmps .d Qa (zJ x) (fE aAI aN7 self K):=by kernel_rfl
theorem aNk N (hc:aD (sR N)):cU (sR N) Tryz.f69.ntmps (.loop Qa) Jr Jq (aV 2) (bB zJ Jo (vM N N)):=
  fW hc (cT Qa) (kS aN9 aN8 .ret (.exit 0) (λ_=>by kernel_rfl) (λ_=>by kernel_rfl) (λ_=>rfl) (λ_=>rfl) (by kernel_rfl)) (n:=N) (λx K=>fY (vM N) (λ_ _ _ _=>rfl) (λn K ih x=>by
    refine gM ?_ (aNc N _ K x);simp only[<-ih];rfl) N x K)
def Js[aA](_:Nat)(in0:UInt8->aO->Int->(UInt8->O)->(Unit->O)->O)(c0:UInt8):O:=
  in0 c0 [(43:UInt8),(45:UInt8),(42:UInt8),(47:UInt8),(94:UInt8),(61:UInt8),(60:UInt8),(82:UInt8),(40:UInt8),(41:UInt8)] 0
    (λz7=>
      some (FN z7))
    (λ(_:Unit)=>
      some (FN 0))
def Qc[aA] N c0:=Js N (Jp N) c0
def aAJ[aA](N:Nat):Hint:=(.seq .d (.seq .d (.seq (.seq .d (.block (.sub aAI _ _ _ Jr Jq (aV 2) (bB zJ Jo (vM N N))))) .d)))
theorem aNe N (hc:aD (sR N)):bJ (sR N) Tryz.f69.ntmps (aAJ N) Qb:=bR _ _ (aH trivial (aH trivial (aH (aH trivial (aNk N hc)) trivial)))
theorem aNd[aA] N c0:Js N (aAG N) c0=exec (sR N) Tryz.f69.ntmps (aAJ N) Qb ⟨bW 0 [.e .u8 c0],[],100⟩ (bX (sR N) Tryz.f69 false):=by kernel_rfl
def FM(r:aC):Option (UInt8):=match r with
  |(x0,[])=>(match ue .u8 x0 with|some a0=>some a0|_=>none)
  |_=>none
theorem aNa{r d}(h:FM r=some d):r=FN (d):=by
  unfold FM at h;split at h
  . split at h
    . rename_i h0;cases h;rw[aE h0];rfl
    . cases h
  . cases h
def vL N c0:=(Qc N c0).bind FM
theorem aNf{N}(hc:aD (sR N)){c0 d}(hd:vL N c0=some d):cB Tryz.prog 69 [.e .u8 c0] [] (FN (d)):=
  cD hc (by kernel_rfl) (by kernel_rfl) (aNe N hc) (by kernel_rfl) aNa (λhr=>(aNd N c0).symm.trans (by rw[aNg N];exact hr)) hd
def zI N c0:=(vL N c0).isSome
def sQ N c0:=((vL N c0).getD 0)
def Q9(N:Nat):bK:=E1 .u8 (λx0=>(zI N x0,FN (sQ N x0)))
theorem aAH N:aK Tryz.prog 69 (Q9 N):=aK.e1 (λx0 h=>cV (z:=vL N x0) h (aNf (aNh N)) rfl)
def FK(a0:Bool):aC:=(.e .bo a0,[])
def FL(N:Nat):Cx:=⟨Tryz.prog,25,[(65,Qk N),(67,Qg N)],[]⟩
def aAF:Code:=Tryz.f70.body.getD .skip
theorem aN4 N:aD (FL N):=bZ (by kernel_rfl) (.cons (by kernel_rfl) (aA5 N) (.cons (by kernel_rfl) (aAU N) .nil)) .nil
def Jn[aA](N:Nat)(s0:aO)(i1:Int):O:=
  let b0:=i1=(0:Int)
  let b1:=aB.wrap (i1-1)
  gc (!decide b0) 0 s0 i1 λy0=>
  gc (!decide b0&&decide (y0≠43)) 0 s0 i1 λy1=>
  gc (!decide b0&&(decide (y0≠43)&&decide (y1≠45))) 0 s0 i1 λy2=>
  gc (!decide b0&&(decide (y0≠43)&&decide (y1≠45)&&decide (y2≠42))) 0 s0 i1 λy3=>
  gc (!decide b0&&(decide (y0≠43)&&decide (y1≠45)&&decide (y2≠42)&&decide (y3≠47))) 0 s0 i1 λy4=>
  gc (!decide b0&&(decide (y0≠43)&&decide (y1≠45)&&decide (y2≠42)&&decide (y3≠47)&&decide (y4≠61))) 0 s0 i1 λy5=>
  br (decide b0||decide (y0≠43)&&decide (y1≠45)&&decide (y2≠42)&&decide (y3≠47)&&decide (y4≠61)&&decide (y5≠60))
    (some (FK false))
    (gx s0 b1 λy6=>
    ck (FT N y6)<|
    gc (!vO N y6) 0 s0 b1 λy7=>
    ck (!!vO N y6||Jy N y7)<|
    gc (!(vO N y6||FP N y7)) 0 s0 b1 λy8=>
    some (FK (vO N y6||FP N y7||decide (y8=41))))
def Q8[aA] N s0 i1:=Jn N s0 i1
def aAD[aA](_:Nat):Hint:=.d
theorem aN2 N:bJ (FL N) Tryz.f70.ntmps (aAD N) aAF:=bR _ _ trivial
theorem aN0[aA] N s0 i1:Jn N s0 i1=exec (FL N) Tryz.f70.ntmps (aAD N) aAF ⟨bW 0 [.e .tx s0,.e (.i .i64) i1],[],100⟩ (bX (FL N) Tryz.f70 false):=by kernel_rfl
def Q7(r:aC):Option (Bool):=match r with
  |(x0,[])=>(match ue .bo x0 with|some a0=>some a0|_=>none)
  |_=>none
theorem aNZ{r d}(h:Q7 r=some d):r=FK (d):=by
  unfold Q7 at h;split at h
  . split at h
    . rename_i h0;cases h;rw[aE h0];rfl
    . cases h
  . cases h
def sP N s0 i1:=(Q8 N s0 i1).bind Q7
theorem aN3{N}(hc:aD (FL N)){s0 i1 d}(hd:sP N s0 i1=some d):cB Tryz.prog 70 [.e .tx s0,.e (.i .i64) i1] [] (FK (d)):=
  cD hc (by kernel_rfl) (by kernel_rfl) (aN2 N) (by kernel_rfl) aNZ (aN0 N s0 i1).symm.trans hd
def Jm N s0 i1:=(sP N s0 i1).isSome
def Jl N s0 i1:=((sP N s0 i1).getD false)
def aAE(N:Nat):bK:=E2 .tx (.i .i64) (λx0 x1=>(Jm N x0 x1,FK (Jl N x0 x1)))
theorem aN1 N:aK Tryz.prog 70 (aAE N):=aK.e2 (λx0 x1 h=>cV (z:=sP N x0 x1) h (aN3 (aN4 N)) rfl)
def MF(a0:aO)(a1:(List Int)):aC:=(.bD [.own 100,.own 101],[(100,.row 5 .u8 a0 true),(101,.row 3 (.i .i64) a1 true)])
def jV(N:Nat):Cx:=⟨Tryz.prog,25,[(65,Qk N),(66,Qi N),(67,Qg N),(68,Qe N),(69,Q9 N),(70,aAE N)],[]⟩
def GB:Code:=Tryz.f37.body.getD .skip
theorem aT3 N:aD (jV N):=bZ (by kernel_rfl) (.cons (by kernel_rfl) (aA5 N) (.cons (by kernel_rfl) (aA0 N) (.cons (by kernel_rfl) (aAU N) (.cons (by kernel_rfl) (aAO N) (.cons (by kernel_rfl) (aAH N) (.cons (by kernel_rfl) (aN1 N) .nil)))))) .nil
def ML[aA](N:Nat)(k0:aO->Int->aO->(List Int)->O)(x230_0:aO)(x230_1:Int)(x230_2:UInt8)(x230_3:aO)(x230_4:(List Int)):O:=
  ck (FT N x230_2)<|
  br (vO N x230_2)
    (gc (!decide (x230_1=0)) 0 x230_0 (aB.wrap (x230_1-1)) λy239=>
    ck (!!decide (x230_1=0)||FT N y239)<|
    br (decide (x230_1=0)||!vO N y239)
      (ck (cZ (x230_3++[(60:UInt8)]).length (1:Nat))<|
      ck (zK N)<|
      gx (pM N) ((↑(x230_2-(48:UInt8)).toNat:Int)) λy240=>
      ck (cZ (x230_3++[(60:UInt8)]++[y240]).length (1:Nat))<|
      k0 x230_0 x230_1 (x230_3++[(60:UInt8)]++[y240]) x230_4)
      (ck (zK N)<|
      gx (pM N) ((↑(x230_2-(48:UInt8)).toNat:Int)) λy241=>
      ck (cZ (x230_3++[y241]).length (1:Nat))<|
      k0 x230_0 x230_1 (x230_3++[y241]) x230_4))
    (ck (Jy N x230_2)<|
    br (FP N x230_2)
      (ck (Jv N)<|
      gx (CL N) ((↑(x230_2-(97:UInt8)).toNat:Int)) λy242=>
      ck (cZ (x230_3++[(48:UInt8),y242]).length (1:Nat))<|
      k0 x230_0 x230_1 (x230_3++[(48:UInt8),y242]) x230_4)
      (ck (zI N x230_2)<|
      ck (cZ (x230_3++[sQ N x230_2]).length (1:Nat))<|
      k0 x230_0 x230_1 (x230_3++[sQ N x230_2]) x230_4))
def Sc:Code:=cP [1,1,1,0,1,0,0,1,0,0,1,0] GB
def aTX:Nm:=⟨[0,2,4,5,6,7],[],[]⟩
def Cq(x:aO×Int×UInt8×aO×(List Int)):Sg:=⟨[(0,.e .tx x.1),(2,.cH),(4,.own 0),(5,.own 1),(6,.e (.i .i64) x.2.1),(7,.e .u8 x.2.2.1)],[(0,.row 5 .u8 x.2.2.2.1 true),(1,.row 3 (.i .i64) x.2.2.2.2 true)],100⟩
def MD(σ:Sg):aO×Int×UInt8×aO×(List Int):=(aW .tx 0 0 σ,aW (.i .i64) 6 0 σ,aW .u8 7 0 σ,fX .u8 0 σ,fX (.i .i64) 1 σ)
theorem aTQ:∀x,MD (Cq x)=x:=λ_=>by kernel_rfl
def MK(y:aO×Int×aO×(List Int)):Exit×Sg:=(.normal,⟨[(0,.e .tx y.1),(2,.cH),(4,.own 0),(5,.own 1),(6,.e (.i .i64) y.2.1)],[(0,.row 5 .u8 y.2.2.1 true),(1,.row 3 (.i .i64) y.2.2.2 true)],100⟩)
def aTM(_:Exit)(σ:Sg):aO×Int×aO×(List Int):=(aW .tx 0 0 σ,aW (.i .i64) 6 0 σ,fX .u8 0 σ,fX (.i .i64) 1 σ)
def aTJ:List (Exit×Nm):=[(.normal,⟨[0,2,4,5,6],[],[]⟩)]
def GA[aA](N:Nat)(_:Nat)(x:aO×Int×UInt8×aO×(List Int))(k0:(aO×Int×aO×(List Int))->O)(_:(Unit)->O)(_:(Unit)->O):O:=ML N (λy0 y1 y2 y3=>k0 (y0,y1,y2,y3)) x.1 x.2.1 x.2.2.1 x.2.2.2.1 x.2.2.2.2
def Fy[aA] N a0 a1 a2 a3 a4 (k0:aO->Int->aO->(List Int)->O):=GA N N (a0,a1,a2,a3,a4) (λy=>k0 y.1 y.2.1 y.2.2.1 y.2.2.2) (λ_=>none) (λ_=>none)
def ME[aA] N a0 a1 a2 a3 a4 (k0:aO->Int->aO->(List Int)->O):=bB Cq MD (GA N N) (Cq (a0,a1,a2,a3,a4)) (λy=>k0 y.1 y.2.1 y.2.2.1 y.2.2.2) (λ_=>none) (λ_=>none)
theorem S9[aA] N:ME N=Fy N:=funext λ_=>funext λ_=>funext λ_=>funext λ_=>funext λ_=>funext λ_=>dD aTQ _ _ _ _
theorem aTT[aA](N:Nat)(K:Exit->Sg->O)(x:aO×Int×UInt8×aO×(List Int)):ML N (λy0 y1 y2 y3=>K (MK (y0,y1,y2,y3)).1 (MK (y0,y1,y2,y3)).2) x.1 x.2.1 x.2.2.1 x.2.2.2.1 x.2.2.2.2=exec (jV N) Tryz.f37.ntmps .d Sc (Cq x) (iH aTJ K):=by kernel_rfl
theorem aT9 N (hc:aD (jV N)):cU (jV N) Tryz.f37.ntmps Sc MK (aV 1) (aV 2) (bB Cq MD (GA N N)):=
  jL hc (cT Sc) (fF aTM .normal (λ_=>by kernel_rfl) (λ_=>rfl) (by kernel_rfl)) (λx K=>by
    exact aTT N K x)
def Se[aA](N:Nat)(in0:aO->Int->UInt8->aO->(List Int)->(aO->Int->aO->(List Int)->O)->O)(k0:aO->Int->aO->(List Int)->O)(x192_0:aO)(x192_1:Int)(x192_2:aO)(x192_3:(List Int)):O:=
  gx x192_0 x192_1 λy229=>
  in0 x192_0 x192_1 y229 x192_2 x192_3
    (λz243 z244 z245 z246=>
      ck (Jm N z243 z244)<|
      br (Jl N z243 z244)
        (ck (cZ (z246++[(↑z245.length:Int)]).length (8:Nat))<|
        k0 z243 z244 z245 (z246++[(↑z245.length:Int)]))
        (k0 z243 z244 z245 z246))
def Sb:Code:=cP [1,1,1,0,1,0,0,1,0] GB
def aTW:Nm:=⟨[0,2,4,5,6],[],[]⟩
def Cp(x:aO×Int×aO×(List Int)):Sg:=⟨[(0,.e .tx x.1),(2,.cH),(4,.own 0),(5,.own 1),(6,.e (.i .i64) x.2.1)],[(0,.row 5 .u8 x.2.2.1 true),(1,.row 3 (.i .i64) x.2.2.2 true)],100⟩
def MC(σ:Sg):aO×Int×aO×(List Int):=(aW .tx 0 0 σ,aW (.i .i64) 6 0 σ,fX .u8 0 σ,fX (.i .i64) 1 σ)
theorem aTP:∀x,MC (Cp x)=x:=λ_=>by kernel_rfl
def MJ(y:aO×Int×aO×(List Int)):Exit×Sg:=(.normal,⟨[(0,.e .tx y.1),(2,.cH),(4,.own 0),(5,.own 1),(6,.e (.i .i64) y.2.1)],[(0,.row 5 .u8 y.2.2.1 true),(1,.row 3 (.i .i64) y.2.2.2 true)],100⟩)
def aTL(_:Exit)(σ:Sg):aO×Int×aO×(List Int):=(aW .tx 0 0 σ,aW (.i .i64) 6 0 σ,fX .u8 0 σ,fX (.i .i64) 1 σ)
def aTI:List (Exit×Nm):=[(.normal,⟨[0,2,4,5,6],[],[]⟩)]
def Fz[aA](N:Nat)(_:Nat)(x:aO×Int×aO×(List Int))(k0:(aO×Int×aO×(List Int))->O)(_:(Unit)->O)(_:(Unit)->O):O:=Se N (Fy N) (λy0 y1 y2 y3=>k0 (y0,y1,y2,y3)) x.1 x.2.1 x.2.2.1 x.2.2.2
def MH[aA] N a0 a1 a2 a3 (k0:aO->Int->aO->(List Int)->O):=Fz N N (a0,a1,a2,a3) (λy=>k0 y.1 y.2.1 y.2.2.1 y.2.2.2) (λ_=>none) (λ_=>none)
def S7[aA] N a0 a1 a2 a3 (k0:aO->Int->aO->(List Int)->O):=bB Cp MC (Fz N N) (Cp (a0,a1,a2,a3)) (λy=>k0 y.1 y.2.1 y.2.2.1 y.2.2.2) (λ_=>none) (λ_=>none)
theorem aDL[aA] N:S7 N=MH N:=funext λ_=>funext λ_=>funext λ_=>funext λ_=>funext λ_=>dD aTP _ _ _ _
def aDJ[aA](N:Nat):Hint:=(.block (.seq .d (.seq (.sub aTX _ _ _ MK (aV 1) (aV 2) (bB Cq MD (GA N N))) .d)))
theorem aTZ N (hc:aD (jV N)):bJ (jV N) Tryz.f37.ntmps (aDJ N) Sb:=bR _ _ (aH trivial (aH (aT9 N hc) trivial))
theorem aTS[aA](N:Nat)(K:Exit->Sg->O)(x:aO×Int×aO×(List Int)):Se N (ME N) (λy0 y1 y2 y3=>K (MJ (y0,y1,y2,y3)).1 (MJ (y0,y1,y2,y3)).2) x.1 x.2.1 x.2.2.1 x.2.2.2=exec (jV N) Tryz.f37.ntmps (aDJ N) Sb (Cp x) (iH aTI K):=by kernel_rfl
theorem aT8 N (hc:aD (jV N)):cU (jV N) Tryz.f37.ntmps Sb MJ (aV 1) (aV 2) (bB Cp MC (Fz N N)):=
  jL hc (aTZ N hc) (fF aTL .normal (λ_=>by kernel_rfl) (λ_=>rfl) (by kernel_rfl)) (λx K=>by
    have q:=aTS N K x;rw[S9 N]at q;exact q)
def Cr[aA](_:Nat)(_in0:aO->Int->UInt8->aO->(List Int)->(aO->Int->aO->(List Int)->O)->O)(in1:aO->Int->aO->(List Int)->(aO->Int->aO->(List Int)->O)->O)(self:aO->Int->aO->(List Int)->O)(k0:aO->(List Int)->O)(x0_0:aO)(x0_1:Int)(x0_2:aO)(x0_3:(List Int)):O:=
  br (decide (x0_1<(↑x0_0.length:Int)))
    (in1 x0_0 x0_1 x0_2 x0_3
      (λz247 z248 z249 z250=>
        self z247 (aB.wrap (z248+1)) z249 z250))
    (k0 x0_2 x0_3)
def Sa:Code:=cP [1,1,1,0,1,0,0] GB
def aDH:Nm:=⟨[0,2,4,5,6],[],[.Dp 4 (.row 5 .u8 [] true),.Dp 5 (.row 3 (.i .i64) [] true)]⟩
def AP(x:aO×Int×aO×(List Int)):Sg:=⟨[(0,.e .tx x.1),(2,.cH),(4,.own 0),(5,.own 1),(6,.e (.i .i64) x.2.1)],[(0,.row 5 .u8 x.2.2.1 true),(1,.row 3 (.i .i64) x.2.2.2 true)],100⟩
def MB(σ:Sg):aO×Int×aO×(List Int):=(aW .tx 0 0 σ,aW (.i .i64) 6 0 σ,fX .u8 0 σ,fX (.i .i64) 1 σ)
theorem aTO:∀x,MB (AP x)=x:=λ_=>by kernel_rfl
def MI(y:aO×(List Int)):Exit×Sg:=((.exit 0),⟨[(4,.own 0),(5,.own 1)],[(0,.row 5 .u8 y.1 true),(1,.row 3 (.i .i64) y.2 true)],100⟩)
def aTK(_:Exit)(σ:Sg):aO×(List Int):=(fX .u8 0 σ,fX (.i .i64) 1 σ)
def aTH:List (Exit×Nm):=[((.exit 0),⟨[4,5],[],[]⟩)]
def AO[aA](N:Nat):Nat->(aO×Int×aO×(List Int))->((aO×(List Int))->O)->((Unit)->O)->((Unit)->O)->O
  |0,_,_,_,_=>none
  |n+1,x,k0,k1,k2=>Cr N (Fy N) (MH N) (λv0 v1 v2 v3=>AO N n (v0,v1,v2,v3) k0 k1 k2) (λy0 y1=>k0 (y0,y1)) x.1 x.2.1 x.2.2.1 x.2.2.2
def S8[aA] N a0 a1 a2 a3 (k0:aO->(List Int)->O):=AO N N (a0,a1,a2,a3) (λy=>k0 y.1 y.2) (λ_=>none) (λ_=>none)
def aDG[aA] N a0 a1 a2 a3 (k0:aO->(List Int)->O):=bB AP MB (AO N N) (AP (a0,a1,a2,a3)) (λy=>k0 y.1 y.2) (λ_=>none) (λ_=>none)
theorem aT2[aA] N:aDG N=S8 N:=funext λ_=>funext λ_=>funext λ_=>funext λ_=>funext λ_=>dD aTO _ _ _ _
def aDI[aA](N:Nat):Hint:=(.seq .d (.seq (.sub aTW _ _ _ MJ (aV 1) (aV 2) (bB Cp MC (Fz N N))) .d))
theorem aTY N (hc:aD (jV N)):bJ (jV N) Tryz.f37.ntmps (aDI N) Sa:=bR _ _ (aH trivial (aH (aT8 N hc) trivial))
theorem aTR[aA](N:Nat)(self:Sg->O)(K:Exit->Sg->O)(x:aO×Int×aO×(List Int)):Cr N (ME N) (S7 N) (λv0 v1 v2 v3=>self (AP (v0,v1,v2,v3))) (λy0 y1=>K (MI (y0,y1)).1 (MI (y0,y1)).2) x.1 x.2.1 x.2.2.1 x.2.2.2=exec (jV N) Tryz.f37.ntmps (aDI N) Sa (AP x) (fE aDH aTH self K):=by kernel_rfl
theorem aT7 N (hc:aD (jV N)):cU (jV N) Tryz.f37.ntmps (.loop Sa) MI (aV 1) (aV 2) (bB AP MB (AO N N)):=
  fW hc (aTY N hc) (fF aTK (.exit 0) (λ_=>by kernel_rfl) (λ_=>rfl) (by kernel_rfl)) (n:=N) (λx K=>fY (AO N) (λ_ _ _ _=>rfl) (λn K ih x=>by
    refine gM ?_ (aTR N _ K x);simp only[S9 N,aDL N,<-ih];rfl) N x K)
def Sd[aA](_:Nat)(_in0:aO->Int->UInt8->aO->(List Int)->(aO->Int->aO->(List Int)->O)->O)(_in1:aO->Int->aO->(List Int)->(aO->Int->aO->(List Int)->O)->O)(in2:aO->Int->aO->(List Int)->(aO->(List Int)->O)->O)(s0:aO):O:=
  in2 s0 0 [] []
    (λz251 z252=>
      ck (cZ (z251++[(63:UInt8)]).length (1:Nat))<|
      some (MF (z251++[(63:UInt8)]) z252))
def w37[aA] N s0:=Sd N (Fy N) (MH N) (S8 N) s0
def aDK[aA](N:Nat):Hint:=(.seq .d (.seq .d (.seq .d (.seq (.seq .d (.block (.sub aDH _ _ _ MI (aV 1) (aV 2) (bB AP MB (AO N N))))) .d))))
theorem aT0 N (hc:aD (jV N)):bJ (jV N) Tryz.f37.ntmps (aDK N) GB:=bR _ _ (aH trivial (aH trivial (aH trivial (aH (aH trivial (aT7 N hc)) trivial))))
theorem aTU[aA] N s0:Sd N (ME N) (S7 N) (aDG N) s0=exec (jV N) Tryz.f37.ntmps (aDK N) GB ⟨bW 0 [.e .tx s0],[],100⟩ (bX (jV N) Tryz.f37 true):=by kernel_rfl
def MA(r:aC):Option (aO×(List Int)):=match r with
  |(.bD [.own 100,.own 101],[(100,x0),(101,x1)])=>(match ur 5 .u8 true x0,ur 3 (.i .i64) true x1 with|some a0,some a1=>some (a0,a1)|_,_=>none)
  |_=>none
theorem aTN{r d}(h:MA r=some d):r=MF d.1 d.2:=by
  unfold MA at h;split at h
  . split at h
    . rename_i h0 h1;cases h;rw[jK h0,jK h1];rfl
    . cases h
  . cases h
def v7 N s0:=(w37 N s0).bind MA
theorem aT1{N}(hc:aD (jV N)){s0 d}(hd:v7 N s0=some d):cB Tryz.prog 37 [.e .tx s0] [] (MF d.1 d.2):=
  cD hc (by kernel_rfl) (by kernel_rfl) (aT0 N hc) (by kernel_rfl) aTN (λhr=>(aTU N s0).symm.trans (by rw[S9 N,aDL N,aT2 N];exact hr)) hd
def MG N s0:=(v7 N s0).isSome
def Lz N s0:=((v7 N s0).getD ([],[])).1
def aTG N s0:=((v7 N s0).getD ([],[])).2
def aDM(N:Nat):bK:=E1 .tx (λx0=>(MG N x0,MF (Lz N x0) (aTG N x0)))
theorem aTV N:aK Tryz.prog 37 (aDM N):=aK.e1 (λx0 h=>cV (z:=v7 N x0) h (aT1 (aT3 N)) rfl)
def G6(a0:aO)(a1:Int):aC:=(.bD [.e (.sl .u8) a0,.e (.i .i64) a1],[])
def G8(N:Nat):Cx:=⟨Tryz.prog,25,[(36,MM N),(38,aDD N),(37,aDM N)],[]⟩
def aEi:Code:=Tryz.f11.body.getD .skip
theorem aWS N:aD (G8 N):=bZ (by kernel_rfl) (.cons (by kernel_rfl) (Sh N) (.cons (by kernel_rfl) (aSz N) (.cons (by kernel_rfl) (aTV N) .nil))) .nil
def Tl[aA](N:Nat)(e0_0 e0_1:Int)(e0_2:(List Ex)):O:=
  let b0:=Ex.mk (Ex.mk e0_0 e0_1 e0_2).op (Ex.mk e0_0 e0_1 e0_2).num (Ex.mk e0_0 e0_1 e0_2).kids
  ck (AQ N b0.op b0.num b0.kids)<|
  br (decide (v8 N b0.op b0.num b0.kids≠(0:Int)))
    (some (G6 [] (v8 N b0.op b0.num b0.kids)))
    (ck (Lx N b0.op b0.num b0.kids)<|
    ck (MG N (Fv N b0.op b0.num b0.kids))<|
    some (G6 (Lz N (Fv N b0.op b0.num b0.kids)) 0))
def w11[aA] N e0_0 e0_1 e0_2:=Tl N e0_0 e0_1 e0_2
def aEh[aA](_:Nat):Hint:=.d
theorem aWQ N:bJ (G8 N) Tryz.f11.ntmps (aEh N) aEi:=bR _ _ trivial
theorem aWP[aA] N e0_0 e0_1 e0_2:Tl N e0_0 e0_1 e0_2=exec (G8 N) Tryz.f11.ntmps (aEh N) aEi ⟨bW 0 [.agg [.e (.i .i64) e0_0,.e (.i .i64) e0_1,.e (.sl .ex) e0_2]],[],100⟩ (bX (G8 N) Tryz.f11 false):=by kernel_rfl
def Ti(r:aC):Option (aO×Int):=match r with
  |(.bD [x0,x1],[])=>(match ue (.sl .u8) x0,ue (.i .i64) x1 with|some a0,some a1=>some (a0,a1)|_,_=>none)
  |_=>none
theorem aWO{r d}(h:Ti r=some d):r=G6 d.1 d.2:=by
  unfold Ti at h;split at h
  . split at h
    . rename_i h0 h1;cases h;rw[aE h0,aE h1];rfl
    . cases h
  . cases h
def DO N e0_0 e0_1 e0_2:=(w11 N e0_0 e0_1 e0_2).bind Ti
theorem aWR{N}(hc:aD (G8 N)){e0_0 e0_1 e0_2 d}(hd:DO N e0_0 e0_1 e0_2=some d):cB Tryz.prog 11 [.agg [.e (.i .i64) e0_0,.e (.i .i64) e0_1,.e (.sl .ex) e0_2]] [] (G6 d.1 d.2):=
  cD hc (by kernel_rfl) (by kernel_rfl) (aWQ N) (by kernel_rfl) aWO (aWP N e0_0 e0_1 e0_2).symm.trans hd
def G7 N e0_0 e0_1 e0_2:=(DO N e0_0 e0_1 e0_2).isSome
def A6 N e0_0 e0_1 e0_2:=((DO N e0_0 e0_1 e0_2).getD ([],0)).1
def Mw N e0_0 e0_1 e0_2:=((DO N e0_0 e0_1 e0_2).getD ([],0)).2
def Tj(N:Nat):bK:=E1 .ex (λx0=>(G7 N (Ex.op x0) (Ex.num x0) (Ex.kids x0),G6 (A6 N (Ex.op x0) (Ex.num x0) (Ex.kids x0)) (Mw N (Ex.op x0) (Ex.num x0) (Ex.kids x0))))
theorem aEg N:aK Tryz.prog 11 (Tj N):=aK.e1 (λ_ h=>cV h (aWR (aWS N)) rfl)
def Fo(a0:Int):aC:=(.e (.i .i64) a0,[])
def s8(_:Nat):Cx:=⟨Tryz.prog,25,[],[]⟩
def SQ:Code:=Tryz.f44.body.getD .skip
theorem aSQ N:aD (s8 N):=bZ (by kernel_rfl) .nil .nil
def Ci[aA](_:Nat)(self:Int->O)(k0:Int->O)(k1:Unit->O)(x0_0:aO)(x0_1:UInt8)(x0_2:Int):O:=
  br (decide (x0_2<(↑x0_0.length:Int)))
    (gx x0_0 x0_2 λy3=>
    br (decide (y3=x0_1))
      (k0 x0_2)
      (self (aB.wrap (x0_2+1))))
    (k1 ())
def SP:Code:=cP [1,0,1,0,0] SQ
def aC6:Nm:=⟨[0,1,5],[],[]⟩
def AJ(x:aO×UInt8×Int):Sg:=⟨[(0,.e (.sl .u8) x.1),(1,.e .u8 x.2.1),(5,.e (.i .i64) x.2.2)],[],100⟩
def Lg(σ:Sg):aO×UInt8×Int:=(aW (.sl .u8) 0 0 σ,aW .u8 1 0 σ,aW (.i .i64) 5 0 σ)
theorem aSK:∀x,Lg (AJ x)=x:=λ_=>by kernel_rfl
def Li(y:Int):Exit×Sg:=(.ret,⟨[(4,.e (.i .i64) y)],[],100⟩)
def aSI(_:Exit)(σ:Sg):Int:=aW (.i .i64) 4 0 σ
def Lh(_:Unit):Exit×Sg:=((.exit 0),⟨[],[],100⟩)
def aSH(_:Exit)(_:Sg):Unit:=()
def aSG:List (Exit×Nm):=[(.ret,⟨[4],[],[]⟩),((.exit 0),⟨[],[],[]⟩)]
def AI[aA](N:Nat):Nat->(aO×UInt8×Int)->((Int)->O)->((Unit)->O)->((Unit)->O)->O
  |0,_,_,_,_=>none
  |n+1,x,k0,k1,k2=>Ci N (λv0=>AI N n (x.1,x.2.1,v0) k0 k1 k2) (λy0=>k0 y0) (λ(_:Unit)=>k1 ()) x.1 x.2.1 x.2.2
def SN[aA] N a0 a1 a2 (k0:Int->O) (k1:Unit->O):=AI N N (a0,a1,a2) (λy=>k0 y) (λy=>k1 y) (λ_=>none)
def aC4[aA] N a0 a1 a2 (k0:Int->O) (k1:Unit->O):=bB AJ Lg (AI N N) (AJ (a0,a1,a2)) (λy=>k0 y) (λy=>k1 y) (λ_=>none)
theorem aSP[aA] N:aC4 N=SN N:=funext λ_=>funext λ_=>funext λ_=>funext λ_=>funext λ_=>dD aSK _ _ _ _
theorem aSL[aA](N:Nat)(self:Sg->O)(K:Exit->Sg->O)(x:aO×UInt8×Int):Ci N (λv0=>self (AJ (x.1,x.2.1,v0))) (λy0=>K (Li y0).1 (Li y0).2) (λ(_:Unit)=>K (Lh ()).1 (Lh ()).2) x.1 x.2.1 x.2.2=exec (s8 N) Tryz.f44.ntmps .d SP (AJ x) (fE aC6 aSG self K):=by kernel_rfl
theorem aSR N (hc:aD (s8 N)):cU (s8 N) Tryz.f44.ntmps (.loop SP) Li Lh (aV 2) (bB AJ Lg (AI N N)):=
  fW hc (cT SP) (kS aSI aSH .ret (.exit 0) (λ_=>by kernel_rfl) (λ_=>by kernel_rfl) (λ_=>rfl) (λ_=>rfl) (by kernel_rfl)) (n:=N) (λx K=>fY (AI N) (λ_ _ _ _=>rfl) (λn K ih x=>by
    refine gM ?_ (aSL N _ K x);simp only[<-ih];rfl) N x K)
def SU[aA](_:Nat)(in0:aO->UInt8->Int->(Int->O)->(Unit->O)->O)(l0:aO)(c1:UInt8):O:=
  in0 l0 c1 0
    (λz4=>
      some (Fo z4))
    (λ(_:Unit)=>
      some (Fo ((-1:Int))))
def w44[aA] N l0 c1:=SU N (SN N) l0 c1
def aC7[aA](N:Nat):Hint:=(.seq .d (.seq (.seq .d (.block (.sub aC6 _ _ _ Li Lh (aV 2) (bB AJ Lg (AI N N))))) .d))
theorem aSN N (hc:aD (s8 N)):bJ (s8 N) Tryz.f44.ntmps (aC7 N) SQ:=bR _ _ (aH trivial (aH (aH trivial (aSR N hc)) trivial))
theorem aSM[aA] N l0 c1:SU N (aC4 N) l0 c1=exec (s8 N) Tryz.f44.ntmps (aC7 N) SQ ⟨bW 0 [.e (.sl .u8) l0,.e .u8 c1],[],100⟩ (bX (s8 N) Tryz.f44 false):=by kernel_rfl
def Lf(r:aC):Option (Int):=match r with
  |(x0,[])=>(match ue (.i .i64) x0 with|some a0=>some a0|_=>none)
  |_=>none
theorem aSJ{r d}(h:Lf r=some d):r=Fo (d):=by
  unfold Lf at h;split at h
  . split at h
    . rename_i h0;cases h;rw[aE h0];rfl
    . cases h
  . cases h
def Ch N l0 c1:=(w44 N l0 c1).bind Lf
theorem aSO{N}(hc:aD (s8 N)){l0 c1 d}(hd:Ch N l0 c1=some d):cB Tryz.prog 44 [.e (.sl .u8) l0,.e .u8 c1] [] (Fo (d)):=
  cD hc (by kernel_rfl) (by kernel_rfl) (aSN N hc) (by kernel_rfl) aSJ (λhr=>(aSM N l0 c1).symm.trans (by rw[aSP N];exact hr)) hd
def q8 N l0 c1:=(Ch N l0 c1).isSome
def k9 N l0 c1:=((Ch N l0 c1).getD 0)
def SO(N:Nat):bK:=E2 (.sl .u8) .u8 (λx0 x1=>(q8 N x0 x1,Fo (k9 N x0 x1)))
theorem aC5 N:aK Tryz.prog 44 (SO N):=aK.e2 (λx0 x1 h=>cV (z:=Ch N x0 x1) h (aSO (aSQ N)) rfl)
def LW(a0:aO):aC:=(.e .tx a0,[])
def kO(N:Nat):Cx:=⟨Tryz.prog,25,[(66,Qi N),(44,SO N),(68,Qe N),(69,Q9 N)],[]⟩
def Fk:Code:=Tryz.f46.body.getD .skip
theorem aR9 N:aD (kO N):=bZ (by kernel_rfl) (.cons (by kernel_rfl) (aA0 N) (.cons (by kernel_rfl) (aC5 N) (.cons (by kernel_rfl) (aAO N) (.cons (by kernel_rfl) (aAH N) .nil)))) .nil
def Cc[aA](N:Nat)(self:aO->Int->O)(k0:aO->aO->Int->O)(x50_0 x50_1:aO)(x50_2:Int):O:=
  let b0:=aB.wrap (x50_2+1)<(↑x50_0.length:Int)
  let b1:=aB.wrap (x50_2+1)
  ck (!decide b0||zK N)<|
  gc (decide b0) 0 x50_0 b1 λy55=>
  ck (!decide b0||q8 N (pM N) y55)<|
  br (decide b0&&decide ((0:Int)<=k9 N (pM N) y55))
    (ck (zK N)<|
    gx x50_0 b1 λy56=>
    ck (q8 N (pM N) y56)<|
    ck (decide ((↑x50_1.length:Int)+(↑[dV (aB.wrap ((48:Int)+k9 N (pM N) y56))].length:Int)<=(9223372036854775807:Int)))<|
    self (x50_1++[dV (aB.wrap ((48:Int)+k9 N (pM N) y56))]) b1)
    (k0 x50_0 x50_1 x50_2)
def SI:Code:=cP [1,1,0,1,0,0,1,0,0,1,0,0,0] Fk
def aCR:Nm:=⟨[0,3,4],[],[]⟩
def AH(x:aO×aO×Int):Sg:=⟨[(0,.e (.sl .u8) x.1),(3,.e .tx x.2.1),(4,.e (.i .i64) x.2.2)],[],100⟩
def LV(σ:Sg):aO×aO×Int:=(aW (.sl .u8) 0 0 σ,aW .tx 3 0 σ,aW (.i .i64) 4 0 σ)
theorem aRZ:∀x,LV (AH x)=x:=λ_=>by kernel_rfl
def L2(y:aO×aO×Int):Exit×Sg:=((.exit 2),⟨[(0,.e (.sl .u8) y.1),(3,.e .tx y.2.1),(4,.e (.i .i64) y.2.2)],[],100⟩)
def aRV(_:Exit)(σ:Sg):aO×aO×Int:=(aW (.sl .u8) 0 0 σ,aW .tx 3 0 σ,aW (.i .i64) 4 0 σ)
def aRS:List (Exit×Nm):=[((.exit 2),⟨[0,3,4],[],[]⟩)]
def qZ[aA](N:Nat):Nat->(aO×aO×Int)->((aO×aO×Int)->O)->((Unit)->O)->((Unit)->O)->O
  |0,_,_,_,_=>none
  |n+1,x,k0,k1,k2=>Cc N (λv0 v1=>qZ N n (x.1,v0,v1) k0 k1 k2) (λy0 y1 y2=>k0 (y0,y1,y2)) x.1 x.2.1 x.2.2
def LY[aA] N a0 a1 a2 (k0:aO->aO->Int->O):=qZ N N (a0,a1,a2) (λy=>k0 y.1 y.2.1 y.2.2) (λ_=>none) (λ_=>none)
def SE[aA] N a0 a1 a2 (k0:aO->aO->Int->O):=bB AH LV (qZ N N) (AH (a0,a1,a2)) (λy=>k0 y.1 y.2.1 y.2.2) (λ_=>none) (λ_=>none)
theorem aCV[aA] N:SE N=LY N:=funext λ_=>funext λ_=>funext λ_=>funext λ_=>dD aRZ _ _ _ _
theorem aR2[aA](N:Nat)(self:Sg->O)(K:Exit->Sg->O)(x:aO×aO×Int):Cc N (λv0 v1=>self (AH (x.1,v0,v1))) (λy0 y1 y2=>K (L2 (y0,y1,y2)).1 (L2 (y0,y1,y2)).2) x.1 x.2.1 x.2.2=exec (kO N) Tryz.f46.ntmps .d SI (AH x) (fE aCR aRS self K):=by kernel_rfl
theorem aRg N (hc:aD (kO N)):cU (kO N) Tryz.f46.ntmps (.loop SI) L2 (aV 1) (aV 2) (bB AH LV (qZ N N)):=
  fW hc (cT SI) (fF aRV (.exit 2) (λ_=>by kernel_rfl) (λ_=>rfl) (by kernel_rfl)) (n:=N) (λx K=>fY (qZ N) (λ_ _ _ _=>rfl) (λn K ih x=>by
    refine gM ?_ (aR2 N _ K x);simp only[<-ih];rfl) N x K)
def Cb[aA](N:Nat)(self:aO->Int->O)(k0:aO->aO->Int->Int->O)(x62_0:aO)(x62_2 _x62_3:Int)(x62_1:aO)(x62_4:Int):O:=
  br (decide (x62_4<127))
    (ck (zI N (dV x62_4))<|
    gx x62_0 x62_2 λy67=>
    gc (decide (sQ N (dV x62_4)=y67)) 0 x62_0 x62_2 λy68=>
    br (decide (sQ N (dV x62_4)=y67)&&decide (y68≠0))
      (ck (decide ((↑x62_1.length:Int)+(↑[dV x62_4].length:Int)<=(9223372036854775807:Int)))<|
      self (x62_1++[dV x62_4]) (aB.wrap (x62_4+1)))
      (self x62_1 (aB.wrap (x62_4+1))))
    (k0 x62_0 x62_1 x62_2 x62_4)
def SH:Code:=cP [1,1,0,1,0,0,1,0,0,1,1,1,1,1,0,0] Fk
def aCQ:Nm:=⟨[0,3,4,8,5],[],[]⟩
def AG(x:aO×aO×Int×Int×Int):Sg:=⟨[(0,.e (.sl .u8) x.1),(3,.e .tx x.2.1),(4,.e (.i .i64) x.2.2.1),(8,.e (.i .i64) x.2.2.2.1),(5,.e (.i .i64) x.2.2.2.2)],[],100⟩
def LU(σ:Sg):aO×aO×Int×Int×Int:=(aW (.sl .u8) 0 0 σ,aW .tx 3 0 σ,aW (.i .i64) 4 0 σ,aW (.i .i64) 8 0 σ,aW (.i .i64) 5 0 σ)
theorem aRY:∀x,LU (AG x)=x:=λ_=>by kernel_rfl
def L1(y:aO×aO×Int×Int):Exit×Sg:=((.exit 4),⟨[(0,.e (.sl .u8) y.1),(3,.e .tx y.2.1),(4,.e (.i .i64) y.2.2.1),(5,.e (.i .i64) y.2.2.2)],[],100⟩)
def aRU(_:Exit)(σ:Sg):aO×aO×Int×Int:=(aW (.sl .u8) 0 0 σ,aW .tx 3 0 σ,aW (.i .i64) 4 0 σ,aW (.i .i64) 5 0 σ)
def aRR:List (Exit×Nm):=[((.exit 4),⟨[0,3,4,5],[],[]⟩)]
def AE[aA](N:Nat):Nat->(aO×aO×Int×Int×Int)->((aO×aO×Int×Int)->O)->((Unit)->O)->((Unit)->O)->O
  |0,_,_,_,_=>none
  |n+1,x,k0,k1,k2=>Cb N (λv0 v1=>AE N n (x.1,v0,x.2.2.1,x.2.2.2.1,v1) k0 k1 k2) (λy0 y1 y2 y3=>k0 (y0,y1,y2,y3)) x.1 x.2.2.1 x.2.2.2.1 x.2.1 x.2.2.2.2
def Fj[aA] N a0 a1 a2 a3 a4 (k0:aO->aO->Int->Int->O):=AE N N (a0,a1,a2,a3,a4) (λy=>k0 y.1 y.2.1 y.2.2.1 y.2.2.2) (λ_=>none) (λ_=>none)
def SD[aA] N a0 a1 a2 a3 a4 (k0:aO->aO->Int->Int->O):=bB AG LU (AE N N) (AG (a0,a1,a2,a3,a4)) (λy=>k0 y.1 y.2.1 y.2.2.1 y.2.2.2) (λ_=>none) (λ_=>none)
theorem aCU[aA] N:SD N=Fj N:=funext λ_=>funext λ_=>funext λ_=>funext λ_=>funext λ_=>funext λ_=>dD aRY _ _ _ _
theorem aR1[aA](N:Nat)(self:Sg->O)(K:Exit->Sg->O)(x:aO×aO×Int×Int×Int):Cb N (λv0 v1=>self (AG (x.1,v0,x.2.2.1,x.2.2.2.1,v1))) (λy0 y1 y2 y3=>K (L1 (y0,y1,y2,y3)).1 (L1 (y0,y1,y2,y3)).2) x.1 x.2.2.1 x.2.2.2.1 x.2.1 x.2.2.2.2=exec (kO N) Tryz.f46.ntmps .d SH (AG x) (fE aCQ aRR self K):=by kernel_rfl
theorem aRf N (hc:aD (kO N)):cU (kO N) Tryz.f46.ntmps (.loop SH) L1 (aV 1) (aV 2) (bB AG LU (AE N N)):=
  fW hc (cT SH) (fF aRU (.exit 4) (λ_=>by kernel_rfl) (λ_=>rfl) (by kernel_rfl)) (n:=N) (λx K=>fY (AE N) (λ_ _ _ _=>rfl) (λn K ih x=>by
    refine gM ?_ (aR1 N _ K x);simp only[<-ih];rfl) N x K)
def Ca[aA](N:Nat)(in0:aO->aO->Int->(aO->aO->Int->O)->O)(in1:aO->aO->Int->Int->Int->(aO->aO->Int->Int->O)->O)(self:aO->aO->Int->O)(k0:aO->O)(x0_0 x0_1:aO)(x0_2:Int):O:=
  br (decide (x0_2<(↑x0_0.length:Int)))
    (gx x0_0 x0_2 λy49=>
    br (decide (y49=60))
      (in0 x0_0 x0_1 x0_2
        (λz57 z58 z59=>
          self z57 z58 (aB.wrap (z59+1))))
      (gx x0_0 x0_2 λy60=>
      br (decide (y60=48)&&decide (aB.wrap (x0_2+1)<(↑x0_0.length:Int)))
        (ck (Jv N)<|
        gx x0_0 (aB.wrap (x0_2+1)) λy61=>
        ck (q8 N (CL N) y61)<|
        ck (decide ((↑x0_1.length:Int)+(↑[dV (aB.wrap ((97:Int)+max (k9 N (CL N) y61) (0:Int)))].length:Int)<=(9223372036854775807:Int)))<|
        self x0_0 (x0_1++[dV (aB.wrap ((97:Int)+max (k9 N (CL N) y61) (0:Int)))]) (aB.wrap (aB.wrap (x0_2+1)+(1:Int))))
        (in1 x0_0 x0_1 x0_2 ((↑x0_0.length:Int)) 33
          (λz69 z70 z71 _=>
            self z69 z70 (aB.wrap (z71+1))))))
    (k0 x0_1)
def SG:Code:=cP [1,1,0,1,0,0] Fk
def aCP:Nm:=⟨[0,3,4],[],[]⟩
def AF(x:aO×aO×Int):Sg:=⟨[(0,.e (.sl .u8) x.1),(3,.e .tx x.2.1),(4,.e (.i .i64) x.2.2)],[],100⟩
def LS(σ:Sg):aO×aO×Int:=(aW (.sl .u8) 0 0 σ,aW .tx 3 0 σ,aW (.i .i64) 4 0 σ)
theorem aRX:∀x,LS (AF x)=x:=λ_=>by kernel_rfl
def L0(y:aO):Exit×Sg:=((.exit 0),⟨[(3,.e .tx y)],[],100⟩)
def aRT(_:Exit)(σ:Sg):aO:=aW .tx 3 0 σ
def aRQ:List (Exit×Nm):=[((.exit 0),⟨[3],[],[]⟩)]
def vS[aA](N:Nat):Nat->(aO×aO×Int)->((aO)->O)->((Unit)->O)->((Unit)->O)->O
  |0,_,_,_,_=>none
  |n+1,x,k0,k1,k2=>Ca N (LY N) (Fj N) (λv0 v1 v2=>vS N n (v0,v1,v2) k0 k1 k2) (λy0=>k0 y0) x.1 x.2.1 x.2.2
def SF[aA] N a0 a1 a2 (k0:aO->O):=vS N N (a0,a1,a2) (λy=>k0 y) (λ_=>none) (λ_=>none)
def aCO[aA] N a0 a1 a2 (k0:aO->O):=bB AF LS (vS N N) (AF (a0,a1,a2)) (λy=>k0 y) (λ_=>none) (λ_=>none)
theorem aR8[aA] N:aCO N=SF N:=funext λ_=>funext λ_=>funext λ_=>funext λ_=>dD aRX _ _ _ _
def aCS[aA](N:Nat):Hint:=(.seq .d (.seq (.block (.seq .d (.cond (.block (.sub aCR _ _ _ L2 (aV 1) (aV 2) (bB AH LV (qZ N N)))) (.seq .d (.cond .d (.seq .d (.block (.sub aCQ _ _ _ L1 (aV 1) (aV 2) (bB AG LU (AE N N)))))))))) .d))
theorem aR5 N (hc:aD (kO N)):bJ (kO N) Tryz.f46.ntmps (aCS N) SG:=bR _ _ (aH trivial (aH (aH trivial (aH (aRg N hc) (aH trivial (aH trivial (aH trivial (aRf N hc)))))) trivial))
theorem aR0[aA](N:Nat)(self:Sg->O)(K:Exit->Sg->O)(x:aO×aO×Int):Ca N (SE N) (SD N) (λv0 v1 v2=>self (AF (v0,v1,v2))) (λy0=>K (L0 y0).1 (L0 y0).2) x.1 x.2.1 x.2.2=exec (kO N) Tryz.f46.ntmps (aCS N) SG (AF x) (fE aCP aRQ self K):=by kernel_rfl
theorem aRe N (hc:aD (kO N)):cU (kO N) Tryz.f46.ntmps (.loop SG) L0 (aV 1) (aV 2) (bB AF LS (vS N N)):=
  fW hc (aR5 N hc) (fF aRT (.exit 0) (λ_=>by kernel_rfl) (λ_=>rfl) (by kernel_rfl)) (n:=N) (λx K=>fY (vS N) (λ_ _ _ _=>rfl) (λn K ih x=>by
    refine gM ?_ (aR0 N _ K x);simp only[aCV N,aCU N,<-ih];rfl) N x K)
def SJ[aA](_:Nat)(_in0:aO->aO->Int->(aO->aO->Int->O)->O)(_in1:aO->aO->Int->Int->Int->(aO->aO->Int->Int->O)->O)(in2:aO->aO->Int->(aO->O)->O)(l0:aO):O:=
  in2 l0 [] 0
    (λz73=>
      some (LW z73))
def w46[aA] N l0:=SJ N (LY N) (Fj N) (SF N) l0
def aCT[aA](N:Nat):Hint:=(.seq .d (.seq .d (.seq (.seq .d (.block (.sub aCP _ _ _ L0 (aV 1) (aV 2) (bB AF LS (vS N N))))) .d)))
theorem aR6 N (hc:aD (kO N)):bJ (kO N) Tryz.f46.ntmps (aCT N) Fk:=bR _ _ (aH trivial (aH trivial (aH (aH trivial (aRe N hc)) trivial)))
theorem aR3[aA] N l0:SJ N (SE N) (SD N) (aCO N) l0=exec (kO N) Tryz.f46.ntmps (aCT N) Fk ⟨bW 0 [.e (.sl .u8) l0],[],100⟩ (bX (kO N) Tryz.f46 false):=by kernel_rfl
def LR(r:aC):Option (aO):=match r with
  |(x0,[])=>(match ue .tx x0 with|some a0=>some a0|_=>none)
  |_=>none
theorem aRW{r d}(h:LR r=some d):r=LW (d):=by
  unfold LR at h;split at h
  . split at h
    . rename_i h0;cases h;rw[aE h0];rfl
    . cases h
  . cases h
def C9 N l0:=(w46 N l0).bind LR
theorem aR7{N}(hc:aD (kO N)){l0 d}(hd:C9 N l0=some d):cB Tryz.prog 46 [.e (.sl .u8) l0] [] (LW (d)):=
  cD hc (by kernel_rfl) (by kernel_rfl) (aR6 N hc) (by kernel_rfl) aRW (λhr=>(aR3 N l0).symm.trans (by rw[aCV N,aCU N,aR8 N];exact hr)) hd
def LX N l0:=(C9 N l0).isSome
def LQ N l0:=((C9 N l0).getD [])
def aCW(N:Nat):bK:=E1 (.sl .u8) (λx0=>(LX N x0,LW (LQ N x0)))
theorem aR4 N:aK Tryz.prog 46 (aCW N):=aK.e1 (λx0 h=>cV (z:=C9 N x0) h (aR7 (aR9 N)) rfl)
def DF(a0 a1:Int)(a2:(List Ex))(a3 a4:Int):aC:=(.bD [.agg [.e (.i .i64) a0,.e (.i .i64) a1,.e (.sl .ex) a2],.e (.i .i64) a3,.e (.i .i64) a4],[])
def GR(N:Nat):Cx:=⟨Tryz.prog,25,[(44,SO N),(46,aCW N),(45,aC3 N),(11,Tj N),(14,Mq N)],[]⟩
def aEE:Code:=Tryz.f21.body.getD .skip
theorem aVI N:aD (GR N):=bZ (by kernel_rfl) (.cons (by kernel_rfl) (aC5 N) (.cons (by kernel_rfl) (aR4 N) (.cons (by kernel_rfl) (aRs N) (.cons (by kernel_rfl) (aEg N) (.cons (by kernel_rfl) (Tb N) .nil))))) .nil
def Mf[aA](N:Nat)(l0:aO):O:=
  let b2:=aB.wrap (k9 N l0 (63:UInt8)+(1:Int))
  let b3:=some (k9 N l0 (63:UInt8))
  let b5:=some (DF 0 0 [] 0 2)
  let b6:=LQ N (dY l0 none b3)
  let b0:=Ex.mk (L6 N b6) (L5 N b6) (L4 N b6)
  let b1:=Ex.mk b0.op b0.num b0.kids
  let b4:=Mw N b1.op b1.num b1.kids≠(0:Int)
  ck (q8 N l0 (63:UInt8))<|
  br (decide (k9 N l0 (63:UInt8)<(0:Int)))
    (some (DF 0 0 [] 0 3))
    (ck (eQ l0.length none b3)<|
    ck (LX N (dY l0 none b3))<|
    ck (L9 N b6)<|
    br (decide (L3 N b6≠(0:Int)))
      b5
      (ck (G7 N b1.op b1.num b1.kids)<|
      ck (!!decide b4||eQ l0.length none (some b2))<|
      ck (!!decide b4||G4 N (A6 N b1.op b1.num b1.kids) (dY l0 none (some b2)))<|
      br (decide b4||!G3 N (A6 N b1.op b1.num b1.kids) (dY l0 none (some b2)))
        b5
        (some (DF (b0.op) (b0.num) (b0.kids) b2 0))))
def TQ[aA] N l0:=Mf N l0
def aEC[aA](_:Nat):Hint:=.d
theorem aVG N:bJ (GR N) Tryz.f21.ntmps (aEC N) aEE:=bR _ _ trivial
theorem aVE[aA] N l0:Mf N l0=exec (GR N) Tryz.f21.ntmps (aEC N) aEE ⟨bW 0 [.e (.sl .u8) l0],[],100⟩ (bX (GR N) Tryz.f21 false):=by kernel_rfl
def TP(r:aC):Option (Int×Int×(List Ex)×Int×Int):=match r with
  |(.bD [.agg [x0,x1,x2],x3,x4],[])=>(match ue (.i .i64) x0,ue (.i .i64) x1,ue (.sl .ex) x2,ue (.i .i64) x3,ue (.i .i64) x4 with|some a0,some a1,some a2,some a3,some a4=>some (a0,a1,a2,a3,a4)|_,_,_,_,_=>none)
  |_=>none
theorem aVD{r d}(h:TP r=some d):r=DF d.1 d.2.1 d.2.2.1 d.2.2.2.1 d.2.2.2.2:=by
  unfold TP at h;split at h
  . split at h
    . rename_i h0 h1 h2 h3 h4;cases h;rw[aE h0,aE h1,aE h2,aE h3,aE h4];rfl
    . cases h
  . cases h
def pO N l0:=(TQ N l0).bind TP
theorem aVH{N}(hc:aD (GR N)){l0 d}(hd:pO N l0=some d):cB Tryz.prog 21 [.e (.sl .u8) l0] [] (DF d.1 d.2.1 d.2.2.1 d.2.2.2.1 d.2.2.2.2):=
  cD hc (by kernel_rfl) (by kernel_rfl) (aVG N) (by kernel_rfl) aVD (aVE N l0).symm.trans hd
def Me N l0:=(pO N l0).isSome
def iS N l0:=((pO N l0).getD (0,0,[],0,0)).1
def iR N l0:=((pO N l0).getD (0,0,[],0,0)).2.1
def iQ N l0:=((pO N l0).getD (0,0,[],0,0)).2.2.1
def GQ N l0:=((pO N l0).getD (0,0,[],0,0)).2.2.2.1
def GP N l0:=((pO N l0).getD (0,0,[],0,0)).2.2.2.2
def aED(N:Nat):bK:=E1 (.sl .u8) (λx0=>(Me N x0,DF (iS N x0) (iR N x0) (iQ N x0) (GQ N x0) (GP N x0)))
theorem aVF N:aK Tryz.prog 21 (aED N):=aK.e1 (λx0 h=>cV (z:=pO N x0) h (aVH (aVI N)) rfl)
def wD(a0:aO):aC:=(.e (.sl .u8) a0,[])
def G1(N:Nat):Cx:=⟨Tryz.prog,25,[(23,TG N),(19,TX N)],[]⟩
def aEP:Code:=Tryz.f18.body.getD .skip
theorem aV0 N:aD (G1 N):=bZ (by kernel_rfl) (.cons (by kernel_rfl) (aDq N) (.cons (by kernel_rfl) (aEI N) .nil)) .nil
def T0[aA](N:Nat)(l0:aO)(at1 how2 by3:Int):O:=
  let b0:=oL N at1 (↑l0.length:Int)
  let b1:=some (aB.wrap (oL N at1 (↑l0.length:Int)+(1:Int)))
  let b2:=oL N by3 (64:Int)
  ck (AZ N by3 (64:Int))<|
  br (decide ((↑l0.length:Int)=(0:Int)))
    (some (wD [dV b2]))
    (ck (AZ N at1 (↑l0.length:Int))<|
    ck (wC N l0 b0)<|
    ck (AZ N how2 (4:Int))<|
    br (decide (oL N how2 (4:Int)=(0:Int)))
      (ck (cZ (iW N l0 b0++[dV b2]).length (1:Nat))<|
      ck (eQ l0.length b1 none)<|
      ck (cZ (iW N l0 b0++[dV b2]++dY l0 b1 none).length (1:Nat))<|
      some (wD (iW N l0 b0++[dV b2]++dY l0 b1 none)))
      (br (decide (oL N how2 (4:Int)=(1:Int)))
        (ck (eQ l0.length b1 none)<|
        ck (cZ (iW N l0 b0++dY l0 b1 none).length (1:Nat))<|
        some (wD (iW N l0 b0++dY l0 b1 none)))
        (br (decide (oL N how2 (4:Int)=(2:Int)))
          (ck (cZ (iW N l0 b0++[dV b2]).length (1:Nat))<|
          ck (eQ l0.length (some b0) none)<|
          ck (cZ (iW N l0 b0++[dV b2]++dY l0 (some b0) none).length (1:Nat))<|
          some (wD (iW N l0 b0++[dV b2]++dY l0 (some b0) none)))
          (gx l0 b0 λy0=>
          ck (cZ (iW N l0 b0++[y0]).length (1:Nat))<|
          ck (eQ l0.length (some b0) none)<|
          ck (cZ (iW N l0 b0++[y0]++dY l0 (some b0) none).length (1:Nat))<|
          some (wD (iW N l0 b0++[y0]++dY l0 (some b0) none))))))
def w18[aA] N l0 at1 how2 by3:=T0 N l0 at1 how2 by3
def aEN[aA](_:Nat):Hint:=(.seq .d (.seq .d (.seq .d (.seq .d (.seq .d (.seq (.seq .d (.block (.seq .d (.cond (.seq (.gO [] [] [[],[],[],[292,220],[],[],[],[],[332,292],[]]) .d) (.seq .d (.cond .d (.seq .d (.cond (.seq (.gO [] [] [[],[],[],[324,220],[],[],[],[356,324],[]]) .d) .d)))))))) (.seq (.gO [] [] [[],[],[],[],[],[],[348,220],[],[],[],[380,348],[]]) .d)))))))
theorem aVY N:bJ (G1 N) Tryz.f18.ntmps (aEN N) aEP:=bR _ _ (aH trivial (aH trivial (aH trivial (aH trivial (aH trivial (aH (aH trivial (aH trivial (aH (aH trivial trivial) (aH trivial (aH trivial (aH trivial (aH (aH trivial trivial) trivial))))))) (aH trivial trivial)))))))
theorem aVW[aA] N l0 at1 how2 by3:T0 N l0 at1 how2 by3=exec (G1 N) Tryz.f18.ntmps (aEN N) aEP ⟨bW 0 [.e (.sl .u8) l0,.e (.i .i64) at1,.e (.i .i64) how2,.e (.i .i64) by3],[],100⟩ (bX (G1 N) Tryz.f18 false):=by kernel_rfl
def TZ(r:aC):Option (aO):=match r with
  |(x0,[])=>(match ue (.sl .u8) x0 with|some a0=>some a0|_=>none)
  |_=>none
theorem aVV{r d}(h:TZ r=some d):r=wD (d):=by
  unfold TZ at h;split at h
  . split at h
    . rename_i h0;cases h;rw[aE h0];rfl
    . cases h
  . cases h
def DI N l0 at1 how2 by3:=(w18 N l0 at1 how2 by3).bind TZ
theorem aVZ{N}(hc:aD (G1 N)){l0 at1 how2 by3 d}(hd:DI N l0 at1 how2 by3=some d):cB Tryz.prog 18 [.e (.sl .u8) l0,.e (.i .i64) at1,.e (.i .i64) how2,.e (.i .i64) by3] [] (wD (d)):=
  cD hc (by kernel_rfl) (by kernel_rfl) (aVY N) (by kernel_rfl) aVV (aVW N l0 at1 how2 by3).symm.trans hd
def A2 N l0 at1 how2 by3:=(DI N l0 at1 how2 by3).isSome
def tH N l0 at1 how2 by3:=((DI N l0 at1 how2 by3).getD [])
def aEO(N:Nat):bK:=E4 (.sl .u8) (.i .i64) (.i .i64) (.i .i64) (λx0 x1 x2 x3=>(A2 N x0 x1 x2 x3,wD (tH N x0 x1 x2 x3)))
theorem aVX N:aK Tryz.prog 18 (aEO N):=aK.e4 (λx0 x1 x2 x3 h=>cV (z:=DI N x0 x1 x2 x3) h (aVZ (aV0 N)) rfl)
end
end Go.Proofs
