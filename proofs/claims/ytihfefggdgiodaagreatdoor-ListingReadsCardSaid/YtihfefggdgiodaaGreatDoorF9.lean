/- What the law does. Conditions are in the theorems. -/
import Derived.Test.YtihfefggdgiodaaGreatDoorE7
import Derived.Test.YtihfefggdgiodaaGreatDoorProg
import Derived.KernelRfl
import Derived.Test.YtihfefggdgiodaaGreatDoorG5
open And renaming intro->aK
open Go.IntKind renaming i64->aS
/- What functions do. -/
namespace Go.Proofs
noncomputable section
open Go.Ax Go.Ax.aA Go.RowKit Go.Ab
open Go
def uE(a0:Bool):aH:=(.e .bo a0,[])
def nM(N:Nat):Cx:=⟨Tryz.prog,99999,[(17,aCV N),(25,aCT N),(9,UI N),(14,KH N),(20,PZ N),(13,Zr N),(26,Oz N),(27,Y6 N),(28,YU N)],[]⟩
def HF:Code:=Tryz.f5.body.getD .skip
theorem aGz N:aJ (nM N):=cM (by kernel_rfl) (.cons (by kernel_rfl) (aUL N) (.cons (by kernel_rfl) (aUK N) (.cons (by kernel_rfl) (aEV N) (.cons (by kernel_rfl) (Pu N) (.cons (by kernel_rfl) (ZK N) (.cons (by kernel_rfl) (aO1 N) (.cons (by kernel_rfl) (Yb N) (.cons (by kernel_rfl) (aLo N) (.cons (by kernel_rfl) (aL4 N) .nil))))))))) .nil
def HM[aA](N:Nat)(self:Int->(List (List UInt8))->O)(k0:Int->Int->Int->(List (List UInt8))->(List (List UInt8))->(List (List UInt8))->O)(x0_0 x0_1 x0_2:Int)(x0_3 x0_4 x0_5:(List (List UInt8)))(x0_6:Int)(x0_7:(List (List UInt8))):O:=
 br (decide (x0_6<(↑x0_3.length:Int))&&decide (x0_6<6))
  (gx x0_3 x0_6 λy4=>
  ck (KJ N y4 (41:Int))<|
  ck (b8 (x0_7++[EO N y4 (41:Int)]).length (24:Nat))<|
  self (aS.wrap (x0_6+1)) (x0_7++[EO N y4 (41:Int)]))
  (k0 x0_0 x0_1 x0_2 x0_4 x0_5 x0_7)
def NJ:Code:=cX [1,1,1,1,0,1,0,0] HF
def V2:Nm:=⟨[2,3,4,5,13,15,16,17],[],[.kG 16 (.row 23 (.sl .u8) [] true)]⟩
def wX(x:Int×Int×Int×(List (List UInt8))×(List (List UInt8))×(List (List UInt8))×Int×(List (List UInt8))):Sg:=⟨[(2,.e (.i .i64) x.1),(3,.e (.i .i64) x.2.1),(4,.e (.i .i64) x.2.2.1),(5,.e (.sl (.sl .u8)) x.2.2.2.1),(13,.e (.sl (.sl .u8)) x.2.2.2.2.1),(15,.e (.sl (.sl .u8)) x.2.2.2.2.2.1),(16,.own 0),(17,.e (.i .i64) x.2.2.2.2.2.2.1)],[(0,.row 23 (.sl .u8) x.2.2.2.2.2.2.2 true)],100⟩
def HE(σ:Sg):Int×Int×Int×(List (List UInt8))×(List (List UInt8))×(List (List UInt8))×Int×(List (List UInt8)):=(aG (.i .i64) 2 0 σ,aG (.i .i64) 3 0 σ,aG (.i .i64) 4 0 σ,aG (.sl (.sl .u8)) 5 0 σ,aG (.sl (.sl .u8)) 13 0 σ,aG (.sl (.sl .u8)) 15 0 σ,aG (.i .i64) 17 0 σ,cI (.sl .u8) 0 σ)
theorem aGr:∀x,HE (wX x)=x:=λ_=>by kernel_rfl
def HJ(y:Int×Int×Int×(List (List UInt8))×(List (List UInt8))×(List (List UInt8))):Exit×Sg:=((.exit 0),⟨[(2,.e (.i .i64) y.1),(3,.e (.i .i64) y.2.1),(4,.e (.i .i64) y.2.2.1),(13,.e (.sl (.sl .u8)) y.2.2.2.1),(15,.e (.sl (.sl .u8)) y.2.2.2.2.1),(16,.own 0)],[(0,.row 23 (.sl .u8) y.2.2.2.2.2 true)],100⟩)
def aGo(_:Exit)(σ:Sg):Int×Int×Int×(List (List UInt8))×(List (List UInt8))×(List (List UInt8)):=(aG (.i .i64) 2 0 σ,aG (.i .i64) 3 0 σ,aG (.i .i64) 4 0 σ,aG (.sl (.sl .u8)) 13 0 σ,aG (.sl (.sl .u8)) 15 0 σ,cI (.sl .u8) 0 σ)
def aGl:List (Exit×Nm):=[((.exit 0),⟨[2,3,4,13,15,16],[],[]⟩)]
def wV[aA](N:Nat):Nat->(Int×Int×Int×(List (List UInt8))×(List (List UInt8))×(List (List UInt8))×Int×(List (List UInt8)))->((Int×Int×Int×(List (List UInt8))×(List (List UInt8))×(List (List UInt8)))->O)->((Unit)->O)->((Unit)->O)->O
 |0,_,_,_,_=>none
 |n+1,x,k0,k1,k2=>HM N (λv0 v1=>wV N n (x.1,x.2.1,x.2.2.1,x.2.2.2.1,x.2.2.2.2.1,x.2.2.2.2.2.1,v0,v1) k0 k1 k2) (λy0 y1 y2 y3 y4 y5=>k0 (y0,y1,y2,y3,y4,y5)) x.1 x.2.1 x.2.2.1 x.2.2.2.1 x.2.2.2.2.1 x.2.2.2.2.2.1 x.2.2.2.2.2.2.1 x.2.2.2.2.2.2.2
def NH[aA] N a0 a1 a2 a3 a4 a5 a6 a7 (k0:Int->Int->Int->(List (List UInt8))->(List (List UInt8))->(List (List UInt8))->O):=wV N N (a0,a1,a2,a3,a4,a5,a6,a7) (λy=>k0 y.1 y.2.1 y.2.2.1 y.2.2.2.1 y.2.2.2.2.1 y.2.2.2.2.2) (λ_=>none) (λ_=>none)
def V0[aA] N a0 a1 a2 a3 a4 a5 a6 a7 (k0:Int->Int->Int->(List (List UInt8))->(List (List UInt8))->(List (List UInt8))->O):=aW wX HE (wV N N) (wX (a0,a1,a2,a3,a4,a5,a6,a7)) (λy=>k0 y.1 y.2.1 y.2.2.1 y.2.2.2.1 y.2.2.2.2.1 y.2.2.2.2.2) (λ_=>none) (λ_=>none)
theorem aGy[aA] N:V0 N=NH N:=funext λ_=>funext λ_=>funext λ_=>funext λ_=>funext λ_=>funext λ_=>funext λ_=>funext λ_=>funext λ_=>dY aGr _ _ _ _
theorem aGt[aA](N:Nat)(self:Sg->O)(K:Exit->Sg->O)(x:Int×Int×Int×(List (List UInt8))×(List (List UInt8))×(List (List UInt8))×Int×(List (List UInt8))):HM N (λv0 v1=>self (wX (x.1,x.2.1,x.2.2.1,x.2.2.2.1,x.2.2.2.2.1,x.2.2.2.2.2.1,v0,v1))) (λy0 y1 y2 y3 y4 y5=>K (HJ (y0,y1,y2,y3,y4,y5)).1 (HJ (y0,y1,y2,y3,y4,y5)).2) x.1 x.2.1 x.2.2.1 x.2.2.2.1 x.2.2.2.2.1 x.2.2.2.2.2.1 x.2.2.2.2.2.2.1 x.2.2.2.2.2.2.2=exec (nM N) Tryz.f5.ntmps .d NJ (wX x) (dQ V2 aGl self K):=by kernel_rfl
theorem aHB N (hc:aJ (nM N)):dB (nM N) Tryz.f5.ntmps (.loop NJ) HJ (aR 1) (aR 2) (aW wX HE (wV N N)):=
 eG hc (dS NJ) (iZ aGo (.exit 0) (λ_=>by kernel_rfl) (λ_=>rfl) (by kernel_rfl)) (n:=N) (λx K=>eH (wV N) (λ_ _ _ _=>rfl) (λn K ih x=>by
  refine Eq.trans ?_ (aGt N _ K x);simp only[<-ih];rfl) N x K)
def HK[aA](N:Nat)(self:Int->O)(k0:Bool->O)(k1:Unit->O)(_x11_0:Int)(x11_2:(List (List (List UInt8))))(x11_1:Int):O:=
 br (decide (x11_1<(↑x11_2.length:Int)))
  (gx x11_2 x11_1 λy16=>
  ck (Dt N y16)<|
  gx x11_2 x11_1 λy17=>
  ck (JF N y17)<|
  ck (!!decide (yJ N y16≠Dn N y17)||Iz N (uO N y16) (Dp N y17))<|
  br (decide (yJ N y16≠Dn N y17)||!Iw N (uO N y16) (Dp N y17))
   (k0 false)
   (self (aS.wrap (x11_1+1))))
  (k1 ())
def NI:Code:=cX [1,1,1,1,1,1,0,1,0,0] HF
def V1:Nm:=⟨[3,18,19],[],[]⟩
def wW(x:Int×Int×(List (List (List UInt8)))):Sg:=⟨[(3,.e (.i .i64) x.1),(18,.own 0),(19,.e (.i .i64) x.2.1)],[(0,.row 39 (.sl (.sl .u8)) x.2.2 true)],100⟩
def HD(σ:Sg):Int×Int×(List (List (List UInt8))):=(aG (.i .i64) 3 0 σ,aG (.i .i64) 19 0 σ,cI (.sl (.sl .u8)) 0 σ)
theorem aGq:∀x,HD (wW x)=x:=λ_=>by kernel_rfl
def HI(y:Bool):Exit×Sg:=(.ret,⟨[(12,.e .bo y)],[],100⟩)
def aGn(_:Exit)(σ:Sg):Bool:=aG .bo 12 0 σ
def HG(_:Unit):Exit×Sg:=((.exit 2),⟨[],[],100⟩)
def aGm(_:Exit)(_:Sg):Unit:=()
def aGk:List (Exit×Nm):=[(.ret,⟨[12],[],[]⟩),((.exit 2),⟨[],[],[]⟩)]
def uF[aA](N:Nat):Nat->(Int×Int×(List (List (List UInt8))))->((Bool)->O)->((Unit)->O)->((Unit)->O)->O
 |0,_,_,_,_=>none
 |n+1,x,k0,k1,k2=>HK N (λv0=>uF N n (x.1,v0,x.2.2) k0 k1 k2) (λy0=>k0 y0) (λ(_:Unit)=>k1 ()) x.1 x.2.2 x.2.1
def NG[aA] N a0 a1 a2 (k0:Bool->O) (k1:Unit->O):=uF N N (a0,a1,a2) (λy=>k0 y) (λy=>k1 y) (λ_=>none)
def VZ[aA] N a0 a1 a2 (k0:Bool->O) (k1:Unit->O):=aW wW HD (uF N N) (wW (a0,a1,a2)) (λy=>k0 y) (λy=>k1 y) (λ_=>none)
theorem aGx[aA] N:VZ N=NG N:=funext λ_=>funext λ_=>funext λ_=>funext λ_=>funext λ_=>dY aGq _ _ _ _
theorem aGs[aA](N:Nat)(self:Sg->O)(K:Exit->Sg->O)(x:Int×Int×(List (List (List UInt8)))):HK N (λv0=>self (wW (x.1,v0,x.2.2))) (λy0=>K (HI y0).1 (HI y0).2) (λ(_:Unit)=>K (HG ()).1 (HG ()).2) x.1 x.2.2 x.2.1=exec (nM N) Tryz.f5.ntmps .d NI (wW x) (dQ V1 aGk self K):=by kernel_rfl
theorem aHA N (hc:aJ (nM N)):dB (nM N) Tryz.f5.ntmps (.loop NI) HI HG (aR 2) (aW wW HD (uF N N)):=
 eG hc (dS NI) (jI aGn aGm .ret (.exit 2) (λ_=>by kernel_rfl) (λ_=>by kernel_rfl) (λ_=>rfl) (λ_=>rfl) (by kernel_rfl)) (n:=N) (λx K=>eH (uF N) (λ_ _ _ _=>rfl) (λn K ih x=>by
  refine Eq.trans ?_ (aGs N _ K x);simp only[<-ih];rfl) N x K)
def NK[aA](N:Nat)(in0:Int->Int->Int->(List (List UInt8))->(List (List UInt8))->(List (List UInt8))->Int->(List (List UInt8))->(Int->Int->Int->(List (List UInt8))->(List (List UInt8))->(List (List UInt8))->O)->O)(in1:Int->Int->(List (List (List UInt8)))->(Bool->O)->(Unit->O)->O)(l0:(List Int))(width1 at2:Int)(how3 by4:Int)(raw5:(List (List UInt8))):O:=
 ck (GL N l0)<|
 ck (o8 N width1 (30:Int))<|
 ck (EB N (wB N l0) (aS.wrap ((4:Int)+cG N width1 (30:Int))))<|
 ck (tG N (uS N (wB N l0) (aS.wrap ((4:Int)+cG N width1 (30:Int)))) at2 how3 by4)<|
 in0 at2 how3 by4 raw5 (uS N (wB N l0) (aS.wrap ((4:Int)+cG N width1 (30:Int)))) (pD N (uS N (wB N l0) (aS.wrap ((4:Int)+cG N width1 (30:Int)))) at2 how3 by4) 0 []
  (λz5 z6 z7 z8 z9 z10=>
   ck true <|
   ck (tG N z9 z7 (aS.wrap (z6.tdiv (5:Int))) z5)<|
   ck (b8 ([]++z8).length (24:Nat))<|
   ck (b8 ([]++z8++z10).length (24:Nat))<|
   in1 z6 0 ([z8,z9,pD N z9 z7 (aS.wrap (z6.tdiv (5:Int))) z5,z10,[]++z8++z10])
    (λz18=>
     some (uE z18))
    (λ(_:Unit)=>
     ck true <|
     some (uE true)))
def w5[aA] N l0 width1 at2 how3 by4 raw5:=NK N (NH N) (NG N) l0 width1 at2 how3 by4 raw5
def V3[aA](N:Nat):Hint:=(.seq .d (.seq .d (.seq .d (.seq .d (.seq (.seq .d (.block (.sub V2 _ _ _ HJ (aR 1) (aR 2) (aW wX HE (wV N N))))) (.seq .d (.seq (.seq .d (.block (.sub V1 _ _ _ HI HG (aR 2) (aW wW HD (uF N N))))) .d)))))))
theorem aGv N (hc:aJ (nM N)):bN (nM N) Tryz.f5.ntmps (V3 N) HF:=bW _ _ (aK trivial (aK trivial (aK trivial (aK trivial (aK (aK trivial (aHB N hc)) (aK trivial (aK (aK trivial (aHA N hc)) trivial)))))))
theorem w5q[aA] N l0 width1 at2 how3 by4 raw5:NK N (V0 N) (VZ N) l0 width1 at2 how3 by4 raw5=exec (nM N) Tryz.f5.ntmps (V3 N) HF ⟨cC 0 [.e (.sl (.i .i64)) l0,.e (.i .i64) width1,.e (.i .i64) at2,.e (.i .i64) how3,.e (.i .i64) by4,.e (.sl (.sl .u8)) raw5],[],100⟩ (cJ (nM N) Tryz.f5 false):=by kernel_rfl
def DQ(r:aH):Option (Bool):=match r with
 |(x0,[])=>(match ue .bo x0 with|some a0=>some a0|_=>none)
 |_=>none
theorem aGp{r d}(h:DQ r=some d):r=uE (d):=by
 unfold DQ at h;split at h
 .split at h
  .rename_i h0;cases h;rw[b7 h0];rfl
  .cases h
 .cases h
def NF N l0 width1 at2 how3 by4 raw5:=(w5 N l0 width1 at2 how3 by4 raw5).bind DQ
theorem aGw{N}(hc:aJ (nM N)){l0 width1 at2 how3 by4 raw5 d}(hd:NF N l0 width1 at2 how3 by4 raw5=some d):cR Tryz.prog 5 [.e (.sl (.i .i64)) l0,.e (.i .i64) width1,.e (.i .i64) at2,.e (.i .i64) how3,.e (.i .i64) by4,.e (.sl (.sl .u8)) raw5] [] (uE (d)):=
 c8 hc (by kernel_rfl) (by kernel_rfl) (aGv N hc) (by kernel_rfl) aGp (λhr=>(w5q N l0 width1 at2 how3 by4 raw5).symm.trans (by rw[aGy N,aGx N];exact hr)) hd
end
end Go.Proofs
