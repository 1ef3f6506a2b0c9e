/- What the law does. Conditions are in the theorems. -/
import Derived.Test.YtlhdefefoaldfaaGreatDoorE7
import Derived.Test.YtlhdefefoaldfaaGreatDoorProg
import Derived.KernelRfl
import Derived.Test.YtlhdefefoaldfaaGreatDoorL2
import Derived.Test.YtlhdefefoaldfaaGreatDoorL1
open And renaming intro->aG
open Go.IntKind renaming i64->aC
/- What functions do. -/
namespace Go.Proofs
noncomputable section
open Go.Ax Go.Ax.aA Go.RowKit Go.Ab
open Go
abbrev cI:=List UInt8
def wQ(a0:Bool):aE:=(.e .bo a0,[])
def lM(N:Nat):Cx:=⟨Tryz.prog,25,[(17,aLU N),(8,w8e N),(23,PK N),(25,WO N),(19,Wk N),(18,aIC N),(27,aHI N),(28,aGz N),(22,W8 N)],[]⟩
def G8:Code:=Tryz.f6.body.getD .skip
theorem aRu N:aF (lM N):=bY (by kernel_rfl) (.cons (by kernel_rfl) (a7S N) (.cons (by kernel_rfl) (aPS N) (.cons (by kernel_rfl) (W5 N) (.cons (by kernel_rfl) (aHU N) (.cons (by kernel_rfl) (aHu N) (.cons (by kernel_rfl) (a0i N) (.cons (by kernel_rfl) (aZE N) (.cons (by kernel_rfl) (aYj N) (.cons (by kernel_rfl) (aHh N) .nil))))))))) .nil
def wR[aA](N:Nat)(self:Int->(List cI)->O)(k0:Int->Int->Int->(List cI)->(List cI)->(List cI)->O)(x0_0 x0_1 x0_2:Int)(x0_3 x0_4 x0_6:(List cI))(x0_5:Int)(x0_7:(List cI)):O:=
 br (decide (x0_5<(↑x0_3.length:Int))&&decide (x0_5<4))
  (gx x0_3 x0_5 λy4=>
  ck (IF N y4 (20:Int))<|
  ck (cF (x0_7++[lP N y4 (20:Int)]).length (24:Nat))<|
  self (aC.wrap (x0_5+1)) (x0_7++[lP N y4 (20:Int)]))
  (k0 x0_0 x0_1 x0_2 x0_4 x0_6 x0_7)
def Tg:Code:=cK [1,1,1,1,0,1,0,0] G8
def aDY:Nm:=⟨[2,3,4,5,13,15,16,17],[],[.qP 16 (.row 28 (.sl .u8) [] true)]⟩
def AW(x:Int×Int×Int×(List cI)×(List cI)×Int×(List cI)×(List cI)):Sg:=⟨[(2,.e (.i .i64) x.1),(3,.e (.i .i64) x.2.1),(4,.e (.i .i64) x.2.2.1),(5,.e (.sl (.sl .u8)) x.2.2.2.1),(13,.e (.sl (.sl .u8)) x.2.2.2.2.1),(15,.own 0),(16,.own 1),(17,.e (.i .i64) x.2.2.2.2.2.1)],[(0,.row 28 (.sl .u8) x.2.2.2.2.2.2.1 false),(1,.row 28 (.sl .u8) x.2.2.2.2.2.2.2 true)],100⟩
def L8(σ:Sg):Int×Int×Int×(List cI)×(List cI)×Int×(List cI)×(List cI):=(aO (.i .i64) 2 0 σ,aO (.i .i64) 3 0 σ,aO (.i .i64) 4 0 σ,aO (.sl (.sl .u8)) 5 0 σ,aO (.sl (.sl .u8)) 13 0 σ,aO (.i .i64) 17 0 σ,dA (.sl .u8) 0 σ,dA (.sl .u8) 1 σ)
theorem aRi:∀x,L8 (AW x)=x:=λ_=>by kernel_rfl
def Ld(y:Int×Int×Int×(List cI)×(List cI)×(List cI)):Exit×Sg:=((.exit 0),⟨[(2,.e (.i .i64) y.1),(3,.e (.i .i64) y.2.1),(4,.e (.i .i64) y.2.2.1),(13,.e (.sl (.sl .u8)) y.2.2.2.1),(15,.own 0),(16,.own 1)],[(0,.row 28 (.sl .u8) y.2.2.2.2.1 false),(1,.row 28 (.sl .u8) y.2.2.2.2.2 true)],100⟩)
def aRe(_:Exit)(σ:Sg):Int×Int×Int×(List cI)×(List cI)×(List cI):=(aO (.i .i64) 2 0 σ,aO (.i .i64) 3 0 σ,aO (.i .i64) 4 0 σ,aO (.sl (.sl .u8)) 13 0 σ,dA (.sl .u8) 0 σ,dA (.sl .u8) 1 σ)
def aRa:List (Exit×Nm):=[((.exit 0),⟨[2,3,4,13,15,16],[],[]⟩)]
def AU[aA](N:Nat):Nat->(Int×Int×Int×(List cI)×(List cI)×Int×(List cI)×(List cI))->((Int×Int×Int×(List cI)×(List cI)×(List cI))->O)->((Unit)->O)->((Unit)->O)->O
 |0,_,_,_,_=>none
 |n+1,x,k0,k1,k2=>wR N (λv0 v1=>AU N n (x.1,x.2.1,x.2.2.1,x.2.2.2.1,x.2.2.2.2.1,v0,x.2.2.2.2.2.2.1,v1) k0 k1 k2) (λy0 y1 y2 y3 y4 y5=>k0 (y0,y1,y2,y3,y4,y5)) x.1 x.2.1 x.2.2.1 x.2.2.2.1 x.2.2.2.2.1 x.2.2.2.2.2.2.1 x.2.2.2.2.2.1 x.2.2.2.2.2.2.2
def Td[aA] N a0 a1 a2 a3 a4 a5 a6 a7 (k0:Int->Int->Int->(List cI)->(List cI)->(List cI)->O):=AU N N (a0,a1,a2,a3,a4,a5,a6,a7) (λy=>k0 y.1 y.2.1 y.2.2.1 y.2.2.2.1 y.2.2.2.2.1 y.2.2.2.2.2) (λ_=>none) (λ_=>none)
def aDW[aA] N a0 a1 a2 a3 a4 a5 a6 a7 (k0:Int->Int->Int->(List cI)->(List cI)->(List cI)->O):=aY AW L8 (AU N N) (AW (a0,a1,a2,a3,a4,a5,a6,a7)) (λy=>k0 y.1 y.2.1 y.2.2.1 y.2.2.2.1 y.2.2.2.2.1 y.2.2.2.2.2) (λ_=>none) (λ_=>none)
theorem aRt[aA] N:aDW N=Td N:=funext λ_=>funext λ_=>funext λ_=>funext λ_=>funext λ_=>funext λ_=>funext λ_=>funext λ_=>funext λ_=>cW aRi _ _ _ _
theorem aRl[aA](N:Nat)(self:Sg->O)(K:Exit->Sg->O)(x:Int×Int×Int×(List cI)×(List cI)×Int×(List cI)×(List cI)):wR N (λv0 v1=>self (AW (x.1,x.2.1,x.2.2.1,x.2.2.2.1,x.2.2.2.2.1,v0,x.2.2.2.2.2.2.1,v1))) (λy0 y1 y2 y3 y4 y5=>K (Ld (y0,y1,y2,y3,y4,y5)).1 (Ld (y0,y1,y2,y3,y4,y5)).2) x.1 x.2.1 x.2.2.1 x.2.2.2.1 x.2.2.2.2.1 x.2.2.2.2.2.2.1 x.2.2.2.2.2.1 x.2.2.2.2.2.2.2=exec (lM N) Tryz.f6.ntmps .d Tg (AW x) (eN aDY aRa self K):=by kernel_rfl
theorem aRx N (hc:aF (lM N)):cN (lM N) Tryz.f6.ntmps (.loop Tg) Ld (aW 1) (aW 2) (aY AW L8 (AU N N)):=
 eV hc (cO Tg) (eZ aRe (.exit 0) (λ_=>by kernel_rfl) (λ_=>rfl) (by kernel_rfl)) (n:=N) (λx K=>eW (AU N) (λ_ _ _ _=>rfl) (λn K ih x=>by
  refine Eq.trans ?_ (aRl N _ K x);simp only[<-ih];rfl) N x K)
def Ti[aA](N:Nat)(k0:Int->(List (List cI))->O)(x11_0 x11_1 x11_2:Int)(x11_3:(List cI))(x11_4:(List (List cI))):O:=
 let b0:=decide ((0:Int)<=k8 N x11_0 (↑x11_3.length:Int)/\k8 N x11_0 (↑x11_3.length:Int)<(↑x11_3.length:Int))
 let b1:=k8 N x11_0 (↑x11_3.length:Int)
 br (decide ((0:Int)<(↑x11_3.length:Int)))
  (ck (uK N x11_0 (↑x11_3.length:Int))<|
  ck b0 <|
  gn x11_3 (b1.toNat) λy16=>
  ck (PY N y16 x11_2 x11_1 x11_0)<|
  ck b0 <|
  gn x11_3 (b1.toNat) λ_=>
  ck (cF (x11_4++[x11_3.set b1.toNat (II N y16 x11_2 x11_1 x11_0)]).length (24:Nat))<|
  k0 x11_1 (x11_4++[x11_3.set b1.toNat (II N y16 x11_2 x11_1 x11_0)]))
  (k0 x11_1 x11_4)
def Tf:Code:=cK [1,1,1,1,1,1,0] G8
def aRn:Nm:=⟨[2,3,4,15,18],[],[]⟩
def DF(x:Int×Int×Int×(List cI)×(List (List cI))):Sg:=⟨[(2,.e (.i .i64) x.1),(3,.e (.i .i64) x.2.1),(4,.e (.i .i64) x.2.2.1),(15,.own 0),(18,.own 1)],[(0,.row 28 (.sl .u8) x.2.2.2.1 false),(1,.row 47 (.sl (.sl .u8)) x.2.2.2.2 true)],100⟩
def L7(σ:Sg):Int×Int×Int×(List cI)×(List (List cI)):=(aO (.i .i64) 2 0 σ,aO (.i .i64) 3 0 σ,aO (.i .i64) 4 0 σ,dA (.sl .u8) 0 σ,dA (.sl (.sl .u8)) 1 σ)
theorem aRh:∀x,L7 (DF x)=x:=λ_=>by kernel_rfl
def Lc(y:Int×(List (List cI))):Exit×Sg:=(.normal,⟨[(3,.e (.i .i64) y.1),(18,.own 0)],[(0,.row 47 (.sl (.sl .u8)) y.2 true)],100⟩)
def aRd(_:Exit)(σ:Sg):Int×(List (List cI)):=(aO (.i .i64) 3 0 σ,dA (.sl (.sl .u8)) 0 σ)
def aR9:List (Exit×Nm):=[(.normal,⟨[3,18],[],[]⟩)]
def G7[aA](N:Nat)(_:Nat)(x:Int×Int×Int×(List cI)×(List (List cI)))(k0:(Int×(List (List cI)))->O)(_:(Unit)->O)(_:(Unit)->O):O:=Ti N (λy0 y1=>k0 (y0,y1)) x.1 x.2.1 x.2.2.1 x.2.2.2.1 x.2.2.2.2
def L9[aA] N a0 a1 a2 a3 a4 (k0:Int->(List (List cI))->O):=G7 N N (a0,a1,a2,a3,a4) (λy=>k0 y.1 y.2) (λ_=>none) (λ_=>none)
def aDV[aA] N a0 a1 a2 a3 a4 (k0:Int->(List (List cI))->O):=aY DF L7 (G7 N N) (DF (a0,a1,a2,a3,a4)) (λy=>k0 y.1 y.2) (λ_=>none) (λ_=>none)
theorem aRs[aA] N:aDV N=L9 N:=funext λ_=>funext λ_=>funext λ_=>funext λ_=>funext λ_=>funext λ_=>cW aRh _ _ _ _
def aDZ[aA](_:Nat):Hint:=(.seq .d (.cond (.seq .d (.seq .d (.gI [] [.QU 15] []))) .d))
theorem aRo N:bJ (lM N) Tryz.f6.ntmps (aDZ N) Tf:=bO _ _ (aG trivial (aG (aG trivial (aG trivial trivial)) trivial))
theorem aRk[aA](N:Nat)(K:Exit->Sg->O)(x:Int×Int×Int×(List cI)×(List (List cI))):Ti N (λy0 y1=>K (Lc (y0,y1)).1 (Lc (y0,y1)).2) x.1 x.2.1 x.2.2.1 x.2.2.2.1 x.2.2.2.2=exec (lM N) Tryz.f6.ntmps (aDZ N) Tf (DF x) (hY aR9 K):=by kernel_rfl
theorem aRw N (hc:aF (lM N)):cN (lM N) Tryz.f6.ntmps Tf Lc (aW 1) (aW 2) (aY DF L7 (G7 N N)):=
 iV hc (aRo N) (eZ aRd .normal (λ_=>by kernel_rfl) (λ_=>rfl) (by kernel_rfl)) (λx K=>by
  exact aRk N K x)
def DG[aA](N:Nat)(self:Int->O)(k0:Bool->O)(k1:Unit->O)(_x20_0:Int)(x20_2:(List (List cI)))(x20_1:Int):O:=
 br (decide (x20_1<(↑x20_2.length:Int)))
  (gx x20_2 x20_1 λy25=>
  ck (Oe N y25)<|
  gx x20_2 x20_1 λy26=>
  ck (O5 N y26)<|
  ck (!!decide (Hh N y25≠Hf N y26)||PR N (Ex.mk (Ex.mk (jE N y25) (jD N y25) (jC N y25)).op (Ex.mk (jE N y25) (jD N y25) (jC N y25)).num (Ex.mk (jE N y25) (jD N y25) (jC N y25)).kids).op (Ex.mk (Ex.mk (jE N y25) (jD N y25) (jC N y25)).op (Ex.mk (jE N y25) (jD N y25) (jC N y25)).num (Ex.mk (jE N y25) (jD N y25) (jC N y25)).kids).num (Ex.mk (Ex.mk (jE N y25) (jD N y25) (jC N y25)).op (Ex.mk (jE N y25) (jD N y25) (jC N y25)).num (Ex.mk (jE N y25) (jD N y25) (jC N y25)).kids).kids (Ex.mk (Ex.mk (jB N y26) (jA N y26) (iZ N y26)).op (Ex.mk (jB N y26) (jA N y26) (iZ N y26)).num (Ex.mk (jB N y26) (jA N y26) (iZ N y26)).kids).op (Ex.mk (Ex.mk (jB N y26) (jA N y26) (iZ N y26)).op (Ex.mk (jB N y26) (jA N y26) (iZ N y26)).num (Ex.mk (jB N y26) (jA N y26) (iZ N y26)).kids).num (Ex.mk (Ex.mk (jB N y26) (jA N y26) (iZ N y26)).op (Ex.mk (jB N y26) (jA N y26) (iZ N y26)).num (Ex.mk (jB N y26) (jA N y26) (iZ N y26)).kids).kids)<|
  br (decide (Hh N y25≠Hf N y26)||!PN N (Ex.mk (Ex.mk (jE N y25) (jD N y25) (jC N y25)).op (Ex.mk (jE N y25) (jD N y25) (jC N y25)).num (Ex.mk (jE N y25) (jD N y25) (jC N y25)).kids).op (Ex.mk (Ex.mk (jE N y25) (jD N y25) (jC N y25)).op (Ex.mk (jE N y25) (jD N y25) (jC N y25)).num (Ex.mk (jE N y25) (jD N y25) (jC N y25)).kids).num (Ex.mk (Ex.mk (jE N y25) (jD N y25) (jC N y25)).op (Ex.mk (jE N y25) (jD N y25) (jC N y25)).num (Ex.mk (jE N y25) (jD N y25) (jC N y25)).kids).kids (Ex.mk (Ex.mk (jB N y26) (jA N y26) (iZ N y26)).op (Ex.mk (jB N y26) (jA N y26) (iZ N y26)).num (Ex.mk (jB N y26) (jA N y26) (iZ N y26)).kids).op (Ex.mk (Ex.mk (jB N y26) (jA N y26) (iZ N y26)).op (Ex.mk (jB N y26) (jA N y26) (iZ N y26)).num (Ex.mk (jB N y26) (jA N y26) (iZ N y26)).kids).num (Ex.mk (Ex.mk (jB N y26) (jA N y26) (iZ N y26)).op (Ex.mk (jB N y26) (jA N y26) (iZ N y26)).num (Ex.mk (jB N y26) (jA N y26) (iZ N y26)).kids).kids)
   (k0 false)
   (self (aC.wrap (x20_1+1))))
  (k1 ())
def Te:Code:=cK [1,1,1,1,1,1,1,0,1,0,0] G8
def aDX:Nm:=⟨[3,18,20],[],[]⟩
def AV(x:Int×Int×(List (List cI))):Sg:=⟨[(3,.e (.i .i64) x.1),(18,.own 0),(20,.e (.i .i64) x.2.1)],[(0,.row 47 (.sl (.sl .u8)) x.2.2 true)],100⟩
def L6(σ:Sg):Int×Int×(List (List cI)):=(aO (.i .i64) 3 0 σ,aO (.i .i64) 20 0 σ,dA (.sl (.sl .u8)) 0 σ)
theorem aRg:∀x,L6 (AV x)=x:=λ_=>by kernel_rfl
def Lb(y:Bool):Exit×Sg:=(.ret,⟨[(12,.e .bo y)],[],100⟩)
def aRc(_:Exit)(σ:Sg):Bool:=aO .bo 12 0 σ
def La(_:Unit):Exit×Sg:=((.exit 2),⟨[],[],100⟩)
def aRb(_:Exit)(_:Sg):Unit:=()
def aR8:List (Exit×Nm):=[(.ret,⟨[12],[],[]⟩),((.exit 2),⟨[],[],[]⟩)]
def AS[aA](N:Nat):Nat->(Int×Int×(List (List cI)))->((Bool)->O)->((Unit)->O)->((Unit)->O)->O
 |0,_,_,_,_=>none
 |n+1,x,k0,k1,k2=>DG N (λv0=>AS N n (x.1,v0,x.2.2) k0 k1 k2) (λy0=>k0 y0) (λ(_:Unit)=>k1 ()) x.1 x.2.2 x.2.1
def G6[aA] N a0 a1 a2 (k0:Bool->O) (k1:Unit->O):=AS N N (a0,a1,a2) (λy=>k0 y) (λy=>k1 y) (λ_=>none)
def aDU[aA] N a0 a1 a2 (k0:Bool->O) (k1:Unit->O):=aY AV L6 (AS N N) (AV (a0,a1,a2)) (λy=>k0 y) (λy=>k1 y) (λ_=>none)
theorem aRr[aA] N:aDU N=G6 N:=funext λ_=>funext λ_=>funext λ_=>funext λ_=>funext λ_=>cW aRg _ _ _ _
theorem aRj[aA](N:Nat)(self:Sg->O)(K:Exit->Sg->O)(x:Int×Int×(List (List cI))):DG N (λv0=>self (AV (x.1,v0,x.2.2))) (λy0=>K (Lb y0).1 (Lb y0).2) (λ(_:Unit)=>K (La ()).1 (La ()).2) x.1 x.2.2 x.2.1=exec (lM N) Tryz.f6.ntmps .d Te (AV x) (eN aDX aR8 self K):=by kernel_rfl
theorem aRv N (hc:aF (lM N)):cN (lM N) Tryz.f6.ntmps (.loop Te) Lb La (aW 2) (aY AV L6 (AS N N)):=
 eV hc (cO Te) (iS aRc aRb .ret (.exit 2) (λ_=>by kernel_rfl) (λ_=>by kernel_rfl) (λ_=>rfl) (λ_=>rfl) (by kernel_rfl)) (n:=N) (λx K=>eW (AS N) (λ_ _ _ _=>rfl) (λn K ih x=>by
  refine Eq.trans ?_ (aRj N _ K x);simp only[<-ih];rfl) N x K)
def Th[aA](N:Nat)(in0:Int->Int->Int->(List cI)->(List cI)->Int->(List cI)->(List cI)->(Int->Int->Int->(List cI)->(List cI)->(List cI)->O)->O)(in1:Int->Int->Int->(List cI)->(List (List cI))->(Int->(List (List cI))->O)->O)(in2:Int->Int->(List (List cI))->(Bool->O)->(Unit->O)->O)(l0:(List Int))(width1 at2:Int)(how3 by4:Int)(raw5:(List cI)):O:=
 let b1:=aC.wrap ((4:Int)+k8 N width1 (20:Int))
 let b2:=Ex.mk (Kq N l0) (Kp N l0) (Ko N l0)
 let b0:=Ex.mk b2.op b2.num b2.kids
 ck (Ks N l0)<|
 ck (uK N width1 (20:Int))<|
 ck (Hk N b0.op b0.num b0.kids b1)<|
 ck (cF ([]++xK N b0.op b0.num b0.kids b1).length (24:Nat))<|
 in0 at2 how3 by4 raw5 (xK N b0.op b0.num b0.kids b1) 0 ([]++xK N b0.op b0.num b0.kids b1) []
  (λz5 z6 z7 z8 z9 z10=>
   ck (cF ([]++z8).length (24:Nat))<|
   ck (cF ([]++z8++[[]]).length (24:Nat))<|
   ck true <|
   ck (dX z8.length none (some (aC.wrap ((↑z8.length:Int).tdiv (2:Int)))))<|
   in1 z5 z6 z7 z9 ([z8,z10,[]++z8++[[]],c8 z8 none (some (aC.wrap ((↑z8.length:Int).tdiv (2:Int))))])
    (λz18 z19=>
     in2 z18 0 z19
      (λz27=>
       some (wQ z27))
      (λ(_:Unit)=>
       ck true <|
       some (wQ true))))
def w6[aA] N l0 width1 at2 how3 by4 raw5:=Th N (Td N) (L9 N) (G6 N) l0 width1 at2 how3 by4 raw5
def w6h[aA](N:Nat):Hint:=(.seq .d (.seq .d (.seq (.gI [0] [] []) (.seq .d (.seq (.seq .d (.block (.sub aDY _ _ _ Ld (aW 1) (aW 2) (aY AW L8 (AU N N))))) (.seq (.gI [] [] [[],[],[],[],[132,116],[],[],[156,132],[],[],[],[],[],[],[]]) (.seq (.sub aRn _ _ _ Lc (aW 1) (aW 2) (aY DF L7 (G7 N N))) (.seq (.seq .d (.block (.sub aDX _ _ _ Lb La (aW 2) (aY AV L6 (AS N N))))) .d))))))))
theorem aRp N (hc:aF (lM N)):bJ (lM N) Tryz.f6.ntmps (w6h N) G8:=bO _ _ (aG trivial (aG trivial (aG trivial (aG trivial (aG (aG trivial (aRx N hc)) (aG trivial (aG (aRw N hc) (aG (aG trivial (aRv N hc)) trivial))))))))
theorem w6q[aA] N l0 width1 at2 how3 by4 raw5:Th N (aDW N) (aDV N) (aDU N) l0 width1 at2 how3 by4 raw5=exec (lM N) Tryz.f6.ntmps (w6h N) G8 ⟨bU 0 [.e (.sl (.i .i64)) l0,.e (.i .i64) width1,.e (.i .i64) at2,.e (.i .i64) how3,.e (.i .i64) by4,.e (.sl (.sl .u8)) raw5],[],100⟩ (bX (lM N) Tryz.f6 false):=by kernel_rfl
def DE(r:aE):Option (Bool):=match r with
 |(x0,[])=>(match ue .bo x0 with|some a0=>some a0|_=>none)
 |_=>none
theorem aRf{r d}(h:DE r=some d):r=wQ (d):=by
 unfold DE at h;split at h
 .split at h
  .rename_i h0;cases h;rw[aH h0];rfl
  .cases h
 .cases h
def Tc N l0 width1 at2 how3 by4 raw5:=(w6 N l0 width1 at2 how3 by4 raw5).bind DE
theorem aRq{N}(hc:aF (lM N)){l0 width1 at2 how3 by4 raw5 d}(hd:Tc N l0 width1 at2 how3 by4 raw5=some d):cB Tryz.prog 6 [.e (.sl (.i .i64)) l0,.e (.i .i64) width1,.e (.i .i64) at2,.e (.i .i64) how3,.e (.i .i64) by4,.e (.sl (.sl .u8)) raw5] [] (wQ (d)):=
 cD hc (by kernel_rfl) (by kernel_rfl) (aRp N hc) (by kernel_rfl) aRf (λhr=>(w6q N l0 width1 at2 how3 by4 raw5).symm.trans (by rw[aRt N,aRs N,aRr N];exact hr)) hd
end
end Go.Proofs
