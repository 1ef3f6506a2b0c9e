/- What the law does. Conditions are in the theorems. -/
import Derived.Test.YtlhdefefoaldfaaGreatDoorE7
import Derived.Test.YtlhdefefoaldfaaGreatDoorProg
import Derived.KernelRfl
import Derived.Test.YtlhdefefoaldfaaGreatDoorL2
import Derived.Test.YtlhdefefoaldfaaGreatDoorL1
open And renaming intro->aH
open Go.IntKind renaming i64->aB
/- What functions do. -/
namespace Go.Proofs
noncomputable section
open Go.Ax Go.Ax.aA Go.RowKit Go.Ab
open Go
def LB(a0:Bool):aC:=(.e .bo a0,[])
def sX(N:Nat):Cx:=⟨Tryz.prog,25,[(17,aH2 N),(8,Yu N),(11,Tj N),(18,aEO N),(19,TX N),(20,TU N),(21,aED N),(22,TK N)],[]⟩
def Ro:Code:=Tryz.f4.body.getD .skip
theorem aQf N:aD (sX N):=bZ (by kernel_rfl) (.cons (by kernel_rfl) (a1d N) (.cons (by kernel_rfl) (aLR N) (.cons (by kernel_rfl) (aEg N) (.cons (by kernel_rfl) (aVX N) (.cons (by kernel_rfl) (aEI N) (.cons (by kernel_rfl) (aEF N) (.cons (by kernel_rfl) (aVF N) (.cons (by kernel_rfl) (aDw N) .nil)))))))) .nil
def C5[aA](N:Nat)(self:Int->O)(k0:Bool->O)(k1:Unit->O)(_x0_0:Int)(x0_2:(List (List UInt8)))(x0_1:Int):O:=
 br (decide (x0_1<(↑x0_2.length:Int)))
  (gx x0_2 x0_1 λy5=>
  ck (Mg N y5)<|
  gx x0_2 x0_1 λy6=>
  ck (Me N y6)<|
  ck (!!(decide (GS N y5≠GP N y6)||decide (GU N y5≠GQ N y6))||Mb N (Ex.mk (Ex.mk (iV N y5) (iU N y5) (iT N y5)).op (Ex.mk (iV N y5) (iU N y5) (iT N y5)).num (Ex.mk (iV N y5) (iU N y5) (iT N y5)).kids).op (Ex.mk (Ex.mk (iV N y5) (iU N y5) (iT N y5)).op (Ex.mk (iV N y5) (iU N y5) (iT N y5)).num (Ex.mk (iV N y5) (iU N y5) (iT N y5)).kids).num (Ex.mk (Ex.mk (iV N y5) (iU N y5) (iT N y5)).op (Ex.mk (iV N y5) (iU N y5) (iT N y5)).num (Ex.mk (iV N y5) (iU N y5) (iT N y5)).kids).kids (Ex.mk (Ex.mk (iS N y6) (iR N y6) (iQ N y6)).op (Ex.mk (iS N y6) (iR N y6) (iQ N y6)).num (Ex.mk (iS N y6) (iR N y6) (iQ N y6)).kids).op (Ex.mk (Ex.mk (iS N y6) (iR N y6) (iQ N y6)).op (Ex.mk (iS N y6) (iR N y6) (iQ N y6)).num (Ex.mk (iS N y6) (iR N y6) (iQ N y6)).kids).num (Ex.mk (Ex.mk (iS N y6) (iR N y6) (iQ N y6)).op (Ex.mk (iS N y6) (iR N y6) (iQ N y6)).num (Ex.mk (iS N y6) (iR N y6) (iQ N y6)).kids).kids)<|
  br (decide (GS N y5≠GP N y6)||decide (GU N y5≠GQ N y6)||!M8 N (Ex.mk (Ex.mk (iV N y5) (iU N y5) (iT N y5)).op (Ex.mk (iV N y5) (iU N y5) (iT N y5)).num (Ex.mk (iV N y5) (iU N y5) (iT N y5)).kids).op (Ex.mk (Ex.mk (iV N y5) (iU N y5) (iT N y5)).op (Ex.mk (iV N y5) (iU N y5) (iT N y5)).num (Ex.mk (iV N y5) (iU N y5) (iT N y5)).kids).num (Ex.mk (Ex.mk (iV N y5) (iU N y5) (iT N y5)).op (Ex.mk (iV N y5) (iU N y5) (iT N y5)).num (Ex.mk (iV N y5) (iU N y5) (iT N y5)).kids).kids (Ex.mk (Ex.mk (iS N y6) (iR N y6) (iQ N y6)).op (Ex.mk (iS N y6) (iR N y6) (iQ N y6)).num (Ex.mk (iS N y6) (iR N y6) (iQ N y6)).kids).op (Ex.mk (Ex.mk (iS N y6) (iR N y6) (iQ N y6)).op (Ex.mk (iS N y6) (iR N y6) (iQ N y6)).num (Ex.mk (iS N y6) (iR N y6) (iQ N y6)).kids).num (Ex.mk (Ex.mk (iS N y6) (iR N y6) (iQ N y6)).op (Ex.mk (iS N y6) (iR N y6) (iQ N y6)).num (Ex.mk (iS N y6) (iR N y6) (iQ N y6)).kids).kids)
   (k0 false)
   (self (aB.wrap (x0_1+1))))
  (k1 ())
def Rn:Code:=cP [1,1,1,1,0,1,0,0] Ro
def aBn:Nm:=⟨[3,14,15],[],[]⟩
def zZ(x:Int×Int×(List (List UInt8))):Sg:=⟨[(3,.e (.i .i64) x.1),(14,.own 0),(15,.e (.i .i64) x.2.1)],[(0,.row 28 (.sl .u8) x.2.2 true)],100⟩
def LA(σ:Sg):Int×Int×(List (List UInt8)):=(aW (.i .i64) 3 0 σ,aW (.i .i64) 15 0 σ,fX (.sl .u8) 0 σ)
theorem aQ9:∀x,LA (zZ x)=x:=λ_=>by kernel_rfl
def LD(y:Bool):Exit×Sg:=(.ret,⟨[(10,.e .bo y)],[],100⟩)
def aQ7(_:Exit)(σ:Sg):Bool:=aW .bo 10 0 σ
def LC(_:Unit):Exit×Sg:=((.exit 0),⟨[],[],100⟩)
def aQ6(_:Exit)(_:Sg):Unit:=()
def aQ5:List (Exit×Nm):=[(.ret,⟨[10],[],[]⟩),((.exit 0),⟨[],[],[]⟩)]
def zY[aA](N:Nat):Nat->(Int×Int×(List (List UInt8)))->((Bool)->O)->((Unit)->O)->((Unit)->O)->O
 |0,_,_,_,_=>none
 |n+1,x,k0,k1,k2=>C5 N (λv0=>zY N n (x.1,v0,x.2.2) k0 k1 k2) (λy0=>k0 y0) (λ(_:Unit)=>k1 ()) x.1 x.2.2 x.2.1
def Rm[aA] N a0 a1 a2 (k0:Bool->O) (k1:Unit->O):=zY N N (a0,a1,a2) (λy=>k0 y) (λy=>k1 y) (λ_=>none)
def aBm[aA] N a0 a1 a2 (k0:Bool->O) (k1:Unit->O):=bB zZ LA (zY N N) (zZ (a0,a1,a2)) (λy=>k0 y) (λy=>k1 y) (λ_=>none)
theorem aQe[aA] N:aBm N=Rm N:=funext λ_=>funext λ_=>funext λ_=>funext λ_=>funext λ_=>dD aQ9 _ _ _ _
theorem aQa[aA](N:Nat)(self:Sg->O)(K:Exit->Sg->O)(x:Int×Int×(List (List UInt8))):C5 N (λv0=>self (zZ (x.1,v0,x.2.2))) (λy0=>K (LD y0).1 (LD y0).2) (λ(_:Unit)=>K (LC ()).1 (LC ()).2) x.1 x.2.2 x.2.1=exec (sX N) Tryz.f4.ntmps .d Rn (zZ x) (fE aBn aQ5 self K):=by kernel_rfl
theorem aQg N (hc:aD (sX N)):cU (sX N) Tryz.f4.ntmps (.loop Rn) LD LC (aV 2) (bB zZ LA (zY N N)):=
 fW hc (cT Rn) (kS aQ7 aQ6 .ret (.exit 0) (λ_=>by kernel_rfl) (λ_=>by kernel_rfl) (λ_=>rfl) (λ_=>rfl) (by kernel_rfl)) (n:=N) (λx K=>fY (zY N) (λ_ _ _ _=>rfl) (λn K ih x=>by
  refine Eq.trans ?_ (aQa N _ K x);simp only[<-ih];rfl) N x K)
def Rq[aA](N:Nat)(in0:Int->Int->(List (List UInt8))->(Bool->O)->(Unit->O)->O)(l0:(List Int))(at1 how2 by3:Int)(raw4:(List UInt8)):O:=
 let b2:=Ex.mk (JK N l0) (JJ N l0) (JI N l0)
 let b0:=Ex.mk b2.op b2.num b2.kids
 let b1:=A6 N b0.op b0.num b0.kids
 ck (JM N l0)<|
 ck (G7 N b0.op b0.num b0.kids)<|
 ck (A2 N b1 at1 how2 by3)<|
 ck true <|
 ck (A2 N (tH N b1 at1 how2 by3) by3 (aB.wrap (how2.tdiv (4:Int))) at1)<|
 ck (wC N raw4 (60:Int))<|
 ck (wC N b1 (↑b1.length:Int))<|
 ck (wC N raw4 (20:Int))<|
 ck (cZ (iW N b1 (↑b1.length:Int)++iW N raw4 (20:Int)).length (1:Nat))<|
 ck (wC N raw4 (9:Int))<|
 ck (cZ (iW N raw4 (9:Int)++[(63:UInt8)]).length (1:Nat))<|
 in0 by3 0 [A6 N b0.op b0.num b0.kids,tH N b1 at1 how2 by3,tH N (tH N b1 at1 how2 by3) by3 (aB.wrap (how2.tdiv (4:Int))) at1,iW N raw4 (60:Int),iW N b1 (↑b1.length:Int)++iW N raw4 (20:Int),iW N raw4 (9:Int)++[(63:UInt8)]]
  (λz7=>
   some (LB z7))
  (λ(_:Unit)=>
   ck true <|
   some (LB true))
def w4[aA] N l0 at1 how2 by3 raw4:=Rq N (Rm N) l0 at1 how2 by3 raw4
def w4h[aA](N:Nat):Hint:=(.seq .d (.seq .d (.seq .d (.seq .d (.seq (.seq .d (.block (.sub aBn _ _ _ LD LC (aV 2) (bB zZ LA (zY N N))))) .d)))))
theorem aQc N (hc:aD (sX N)):bJ (sX N) Tryz.f4.ntmps (w4h N) Ro:=bR _ _ (aH trivial (aH trivial (aH trivial (aH trivial (aH (aH trivial (aQg N hc)) trivial)))))
theorem w4q[aA] N l0 at1 how2 by3 raw4:Rq N (aBm N) l0 at1 how2 by3 raw4=exec (sX N) Tryz.f4.ntmps (w4h N) Ro ⟨bW 0 [.e (.sl (.i .i64)) l0,.e (.i .i64) at1,.e (.i .i64) how2,.e (.i .i64) by3,.e (.sl .u8) raw4],[],100⟩ (bX (sX N) Tryz.f4 false):=by kernel_rfl
def Kz(r:aC):Option (Bool):=match r with
 |(x0,[])=>(match ue .bo x0 with|some a0=>some a0|_=>none)
 |_=>none
theorem aQ8{r d}(h:Kz r=some d):r=LB (d):=by
 unfold Kz at h;split at h
 .split at h
  .rename_i h0;cases h;rw[aE h0];rfl
  .cases h
 .cases h
def Rl N l0 at1 how2 by3 raw4:=(w4 N l0 at1 how2 by3 raw4).bind Kz
theorem aQd{N}(hc:aD (sX N)){l0 at1 how2 by3 raw4 d}(hd:Rl N l0 at1 how2 by3 raw4=some d):cB Tryz.prog 4 [.e (.sl (.i .i64)) l0,.e (.i .i64) at1,.e (.i .i64) how2,.e (.i .i64) by3,.e (.sl .u8) raw4] [] (LB (d)):=
 cD hc (by kernel_rfl) (by kernel_rfl) (aQc N hc) (by kernel_rfl) aQ8 (λhr=>(w4q N l0 at1 how2 by3 raw4).symm.trans (by rw[aQe N];exact hr)) hd
end
end Go.Proofs
