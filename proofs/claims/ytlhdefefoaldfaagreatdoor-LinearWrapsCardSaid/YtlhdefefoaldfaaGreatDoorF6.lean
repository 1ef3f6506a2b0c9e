/- What the law does. Conditions are in the theorems. -/
import Derived.Test.YtlhdefefoaldfaaGreatDoorE7
import Derived.Test.YtlhdefefoaldfaaGreatDoorProg
import Derived.KernelRfl
import Derived.Test.YtlhdefefoaldfaaGreatDoorL2
import Derived.Test.YtlhdefefoaldfaaGreatDoorL1
/- What functions do. -/
namespace Go.Proofs
noncomputable section
open Go.Ax Go.Ax.Alg Go.RowKit Go.Ab
open Go
def w5r0 (a0:Bool):Res:=(.e .bo a0,[])
noncomputable def w5L (N:Nat):List (Nat×Ent'):=[(17,l17e N),(8,w8e N),(9,w9e N),(23,w23e N),(24,w24e N),(25,w25e N),(26,w26e N)]
noncomputable def w5c (N:Nat):Cx:=⟨Tryz.prog,25,w5L N,[]⟩
noncomputable def w5b:Code:=Tryz.f5.body.getD .skip
theorem w5cx (N:Nat):CxOk (w5c N):=ctx_ok (by kernel_rfl) (.cons (by kernel_rfl) (l17ok N) (.cons (by kernel_rfl) (w8ok N) (.cons (by kernel_rfl) (w9ok N) (.cons (by kernel_rfl) (w23ok N) (.cons (by kernel_rfl) (w24ok N) (.cons (by kernel_rfl) (w25ok N) (.cons (by kernel_rfl) (w26ok N) .nil))))))) .nil
def w5F0 [Alg] (N:Nat)  (self:Int→O) (k0:Bool→O) (k1:Int→Int→(List Ex)→(List Int)→O) (x37_0:Int) (x37_1:Int) (x37_3:(List Ex)) (x37_4:(List Int)) (x37_2:Int):O:=
 br (decide (x37_2 < (3:Int)))
  (gx x37_3 x37_1 fun y46=>
  gx x37_4 x37_2 fun y47=>
  ck (w24p N (Ex.mk (Ex.mk y46.op y46.num y46.kids).op (Ex.mk y46.op y46.num y46.kids).num (Ex.mk y46.op y46.num y46.kids).kids).op (Ex.mk (Ex.mk y46.op y46.num y46.kids).op (Ex.mk y46.op y46.num y46.kids).num (Ex.mk y46.op y46.num y46.kids).kids).num (Ex.mk (Ex.mk y46.op y46.num y46.kids).op (Ex.mk y46.op y46.num y46.kids).num (Ex.mk y46.op y46.num y46.kids).kids).kids y47) <|
  gx x37_3 x37_1 fun y48=>
  gx x37_4 x37_2 fun y49=>
  ck (w25p N (Ex.mk (Ex.mk y48.op y48.num y48.kids).op (Ex.mk y48.op y48.num y48.kids).num (Ex.mk y48.op y48.num y48.kids).kids).op (Ex.mk (Ex.mk y48.op y48.num y48.kids).op (Ex.mk y48.op y48.num y48.kids).num (Ex.mk y48.op y48.num y48.kids).kids).num (Ex.mk (Ex.mk y48.op y48.num y48.kids).op (Ex.mk y48.op y48.num y48.kids).num (Ex.mk y48.op y48.num y48.kids).kids).kids y49) <|
  ck (!!decide (w24y1 N (Ex.mk (Ex.mk y46.op y46.num y46.kids).op (Ex.mk y46.op y46.num y46.kids).num (Ex.mk y46.op y46.num y46.kids).kids).op (Ex.mk (Ex.mk y46.op y46.num y46.kids).op (Ex.mk y46.op y46.num y46.kids).num (Ex.mk y46.op y46.num y46.kids).kids).num (Ex.mk (Ex.mk y46.op y46.num y46.kids).op (Ex.mk y46.op y46.num y46.kids).num (Ex.mk y46.op y46.num y46.kids).kids).kids y47≠w25y1 N (Ex.mk (Ex.mk y48.op y48.num y48.kids).op (Ex.mk y48.op y48.num y48.kids).num (Ex.mk y48.op y48.num y48.kids).kids).op (Ex.mk (Ex.mk y48.op y48.num y48.kids).op (Ex.mk y48.op y48.num y48.kids).num (Ex.mk y48.op y48.num y48.kids).kids).num (Ex.mk (Ex.mk y48.op y48.num y48.kids).op (Ex.mk y48.op y48.num y48.kids).num (Ex.mk y48.op y48.num y48.kids).kids).kids y49)||w26p N (w24y0 N (Ex.mk (Ex.mk y46.op y46.num y46.kids).op (Ex.mk y46.op y46.num y46.kids).num (Ex.mk y46.op y46.num y46.kids).kids).op (Ex.mk (Ex.mk y46.op y46.num y46.kids).op (Ex.mk y46.op y46.num y46.kids).num (Ex.mk y46.op y46.num y46.kids).kids).num (Ex.mk (Ex.mk y46.op y46.num y46.kids).op (Ex.mk y46.op y46.num y46.kids).num (Ex.mk y46.op y46.num y46.kids).kids).kids y47) (w25y0 N (Ex.mk (Ex.mk y48.op y48.num y48.kids).op (Ex.mk y48.op y48.num y48.kids).num (Ex.mk y48.op y48.num y48.kids).kids).op (Ex.mk (Ex.mk y48.op y48.num y48.kids).op (Ex.mk y48.op y48.num y48.kids).num (Ex.mk y48.op y48.num y48.kids).kids).num (Ex.mk (Ex.mk y48.op y48.num y48.kids).op (Ex.mk y48.op y48.num y48.kids).num (Ex.mk y48.op y48.num y48.kids).kids).kids y49)) <|
  br (decide (w24y1 N (Ex.mk (Ex.mk y46.op y46.num y46.kids).op (Ex.mk y46.op y46.num y46.kids).num (Ex.mk y46.op y46.num y46.kids).kids).op (Ex.mk (Ex.mk y46.op y46.num y46.kids).op (Ex.mk y46.op y46.num y46.kids).num (Ex.mk y46.op y46.num y46.kids).kids).num (Ex.mk (Ex.mk y46.op y46.num y46.kids).op (Ex.mk y46.op y46.num y46.kids).num (Ex.mk y46.op y46.num y46.kids).kids).kids y47≠w25y1 N (Ex.mk (Ex.mk y48.op y48.num y48.kids).op (Ex.mk y48.op y48.num y48.kids).num (Ex.mk y48.op y48.num y48.kids).kids).op (Ex.mk (Ex.mk y48.op y48.num y48.kids).op (Ex.mk y48.op y48.num y48.kids).num (Ex.mk y48.op y48.num y48.kids).kids).num (Ex.mk (Ex.mk y48.op y48.num y48.kids).op (Ex.mk y48.op y48.num y48.kids).num (Ex.mk y48.op y48.num y48.kids).kids).kids y49)||!w26y0 N (w24y0 N (Ex.mk (Ex.mk y46.op y46.num y46.kids).op (Ex.mk y46.op y46.num y46.kids).num (Ex.mk y46.op y46.num y46.kids).kids).op (Ex.mk (Ex.mk y46.op y46.num y46.kids).op (Ex.mk y46.op y46.num y46.kids).num (Ex.mk y46.op y46.num y46.kids).kids).num (Ex.mk (Ex.mk y46.op y46.num y46.kids).op (Ex.mk y46.op y46.num y46.kids).num (Ex.mk y46.op y46.num y46.kids).kids).kids y47) (w25y0 N (Ex.mk (Ex.mk y48.op y48.num y48.kids).op (Ex.mk y48.op y48.num y48.kids).num (Ex.mk y48.op y48.num y48.kids).kids).op (Ex.mk (Ex.mk y48.op y48.num y48.kids).op (Ex.mk y48.op y48.num y48.kids).num (Ex.mk y48.op y48.num y48.kids).kids).num (Ex.mk (Ex.mk y48.op y48.num y48.kids).op (Ex.mk y48.op y48.num y48.kids).num (Ex.mk y48.op y48.num y48.kids).kids).kids y49))
   (k0 false)
   (self (IntKind.i64.wrap (x37_2+(1:Int)))))
  (k1 x37_0 x37_1 x37_3 x37_4)
noncomputable def w5b0:Code:=atC [1,1,1,1,0,1,0,0,1,0,0,1,0,0] w5b
def w5m0:Nm:=⟨[3,12,13,14,15],[],[]⟩
def w5I0 (x:Int×Int×Int×(List Ex)×(List Int)):Sg:=⟨[(3,.e (.i .i64) x.1),(12,.own 0),(13,.own 1),(14,.e (.i .i64) x.2.1),(15,.e (.i .i64) x.2.2.1)],[(0,.row 25 .ex x.2.2.2.1 true),(1,.row 3 (.i .i64) x.2.2.2.2 true)],100⟩
def w5u0 (σ:Sg):Int×Int×Int×(List Ex)×(List Int):=(lvT (.i .i64) 3 0 σ,lvT (.i .i64) 14 0 σ,lvT (.i .i64) 15 0 σ,lvR .ex 0 σ,lvR (.i .i64) 1 σ)
theorem w5ui0:∀ x,w5u0 (w5I0 x)=x:=fun _=>by kernel_rfl
def w5X0_0 (y:Bool):Exit×Sg:=(.ret,⟨[(10,.e .bo y)],[],100⟩)
def w5v0_0 (_:Exit) (σ:Sg):Bool:=lvT .bo 10 0 σ
def w5X0_1 (y:Int×Int×(List Ex)×(List Int)):Exit×Sg:=((.exit 2),⟨[(3,.e (.i .i64) y.1),(12,.own 0),(13,.own 1),(14,.e (.i .i64) y.2.1)],[(0,.row 25 .ex y.2.2.1 true),(1,.row 3 (.i .i64) y.2.2.2 true)],100⟩)
def w5v0_1 (_:Exit) (σ:Sg):Int×Int×(List Ex)×(List Int):=(lvT (.i .i64) 3 0 σ,lvT (.i .i64) 14 0 σ,lvR .ex 0 σ,lvR (.i .i64) 1 σ)
def w5w0:List (Exit×Nm):=[(.ret,⟨[10],[],[]⟩),((.exit 2),⟨[3,12,13,14],[],[]⟩)]
theorem w5o0:Outs w5v0_0 w5v0_1 (fun _ _=>()) w5X0_0 w5X0_1 (noX 2) (exC .ret) (exC (.exit 2)) (exC (.goto 2)):=⟨fun _=>by kernel_rfl,fun _=>by kernel_rfl,fun _=>by kernel_rfl,fun _=>by kernel_rfl,fun _=>by kernel_rfl,fun _=>by kernel_rfl,exNe_ok (by kernel_rfl),exNe_ok (by kernel_rfl),exNe_ok (by kernel_rfl)⟩
def w5l0 [Alg] (N:Nat):Nat→(Int×Int×Int×(List Ex)×(List Int))→((Bool)→O)→((Int×Int×(List Ex)×(List Int))→O)→((Unit)→O)→O
 | 0,_,_,_,_=>none
 | n+1,x,k0,k1,k2=>w5F0 N  (fun v0=>w5l0 N n (x.1,x.2.1,v0,x.2.2.2.1,x.2.2.2.2) k0 k1 k2) (fun y0=>k0 y0) (fun y0 y1 y2 y3=>k1 (y0,y1,y2,y3)) x.1 x.2.1 x.2.2.2.1 x.2.2.2.2 x.2.2.1
def w5n0 [Alg] (N:Nat) (a0:Int) (a1:Int) (a2:Int) (a3:(List Ex)) (a4:(List Int)) (k0:Bool→O) (k1:Int→Int→(List Ex)→(List Int)→O):O:=w5l0 N N (a0,a1,a2,a3,a4) (fun y=>k0 y) (fun y=>k1 y.1 y.2.1 y.2.2.1 y.2.2.2) (fun _=>none)
noncomputable def w5s0 [Alg] (N:Nat) (a0:Int) (a1:Int) (a2:Int) (a3:(List Ex)) (a4:(List Int)) (k0:Bool→O) (k1:Int→Int→(List Ex)→(List Int)→O):O:=subL w5I0 w5u0 (w5l0 N N) (w5I0 (a0,a1,a2,a3,a4)) (fun y=>k0 y) (fun y=>k1 y.1 y.2.1 y.2.2.1 y.2.2.2) (fun _=>none)
theorem w5e0 [Alg] (N:Nat):w5s0 N=w5n0 N:=funext fun _=>funext fun _=>funext fun _=>funext fun _=>funext fun _=>funext fun _=>funext fun _=>subL_I w5ui0 _ _ _ _
noncomputable def w5h0 [Alg] (_:Nat):Hint:=.d
theorem w5hk0 (N:Nat):HintOk (w5c N) Tryz.f5.ntmps (w5h0 N) w5b0:=hk_of _ _ trivial
theorem w5q0 [Alg] (N:Nat) (self:Sg→O) (K:Exit→Sg→O) (x:Int×Int×Int×(List Ex)×(List Int)):w5F0 N  (fun v0=>self (w5I0 (x.1,x.2.1,v0,x.2.2.2.1,x.2.2.2.2))) (fun y0=>K (w5X0_0 y0).1 (w5X0_0 y0).2) (fun y0 y1 y2 y3=>K (w5X0_1 (y0,y1,y2,y3)).1 (w5X0_1 (y0,y1,y2,y3)).2) x.1 x.2.1 x.2.2.2.1 x.2.2.2.2 x.2.2.1=exec (w5c N) Tryz.f5.ntmps (w5h0 N) w5b0 (w5I0 x) (roundX w5m0 w5w0 self K):=by kernel_rfl
theorem w5S0 (N:Nat) (hc:CxOk (w5c N)):SubOk (w5c N) Tryz.f5.ntmps (.loop w5b0) w5X0_0 w5X0_1 (noX 2) (subL w5I0 w5u0 (w5l0 N N)):=
 sub_loop hc (w5hk0 N) w5o0 (n:=N) (fun x K=>loop_ind (w5l0 N) (fun _ _ _ _=>rfl) (fun n K ih x=>by
  have h:w5F0 N  (fun v0=>w5l0 N n (x.1,x.2.1,v0,x.2.2.2.1,x.2.2.2.2) (fun y=>K (w5X0_0 y).1 (w5X0_0 y).2) (fun y=>K (w5X0_1 y).1 (w5X0_1 y).2) (fun y=>K ((noX 2) y).1 ((noX 2) y).2)) (fun y0=>K (w5X0_0 y0).1 (w5X0_0 y0).2) (fun y0 y1 y2 y3=>K (w5X0_1 (y0,y1,y2,y3)).1 (w5X0_1 (y0,y1,y2,y3)).2) x.1 x.2.1 x.2.2.2.1 x.2.2.2.2 x.2.2.1=w5F0 N  (fun v0=>loopX (w5c N) Tryz.f5.ntmps (w5h0 N) w5b0 w5m0 w5w0 n (w5I0 (x.1,x.2.1,v0,x.2.2.2.1,x.2.2.2.2)) K) (fun y0=>K (w5X0_0 y0).1 (w5X0_0 y0).2) (fun y0 y1 y2 y3=>K (w5X0_1 (y0,y1,y2,y3)).1 (w5X0_1 (y0,y1,y2,y3)).2) x.1 x.2.1 x.2.2.2.1 x.2.2.2.2 x.2.2.1:=by rw [ show (fun v0=>w5l0 N n (x.1,x.2.1,v0,x.2.2.2.1,x.2.2.2.2) (fun y=>K (w5X0_0 y).1 (w5X0_0 y).2) (fun y=>K (w5X0_1 y).1 (w5X0_1 y).2) (fun y=>K ((noX 2) y).1 ((noX 2) y).2))=(fun v0=>loopX (w5c N) Tryz.f5.ntmps (w5h0 N) w5b0 w5m0 w5w0 n (w5I0 (x.1,x.2.1,v0,x.2.2.2.1,x.2.2.2.2)) K) from funext fun _=>ih _]
  exact h.trans (w5q0 N (fun σ=>loopX (w5c N) Tryz.f5.ntmps (w5h0 N) w5b0 w5m0 w5w0 n σ K) K x)) N x K)
def w5F1 [Alg] (_:Nat) (in0:Int→Int→Int→(List Ex)→(List Int)→(Bool→O)→(Int→Int→(List Ex)→(List Int)→O)→O) (self:Int→Int→(List Ex)→(List Int)→O) (k0:Bool→O) (k1:Unit→O) (x0_0:Int) (x0_1:Int) (x0_2:(List Ex)) (x0_3:(List Int)):O:=
 br (decide (x0_1 < (2:Int)))
  (in0 x0_0 x0_1 ((0:Int)) x0_2 x0_3
   (fun z50=>
    k0 z50)
   (fun z51 z52 z53 z54=>
    self z51 (IntKind.i64.wrap (z52+(1:Int))) z53 z54))
  (k1 ())
noncomputable def w5b1:Code:=atC [1,1,1,1,0,1,0,0] w5b
def w5m1:Nm:=⟨[3,12,13,14],[],[]⟩
def w5I1 (x:Int×Int×(List Ex)×(List Int)):Sg:=⟨[(3,.e (.i .i64) x.1),(12,.own 0),(13,.own 1),(14,.e (.i .i64) x.2.1)],[(0,.row 25 .ex x.2.2.1 true),(1,.row 3 (.i .i64) x.2.2.2 true)],100⟩
def w5u1 (σ:Sg):Int×Int×(List Ex)×(List Int):=(lvT (.i .i64) 3 0 σ,lvT (.i .i64) 14 0 σ,lvR .ex 0 σ,lvR (.i .i64) 1 σ)
theorem w5ui1:∀ x,w5u1 (w5I1 x)=x:=fun _=>by kernel_rfl
def w5X1_0 (y:Bool):Exit×Sg:=(.ret,⟨[(10,.e .bo y)],[],100⟩)
def w5v1_0 (_:Exit) (σ:Sg):Bool:=lvT .bo 10 0 σ
def w5X1_1 (_:Unit):Exit×Sg:=((.exit 0),⟨[],[],100⟩)
def w5v1_1 (_:Exit) (_:Sg):Unit:=()
def w5w1:List (Exit×Nm):=[(.ret,⟨[10],[],[]⟩),((.exit 0),⟨[],[],[]⟩)]
theorem w5o1:Outs w5v1_0 w5v1_1 (fun _ _=>()) w5X1_0 w5X1_1 (noX 2) (exC .ret) (exC (.exit 0)) (exC (.goto 2)):=⟨fun _=>by kernel_rfl,fun _=>by kernel_rfl,fun _=>by kernel_rfl,fun _=>by kernel_rfl,fun _=>by kernel_rfl,fun _=>by kernel_rfl,exNe_ok (by kernel_rfl),exNe_ok (by kernel_rfl),exNe_ok (by kernel_rfl)⟩
def w5l1 [Alg] (N:Nat):Nat→(Int×Int×(List Ex)×(List Int))→((Bool)→O)→((Unit)→O)→((Unit)→O)→O
 | 0,_,_,_,_=>none
 | n+1,x,k0,k1,k2=>w5F1 N (w5n0 N) (fun v0 v1 v2 v3=>w5l1 N n (v0,v1,v2,v3) k0 k1 k2) (fun y0=>k0 y0) (fun (_:Unit)=>k1 ()) x.1 x.2.1 x.2.2.1 x.2.2.2
def w5n1 [Alg] (N:Nat) (a0:Int) (a1:Int) (a2:(List Ex)) (a3:(List Int)) (k0:Bool→O) (k1:Unit→O):O:=w5l1 N N (a0,a1,a2,a3) (fun y=>k0 y) (fun y=>k1 y) (fun _=>none)
noncomputable def w5s1 [Alg] (N:Nat) (a0:Int) (a1:Int) (a2:(List Ex)) (a3:(List Int)) (k0:Bool→O) (k1:Unit→O):O:=subL w5I1 w5u1 (w5l1 N N) (w5I1 (a0,a1,a2,a3)) (fun y=>k0 y) (fun y=>k1 y) (fun _=>none)
theorem w5e1 [Alg] (N:Nat):w5s1 N=w5n1 N:=funext fun _=>funext fun _=>funext fun _=>funext fun _=>funext fun _=>funext fun _=>subL_I w5ui1 _ _ _ _
noncomputable def w5h1 [Alg] (N:Nat):Hint:=(.seq .d (.seq (.block (.seq .d (.block (.sub w5m0 _ _ _ w5X0_0 w5X0_1 (noX 2) (subL w5I0 w5u0 (w5l0 N N)))))) .d))
theorem w5hk1 (N:Nat) (hc:CxOk (w5c N)):HintOk (w5c N) Tryz.f5.ntmps (w5h1 N) w5b1:=hk_of _ _ (And.intro trivial (And.intro (And.intro trivial (w5S0 N hc)) trivial))
theorem w5q1 [Alg] (N:Nat) (self:Sg→O) (K:Exit→Sg→O) (x:Int×Int×(List Ex)×(List Int)):w5F1 N (w5s0 N) (fun v0 v1 v2 v3=>self (w5I1 (v0,v1,v2,v3))) (fun y0=>K (w5X1_0 y0).1 (w5X1_0 y0).2) (fun (_:Unit)=>K (w5X1_1 ()).1 (w5X1_1 ()).2) x.1 x.2.1 x.2.2.1 x.2.2.2=exec (w5c N) Tryz.f5.ntmps (w5h1 N) w5b1 (w5I1 x) (roundX w5m1 w5w1 self K):=by kernel_rfl
theorem w5S1 (N:Nat) (hc:CxOk (w5c N)):SubOk (w5c N) Tryz.f5.ntmps (.loop w5b1) w5X1_0 w5X1_1 (noX 2) (subL w5I1 w5u1 (w5l1 N N)):=
 sub_loop hc (w5hk1 N hc) w5o1 (n:=N) (fun x K=>loop_ind (w5l1 N) (fun _ _ _ _=>rfl) (fun n K ih x=>by
  have h:w5F1 N (w5n0 N) (fun v0 v1 v2 v3=>w5l1 N n (v0,v1,v2,v3) (fun y=>K (w5X1_0 y).1 (w5X1_0 y).2) (fun y=>K (w5X1_1 y).1 (w5X1_1 y).2) (fun y=>K ((noX 2) y).1 ((noX 2) y).2)) (fun y0=>K (w5X1_0 y0).1 (w5X1_0 y0).2) (fun (_:Unit)=>K (w5X1_1 ()).1 (w5X1_1 ()).2) x.1 x.2.1 x.2.2.1 x.2.2.2=w5F1 N (w5s0 N) (fun v0 v1 v2 v3=>loopX (w5c N) Tryz.f5.ntmps (w5h1 N) w5b1 w5m1 w5w1 n (w5I1 (v0,v1,v2,v3)) K) (fun y0=>K (w5X1_0 y0).1 (w5X1_0 y0).2) (fun (_:Unit)=>K (w5X1_1 ()).1 (w5X1_1 ()).2) x.1 x.2.1 x.2.2.1 x.2.2.2:=by rw [w5e0 N,show (fun v0 v1 v2 v3=>w5l1 N n (v0,v1,v2,v3) (fun y=>K (w5X1_0 y).1 (w5X1_0 y).2) (fun y=>K (w5X1_1 y).1 (w5X1_1 y).2) (fun y=>K ((noX 2) y).1 ((noX 2) y).2))=(fun v0 v1 v2 v3=>loopX (w5c N) Tryz.f5.ntmps (w5h1 N) w5b1 w5m1 w5w1 n (w5I1 (v0,v1,v2,v3)) K) from funext fun _=>funext fun _=>funext fun _=>funext fun _=>ih _]
  exact h.trans (w5q1 N (fun σ=>loopX (w5c N) Tryz.f5.ntmps (w5h1 N) w5b1 w5m1 w5w1 n σ K) K x)) N x K)
def w5G [Alg] (N:Nat) (_in0:Int→Int→Int→(List Ex)→(List Int)→(Bool→O)→(Int→Int→(List Ex)→(List Int)→O)→O) (in1:Int→Int→(List Ex)→(List Int)→(Bool→O)→(Unit→O)→O) (l0:(List Int)) (at1:Int) (how2:Int) (by3:Int) (width4:Int):O:=
 let b1:=Ex.mk (w8y0 N l0) (w8y1 N l0) (w8y2 N l0)
 let b0:=Ex.mk b1.op b1.num b1.kids
 ck (w8p N l0) <|
 ck (w9p N b0.op b0.num b0.kids at1 how2 by3) <|
 ck (w23p N width4 (12:Int)) <|
 ck (w23p N width4 (46:Int)) <|
 in1 by3 ((0:Int)) [Ex.mk (w8y0 N l0) (w8y1 N l0) (w8y2 N l0),Ex.mk (w9y0 N b0.op b0.num b0.kids at1 how2 by3) (w9y1 N b0.op b0.num b0.kids at1 how2 by3) (w9y2 N b0.op b0.num b0.kids at1 how2 by3)] [IntKind.i64.wrap ((4:Int)+w23y0 N width4 (12:Int)),w23y0 N width4 (46:Int),width4]
  (fun z55=>
   some (w5r0 z55))
  (fun (_:Unit)=>
   ck true <|
   some (w5r0 true))
def w5 [Alg] (N:Nat) (l0:(List Int)) (at1:Int) (how2:Int) (by3:Int) (width4:Int):O:=w5G N (w5n0 N) (w5n1 N) l0 at1 how2 by3 width4
noncomputable def w5h [Alg] (N:Nat):Hint:=(.seq .d (.seq .d (.seq .d (.seq .d (.seq (.seq .d (.block (.sub w5m1 _ _ _ w5X1_0 w5X1_1 (noX 2) (subL w5I1 w5u1 (w5l1 N N))))) .d)))))
theorem w5hk (N:Nat) (hc:CxOk (w5c N)):HintOk (w5c N) Tryz.f5.ntmps (w5h N) w5b:=hk_of _ _ (And.intro trivial (And.intro trivial (And.intro trivial (And.intro trivial (And.intro (And.intro trivial (w5S1 N hc)) trivial)))))
theorem w5q [Alg] (N:Nat) (l0:(List Int)) (at1:Int) (how2:Int) (by3:Int) (width4:Int):w5G N (w5s0 N) (w5s1 N) l0 at1 how2 by3 width4=exec (w5c N) Tryz.f5.ntmps (w5h N) w5b ⟨argT 0 [.e (.sl (.i .i64)) l0,.e (.i .i64) at1,.e (.i .i64) how2,.e (.i .i64) by3,.e (.i .i64) width4],[],100⟩ (finX (w5c N) Tryz.f5 false):=by kernel_rfl
theorem w5does {N:Nat} (hc:CxOk (w5c N)) {l0:(List Int)} {at1:Int} {how2:Int} {by3:Int} {width4:Int} {r:Res} (h:w5 N l0 at1 how2 by3 width4=some r):DoesR Tryz.prog 5 (([.e (.sl (.i .i64)) l0,.e (.i .i64) at1,.e (.i .i64) how2,.e (.i .i64) by3,.e (.i .i64) width4]:List X).map X.D) (HA []) r:=
 fun_ok hc (f:=5) (fn:=Tryz.f5) (code:=w5b) (by kernel_rfl) (by kernel_rfl) (w5hk N hc) (Nat.le_of_ble_eq_true (by kernel_rfl)) (ow:=false) ((w5q N l0 at1 how2 by3 width4).symm.trans (by rw [w5e0 N,w5e1 N];exact h))
def w5un (r:Res):Option (Bool):=match r with
 | (x0,[])=>(match ue .bo x0 with | some a0=>some a0 | _=>none)
 | _=>none
theorem w5uo {r:Res} {d:Bool} (h:w5un r=some d):r=w5r0 (d):=by
 unfold w5un at h
 split at h
 ·split at h
  ·rename_i h0;cases h;rw [ue_some h0];rfl
  ·cases h
 ·cases h
def w5z (N:Nat) (l0:(List Int)) (at1:Int) (how2:Int) (by3:Int) (width4:Int):Option (Bool):=(w5 N l0 at1 how2 by3 width4).bind w5un
theorem w5fin {N:Nat} (hc:CxOk (w5c N)) {l0:(List Int)} {at1:Int} {how2:Int} {by3:Int} {width4:Int} {d:Bool} (hd:w5z N l0 at1 how2 by3 width4=some d):Does Tryz.prog 5 (([.e (.sl (.i .i64)) l0,.e (.i .i64) at1,.e (.i .i64) how2,.e (.i .i64) by3,.e (.i .i64) width4]:List X).map X.D) (HA []) (w5r0 (d)).1.D (HA (w5r0 (d)).2):=by
 obtain ⟨r,hr,hu⟩:=Option.bind_eq_some_iff.1 hd
 have:=w5does hc hr
 rw [w5uo hu] at this
 exact this
end
end Go.Proofs
