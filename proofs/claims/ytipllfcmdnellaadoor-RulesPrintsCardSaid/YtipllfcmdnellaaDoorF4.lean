/- What Bent and the reference do. Conditions are in the theorems. -/
import Derived.Test.YtipllfcmdnellaaDoorE7
import Derived.Test.YtipllfcmdnellaaDoorProg
import Derived.KernelRfl
import Derived.Test.YtipllfcmdnellaaDoorF3
/- What functions do. -/
namespace Go.Proofs
noncomputable section
open Go.Ax Go.Ax.Alg Go.RowKit Go.Ab
open Go
def w10r0 (a0:(List ((List Int)×(Int×Int)))):Res:=(.e (.sl (.pr (.sl (.i .i64)) (.pr (.i .i64) (.i .i64)))) a0,[])
def w10c (N:Nat):Cx:=⟨Tryd.prog,99999,[(18,w18e N)],[]⟩
def w10b:Code:=Tryd.f10.body.getD .skip
theorem w10cx N:CxOk (w10c N):=ctx_ok (by kernel_rfl) (.cons (by kernel_rfl) (w18ok N) .nil) .nil
def w10F0 [Alg] (_:Nat) (self:Int->(List ((List Int)×(Int×Int)))->O) (k0:Int->Int->Int->(List ((List Int)×(Int×Int)))->O) (x0_0:(List ((List Int)×(Int×Int)))) (x0_1 x0_2:Int) (x0_3 x0_4:Int) (x0_5:(List ((List Int)×(Int×Int)))):O:=
 br (decide (x0_4 < (↑x0_0.length:Int)))
  (gx x0_0 x0_4 fun y4=>
  ck (lim ([]++y4.1).length (8:Nat)) <|
  ck (lim (x0_5.length+[([]++y4.1,y4.2.1,y4.2.2)].length) (40:Nat)) <|
  self (IntKind.i64.wrap (x0_4+1)) (x0_5++[([]++y4.1,y4.2.1,y4.2.2)]))
  (k0 x0_1 x0_2 x0_3 x0_5)
def w10b0:Code:=atC [1,1,0,1,0,0] w10b
def w10m0:Nm:=⟨[0,1,2,3,8,9,10],[],[.nilR 9 (.nst 49 3 (.i .i64) (.pr (.i .i64) (.i .i64)) [] none)]⟩
def w10I0 (x:(List ((List Int)×(Int×Int)))×Int×Int×Int×Int×(List ((List Int)×(Int×Int)))):Sg:=⟨[(0,.e (.sl (.pr (.sl (.i .i64)) (.pr (.i .i64) (.i .i64)))) x.1),(1,.e (.i .i64) x.2.1),(2,.e (.i .i64) x.2.2.1),(3,.e (.i .i64) x.2.2.2.1),(8,.nilS),(9,.own 0),(10,.e (.i .i64) x.2.2.2.2.1)],[(0,.nst 49 3 (.i .i64) (.pr (.i .i64) (.i .i64)) x.2.2.2.2.2 none)],100⟩
def w10u0 (σ:Sg):(List ((List Int)×(Int×Int)))×Int×Int×Int×Int×(List ((List Int)×(Int×Int))):=(lvT (.sl (.pr (.sl (.i .i64)) (.pr (.i .i64) (.i .i64)))) 0 0 σ,lvT (.i .i64) 1 0 σ,lvT (.i .i64) 2 0 σ,lvT (.i .i64) 3 0 σ,lvT (.i .i64) 10 0 σ,lvS (.i .i64) (.pr (.i .i64) (.i .i64)) 0 σ)
theorem w10ui0:∀ x,w10u0 (w10I0 x)=x:=fun _=>by kernel_rfl
def w10X0_0 (y:Int×Int×Int×(List ((List Int)×(Int×Int)))):Exit×Sg:=((.exit 0),⟨[(1,.e (.i .i64) y.1),(2,.e (.i .i64) y.2.1),(3,.e (.i .i64) y.2.2.1),(8,.nilS),(9,.own 0)],[(0,.nst 49 3 (.i .i64) (.pr (.i .i64) (.i .i64)) y.2.2.2 none)],100⟩)
def w10v0_0 (_:Exit) (σ:Sg):Int×Int×Int×(List ((List Int)×(Int×Int))):=(lvT (.i .i64) 1 0 σ,lvT (.i .i64) 2 0 σ,lvT (.i .i64) 3 0 σ,lvS (.i .i64) (.pr (.i .i64) (.i .i64)) 0 σ)
def w10w0:List (Exit×Nm):=[((.exit 0),⟨[1,2,3,8,9],[],[]⟩)]
def w10l0 [Alg] (N:Nat):Nat->((List ((List Int)×(Int×Int)))×Int×Int×Int×Int×(List ((List Int)×(Int×Int))))->((Int×Int×Int×(List ((List Int)×(Int×Int))))->O)->((Unit)->O)->((Unit)->O)->O
 | 0,_,_,_,_=>none
 | n+1,x,k0,k1,k2=>w10F0 N (fun v0 v1=>w10l0 N n (x.1,x.2.1,x.2.2.1,x.2.2.2.1,v0,v1) k0 k1 k2) (fun y0 y1 y2 y3=>k0 (y0,y1,y2,y3)) x.1 x.2.1 x.2.2.1 x.2.2.2.1 x.2.2.2.2.1 x.2.2.2.2.2
def w10n0 [Alg] N a0 a1 a2 a3 a4 a5 (k0:Int->Int->Int->(List ((List Int)×(Int×Int)))->O):=w10l0 N N (a0,a1,a2,a3,a4,a5) (fun y=>k0 y.1 y.2.1 y.2.2.1 y.2.2.2) (fun _=>none) (fun _=>none)
def w10s0 [Alg] N a0 a1 a2 a3 a4 a5 (k0:Int->Int->Int->(List ((List Int)×(Int×Int)))->O):=subL w10I0 w10u0 (w10l0 N N) (w10I0 (a0,a1,a2,a3,a4,a5)) (fun y=>k0 y.1 y.2.1 y.2.2.1 y.2.2.2) (fun _=>none) (fun _=>none)
theorem w10e0 [Alg] N:w10s0 N=w10n0 N:=funext fun _=>funext fun _=>funext fun _=>funext fun _=>funext fun _=>funext fun _=>funext fun _=>subL_I w10ui0 _ _ _ _
def w10h0 [Alg] (_:Nat):Hint:=(.seq .d (.seq (.block (.seq .d (.seq (.reg [0,3] [] []) (.reg [2,3] [] [])))) .d))
theorem w10hk0 N:HintOk (w10c N) Tryd.f10.ntmps (w10h0 N) w10b0:=hk_of _ _ (And.intro trivial (And.intro (And.intro trivial (And.intro trivial trivial)) trivial))
theorem w10q0 [Alg] (N:Nat) (self:Sg->O) (K:Exit->Sg->O) (x:(List ((List Int)×(Int×Int)))×Int×Int×Int×Int×(List ((List Int)×(Int×Int)))):w10F0 N (fun v0 v1=>self (w10I0 (x.1,x.2.1,x.2.2.1,x.2.2.2.1,v0,v1))) (fun y0 y1 y2 y3=>K (w10X0_0 (y0,y1,y2,y3)).1 (w10X0_0 (y0,y1,y2,y3)).2) x.1 x.2.1 x.2.2.1 x.2.2.2.1 x.2.2.2.2.1 x.2.2.2.2.2=exec (w10c N) Tryd.f10.ntmps (w10h0 N) w10b0 (w10I0 x) (roundX w10m0 w10w0 self K):=by kernel_rfl
theorem w10S0 N (hc:CxOk (w10c N)):SubOk (w10c N) Tryd.f10.ntmps (.loop w10b0) w10X0_0 (noX 1) (noX 2) (subL w10I0 w10u0 (w10l0 N N)):=
 sub_loop hc (w10hk0 N) (oK1 w10v0_0 (.exit 0) (fun _=>by kernel_rfl) (fun _=>rfl) (by kernel_rfl)) (n:=N) (fun x K=>loop_ind (w10l0 N) (fun _ _ _ _=>rfl) (fun n K ih x=>by
  refine Eq.trans ?_ (w10q0 N _ K x);simp only [← ih];rfl) N x K)
def w10F1 [Alg] (N:Nat) (self:(List Int)->O) (k0:(List ((List Int)×(Int×Int)))->Int->(List Int)->O) (x18_0 x18_1:Int) (x18_2:(List ((List Int)×(Int×Int)))) (x18_3:Int) (x18_4:(List Int)):O:=
 ck (decide ((0:Int)<=x18_1/\x18_1 < (↑x18_2.length:Int))) <|
 ck (decide (x18_1.toNat=x18_3.toNat)) <|
 gn x18_2 x18_1.toNat fun _=>
 ck (w18p N x18_0 (4:Int)) <|
 br (decide ((↑x18_4.length:Int) < IntKind.i64.wrap ((7:Int)+w18y0 N x18_0 (4:Int))))
  (ck (decide ((0:Int)<=x18_1/\x18_1 < (↑x18_2.length:Int))) <|
  ck (decide (x18_1.toNat=x18_3.toNat)) <|
  gn x18_2 x18_1.toNat fun _=>
  ck (decide ((0:Int)<=x18_1/\x18_1 < (↑x18_2.length:Int))) <|
  ck (decide (x18_1.toNat=x18_3.toNat)) <|
  gn x18_2 x18_1.toNat fun _=>
  ck (lim (x18_4++[IntKind.i64.wrap ((↑x18_4.length:Int)+(1:Int))]).length (8:Nat)) <|
  ck (decide ((0:Int)<=x18_1/\x18_1 < (↑x18_2.length:Int))) <|
  ck (decide (x18_1.toNat=x18_3.toNat)) <|
  gn x18_2 x18_1.toNat fun _=>
  self (x18_4++[IntKind.i64.wrap ((↑x18_4.length:Int)+(1:Int))]))
  (k0 x18_2 x18_3 x18_4)
def w10b1:Code:=atC [1,1,1,1,1,0,1,0,1,1,1,1,1,1,1,0,0,0] w10b
def w10m1:Nm:=⟨[3,8,9,12],[],[]⟩
def w10I1 (x:Int×Int×(List ((List Int)×(Int×Int)))×Int×(List Int)):Sg:=⟨[(3,.e (.i .i64) x.1),(8,.nilS),(9,.own 0),(12,.e (.i .i64) x.2.1)],[(0,.nst 49 3 (.i .i64) (.pr (.i .i64) (.i .i64)) x.2.2.1 (some (x.2.2.2.1,1))),(1,.row 3 (.i .i64) x.2.2.2.2 false)],100⟩
def w10u1 (σ:Sg):Int×Int×(List ((List Int)×(Int×Int)))×Int×(List Int):=(lvT (.i .i64) 3 0 σ,lvT (.i .i64) 12 0 σ,lvS (.i .i64) (.pr (.i .i64) (.i .i64)) 0 σ,lvSi 0 σ,lvR (.i .i64) 1 σ)
theorem w10ui1:∀ x,w10u1 (w10I1 x)=x:=fun _=>by kernel_rfl
def w10X1_0 (y:(List ((List Int)×(Int×Int)))×Int×(List Int)):Exit×Sg:=((.exit 3),⟨[(8,.nilS),(9,.own 0)],[(0,.nst 49 3 (.i .i64) (.pr (.i .i64) (.i .i64)) y.1 (some (y.2.1,1))),(1,.row 3 (.i .i64) y.2.2 false)],100⟩)
def w10v1_0 (_:Exit) (σ:Sg):(List ((List Int)×(Int×Int)))×Int×(List Int):=(lvS (.i .i64) (.pr (.i .i64) (.i .i64)) 0 σ,lvSi 0 σ,lvR (.i .i64) 1 σ)
def w10w1:List (Exit×Nm):=[((.exit 3),⟨[8,9],[],[]⟩)]
def w10l1 [Alg] (N:Nat):Nat->(Int×Int×(List ((List Int)×(Int×Int)))×Int×(List Int))->(((List ((List Int)×(Int×Int)))×Int×(List Int))->O)->((Unit)->O)->((Unit)->O)->O
 | 0,_,_,_,_=>none
 | n+1,x,k0,k1,k2=>w10F1 N (fun v0=>w10l1 N n (x.1,x.2.1,x.2.2.1,x.2.2.2.1,v0) k0 k1 k2) (fun y0 y1 y2=>k0 (y0,y1,y2)) x.1 x.2.1 x.2.2.1 x.2.2.2.1 x.2.2.2.2
def w10n1 [Alg] N a0 a1 a2 a3 a4 (k0:(List ((List Int)×(Int×Int)))->Int->(List Int)->O):=w10l1 N N (a0,a1,a2,a3,a4) (fun y=>k0 y.1 y.2.1 y.2.2) (fun _=>none) (fun _=>none)
def w10s1 [Alg] N a0 a1 a2 a3 a4 (k0:(List ((List Int)×(Int×Int)))->Int->(List Int)->O):=subL w10I1 w10u1 (w10l1 N N) (w10I1 (a0,a1,a2,a3,a4)) (fun y=>k0 y.1 y.2.1 y.2.2) (fun _=>none) (fun _=>none)
theorem w10e1 [Alg] N:w10s1 N=w10n1 N:=funext fun _=>funext fun _=>funext fun _=>funext fun _=>funext fun _=>funext fun _=>subL_I w10ui1 _ _ _ _
def w10h1 [Alg] (_:Nat):Hint:=(.seq .d (.block (.reg [14,15] [] [[],[],[],[],[],[],[],[],[],[],[],[],[],[],[],[300,1],[],[],[0]])))
theorem w10hk1 N:HintOk (w10c N) Tryd.f10.ntmps (w10h1 N) w10b1:=hk_of _ _ (And.intro trivial trivial)
theorem w10q1 [Alg] (N:Nat) (self:Sg->O) (K:Exit->Sg->O) (x:Int×Int×(List ((List Int)×(Int×Int)))×Int×(List Int)):w10F1 N (fun v0=>self (w10I1 (x.1,x.2.1,x.2.2.1,x.2.2.2.1,v0))) (fun y0 y1 y2=>K (w10X1_0 (y0,y1,y2)).1 (w10X1_0 (y0,y1,y2)).2) x.1 x.2.1 x.2.2.1 x.2.2.2.1 x.2.2.2.2=exec (w10c N) Tryd.f10.ntmps (w10h1 N) w10b1 (w10I1 x) (roundX w10m1 w10w1 self K):=by kernel_rfl
theorem w10S1 N (hc:CxOk (w10c N)):SubOk (w10c N) Tryd.f10.ntmps (.loop w10b1) w10X1_0 (noX 1) (noX 2) (subL w10I1 w10u1 (w10l1 N N)):=
 sub_loop hc (w10hk1 N) (oK1 w10v1_0 (.exit 3) (fun _=>by kernel_rfl) (fun _=>rfl) (by kernel_rfl)) (n:=N) (fun x K=>loop_ind (w10l1 N) (fun _ _ _ _=>rfl) (fun n K ih x=>by
  refine Eq.trans ?_ (w10q1 N _ K x);simp only [← ih];rfl) N x K)
def w10F2 [Alg] (N:Nat) (self:(List ((List Int)×(Int×Int)))->O) (k0:(List ((List Int)×(Int×Int)))->O) (x36_0 x36_1:Int) (x36_2:(List ((List Int)×(Int×Int)))):O:=
 ck (w18p N x36_0 (4:Int)) <|
 br (decide ((↑x36_2.length:Int) < IntKind.i64.wrap ((31:Int)+w18y0 N x36_0 (4:Int))))
  (gx x36_2 x36_1 fun y40=>
  ck (lim (x36_2++[(y40.1,y40.2.1,y40.2.2)]).length (40:Nat)) <|
  self (x36_2++[(y40.1,y40.2.1,y40.2.2)]))
  (k0 x36_2)
def w10b2:Code:=atC [1,1,1,1,1,0,1,0,1,1,1,1,1,1,1,1,1,0,0,0] w10b
def w10m2:Nm:=⟨[3,8,9,12],[],[.slr 9]⟩
def w10I2 (x:Int×Int×(List ((List Int)×(Int×Int)))):Sg:=⟨[(3,.e (.i .i64) x.1),(8,.nilS),(9,.own 0),(12,.e (.i .i64) x.2.1)],[(0,.row 49 (.pr (.sl (.i .i64)) (.pr (.i .i64) (.i .i64))) x.2.2 true)],100⟩
def w10u2 (σ:Sg):Int×Int×(List ((List Int)×(Int×Int))):=(lvT (.i .i64) 3 0 σ,lvT (.i .i64) 12 0 σ,lvR (.pr (.sl (.i .i64)) (.pr (.i .i64) (.i .i64))) 0 σ)
theorem w10ui2:∀ x,w10u2 (w10I2 x)=x:=fun _=>by kernel_rfl
def w10X2_0 (y:(List ((List Int)×(Int×Int)))):Exit×Sg:=((.exit 5),⟨[(8,.nilS),(9,.own 0)],[(0,.row 49 (.pr (.sl (.i .i64)) (.pr (.i .i64) (.i .i64))) y true)],100⟩)
def w10v2_0 (_:Exit) (σ:Sg):(List ((List Int)×(Int×Int))):=lvR (.pr (.sl (.i .i64)) (.pr (.i .i64) (.i .i64))) 0 σ
def w10w2:List (Exit×Nm):=[((.exit 5),⟨[8,9],[],[]⟩)]
def w10l2 [Alg] (N:Nat):Nat->(Int×Int×(List ((List Int)×(Int×Int))))->(((List ((List Int)×(Int×Int))))->O)->((Unit)->O)->((Unit)->O)->O
 | 0,_,_,_,_=>none
 | n+1,x,k0,k1,k2=>w10F2 N (fun v0=>w10l2 N n (x.1,x.2.1,v0) k0 k1 k2) (fun y0=>k0 y0) x.1 x.2.1 x.2.2
def w10n2 [Alg] N a0 a1 a2 (k0:(List ((List Int)×(Int×Int)))->O):=w10l2 N N (a0,a1,a2) (fun y=>k0 y) (fun _=>none) (fun _=>none)
def w10s2 [Alg] N a0 a1 a2 (k0:(List ((List Int)×(Int×Int)))->O):=subL w10I2 w10u2 (w10l2 N N) (w10I2 (a0,a1,a2)) (fun y=>k0 y) (fun _=>none) (fun _=>none)
theorem w10e2 [Alg] N:w10s2 N=w10n2 N:=funext fun _=>funext fun _=>funext fun _=>funext fun _=>subL_I w10ui2 _ _ _ _
def w10h2 [Alg] (_:Nat):Hint:=(.seq (.seq (.reg [] [.slr 9] []) .d) (.block (.reg [5,6] [] [])))
theorem w10hk2 N:HintOk (w10c N) Tryd.f10.ntmps (w10h2 N) w10b2:=hk_of _ _ (And.intro (And.intro trivial trivial) trivial)
theorem w10q2 [Alg] (N:Nat) (self:Sg->O) (K:Exit->Sg->O) (x:Int×Int×(List ((List Int)×(Int×Int)))):w10F2 N (fun v0=>self (w10I2 (x.1,x.2.1,v0))) (fun y0=>K (w10X2_0 y0).1 (w10X2_0 y0).2) x.1 x.2.1 x.2.2=exec (w10c N) Tryd.f10.ntmps (w10h2 N) w10b2 (w10I2 x) (roundX w10m2 w10w2 self K):=by kernel_rfl
theorem w10S2 N (hc:CxOk (w10c N)):SubOk (w10c N) Tryd.f10.ntmps (.loop w10b2) w10X2_0 (noX 1) (noX 2) (subL w10I2 w10u2 (w10l2 N N)):=
 sub_loop hc (w10hk2 N) (oK1 w10v2_0 (.exit 5) (fun _=>by kernel_rfl) (fun _=>rfl) (by kernel_rfl)) (n:=N) (fun x K=>loop_ind (w10l2 N) (fun _ _ _ _=>rfl) (fun n K ih x=>by
  refine Eq.trans ?_ (w10q2 N _ K x);simp only [← ih];rfl) N x K)
def w10G [Alg] (N:Nat) (in0:(List ((List Int)×(Int×Int)))->Int->Int->Int->Int->(List ((List Int)×(Int×Int)))->(Int->Int->Int->(List ((List Int)×(Int×Int)))->O)->O) (in1:Int->Int->(List ((List Int)×(Int×Int)))->Int->(List Int)->((List ((List Int)×(Int×Int)))->Int->(List Int)->O)->O) (in2:Int->Int->(List ((List Int)×(Int×Int)))->((List ((List Int)×(Int×Int)))->O)->O) (l0:(List ((List Int)×(Int×Int)))) (at1 how2 by3:Int):O:=
 in0 l0 at1 how2 by3 0 []
  (fun z5 z6 z7 z8=>
   br (decide ((↑z8.length:Int)=(0:Int)))
    (ck (w18p N z7 (5:Int)) <|
    some (w10r0 [([],IntKind.i64.wrap (w18y0 N z7 (5:Int) - (1:Int)),(0:Int))]))
    (ck (w18p N z5 (↑z8.length:Int)) <|
    ck (w18p N z6 (6:Int)) <|
    br (decide (w18y0 N z6 (6:Int)=(0:Int)))
     (ck (w18p N z7 (5:Int)) <|
     ck (decide ((0:Int)<=w18y0 N z5 (↑z8.length:Int)/\w18y0 N z5 (↑z8.length:Int) < (↑z8.length:Int))) <|
     gn z8 ((w18y0 N z5 (↑z8.length:Int)).toNat) fun y9=>
     some (w10r0 (z8.set (w18y0 N z5 (↑z8.length:Int)).toNat (y9.1,IntKind.i64.wrap (w18y0 N z7 (5:Int) - (1:Int)),y9.2.2))))
     (br (decide (w18y0 N z6 (6:Int)=(1:Int)))
      (ck (w18p N z7 (6:Int)) <|
      ck (decide ((0:Int)<=w18y0 N z7 (6:Int)/\w18y0 N z7 (6:Int) < (6:Int))) <|
      gn [(-10001:Int),(-10000:Int),(9999:Int),(10000:Int),(0:Int),(-1:Int)] ((w18y0 N z7 (6:Int)).toNat) fun y10=>
      ck (decide ((0:Int)<=w18y0 N z5 (↑z8.length:Int)/\w18y0 N z5 (↑z8.length:Int) < (↑z8.length:Int))) <|
      gn z8 ((w18y0 N z5 (↑z8.length:Int)).toNat) fun y11=>
      some (w10r0 (z8.set (w18y0 N z5 (↑z8.length:Int)).toNat (y11.1,y11.2.1,y10))))
      (br (decide (w18y0 N z6 (6:Int)=(2:Int)))
       (gx z8 (w18y0 N z5 (↑z8.length:Int)) fun y12=>
       ck (decide ((0:Int)<=w18y0 N z5 (↑z8.length:Int)/\w18y0 N z5 (↑z8.length:Int) < (↑z8.length:Int))) <|
       ck (decide ((w18y0 N z5 (↑z8.length:Int)).toNat=(w18y0 N z5 (↑z8.length:Int)).toNat)) <|
       gn z8 ((w18y0 N z5 (↑z8.length:Int)).toNat) fun _=>
       ck (w18p N z7 (7:Int)) <|
       ck (decide ((0:Int)<=w18y0 N z7 (7:Int)/\w18y0 N z7 (7:Int) < (7:Int))) <|
       gn [(0:Int),(16:Int),(-16:Int),(17:Int),(-17:Int),(1:Int),(-9223372036854775808:Int)] ((w18y0 N z7 (7:Int)).toNat) fun y14=>
       ck (lim (y12.1++[y14]).length (8:Nat)) <|
       ck (decide ((0:Int)<=w18y0 N z5 (↑z8.length:Int)/\w18y0 N z5 (↑z8.length:Int) < (↑z8.length:Int))) <|
       ck (decide ((w18y0 N z5 (↑z8.length:Int)).toNat=(w18y0 N z5 (↑z8.length:Int)).toNat)) <|
       gn z8 ((w18y0 N z5 (↑z8.length:Int)).toNat) fun _=>
       gx z8 (w18y0 N z5 (↑z8.length:Int)) fun y16=>
       some (w10r0 (z8.set (w18y0 N z5 (↑z8.length:Int)).toNat (y12.1++[y14],y16.2))))
       (gx z8 (w18y0 N z5 (↑z8.length:Int)) fun y17=>
       br (decide (w18y0 N z6 (6:Int)=(3:Int)))
        (in1 z7 (w18y0 N z5 (↑z8.length:Int)) z8 (w18y0 N z5 (↑z8.length:Int)) y17.1
         (fun z31 z32 z33=>
          gx z31 z32 fun y34=>
          some (w10r0 (z31.set z32.toNat (z33,y34.2)))))
        (gx z8 (w18y0 N z5 (↑z8.length:Int)) fun y35=>
        br (decide (w18y0 N z6 (6:Int)=(4:Int)))
         (in2 z7 (w18y0 N z5 (↑z8.length:Int)) (z8.set (w18y0 N z5 (↑z8.length:Int)).toNat (y17.1,y35.2))
          (fun z41=>
           some (w10r0 z41)))
         (gx (z8.set (w18y0 N z5 (↑z8.length:Int)).toNat (y17.1,y35.2)) (w18y0 N z5 (↑z8.length:Int)) fun y42=>
         ck (decide ((0:Int)<=w18y0 N z5 (↑z8.length:Int)/\w18y0 N z5 (↑z8.length:Int) < (↑(z8.set (w18y0 N z5 (↑z8.length:Int)).toNat (y17.1,y35.2)).length:Int))) <|
         ck (decide ((w18y0 N z5 (↑z8.length:Int)).toNat=(w18y0 N z5 (↑z8.length:Int)).toNat)) <|
         gn (z8.set (w18y0 N z5 (↑z8.length:Int)).toNat (y17.1,y35.2)) ((w18y0 N z5 (↑z8.length:Int)).toNat) fun _=>
         br (decide ((0:Int) < (↑y42.1.length:Int)))
          (ck (decide ((0:Int)<=w18y0 N z5 (↑z8.length:Int)/\w18y0 N z5 (↑z8.length:Int) < (↑(z8.set (w18y0 N z5 (↑z8.length:Int)).toNat (y17.1,y35.2)).length:Int))) <|
          ck (decide ((w18y0 N z5 (↑z8.length:Int)).toNat=(w18y0 N z5 (↑z8.length:Int)).toNat)) <|
          gn (z8.set (w18y0 N z5 (↑z8.length:Int)).toNat (y17.1,y35.2)) ((w18y0 N z5 (↑z8.length:Int)).toNat) fun _=>
          ck (decide ((0:Int)<=w18y0 N z5 (↑z8.length:Int)/\w18y0 N z5 (↑z8.length:Int) < (↑(z8.set (w18y0 N z5 (↑z8.length:Int)).toNat (y17.1,y35.2)).length:Int))) <|
          ck (decide ((w18y0 N z5 (↑z8.length:Int)).toNat=(w18y0 N z5 (↑z8.length:Int)).toNat)) <|
          gn (z8.set (w18y0 N z5 (↑z8.length:Int)).toNat (y17.1,y35.2)) ((w18y0 N z5 (↑z8.length:Int)).toNat) fun _=>
          ck (decide ((0:Int)<=(0:Int)/\(0:Int) < (↑y42.1.length:Int))) <|
          gn y42.1 0 fun y46=>
          ck (decide ((0:Int)<=(0:Int)/\(0:Int) < (↑y42.1.length:Int))) <|
          gn y42.1 0 fun _=>
          gx (z8.set (w18y0 N z5 (↑z8.length:Int)).toNat (y17.1,y35.2)) (w18y0 N z5 (↑z8.length:Int)) fun y48=>
          some (w10r0 ((z8.set (w18y0 N z5 (↑z8.length:Int)).toNat (y17.1,y35.2)).set (w18y0 N z5 (↑z8.length:Int)).toNat (y42.1.set (0:Nat) (IntKind.i64.wrap (-y46)),y48.2))))
          (gx (z8.set (w18y0 N z5 (↑z8.length:Int)).toNat (y17.1,y35.2)) (w18y0 N z5 (↑z8.length:Int)) fun y49=>
          some (w10r0 ((z8.set (w18y0 N z5 (↑z8.length:Int)).toNat (y17.1,y35.2)).set (w18y0 N z5 (↑z8.length:Int)).toNat (y42.1,y49.2)))))))))))
def w10 [Alg] N l0 at1 how2 by3:=w10G N (w10n0 N) (w10n1 N) (w10n2 N) l0 at1 how2 by3
def w10h [Alg] (N:Nat):Hint:=(.seq .d (.seq .d (.seq (.seq .d (.block (.sub w10m0 _ _ _ w10X0_0 (noX 1) (noX 2) (subL w10I0 w10u0 (w10l0 N N))))) (.seq (.seq .d (.cond (.seq (.reg [4] [] []) .d) .d)) (.seq .d (.seq (.seq .d (.block (.seq .d (.cond .d (.seq .d (.cond (.reg [2] [] []) (.seq .d (.cond (.reg [7,12,13] [.lend 9 12] [[],[],[],[],[],[],[],[],[],[],[],[],[],[340,228],[],[],[0]]) (.seq (.reg [] [.lend 9 12] []) (.cond (.block (.sub w10m1 _ _ _ w10X1_0 (noX 1) (noX 2) (subL w10I1 w10u1 (w10l1 N N)))) (.seq (.reg [] [.bk 9] []) (.cond (.block (.sub w10m2 _ _ _ w10X2_0 (noX 1) (noX 2) (subL w10I2 w10u2 (w10l2 N N)))) (.seq (.reg [] [.lend 9 12] []) (.cond (.reg [] [] [[],[],[],[],[],[],[],[],[],[],[],[],[],[],[268]]) .d)))))))))))))) (.seq (.reg [] [.bk 9,.slr 9] []) .d)))))))
theorem w10hk N (hc:CxOk (w10c N)):HintOk (w10c N) Tryd.f10.ntmps (w10h N) w10b:=hk_of _ _ (And.intro trivial (And.intro trivial (And.intro (And.intro trivial (w10S0 N hc)) (And.intro (And.intro trivial (And.intro (And.intro trivial trivial) trivial)) (And.intro trivial (And.intro (And.intro trivial (And.intro trivial (And.intro trivial (And.intro trivial (And.intro trivial (And.intro trivial (And.intro trivial (And.intro trivial (And.intro (w10S1 N hc) (And.intro trivial (And.intro (w10S2 N hc) (And.intro trivial (And.intro trivial trivial))))))))))))) (And.intro trivial trivial)))))))
theorem w10q [Alg] N l0 at1 how2 by3:w10G N (w10s0 N) (w10s1 N) (w10s2 N) l0 at1 how2 by3=exec (w10c N) Tryd.f10.ntmps (w10h N) w10b ⟨argT 0 [.e (.sl (.pr (.sl (.i .i64)) (.pr (.i .i64) (.i .i64)))) l0,.e (.i .i64) at1,.e (.i .i64) how2,.e (.i .i64) by3],[],100⟩ (finX (w10c N) Tryd.f10 false):=by kernel_rfl
def w10un (r:Res):Option ((List ((List Int)×(Int×Int)))):=match r with
 | (x0,[])=>(match ue (.sl (.pr (.sl (.i .i64)) (.pr (.i .i64) (.i .i64)))) x0 with | some a0=>some a0 | _=>none)
 | _=>none
theorem w10uo {r d} (h:w10un r=some d):r=w10r0 (d):=by
 unfold w10un at h;split at h
 ·split at h
  ·rename_i h0;cases h;rw [ue_some h0];rfl
  ·cases h
 ·cases h
def w10z N l0 at1 how2 by3:=(w10 N l0 at1 how2 by3).bind w10un
theorem w10fin {N} (hc:CxOk (w10c N)) {l0 at1 how2 by3 d} (hd:w10z N l0 at1 how2 by3=some d):DoK Tryd.prog 10 [.e (.sl (.pr (.sl (.i .i64)) (.pr (.i .i64) (.i .i64)))) l0,.e (.i .i64) at1,.e (.i .i64) how2,.e (.i .i64) by3] [] (w10r0 (d)):=
 finJ hc (by kernel_rfl) (by kernel_rfl) (w10hk N hc) (by kernel_rfl) w10uo (fun hr=>(w10q N l0 at1 how2 by3).symm.trans (by rw [w10e0 N,w10e1 N,w10e2 N];exact hr)) hd
def w10p N l0 at1 how2 by3:=(w10z N l0 at1 how2 by3).isSome
def w10y0 N l0 at1 how2 by3:=((w10z N l0 at1 how2 by3).getD [])
def w10e (N:Nat):Ent':=E4 (.sl (.pr (.sl (.i .i64)) (.pr (.i .i64) (.i .i64)))) (.i .i64) (.i .i64) (.i .i64) (fun x0 x1 x2 x3=>(w10p N x0 x1 x2 x3,w10r0 (w10y0 N x0 x1 x2 x3)))
theorem w10ok N:EOk Tryd.prog 10 (w10e N):=EOk.e4 (fun x0 x1 x2 x3 h=>okG (z:=w10z N x0 x1 x2 x3) h (w10fin (w10cx N)) rfl)
def w43r0 (a0:Int):Res:=(.e (.i .i64) a0,[])
def w43c (_:Nat):Cx:=⟨Tryd.prog,99999,[],[]⟩
def w43b:Code:=Tryd.f43.body.getD .skip
theorem w43cx N:CxOk (w43c N):=ctx_ok (by kernel_rfl) .nil .nil
def w43G [Alg] (_:Nat) (t0:Int):O:=
 some (w43r0 (max t0 (IntKind.i64.wrap (-t0))))
def w43 [Alg] N t0:=w43G N t0
def w43h [Alg] (_:Nat):Hint:=.d
theorem w43hk N:HintOk (w43c N) Tryd.f43.ntmps (w43h N) w43b:=hk_of _ _ trivial
theorem w43q [Alg] N t0:w43G N t0=exec (w43c N) Tryd.f43.ntmps (w43h N) w43b ⟨argT 0 [.e (.i .i64) t0],[],100⟩ (finX (w43c N) Tryd.f43 false):=by kernel_rfl
def w43un (r:Res):Option (Int):=match r with
 | (x0,[])=>(match ue (.i .i64) x0 with | some a0=>some a0 | _=>none)
 | _=>none
theorem w43uo {r d} (h:w43un r=some d):r=w43r0 (d):=by
 unfold w43un at h;split at h
 ·split at h
  ·rename_i h0;cases h;rw [ue_some h0];rfl
  ·cases h
 ·cases h
def w43z N t0:=(w43 N t0).bind w43un
theorem w43fin {N} (hc:CxOk (w43c N)) {t0 d} (hd:w43z N t0=some d):DoK Tryd.prog 43 [.e (.i .i64) t0] [] (w43r0 (d)):=
 finJ hc (by kernel_rfl) (by kernel_rfl) (w43hk N) (by kernel_rfl) w43uo (w43q N t0).symm.trans hd
def w43p N t0:=(w43z N t0).isSome
def w43y0 N t0:=((w43z N t0).getD 0)
def w43e (N:Nat):Ent':=E1 (.i .i64) (fun x0=>(w43p N x0,w43r0 (w43y0 N x0)))
theorem w43ok N:EOk Tryd.prog 43 (w43e N):=EOk.e1 (fun x0 h=>okG (z:=w43z N x0) h (w43fin (w43cx N)) rfl)
def w25r0 (a0:Int):Res:=(.e (.i .i64) a0,[])
def w25c (N:Nat):Cx:=⟨Tryd.prog,99999,[(43,w43e N)],[]⟩
def w25b:Code:=Tryd.f25.body.getD .skip
theorem w25cx N:CxOk (w25c N):=ctx_ok (by kernel_rfl) (.cons (by kernel_rfl) (w43ok N) .nil) .nil
def w25F0 [Alg] (N:Nat) (self:Int->O) (k0:Int->O) (k1:(List ((List Int)×(Int×Int)))->Int->Int->Int->(List ((List Int)×(Int×Int)))->Int->Bool->(List ((List Int)×(Int×Int)))->Int->((List Int)×(Int×Int))->(List Int)->Int->Int->(List Int)->Int->Bool->Bool->Bool->Bool->Bool->Bool->Bool->Bool->Bool->Int->Int->(List Int)->Int->Bool->(List Int)->Int->Int->O) (x84_0:(List ((List Int)×(Int×Int)))) (x84_1 x84_2 x84_3:Int) (x84_4:(List ((List Int)×(Int×Int)))) (x84_5:Int) (x84_6:Bool) (x84_7:(List ((List Int)×(Int×Int)))) (x84_8:Int) (x84_9:((List Int)×(Int×Int))) (x84_10:(List Int)) (x84_11 x84_12:Int) (x84_13:(List Int)) (x84_14:Int) (x84_15 x84_16:Bool) (x84_17 x84_18:Bool) (x84_19 x84_20:Bool) (x84_21 x84_22 x84_23:Bool) (x84_25:(List Int)) (x84_26 x84_27 x84_24:Int):O:=
 br (decide (x84_24 < (↑x84_25.length:Int)))
  (gx x84_25 x84_24 fun y89=>
  br (decide (y89=0)||decide (y89 < (-16:Int))||decide (16 < y89))
   (k0 1)
   (ck (!decide (0 < x84_24)||w43p N y89) <|
   gc (decide (0 < x84_24)) 0 x84_25 (max (IntKind.i64.wrap (x84_24 - 1)) (0:Int)) fun y90=>
   ck (!decide (0 < x84_24)||w43p N y90) <|
   br (decide (0 < x84_24)&&decide (w43y0 N y89<=w43y0 N y90))
    (k0 1)
    (self (IntKind.i64.wrap (x84_24+1)))))
  (k1 x84_0 x84_1 x84_2 x84_3 x84_4 x84_5 x84_6 x84_7 x84_8 x84_9 x84_10 x84_11 x84_12 x84_13 x84_14 x84_15 x84_16 x84_17 x84_18 x84_19 x84_20 x84_21 x84_22 x84_23 x84_24 x84_24 x84_25 ((↑x84_25.length:Int)) (decide (x84_24 < (↑x84_25.length:Int))) x84_25 x84_26 x84_27)
def w25b0:Code:=atC [1,1,0,1,0,0,1,0,0,1,1,1,0,0] w25b
def w25m0:Nm:=⟨[0,2,3,10,11,12,13,16,17,18,19,4,20,21,22,23,24,28,29,33,34,38,39,43,5],[],[]⟩
def w25I0 (x:(List ((List Int)×(Int×Int)))×Int×Int×Int×(List ((List Int)×(Int×Int)))×Int×Bool×(List ((List Int)×(Int×Int)))×Int×((List Int)×(Int×Int))×(List Int)×Int×Int×(List Int)×Int×Bool×Bool×Bool×Bool×Bool×Bool×Bool×Bool×Bool×Int×(List Int)×Int×Int):Sg:=⟨[(0,.e (.sl (.pr (.sl (.i .i64)) (.pr (.i .i64) (.i .i64)))) x.1),(2,.e (.i .i64) x.2.1),(3,.e (.i .i64) x.2.2.1),(10,.e (.i .i64) x.2.2.2.1),(11,.e (.sl (.pr (.sl (.i .i64)) (.pr (.i .i64) (.i .i64)))) x.2.2.2.2.1),(12,.e (.i .i64) x.2.2.2.2.2.1),(13,.e .bo x.2.2.2.2.2.2.1),(16,.e (.sl (.pr (.sl (.i .i64)) (.pr (.i .i64) (.i .i64)))) x.2.2.2.2.2.2.2.1),(17,.e (.i .i64) x.2.2.2.2.2.2.2.2.1),(18,.pt (.pr (.sl (.i .i64)) (.pr (.i .i64) (.i .i64))) x.2.2.2.2.2.2.2.2.2.1 0),(19,.agg [.e (.sl (.i .i64)) x.2.2.2.2.2.2.2.2.2.2.1,.e (.i .i64) x.2.2.2.2.2.2.2.2.2.2.2.1,.e (.i .i64) x.2.2.2.2.2.2.2.2.2.2.2.2.1]),(4,.ref 0 0),(20,.ref 0 0),(21,.e (.sl (.i .i64)) x.2.2.2.2.2.2.2.2.2.2.2.2.2.1),(22,.e (.i .i64) x.2.2.2.2.2.2.2.2.2.2.2.2.2.2.1),(23,.e .bo x.2.2.2.2.2.2.2.2.2.2.2.2.2.2.2.1),(24,.e .bo x.2.2.2.2.2.2.2.2.2.2.2.2.2.2.2.2.1),(28,.e .bo x.2.2.2.2.2.2.2.2.2.2.2.2.2.2.2.2.2.1),(29,.e .bo x.2.2.2.2.2.2.2.2.2.2.2.2.2.2.2.2.2.2.1),(33,.e .bo x.2.2.2.2.2.2.2.2.2.2.2.2.2.2.2.2.2.2.2.1),(34,.e .bo x.2.2.2.2.2.2.2.2.2.2.2.2.2.2.2.2.2.2.2.2.1),(38,.e .bo x.2.2.2.2.2.2.2.2.2.2.2.2.2.2.2.2.2.2.2.2.2.1),(39,.e .bo x.2.2.2.2.2.2.2.2.2.2.2.2.2.2.2.2.2.2.2.2.2.2.1),(43,.e .bo x.2.2.2.2.2.2.2.2.2.2.2.2.2.2.2.2.2.2.2.2.2.2.2.1),(5,.e (.i .i64) x.2.2.2.2.2.2.2.2.2.2.2.2.2.2.2.2.2.2.2.2.2.2.2.2.1)],[(0,.box 49 [.e (.sl (.i .i64)) x.2.2.2.2.2.2.2.2.2.2.2.2.2.2.2.2.2.2.2.2.2.2.2.2.2.1,.e (.i .i64) x.2.2.2.2.2.2.2.2.2.2.2.2.2.2.2.2.2.2.2.2.2.2.2.2.2.2.1,.e (.i .i64) x.2.2.2.2.2.2.2.2.2.2.2.2.2.2.2.2.2.2.2.2.2.2.2.2.2.2.2])],100⟩
def w25u0 (σ:Sg):(List ((List Int)×(Int×Int)))×Int×Int×Int×(List ((List Int)×(Int×Int)))×Int×Bool×(List ((List Int)×(Int×Int)))×Int×((List Int)×(Int×Int))×(List Int)×Int×Int×(List Int)×Int×Bool×Bool×Bool×Bool×Bool×Bool×Bool×Bool×Bool×Int×(List Int)×Int×Int:=(lvT (.sl (.pr (.sl (.i .i64)) (.pr (.i .i64) (.i .i64)))) 0 0 σ,lvT (.i .i64) 2 0 σ,lvT (.i .i64) 3 0 σ,lvT (.i .i64) 10 0 σ,lvT (.sl (.pr (.sl (.i .i64)) (.pr (.i .i64) (.i .i64)))) 11 0 σ,lvT (.i .i64) 12 0 σ,lvT .bo 13 0 σ,lvT (.sl (.pr (.sl (.i .i64)) (.pr (.i .i64) (.i .i64)))) 16 0 σ,lvT (.i .i64) 17 0 σ,lvT (.pr (.sl (.i .i64)) (.pr (.i .i64) (.i .i64))) 18 0 σ,lvT (.sl (.i .i64)) 19 0 σ,lvT (.i .i64) 19 1 σ,lvT (.i .i64) 19 2 σ,lvT (.sl (.i .i64)) 21 0 σ,lvT (.i .i64) 22 0 σ,lvT .bo 23 0 σ,lvT .bo 24 0 σ,lvT .bo 28 0 σ,lvT .bo 29 0 σ,lvT .bo 33 0 σ,lvT .bo 34 0 σ,lvT .bo 38 0 σ,lvT .bo 39 0 σ,lvT .bo 43 0 σ,lvT (.i .i64) 5 0 σ,lvH (.sl (.i .i64)) 0 0 σ,lvH (.i .i64) 0 1 σ,lvH (.i .i64) 0 2 σ)
theorem w25ui0:∀ x,w25u0 (w25I0 x)=x:=fun _=>by kernel_rfl
def w25X0_0 (y:Int):Exit×Sg:=(.ret,⟨[(2,.e (.i .i64) y)],[],100⟩)
def w25v0_0 (_:Exit) (σ:Sg):Int:=lvT (.i .i64) 2 0 σ
def w25X0_1 (y:(List ((List Int)×(Int×Int)))×Int×Int×Int×(List ((List Int)×(Int×Int)))×Int×Bool×(List ((List Int)×(Int×Int)))×Int×((List Int)×(Int×Int))×(List Int)×Int×Int×(List Int)×Int×Bool×Bool×Bool×Bool×Bool×Bool×Bool×Bool×Bool×Int×Int×(List Int)×Int×Bool×(List Int)×Int×Int):Exit×Sg:=((.exit 2),⟨[(0,.e (.sl (.pr (.sl (.i .i64)) (.pr (.i .i64) (.i .i64)))) y.1),(2,.e (.i .i64) y.2.1),(3,.e (.i .i64) y.2.2.1),(10,.e (.i .i64) y.2.2.2.1),(11,.e (.sl (.pr (.sl (.i .i64)) (.pr (.i .i64) (.i .i64)))) y.2.2.2.2.1),(12,.e (.i .i64) y.2.2.2.2.2.1),(13,.e .bo y.2.2.2.2.2.2.1),(16,.e (.sl (.pr (.sl (.i .i64)) (.pr (.i .i64) (.i .i64)))) y.2.2.2.2.2.2.2.1),(17,.e (.i .i64) y.2.2.2.2.2.2.2.2.1),(18,.pt (.pr (.sl (.i .i64)) (.pr (.i .i64) (.i .i64))) y.2.2.2.2.2.2.2.2.2.1 0),(19,.agg [.e (.sl (.i .i64)) y.2.2.2.2.2.2.2.2.2.2.1,.e (.i .i64) y.2.2.2.2.2.2.2.2.2.2.2.1,.e (.i .i64) y.2.2.2.2.2.2.2.2.2.2.2.2.1]),(4,.ref 0 0),(20,.ref 0 0),(21,.e (.sl (.i .i64)) y.2.2.2.2.2.2.2.2.2.2.2.2.2.1),(22,.e (.i .i64) y.2.2.2.2.2.2.2.2.2.2.2.2.2.2.1),(23,.e .bo y.2.2.2.2.2.2.2.2.2.2.2.2.2.2.2.1),(24,.e .bo y.2.2.2.2.2.2.2.2.2.2.2.2.2.2.2.2.1),(28,.e .bo y.2.2.2.2.2.2.2.2.2.2.2.2.2.2.2.2.2.1),(29,.e .bo y.2.2.2.2.2.2.2.2.2.2.2.2.2.2.2.2.2.2.1),(33,.e .bo y.2.2.2.2.2.2.2.2.2.2.2.2.2.2.2.2.2.2.2.1),(34,.e .bo y.2.2.2.2.2.2.2.2.2.2.2.2.2.2.2.2.2.2.2.2.1),(38,.e .bo y.2.2.2.2.2.2.2.2.2.2.2.2.2.2.2.2.2.2.2.2.2.1),(39,.e .bo y.2.2.2.2.2.2.2.2.2.2.2.2.2.2.2.2.2.2.2.2.2.2.1),(43,.e .bo y.2.2.2.2.2.2.2.2.2.2.2.2.2.2.2.2.2.2.2.2.2.2.2.1),(5,.e (.i .i64) y.2.2.2.2.2.2.2.2.2.2.2.2.2.2.2.2.2.2.2.2.2.2.2.2.1),(44,.e (.i .i64) y.2.2.2.2.2.2.2.2.2.2.2.2.2.2.2.2.2.2.2.2.2.2.2.2.2.1),(45,.ref 0 0),(46,.e (.sl (.i .i64)) y.2.2.2.2.2.2.2.2.2.2.2.2.2.2.2.2.2.2.2.2.2.2.2.2.2.2.1),(47,.e (.i .i64) y.2.2.2.2.2.2.2.2.2.2.2.2.2.2.2.2.2.2.2.2.2.2.2.2.2.2.2.1),(48,.e .bo y.2.2.2.2.2.2.2.2.2.2.2.2.2.2.2.2.2.2.2.2.2.2.2.2.2.2.2.2.1)],[(0,.box 49 [.e (.sl (.i .i64)) y.2.2.2.2.2.2.2.2.2.2.2.2.2.2.2.2.2.2.2.2.2.2.2.2.2.2.2.2.2.1,.e (.i .i64) y.2.2.2.2.2.2.2.2.2.2.2.2.2.2.2.2.2.2.2.2.2.2.2.2.2.2.2.2.2.2.1,.e (.i .i64) y.2.2.2.2.2.2.2.2.2.2.2.2.2.2.2.2.2.2.2.2.2.2.2.2.2.2.2.2.2.2.2])],100⟩)
def w25v0_1 (_:Exit) (σ:Sg):(List ((List Int)×(Int×Int)))×Int×Int×Int×(List ((List Int)×(Int×Int)))×Int×Bool×(List ((List Int)×(Int×Int)))×Int×((List Int)×(Int×Int))×(List Int)×Int×Int×(List Int)×Int×Bool×Bool×Bool×Bool×Bool×Bool×Bool×Bool×Bool×Int×Int×(List Int)×Int×Bool×(List Int)×Int×Int:=(lvT (.sl (.pr (.sl (.i .i64)) (.pr (.i .i64) (.i .i64)))) 0 0 σ,lvT (.i .i64) 2 0 σ,lvT (.i .i64) 3 0 σ,lvT (.i .i64) 10 0 σ,lvT (.sl (.pr (.sl (.i .i64)) (.pr (.i .i64) (.i .i64)))) 11 0 σ,lvT (.i .i64) 12 0 σ,lvT .bo 13 0 σ,lvT (.sl (.pr (.sl (.i .i64)) (.pr (.i .i64) (.i .i64)))) 16 0 σ,lvT (.i .i64) 17 0 σ,lvT (.pr (.sl (.i .i64)) (.pr (.i .i64) (.i .i64))) 18 0 σ,lvT (.sl (.i .i64)) 19 0 σ,lvT (.i .i64) 19 1 σ,lvT (.i .i64) 19 2 σ,lvT (.sl (.i .i64)) 21 0 σ,lvT (.i .i64) 22 0 σ,lvT .bo 23 0 σ,lvT .bo 24 0 σ,lvT .bo 28 0 σ,lvT .bo 29 0 σ,lvT .bo 33 0 σ,lvT .bo 34 0 σ,lvT .bo 38 0 σ,lvT .bo 39 0 σ,lvT .bo 43 0 σ,lvT (.i .i64) 5 0 σ,lvT (.i .i64) 44 0 σ,lvT (.sl (.i .i64)) 46 0 σ,lvT (.i .i64) 47 0 σ,lvT .bo 48 0 σ,lvH (.sl (.i .i64)) 0 0 σ,lvH (.i .i64) 0 1 σ,lvH (.i .i64) 0 2 σ)
def w25w0:List (Exit×Nm):=[(.ret,⟨[2],[],[]⟩),((.exit 2),⟨[0,2,3,10,11,12,13,16,17,18,19,4,20,21,22,23,24,28,29,33,34,38,39,43,5,44,45,46,47,48],[],[]⟩)]
def w25l0 [Alg] (N:Nat):Nat->((List ((List Int)×(Int×Int)))×Int×Int×Int×(List ((List Int)×(Int×Int)))×Int×Bool×(List ((List Int)×(Int×Int)))×Int×((List Int)×(Int×Int))×(List Int)×Int×Int×(List Int)×Int×Bool×Bool×Bool×Bool×Bool×Bool×Bool×Bool×Bool×Int×(List Int)×Int×Int)->((Int)->O)->(((List ((List Int)×(Int×Int)))×Int×Int×Int×(List ((List Int)×(Int×Int)))×Int×Bool×(List ((List Int)×(Int×Int)))×Int×((List Int)×(Int×Int))×(List Int)×Int×Int×(List Int)×Int×Bool×Bool×Bool×Bool×Bool×Bool×Bool×Bool×Bool×Int×Int×(List Int)×Int×Bool×(List Int)×Int×Int)->O)->((Unit)->O)->O
 | 0,_,_,_,_=>none
 | n+1,x,k0,k1,k2=>w25F0 N (fun v0=>w25l0 N n (x.1,x.2.1,x.2.2.1,x.2.2.2.1,x.2.2.2.2.1,x.2.2.2.2.2.1,x.2.2.2.2.2.2.1,x.2.2.2.2.2.2.2.1,x.2.2.2.2.2.2.2.2.1,x.2.2.2.2.2.2.2.2.2.1,x.2.2.2.2.2.2.2.2.2.2.1,x.2.2.2.2.2.2.2.2.2.2.2.1,x.2.2.2.2.2.2.2.2.2.2.2.2.1,x.2.2.2.2.2.2.2.2.2.2.2.2.2.1,x.2.2.2.2.2.2.2.2.2.2.2.2.2.2.1,x.2.2.2.2.2.2.2.2.2.2.2.2.2.2.2.1,x.2.2.2.2.2.2.2.2.2.2.2.2.2.2.2.2.1,x.2.2.2.2.2.2.2.2.2.2.2.2.2.2.2.2.2.1,x.2.2.2.2.2.2.2.2.2.2.2.2.2.2.2.2.2.2.1,x.2.2.2.2.2.2.2.2.2.2.2.2.2.2.2.2.2.2.2.1,x.2.2.2.2.2.2.2.2.2.2.2.2.2.2.2.2.2.2.2.2.1,x.2.2.2.2.2.2.2.2.2.2.2.2.2.2.2.2.2.2.2.2.2.1,x.2.2.2.2.2.2.2.2.2.2.2.2.2.2.2.2.2.2.2.2.2.2.1,x.2.2.2.2.2.2.2.2.2.2.2.2.2.2.2.2.2.2.2.2.2.2.2.1,v0,x.2.2.2.2.2.2.2.2.2.2.2.2.2.2.2.2.2.2.2.2.2.2.2.2.2.1,x.2.2.2.2.2.2.2.2.2.2.2.2.2.2.2.2.2.2.2.2.2.2.2.2.2.2.1,x.2.2.2.2.2.2.2.2.2.2.2.2.2.2.2.2.2.2.2.2.2.2.2.2.2.2.2) k0 k1 k2) (fun y0=>k0 y0) (fun y0 y1 y2 y3 y4 y5 y6 y7 y8 y9 y10 y11 y12 y13 y14 y15 y16 y17 y18 y19 y20 y21 y22 y23 y24 y25 y26 y27 y28 y29 y30 y31=>k1 (y0,y1,y2,y3,y4,y5,y6,y7,y8,y9,y10,y11,y12,y13,y14,y15,y16,y17,y18,y19,y20,y21,y22,y23,y24,y25,y26,y27,y28,y29,y30,y31)) x.1 x.2.1 x.2.2.1 x.2.2.2.1 x.2.2.2.2.1 x.2.2.2.2.2.1 x.2.2.2.2.2.2.1 x.2.2.2.2.2.2.2.1 x.2.2.2.2.2.2.2.2.1 x.2.2.2.2.2.2.2.2.2.1 x.2.2.2.2.2.2.2.2.2.2.1 x.2.2.2.2.2.2.2.2.2.2.2.1 x.2.2.2.2.2.2.2.2.2.2.2.2.1 x.2.2.2.2.2.2.2.2.2.2.2.2.2.1 x.2.2.2.2.2.2.2.2.2.2.2.2.2.2.1 x.2.2.2.2.2.2.2.2.2.2.2.2.2.2.2.1 x.2.2.2.2.2.2.2.2.2.2.2.2.2.2.2.2.1 x.2.2.2.2.2.2.2.2.2.2.2.2.2.2.2.2.2.1 x.2.2.2.2.2.2.2.2.2.2.2.2.2.2.2.2.2.2.1 x.2.2.2.2.2.2.2.2.2.2.2.2.2.2.2.2.2.2.2.1 x.2.2.2.2.2.2.2.2.2.2.2.2.2.2.2.2.2.2.2.2.1 x.2.2.2.2.2.2.2.2.2.2.2.2.2.2.2.2.2.2.2.2.2.1 x.2.2.2.2.2.2.2.2.2.2.2.2.2.2.2.2.2.2.2.2.2.2.1 x.2.2.2.2.2.2.2.2.2.2.2.2.2.2.2.2.2.2.2.2.2.2.2.1 x.2.2.2.2.2.2.2.2.2.2.2.2.2.2.2.2.2.2.2.2.2.2.2.2.2.1 x.2.2.2.2.2.2.2.2.2.2.2.2.2.2.2.2.2.2.2.2.2.2.2.2.2.2.1 x.2.2.2.2.2.2.2.2.2.2.2.2.2.2.2.2.2.2.2.2.2.2.2.2.2.2.2 x.2.2.2.2.2.2.2.2.2.2.2.2.2.2.2.2.2.2.2.2.2.2.2.2.1
def w25n0 [Alg] N a0 a1 a2 a3 a4 a5 a6 a7 a8 a9 a10 a11 a12 a13 a14 a15 a16 a17 a18 a19 a20 a21 a22 a23 a24 a25 a26 a27 (k0:Int->O) (k1:(List ((List Int)×(Int×Int)))->Int->Int->Int->(List ((List Int)×(Int×Int)))->Int->Bool->(List ((List Int)×(Int×Int)))->Int->((List Int)×(Int×Int))->(List Int)->Int->Int->(List Int)->Int->Bool->Bool->Bool->Bool->Bool->Bool->Bool->Bool->Bool->Int->Int->(List Int)->Int->Bool->(List Int)->Int->Int->O):=w25l0 N N (a0,a1,a2,a3,a4,a5,a6,a7,a8,a9,a10,a11,a12,a13,a14,a15,a16,a17,a18,a19,a20,a21,a22,a23,a24,a25,a26,a27) (fun y=>k0 y) (fun y=>k1 y.1 y.2.1 y.2.2.1 y.2.2.2.1 y.2.2.2.2.1 y.2.2.2.2.2.1 y.2.2.2.2.2.2.1 y.2.2.2.2.2.2.2.1 y.2.2.2.2.2.2.2.2.1 y.2.2.2.2.2.2.2.2.2.1 y.2.2.2.2.2.2.2.2.2.2.1 y.2.2.2.2.2.2.2.2.2.2.2.1 y.2.2.2.2.2.2.2.2.2.2.2.2.1 y.2.2.2.2.2.2.2.2.2.2.2.2.2.1 y.2.2.2.2.2.2.2.2.2.2.2.2.2.2.1 y.2.2.2.2.2.2.2.2.2.2.2.2.2.2.2.1 y.2.2.2.2.2.2.2.2.2.2.2.2.2.2.2.2.1 y.2.2.2.2.2.2.2.2.2.2.2.2.2.2.2.2.2.1 y.2.2.2.2.2.2.2.2.2.2.2.2.2.2.2.2.2.2.1 y.2.2.2.2.2.2.2.2.2.2.2.2.2.2.2.2.2.2.2.1 y.2.2.2.2.2.2.2.2.2.2.2.2.2.2.2.2.2.2.2.2.1 y.2.2.2.2.2.2.2.2.2.2.2.2.2.2.2.2.2.2.2.2.2.1 y.2.2.2.2.2.2.2.2.2.2.2.2.2.2.2.2.2.2.2.2.2.2.1 y.2.2.2.2.2.2.2.2.2.2.2.2.2.2.2.2.2.2.2.2.2.2.2.1 y.2.2.2.2.2.2.2.2.2.2.2.2.2.2.2.2.2.2.2.2.2.2.2.2.1 y.2.2.2.2.2.2.2.2.2.2.2.2.2.2.2.2.2.2.2.2.2.2.2.2.2.1 y.2.2.2.2.2.2.2.2.2.2.2.2.2.2.2.2.2.2.2.2.2.2.2.2.2.2.1 y.2.2.2.2.2.2.2.2.2.2.2.2.2.2.2.2.2.2.2.2.2.2.2.2.2.2.2.1 y.2.2.2.2.2.2.2.2.2.2.2.2.2.2.2.2.2.2.2.2.2.2.2.2.2.2.2.2.1 y.2.2.2.2.2.2.2.2.2.2.2.2.2.2.2.2.2.2.2.2.2.2.2.2.2.2.2.2.2.1 y.2.2.2.2.2.2.2.2.2.2.2.2.2.2.2.2.2.2.2.2.2.2.2.2.2.2.2.2.2.2.1 y.2.2.2.2.2.2.2.2.2.2.2.2.2.2.2.2.2.2.2.2.2.2.2.2.2.2.2.2.2.2.2) (fun _=>none)
def w25s0 [Alg] N a0 a1 a2 a3 a4 a5 a6 a7 a8 a9 a10 a11 a12 a13 a14 a15 a16 a17 a18 a19 a20 a21 a22 a23 a24 a25 a26 a27 (k0:Int->O) (k1:(List ((List Int)×(Int×Int)))->Int->Int->Int->(List ((List Int)×(Int×Int)))->Int->Bool->(List ((List Int)×(Int×Int)))->Int->((List Int)×(Int×Int))->(List Int)->Int->Int->(List Int)->Int->Bool->Bool->Bool->Bool->Bool->Bool->Bool->Bool->Bool->Int->Int->(List Int)->Int->Bool->(List Int)->Int->Int->O):=subL w25I0 w25u0 (w25l0 N N) (w25I0 (a0,a1,a2,a3,a4,a5,a6,a7,a8,a9,a10,a11,a12,a13,a14,a15,a16,a17,a18,a19,a20,a21,a22,a23,a24,a25,a26,a27)) (fun y=>k0 y) (fun y=>k1 y.1 y.2.1 y.2.2.1 y.2.2.2.1 y.2.2.2.2.1 y.2.2.2.2.2.1 y.2.2.2.2.2.2.1 y.2.2.2.2.2.2.2.1 y.2.2.2.2.2.2.2.2.1 y.2.2.2.2.2.2.2.2.2.1 y.2.2.2.2.2.2.2.2.2.2.1 y.2.2.2.2.2.2.2.2.2.2.2.1 y.2.2.2.2.2.2.2.2.2.2.2.2.1 y.2.2.2.2.2.2.2.2.2.2.2.2.2.1 y.2.2.2.2.2.2.2.2.2.2.2.2.2.2.1 y.2.2.2.2.2.2.2.2.2.2.2.2.2.2.2.1 y.2.2.2.2.2.2.2.2.2.2.2.2.2.2.2.2.1 y.2.2.2.2.2.2.2.2.2.2.2.2.2.2.2.2.2.1 y.2.2.2.2.2.2.2.2.2.2.2.2.2.2.2.2.2.2.1 y.2.2.2.2.2.2.2.2.2.2.2.2.2.2.2.2.2.2.2.1 y.2.2.2.2.2.2.2.2.2.2.2.2.2.2.2.2.2.2.2.2.1 y.2.2.2.2.2.2.2.2.2.2.2.2.2.2.2.2.2.2.2.2.2.1 y.2.2.2.2.2.2.2.2.2.2.2.2.2.2.2.2.2.2.2.2.2.2.1 y.2.2.2.2.2.2.2.2.2.2.2.2.2.2.2.2.2.2.2.2.2.2.2.1 y.2.2.2.2.2.2.2.2.2.2.2.2.2.2.2.2.2.2.2.2.2.2.2.2.1 y.2.2.2.2.2.2.2.2.2.2.2.2.2.2.2.2.2.2.2.2.2.2.2.2.2.1 y.2.2.2.2.2.2.2.2.2.2.2.2.2.2.2.2.2.2.2.2.2.2.2.2.2.2.1 y.2.2.2.2.2.2.2.2.2.2.2.2.2.2.2.2.2.2.2.2.2.2.2.2.2.2.2.1 y.2.2.2.2.2.2.2.2.2.2.2.2.2.2.2.2.2.2.2.2.2.2.2.2.2.2.2.2.1 y.2.2.2.2.2.2.2.2.2.2.2.2.2.2.2.2.2.2.2.2.2.2.2.2.2.2.2.2.2.1 y.2.2.2.2.2.2.2.2.2.2.2.2.2.2.2.2.2.2.2.2.2.2.2.2.2.2.2.2.2.2.1 y.2.2.2.2.2.2.2.2.2.2.2.2.2.2.2.2.2.2.2.2.2.2.2.2.2.2.2.2.2.2.2) (fun _=>none)
theorem w25e0 [Alg] N:w25s0 N=w25n0 N:=funext fun _=>funext fun _=>funext fun _=>funext fun _=>funext fun _=>funext fun _=>funext fun _=>funext fun _=>funext fun _=>funext fun _=>funext fun _=>funext fun _=>funext fun _=>funext fun _=>funext fun _=>funext fun _=>funext fun _=>funext fun _=>funext fun _=>funext fun _=>funext fun _=>funext fun _=>funext fun _=>funext fun _=>funext fun _=>funext fun _=>funext fun _=>funext fun _=>funext fun _=>funext fun _=>subL_I w25ui0 _ _ _ _
theorem w25q0 [Alg] (N:Nat) (self:Sg->O) (K:Exit->Sg->O) (x:(List ((List Int)×(Int×Int)))×Int×Int×Int×(List ((List Int)×(Int×Int)))×Int×Bool×(List ((List Int)×(Int×Int)))×Int×((List Int)×(Int×Int))×(List Int)×Int×Int×(List Int)×Int×Bool×Bool×Bool×Bool×Bool×Bool×Bool×Bool×Bool×Int×(List Int)×Int×Int):w25F0 N (fun v0=>self (w25I0 (x.1,x.2.1,x.2.2.1,x.2.2.2.1,x.2.2.2.2.1,x.2.2.2.2.2.1,x.2.2.2.2.2.2.1,x.2.2.2.2.2.2.2.1,x.2.2.2.2.2.2.2.2.1,x.2.2.2.2.2.2.2.2.2.1,x.2.2.2.2.2.2.2.2.2.2.1,x.2.2.2.2.2.2.2.2.2.2.2.1,x.2.2.2.2.2.2.2.2.2.2.2.2.1,x.2.2.2.2.2.2.2.2.2.2.2.2.2.1,x.2.2.2.2.2.2.2.2.2.2.2.2.2.2.1,x.2.2.2.2.2.2.2.2.2.2.2.2.2.2.2.1,x.2.2.2.2.2.2.2.2.2.2.2.2.2.2.2.2.1,x.2.2.2.2.2.2.2.2.2.2.2.2.2.2.2.2.2.1,x.2.2.2.2.2.2.2.2.2.2.2.2.2.2.2.2.2.2.1,x.2.2.2.2.2.2.2.2.2.2.2.2.2.2.2.2.2.2.2.1,x.2.2.2.2.2.2.2.2.2.2.2.2.2.2.2.2.2.2.2.2.1,x.2.2.2.2.2.2.2.2.2.2.2.2.2.2.2.2.2.2.2.2.2.1,x.2.2.2.2.2.2.2.2.2.2.2.2.2.2.2.2.2.2.2.2.2.2.1,x.2.2.2.2.2.2.2.2.2.2.2.2.2.2.2.2.2.2.2.2.2.2.2.1,v0,x.2.2.2.2.2.2.2.2.2.2.2.2.2.2.2.2.2.2.2.2.2.2.2.2.2.1,x.2.2.2.2.2.2.2.2.2.2.2.2.2.2.2.2.2.2.2.2.2.2.2.2.2.2.1,x.2.2.2.2.2.2.2.2.2.2.2.2.2.2.2.2.2.2.2.2.2.2.2.2.2.2.2))) (fun y0=>K (w25X0_0 y0).1 (w25X0_0 y0).2) (fun y0 y1 y2 y3 y4 y5 y6 y7 y8 y9 y10 y11 y12 y13 y14 y15 y16 y17 y18 y19 y20 y21 y22 y23 y24 y25 y26 y27 y28 y29 y30 y31=>K (w25X0_1 (y0,y1,y2,y3,y4,y5,y6,y7,y8,y9,y10,y11,y12,y13,y14,y15,y16,y17,y18,y19,y20,y21,y22,y23,y24,y25,y26,y27,y28,y29,y30,y31)).1 (w25X0_1 (y0,y1,y2,y3,y4,y5,y6,y7,y8,y9,y10,y11,y12,y13,y14,y15,y16,y17,y18,y19,y20,y21,y22,y23,y24,y25,y26,y27,y28,y29,y30,y31)).2) x.1 x.2.1 x.2.2.1 x.2.2.2.1 x.2.2.2.2.1 x.2.2.2.2.2.1 x.2.2.2.2.2.2.1 x.2.2.2.2.2.2.2.1 x.2.2.2.2.2.2.2.2.1 x.2.2.2.2.2.2.2.2.2.1 x.2.2.2.2.2.2.2.2.2.2.1 x.2.2.2.2.2.2.2.2.2.2.2.1 x.2.2.2.2.2.2.2.2.2.2.2.2.1 x.2.2.2.2.2.2.2.2.2.2.2.2.2.1 x.2.2.2.2.2.2.2.2.2.2.2.2.2.2.1 x.2.2.2.2.2.2.2.2.2.2.2.2.2.2.2.1 x.2.2.2.2.2.2.2.2.2.2.2.2.2.2.2.2.1 x.2.2.2.2.2.2.2.2.2.2.2.2.2.2.2.2.2.1 x.2.2.2.2.2.2.2.2.2.2.2.2.2.2.2.2.2.2.1 x.2.2.2.2.2.2.2.2.2.2.2.2.2.2.2.2.2.2.2.1 x.2.2.2.2.2.2.2.2.2.2.2.2.2.2.2.2.2.2.2.2.1 x.2.2.2.2.2.2.2.2.2.2.2.2.2.2.2.2.2.2.2.2.2.1 x.2.2.2.2.2.2.2.2.2.2.2.2.2.2.2.2.2.2.2.2.2.2.1 x.2.2.2.2.2.2.2.2.2.2.2.2.2.2.2.2.2.2.2.2.2.2.2.1 x.2.2.2.2.2.2.2.2.2.2.2.2.2.2.2.2.2.2.2.2.2.2.2.2.2.1 x.2.2.2.2.2.2.2.2.2.2.2.2.2.2.2.2.2.2.2.2.2.2.2.2.2.2.1 x.2.2.2.2.2.2.2.2.2.2.2.2.2.2.2.2.2.2.2.2.2.2.2.2.2.2.2 x.2.2.2.2.2.2.2.2.2.2.2.2.2.2.2.2.2.2.2.2.2.2.2.2.1=exec (w25c N) Tryd.f25.ntmps .d w25b0 (w25I0 x) (roundX w25m0 w25w0 self K):=by kernel_rfl
theorem w25S0 N (hc:CxOk (w25c N)):SubOk (w25c N) Tryd.f25.ntmps (.loop w25b0) w25X0_0 w25X0_1 (noX 2) (subL w25I0 w25u0 (w25l0 N N)):=
 sub_loop hc (hk_d w25b0) (oK2 w25v0_0 w25v0_1 .ret (.exit 2) (fun _=>by kernel_rfl) (fun _=>by kernel_rfl) (fun _=>rfl) (fun _=>rfl) (by kernel_rfl)) (n:=N) (fun x K=>loop_ind (w25l0 N) (fun _ _ _ _=>rfl) (fun n K ih x=>by
  refine Eq.trans ?_ (w25q0 N _ K x);simp only [← ih];rfl) N x K)
def w25F1 [Alg] (_:Nat) (in0:(List ((List Int)×(Int×Int)))->Int->Int->Int->(List ((List Int)×(Int×Int)))->Int->Bool->(List ((List Int)×(Int×Int)))->Int->((List Int)×(Int×Int))->(List Int)->Int->Int->(List Int)->Int->Bool->Bool->Bool->Bool->Bool->Bool->Bool->Bool->Bool->Int->(List Int)->Int->Int->(Int->O)->((List ((List Int)×(Int×Int)))->Int->Int->Int->(List ((List Int)×(Int×Int)))->Int->Bool->(List ((List Int)×(Int×Int)))->Int->((List Int)×(Int×Int))->(List Int)->Int->Int->(List Int)->Int->Bool->Bool->Bool->Bool->Bool->Bool->Bool->Bool->Bool->Int->Int->(List Int)->Int->Bool->(List Int)->Int->Int->O)->O) (self:(List ((List Int)×(Int×Int)))->Int->Int->O) (k0:Int->O) (k1:Int->O) (x0_0:(List ((List Int)×(Int×Int)))) (x0_1 x0_2:Int):O:=
 br (decide (x0_2 < (↑x0_0.length:Int)))
  (gx x0_0 x0_2 fun y83=>
  br (decide ((8:Int) < (↑y83.1.length:Int))||decide (y83.2.1 < 0)||decide (2 < y83.2.1)||decide (y83.2.2 < (-10000:Int))||decide (9999 < y83.2.2))
   (k0 1)
   (in0 x0_0 x0_1 x0_2 x0_2 x0_0 ((↑x0_0.length:Int)) (decide (x0_2 < (↑x0_0.length:Int))) x0_0 x0_2 y83 y83.1 y83.2.1 y83.2.2 y83.1 ((↑y83.1.length:Int)) (decide ((8:Int) < (↑y83.1.length:Int))) (decide ((8:Int) < (↑y83.1.length:Int))) (decide ((8:Int) < (↑y83.1.length:Int))||decide (y83.2.1 < 0)) (decide ((8:Int) < (↑y83.1.length:Int))||decide (y83.2.1 < 0)) (decide ((8:Int) < (↑y83.1.length:Int))||decide (y83.2.1 < 0)||decide (2 < y83.2.1)) (decide ((8:Int) < (↑y83.1.length:Int))||decide (y83.2.1 < 0)||decide (2 < y83.2.1)) (decide ((8:Int) < (↑y83.1.length:Int))||decide (y83.2.1 < 0)||decide (2 < y83.2.1)||decide (y83.2.2 < (-10000:Int))) (decide ((8:Int) < (↑y83.1.length:Int))||decide (y83.2.1 < 0)||decide (2 < y83.2.1)||decide (y83.2.2 < (-10000:Int))) (decide ((8:Int) < (↑y83.1.length:Int))||decide (y83.2.1 < 0)||decide (2 < y83.2.1)||decide (y83.2.2 < (-10000:Int))||decide (9999 < y83.2.2)) 0 y83.1 y83.2.1 y83.2.2
    (fun z91=>
     k0 z91)
    (fun z92 z93 z94 _ _ _ _ _ _ _ _ _ _ _ _ _ _ _ _ _ _ _ _ _ _ _ _ _ _ _ _ _=>
     self z92 z93 (IntKind.i64.wrap (z94+1)))))
  (k1 x0_1)
def w25b1:Code:=atC [1,1,0,1,0,0] w25b
def w25m1:Nm:=⟨[0,2,3],[],[]⟩
def w25I1 (x:(List ((List Int)×(Int×Int)))×Int×Int):Sg:=⟨[(0,.e (.sl (.pr (.sl (.i .i64)) (.pr (.i .i64) (.i .i64)))) x.1),(2,.e (.i .i64) x.2.1),(3,.e (.i .i64) x.2.2)],[],100⟩
def w25u1 (σ:Sg):(List ((List Int)×(Int×Int)))×Int×Int:=(lvT (.sl (.pr (.sl (.i .i64)) (.pr (.i .i64) (.i .i64)))) 0 0 σ,lvT (.i .i64) 2 0 σ,lvT (.i .i64) 3 0 σ)
theorem w25ui1:∀ x,w25u1 (w25I1 x)=x:=fun _=>by kernel_rfl
def w25X1_0 (y:Int):Exit×Sg:=(.ret,⟨[(2,.e (.i .i64) y)],[],100⟩)
def w25v1_0 (_:Exit) (σ:Sg):Int:=lvT (.i .i64) 2 0 σ
def w25X1_1 (y:Int):Exit×Sg:=((.exit 0),⟨[(2,.e (.i .i64) y)],[],100⟩)
def w25v1_1 (_:Exit) (σ:Sg):Int:=lvT (.i .i64) 2 0 σ
def w25w1:List (Exit×Nm):=[(.ret,⟨[2],[],[]⟩),((.exit 0),⟨[2],[],[]⟩)]
def w25l1 [Alg] (N:Nat):Nat->((List ((List Int)×(Int×Int)))×Int×Int)->((Int)->O)->((Int)->O)->((Unit)->O)->O
 | 0,_,_,_,_=>none
 | n+1,x,k0,k1,k2=>w25F1 N (w25n0 N) (fun v0 v1 v2=>w25l1 N n (v0,v1,v2) k0 k1 k2) (fun y0=>k0 y0) (fun y0=>k1 y0) x.1 x.2.1 x.2.2
def w25n1 [Alg] N a0 a1 a2 (k0:Int->O) (k1:Int->O):=w25l1 N N (a0,a1,a2) (fun y=>k0 y) (fun y=>k1 y) (fun _=>none)
def w25s1 [Alg] N a0 a1 a2 (k0:Int->O) (k1:Int->O):=subL w25I1 w25u1 (w25l1 N N) (w25I1 (a0,a1,a2)) (fun y=>k0 y) (fun y=>k1 y) (fun _=>none)
theorem w25e1 [Alg] N:w25s1 N=w25n1 N:=funext fun _=>funext fun _=>funext fun _=>funext fun _=>funext fun _=>subL_I w25ui1 _ _ _ _
def w25h1 [Alg] (N:Nat):Hint:=(.seq .d (.seq (.block (.seq .d (.seq .d (.seq .d (.block (.sub w25m0 _ _ _ w25X0_0 w25X0_1 (noX 2) (subL w25I0 w25u0 (w25l0 N N)))))))) .d))
theorem w25hk1 N (hc:CxOk (w25c N)):HintOk (w25c N) Tryd.f25.ntmps (w25h1 N) w25b1:=hk_of _ _ (And.intro trivial (And.intro (And.intro trivial (And.intro trivial (And.intro trivial (w25S0 N hc)))) trivial))
theorem w25q1 [Alg] (N:Nat) (self:Sg->O) (K:Exit->Sg->O) (x:(List ((List Int)×(Int×Int)))×Int×Int):w25F1 N (w25s0 N) (fun v0 v1 v2=>self (w25I1 (v0,v1,v2))) (fun y0=>K (w25X1_0 y0).1 (w25X1_0 y0).2) (fun y0=>K (w25X1_1 y0).1 (w25X1_1 y0).2) x.1 x.2.1 x.2.2=exec (w25c N) Tryd.f25.ntmps (w25h1 N) w25b1 (w25I1 x) (roundX w25m1 w25w1 self K):=by kernel_rfl
theorem w25S1 N (hc:CxOk (w25c N)):SubOk (w25c N) Tryd.f25.ntmps (.loop w25b1) w25X1_0 w25X1_1 (noX 2) (subL w25I1 w25u1 (w25l1 N N)):=
 sub_loop hc (w25hk1 N hc) (oK2 w25v1_0 w25v1_1 .ret (.exit 0) (fun _=>by kernel_rfl) (fun _=>by kernel_rfl) (fun _=>rfl) (fun _=>rfl) (by kernel_rfl)) (n:=N) (fun x K=>loop_ind (w25l1 N) (fun _ _ _ _=>rfl) (fun n K ih x=>by
  refine Eq.trans ?_ (w25q1 N _ K x);simp only [w25e0 N,← ih];rfl) N x K)
def w25G [Alg] (_:Nat) (_in0:(List ((List Int)×(Int×Int)))->Int->Int->Int->(List ((List Int)×(Int×Int)))->Int->Bool->(List ((List Int)×(Int×Int)))->Int->((List Int)×(Int×Int))->(List Int)->Int->Int->(List Int)->Int->Bool->Bool->Bool->Bool->Bool->Bool->Bool->Bool->Bool->Int->(List Int)->Int->Int->(Int->O)->((List ((List Int)×(Int×Int)))->Int->Int->Int->(List ((List Int)×(Int×Int)))->Int->Bool->(List ((List Int)×(Int×Int)))->Int->((List Int)×(Int×Int))->(List Int)->Int->Int->(List Int)->Int->Bool->Bool->Bool->Bool->Bool->Bool->Bool->Bool->Bool->Int->Int->(List Int)->Int->Bool->(List Int)->Int->Int->O)->O) (in1:(List ((List Int)×(Int×Int)))->Int->Int->(Int->O)->(Int->O)->O) (l0:(List ((List Int)×(Int×Int)))):O:=
 br (decide ((32:Int) < (↑l0.length:Int)))
  (some (w25r0 4))
  (in1 l0 0 0
   (fun z124=>
    some (w25r0 z124))
   (fun _=>
    some (w25r0 0)))
def w25 [Alg] N l0:=w25G N (w25n0 N) (w25n1 N) l0
def w25h [Alg] (N:Nat):Hint:=(.seq .d (.seq .d (.seq (.seq .d (.block (.sub w25m1 _ _ _ w25X1_0 w25X1_1 (noX 2) (subL w25I1 w25u1 (w25l1 N N))))) .d)))
theorem w25hk N (hc:CxOk (w25c N)):HintOk (w25c N) Tryd.f25.ntmps (w25h N) w25b:=hk_of _ _ (And.intro trivial (And.intro trivial (And.intro (And.intro trivial (w25S1 N hc)) trivial)))
theorem w25q [Alg] N l0:w25G N (w25s0 N) (w25s1 N) l0=exec (w25c N) Tryd.f25.ntmps (w25h N) w25b ⟨argT 0 [.e (.sl (.pr (.sl (.i .i64)) (.pr (.i .i64) (.i .i64)))) l0],[],100⟩ (finX (w25c N) Tryd.f25 false):=by kernel_rfl
def w25un (r:Res):Option (Int):=match r with
 | (x0,[])=>(match ue (.i .i64) x0 with | some a0=>some a0 | _=>none)
 | _=>none
theorem w25uo {r d} (h:w25un r=some d):r=w25r0 (d):=by
 unfold w25un at h;split at h
 ·split at h
  ·rename_i h0;cases h;rw [ue_some h0];rfl
  ·cases h
 ·cases h
def w25z N l0:=(w25 N l0).bind w25un
theorem w25fin {N} (hc:CxOk (w25c N)) {l0 d} (hd:w25z N l0=some d):DoK Tryd.prog 25 [.e (.sl (.pr (.sl (.i .i64)) (.pr (.i .i64) (.i .i64)))) l0] [] (w25r0 (d)):=
 finJ hc (by kernel_rfl) (by kernel_rfl) (w25hk N hc) (by kernel_rfl) w25uo (fun hr=>(w25q N l0).symm.trans (by rw [w25e0 N,w25e1 N];exact hr)) hd
def w25p N l0:=(w25z N l0).isSome
def w25y0 N l0:=((w25z N l0).getD 0)
def w25e (N:Nat):Ent':=E1 (.sl (.pr (.sl (.i .i64)) (.pr (.i .i64) (.i .i64)))) (fun x0=>(w25p N x0,w25r0 (w25y0 N x0)))
theorem w25ok N:EOk Tryd.prog 25 (w25e N):=EOk.e1 (fun x0 h=>okG (z:=w25z N x0) h (w25fin (w25cx N)) rfl)
end
end Go.Proofs
/- What functions do. -/
namespace Go.Proofs
noncomputable section
open Go.Ax Go.Ax.Alg Go.RowKit Go.Ab
open Go
end
end Go.Proofs
/- What functions do. -/
namespace Go.Proofs
noncomputable section
open Go.Ax Go.Ax.Alg Go.RowKit Go.Ab
open Go
def v17r0 (a0:(List Bool)):Res:=(.own 100,[(100,.row 4 .bo a0 true)])
def v17F0 [Alg] (_:Nat)  (self:Int->(List Bool)->O) (k0:(List Bool)->O) (x0_0:Int) (x0_1:Int) (x0_2:(List Bool)):O:=
 br (decide (x0_1 < (16:Int)))
  (ck (decide ((0:Int)<=IntKind.u64.wrap x0_1)) <|
  ck true <|
  ck (lim (x0_2++[decide ((x0_0.fdiv ((2:Int) ^ min (IntKind.u64.wrap x0_1).toNat (64:Nat))).tmod (2:Int)=(1:Int))]).length (1:Nat)) <|
  self (IntKind.i64.wrap (x0_1+(1:Int))) (x0_2++[decide ((x0_0.fdiv ((2:Int) ^ min (IntKind.u64.wrap x0_1).toNat (64:Nat))).tmod (2:Int)=(1:Int))]))
  (k0 x0_2)
def v17l0 [Alg] (N:Nat):Nat->(Int×Int×(List Bool))->(((List Bool))->O)->((Unit)->O)->((Unit)->O)->O
 | 0,_,_,_,_=>none
 | n+1,x,k0,k1,k2=>v17F0 N  (fun v0 v1=>v17l0 N n (x.1,v0,v1) k0 k1 k2) (fun y0=>k0 y0) x.1 x.2.1 x.2.2
def v17n0 [Alg] (N:Nat) (a0:Int) (a1:Int) (a2:(List Bool)) (k0:(List Bool)->O):O:=v17l0 N N (a0,a1,a2) (fun y=>k0 y) (fun _=>none) (fun _=>none)
def v17G [Alg] (_:Nat) (in0:Int->Int->(List Bool)->((List Bool)->O)->O) (n0:Int):O:=
 in0 n0 ((0:Int)) []
  (fun z1=>
   some (v17r0 z1))
def v17 [Alg] (N:Nat) (n0:Int):O:=v17G N (v17n0 N) n0
end
end Go.Proofs
