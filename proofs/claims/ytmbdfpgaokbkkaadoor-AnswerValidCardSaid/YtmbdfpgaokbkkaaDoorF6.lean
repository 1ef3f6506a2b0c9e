/- What the law does. Conditions are in the theorems. -/
import Derived.Test.YtmbdfpgaokbkkaaDoorE7
import Derived.Test.YtmbdfpgaokbkkaaDoorProg
import Derived.KernelRfl
import Derived.Test.YtmbdfpgaokbkkaaDoorF5
import Derived.Test.YtmbdfpgaokbkkaaDoorF2
/- What functions do. -/
namespace Go.Proofs
noncomputable section
open Go.Ax Go.Ax.Alg Go.RowKit Go.Ab
abbrev YF6:=List UInt8
open Go
def w3r0 (a0:Bool):Res:=(.e .bo a0,[])
def w3L (N:Nat):List (Nat×Ent'):=[(10,l10e N),(5,w5e N),(6,w6e N),(7,w7e N),(8,w8e N),(9,w9e N)]
def w3c (N:Nat):Cx:=⟨Tryd.prog,99999,w3L N,[]⟩
def w3b:Code:=Tryd.f3.body.getD .skip
theorem w3cx (N:Nat):CxOk (w3c N):=ctx_ok (by kernel_rfl) (.cons (by kernel_rfl) (l10ok N) (.cons (by kernel_rfl) (w5ok N) (.cons (by kernel_rfl) (w6ok N) (.cons (by kernel_rfl) (w7ok N) (.cons (by kernel_rfl) (w8ok N) (.cons (by kernel_rfl) (w9ok N) .nil)))))) .nil
def w3F0 [Alg] (N:Nat)  (self:Int->O) (k0:Bool->O) (k1:Int->Int->(List Int)->YF6->Int->Int->Int->(List Int)->(List YF6)->O) (x296_0:Int) (x296_1:Int) (x296_2:(List Int)) (x296_3:YF6) (x296_4:Int) (x296_5:Int) (x296_6:Int) (x296_8:(List Int)) (x296_9:(List YF6)) (x296_7:Int):O:=
 br (decide (x296_7 < (↑x296_9.length:Int)))
  (gx x296_8 x296_6 fun y313=>
  gx x296_9 x296_7 fun y314=>
  ck (w8p N x296_4 y313 y314) <|
  gx x296_8 x296_6 fun y315=>
  gx x296_9 x296_7 fun y316=>
  ck (w9p N x296_4 y315 y316) <|
  gc (!!w8y0 N x296_4 y313 y314 == w9y0 N x296_4 y315 y316) ((0:Int)) x296_8 x296_6 fun y317=>
  gc (!!w8y0 N x296_4 y313 y314 == w9y0 N x296_4 y315 y316) [] x296_9 x296_7 fun y318=>
  ck (!!!w8y0 N x296_4 y313 y314 == w9y0 N x296_4 y315 y316||w8p N x296_0 y317 y318) <|
  gc (!!w8y0 N x296_4 y313 y314 == w9y0 N x296_4 y315 y316) ((0:Int)) x296_8 x296_6 fun y319=>
  gc (!!w8y0 N x296_4 y313 y314 == w9y0 N x296_4 y315 y316) [] x296_9 x296_7 fun y320=>
  ck (!!!w8y0 N x296_4 y313 y314 == w9y0 N x296_4 y315 y316||w9p N x296_0 y319 y320) <|
  br (!w8y0 N x296_4 y313 y314 == w9y0 N x296_4 y315 y316||!w8y0 N x296_0 y317 y318 == w9y0 N x296_0 y319 y320)
   (k0 false)
   (self (IntKind.i64.wrap (x296_7+(1:Int)))))
  (k1 x296_0 x296_1 x296_2 x296_3 x296_4 x296_5 x296_6 x296_8 x296_9)
def w3b0:Code:=atC [1,0,1,0,0,1,0,0,1,1,1,1,0,0,1,0,0,1,0,0] w3b
def w3m0:Nm:=⟨[0,1,2,3,9,21,12,13,14,15],[],[]⟩
def w3I0 (x:Int×Int×(List Int)×YF6×Int×Int×Int×Int×(List Int)×(List YF6)):Sg:=⟨[(0,.e (.i .i64) x.1),(1,.e (.i .i64) x.2.1),(2,.e (.sl (.i .i64)) x.2.2.1),(3,.e .tx x.2.2.2.1),(9,.e (.i .i64) x.2.2.2.2.1),(21,.e (.i .i64) x.2.2.2.2.2.1),(12,.own 0),(13,.own 1),(14,.e (.i .i64) x.2.2.2.2.2.2.1),(15,.e (.i .i64) x.2.2.2.2.2.2.2.1)],[(0,.row 3 (.i .i64) x.2.2.2.2.2.2.2.2.1 true),(1,.row 9 .tx x.2.2.2.2.2.2.2.2.2 true)],100⟩
def w3u0 (σ:Sg):Int×Int×(List Int)×YF6×Int×Int×Int×Int×(List Int)×(List YF6):=(lvT (.i .i64) 0 0 σ,lvT (.i .i64) 1 0 σ,lvT (.sl (.i .i64)) 2 0 σ,lvT .tx 3 0 σ,lvT (.i .i64) 9 0 σ,lvT (.i .i64) 21 0 σ,lvT (.i .i64) 14 0 σ,lvT (.i .i64) 15 0 σ,lvR (.i .i64) 0 σ,lvR .tx 1 σ)
theorem w3ui0:∀ x,w3u0 (w3I0 x)=x:=fun _=>by kernel_rfl
def w3X0_0 (y:Bool):Exit×Sg:=(.ret,⟨[(8,.e .bo y)],[],100⟩)
def w3v0_0 (_:Exit) (σ:Sg):Bool:=lvT .bo 8 0 σ
def w3X0_1 (y:Int×Int×(List Int)×YF6×Int×Int×Int×(List Int)×(List YF6)):Exit×Sg:=((.exit 4),⟨[(0,.e (.i .i64) y.1),(1,.e (.i .i64) y.2.1),(2,.e (.sl (.i .i64)) y.2.2.1),(3,.e .tx y.2.2.2.1),(9,.e (.i .i64) y.2.2.2.2.1),(21,.e (.i .i64) y.2.2.2.2.2.1),(12,.own 0),(13,.own 1),(14,.e (.i .i64) y.2.2.2.2.2.2.1)],[(0,.row 3 (.i .i64) y.2.2.2.2.2.2.2.1 true),(1,.row 9 .tx y.2.2.2.2.2.2.2.2 true)],100⟩)
def w3v0_1 (_:Exit) (σ:Sg):Int×Int×(List Int)×YF6×Int×Int×Int×(List Int)×(List YF6):=(lvT (.i .i64) 0 0 σ,lvT (.i .i64) 1 0 σ,lvT (.sl (.i .i64)) 2 0 σ,lvT .tx 3 0 σ,lvT (.i .i64) 9 0 σ,lvT (.i .i64) 21 0 σ,lvT (.i .i64) 14 0 σ,lvR (.i .i64) 0 σ,lvR .tx 1 σ)
def w3w0:List (Exit×Nm):=[(.ret,⟨[8],[],[]⟩),((.exit 4),⟨[0,1,2,3,9,21,12,13,14],[],[]⟩)]
theorem w3o0:Outs w3v0_0 w3v0_1 (fun _ _=>()) w3X0_0 w3X0_1 (noX 2) (exC .ret) (exC (.exit 4)) (exC (.goto 2)):=⟨fun _=>by kernel_rfl,fun _=>by kernel_rfl,fun _=>by kernel_rfl,fun _=>by kernel_rfl,fun _=>by kernel_rfl,fun _=>by kernel_rfl,exNe_ok (by kernel_rfl),exNe_ok (by kernel_rfl),exNe_ok (by kernel_rfl)⟩
def w3l0 [Alg] (N:Nat):Nat->(Int×Int×(List Int)×YF6×Int×Int×Int×Int×(List Int)×(List YF6))->((Bool)->O)->((Int×Int×(List Int)×YF6×Int×Int×Int×(List Int)×(List YF6))->O)->((Unit)->O)->O
 | 0,_,_,_,_=>none
 | n+1,x,k0,k1,k2=>w3F0 N  (fun v0=>w3l0 N n (x.1,x.2.1,x.2.2.1,x.2.2.2.1,x.2.2.2.2.1,x.2.2.2.2.2.1,x.2.2.2.2.2.2.1,v0,x.2.2.2.2.2.2.2.2.1,x.2.2.2.2.2.2.2.2.2) k0 k1 k2) (fun y0=>k0 y0) (fun y0 y1 y2 y3 y4 y5 y6 y7 y8=>k1 (y0,y1,y2,y3,y4,y5,y6,y7,y8)) x.1 x.2.1 x.2.2.1 x.2.2.2.1 x.2.2.2.2.1 x.2.2.2.2.2.1 x.2.2.2.2.2.2.1 x.2.2.2.2.2.2.2.2.1 x.2.2.2.2.2.2.2.2.2 x.2.2.2.2.2.2.2.1
def w3n0 [Alg] (N:Nat) (a0:Int) (a1:Int) (a2:(List Int)) (a3:YF6) (a4:Int) (a5:Int) (a6:Int) (a7:Int) (a8:(List Int)) (a9:(List YF6)) (k0:Bool->O) (k1:Int->Int->(List Int)->YF6->Int->Int->Int->(List Int)->(List YF6)->O):O:=w3l0 N N (a0,a1,a2,a3,a4,a5,a6,a7,a8,a9) (fun y=>k0 y) (fun y=>k1 y.1 y.2.1 y.2.2.1 y.2.2.2.1 y.2.2.2.2.1 y.2.2.2.2.2.1 y.2.2.2.2.2.2.1 y.2.2.2.2.2.2.2.1 y.2.2.2.2.2.2.2.2) (fun _=>none)
def w3s0 [Alg] (N:Nat) (a0:Int) (a1:Int) (a2:(List Int)) (a3:YF6) (a4:Int) (a5:Int) (a6:Int) (a7:Int) (a8:(List Int)) (a9:(List YF6)) (k0:Bool->O) (k1:Int->Int->(List Int)->YF6->Int->Int->Int->(List Int)->(List YF6)->O):O:=subL w3I0 w3u0 (w3l0 N N) (w3I0 (a0,a1,a2,a3,a4,a5,a6,a7,a8,a9)) (fun y=>k0 y) (fun y=>k1 y.1 y.2.1 y.2.2.1 y.2.2.2.1 y.2.2.2.2.1 y.2.2.2.2.2.1 y.2.2.2.2.2.2.1 y.2.2.2.2.2.2.2.1 y.2.2.2.2.2.2.2.2) (fun _=>none)
theorem w3e0 [Alg] (N:Nat):w3s0 N=w3n0 N:=funext fun _=>funext fun _=>funext fun _=>funext fun _=>funext fun _=>funext fun _=>funext fun _=>funext fun _=>funext fun _=>funext fun _=>funext fun _=>funext fun _=>subL_I w3ui0 _ _ _ _
def w3h0 [Alg] (_:Nat):Hint:=.d
theorem w3hk0 (N:Nat):HintOk (w3c N) Tryd.f3.ntmps (w3h0 N) w3b0:=hk_of _ _ trivial
theorem w3q0 [Alg] (N:Nat) (self:Sg->O) (K:Exit->Sg->O) (x:Int×Int×(List Int)×YF6×Int×Int×Int×Int×(List Int)×(List YF6)):w3F0 N  (fun v0=>self (w3I0 (x.1,x.2.1,x.2.2.1,x.2.2.2.1,x.2.2.2.2.1,x.2.2.2.2.2.1,x.2.2.2.2.2.2.1,v0,x.2.2.2.2.2.2.2.2.1,x.2.2.2.2.2.2.2.2.2))) (fun y0=>K (w3X0_0 y0).1 (w3X0_0 y0).2) (fun y0 y1 y2 y3 y4 y5 y6 y7 y8=>K (w3X0_1 (y0,y1,y2,y3,y4,y5,y6,y7,y8)).1 (w3X0_1 (y0,y1,y2,y3,y4,y5,y6,y7,y8)).2) x.1 x.2.1 x.2.2.1 x.2.2.2.1 x.2.2.2.2.1 x.2.2.2.2.2.1 x.2.2.2.2.2.2.1 x.2.2.2.2.2.2.2.2.1 x.2.2.2.2.2.2.2.2.2 x.2.2.2.2.2.2.2.1=exec (w3c N) Tryd.f3.ntmps (w3h0 N) w3b0 (w3I0 x) (roundX w3m0 w3w0 self K):=by kernel_rfl
theorem w3S0 (N:Nat) (hc:CxOk (w3c N)):SubOk (w3c N) Tryd.f3.ntmps (.loop w3b0) w3X0_0 w3X0_1 (noX 2) (subL w3I0 w3u0 (w3l0 N N)):=
 sub_loop hc (w3hk0 N) w3o0 (n:=N) (fun x K=>loop_ind (w3l0 N) (fun _ _ _ _=>rfl) (fun n K ih x=>by
  have h:w3F0 N  (fun v0=>w3l0 N n (x.1,x.2.1,x.2.2.1,x.2.2.2.1,x.2.2.2.2.1,x.2.2.2.2.2.1,x.2.2.2.2.2.2.1,v0,x.2.2.2.2.2.2.2.2.1,x.2.2.2.2.2.2.2.2.2) (fun y=>K (w3X0_0 y).1 (w3X0_0 y).2) (fun y=>K (w3X0_1 y).1 (w3X0_1 y).2) (fun y=>K ((noX 2) y).1 ((noX 2) y).2)) (fun y0=>K (w3X0_0 y0).1 (w3X0_0 y0).2) (fun y0 y1 y2 y3 y4 y5 y6 y7 y8=>K (w3X0_1 (y0,y1,y2,y3,y4,y5,y6,y7,y8)).1 (w3X0_1 (y0,y1,y2,y3,y4,y5,y6,y7,y8)).2) x.1 x.2.1 x.2.2.1 x.2.2.2.1 x.2.2.2.2.1 x.2.2.2.2.2.1 x.2.2.2.2.2.2.1 x.2.2.2.2.2.2.2.2.1 x.2.2.2.2.2.2.2.2.2 x.2.2.2.2.2.2.2.1=w3F0 N  (fun v0=>loopX (w3c N) Tryd.f3.ntmps (w3h0 N) w3b0 w3m0 w3w0 n (w3I0 (x.1,x.2.1,x.2.2.1,x.2.2.2.1,x.2.2.2.2.1,x.2.2.2.2.2.1,x.2.2.2.2.2.2.1,v0,x.2.2.2.2.2.2.2.2.1,x.2.2.2.2.2.2.2.2.2)) K) (fun y0=>K (w3X0_0 y0).1 (w3X0_0 y0).2) (fun y0 y1 y2 y3 y4 y5 y6 y7 y8=>K (w3X0_1 (y0,y1,y2,y3,y4,y5,y6,y7,y8)).1 (w3X0_1 (y0,y1,y2,y3,y4,y5,y6,y7,y8)).2) x.1 x.2.1 x.2.2.1 x.2.2.2.1 x.2.2.2.2.1 x.2.2.2.2.2.1 x.2.2.2.2.2.2.1 x.2.2.2.2.2.2.2.2.1 x.2.2.2.2.2.2.2.2.2 x.2.2.2.2.2.2.2.1:=by rw [ show (fun v0=>w3l0 N n (x.1,x.2.1,x.2.2.1,x.2.2.2.1,x.2.2.2.2.1,x.2.2.2.2.2.1,x.2.2.2.2.2.2.1,v0,x.2.2.2.2.2.2.2.2.1,x.2.2.2.2.2.2.2.2.2) (fun y=>K (w3X0_0 y).1 (w3X0_0 y).2) (fun y=>K (w3X0_1 y).1 (w3X0_1 y).2) (fun y=>K ((noX 2) y).1 ((noX 2) y).2))=(fun v0=>loopX (w3c N) Tryd.f3.ntmps (w3h0 N) w3b0 w3m0 w3w0 n (w3I0 (x.1,x.2.1,x.2.2.1,x.2.2.2.1,x.2.2.2.2.1,x.2.2.2.2.2.1,x.2.2.2.2.2.2.1,v0,x.2.2.2.2.2.2.2.2.1,x.2.2.2.2.2.2.2.2.2)) K) from funext fun _=>ih _]
  exact h.trans (w3q0 N (fun σ=>loopX (w3c N) Tryd.f3.ntmps (w3h0 N) w3b0 w3m0 w3w0 n σ K) K x)) N x K)
def w3F1 [Alg] (_:Nat) (in0:Int->Int->(List Int)->YF6->Int->Int->Int->Int->(List Int)->(List YF6)->(Bool->O)->(Int->Int->(List Int)->YF6->Int->Int->Int->(List Int)->(List YF6)->O)->O) (self:Int->Int->(List Int)->YF6->Int->Int->Int->(List Int)->(List YF6)->O) (k0:Bool->O) (k1:Int->Int->(List Int)->YF6->Int->O) (x225_0:Int) (x225_1:Int) (x225_2:(List Int)) (x225_3:YF6) (x225_4:Int) (x225_5:Int) (x225_6:Int) (x225_7:(List Int)) (x225_8:(List YF6)):O:=
 br (decide (x225_6 < (↑x225_7.length:Int)))
  (in0 x225_0 x225_1 x225_2 x225_3 x225_4 x225_5 x225_6 ((0:Int)) x225_7 x225_8
   (fun z321=>
    k0 z321)
   (fun z322 z323 z324 z325 z326 z327 z328 z329 z330=>
    self z322 z323 z324 z325 z326 z327 (IntKind.i64.wrap (z328+(1:Int))) z329 z330))
  (k1 x225_0 x225_1 x225_2 x225_3 x225_4)
def w3b1:Code:=atC [1,0,1,0,0,1,0,0,1,1,1,1,0,0] w3b
def w3m1:Nm:=⟨[0,1,2,3,9,21,12,13,14],[],[]⟩
def w3I1 (x:Int×Int×(List Int)×YF6×Int×Int×Int×(List Int)×(List YF6)):Sg:=⟨[(0,.e (.i .i64) x.1),(1,.e (.i .i64) x.2.1),(2,.e (.sl (.i .i64)) x.2.2.1),(3,.e .tx x.2.2.2.1),(9,.e (.i .i64) x.2.2.2.2.1),(21,.e (.i .i64) x.2.2.2.2.2.1),(12,.own 0),(13,.own 1),(14,.e (.i .i64) x.2.2.2.2.2.2.1)],[(0,.row 3 (.i .i64) x.2.2.2.2.2.2.2.1 true),(1,.row 9 .tx x.2.2.2.2.2.2.2.2 true)],100⟩
def w3u1 (σ:Sg):Int×Int×(List Int)×YF6×Int×Int×Int×(List Int)×(List YF6):=(lvT (.i .i64) 0 0 σ,lvT (.i .i64) 1 0 σ,lvT (.sl (.i .i64)) 2 0 σ,lvT .tx 3 0 σ,lvT (.i .i64) 9 0 σ,lvT (.i .i64) 21 0 σ,lvT (.i .i64) 14 0 σ,lvR (.i .i64) 0 σ,lvR .tx 1 σ)
theorem w3ui1:∀ x,w3u1 (w3I1 x)=x:=fun _=>by kernel_rfl
def w3X1_0 (y:Bool):Exit×Sg:=(.ret,⟨[(8,.e .bo y)],[],100⟩)
def w3v1_0 (_:Exit) (σ:Sg):Bool:=lvT .bo 8 0 σ
def w3X1_1 (y:Int×Int×(List Int)×YF6×Int):Exit×Sg:=((.exit 2),⟨[(0,.e (.i .i64) y.1),(1,.e (.i .i64) y.2.1),(2,.e (.sl (.i .i64)) y.2.2.1),(3,.e .tx y.2.2.2.1),(9,.e (.i .i64) y.2.2.2.2)],[],100⟩)
def w3v1_1 (_:Exit) (σ:Sg):Int×Int×(List Int)×YF6×Int:=(lvT (.i .i64) 0 0 σ,lvT (.i .i64) 1 0 σ,lvT (.sl (.i .i64)) 2 0 σ,lvT .tx 3 0 σ,lvT (.i .i64) 9 0 σ)
def w3w1:List (Exit×Nm):=[(.ret,⟨[8],[],[]⟩),((.exit 2),⟨[0,1,2,3,9],[],[]⟩)]
theorem w3o1:Outs w3v1_0 w3v1_1 (fun _ _=>()) w3X1_0 w3X1_1 (noX 2) (exC .ret) (exC (.exit 2)) (exC (.goto 2)):=⟨fun _=>by kernel_rfl,fun _=>by kernel_rfl,fun _=>by kernel_rfl,fun _=>by kernel_rfl,fun _=>by kernel_rfl,fun _=>by kernel_rfl,exNe_ok (by kernel_rfl),exNe_ok (by kernel_rfl),exNe_ok (by kernel_rfl)⟩
def w3l1 [Alg] (N:Nat):Nat->(Int×Int×(List Int)×YF6×Int×Int×Int×(List Int)×(List YF6))->((Bool)->O)->((Int×Int×(List Int)×YF6×Int)->O)->((Unit)->O)->O
 | 0,_,_,_,_=>none
 | n+1,x,k0,k1,k2=>w3F1 N (w3n0 N) (fun v0 v1 v2 v3 v4 v5 v6 v7 v8=>w3l1 N n (v0,v1,v2,v3,v4,v5,v6,v7,v8) k0 k1 k2) (fun y0=>k0 y0) (fun y0 y1 y2 y3 y4=>k1 (y0,y1,y2,y3,y4)) x.1 x.2.1 x.2.2.1 x.2.2.2.1 x.2.2.2.2.1 x.2.2.2.2.2.1 x.2.2.2.2.2.2.1 x.2.2.2.2.2.2.2.1 x.2.2.2.2.2.2.2.2
def w3n1 [Alg] (N:Nat) (a0:Int) (a1:Int) (a2:(List Int)) (a3:YF6) (a4:Int) (a5:Int) (a6:Int) (a7:(List Int)) (a8:(List YF6)) (k0:Bool->O) (k1:Int->Int->(List Int)->YF6->Int->O):O:=w3l1 N N (a0,a1,a2,a3,a4,a5,a6,a7,a8) (fun y=>k0 y) (fun y=>k1 y.1 y.2.1 y.2.2.1 y.2.2.2.1 y.2.2.2.2) (fun _=>none)
def w3s1 [Alg] (N:Nat) (a0:Int) (a1:Int) (a2:(List Int)) (a3:YF6) (a4:Int) (a5:Int) (a6:Int) (a7:(List Int)) (a8:(List YF6)) (k0:Bool->O) (k1:Int->Int->(List Int)->YF6->Int->O):O:=subL w3I1 w3u1 (w3l1 N N) (w3I1 (a0,a1,a2,a3,a4,a5,a6,a7,a8)) (fun y=>k0 y) (fun y=>k1 y.1 y.2.1 y.2.2.1 y.2.2.2.1 y.2.2.2.2) (fun _=>none)
theorem w3e1 [Alg] (N:Nat):w3s1 N=w3n1 N:=funext fun _=>funext fun _=>funext fun _=>funext fun _=>funext fun _=>funext fun _=>funext fun _=>funext fun _=>funext fun _=>funext fun _=>funext fun _=>subL_I w3ui1 _ _ _ _
def w3h1 [Alg] (N:Nat):Hint:=(.seq .d (.seq (.block (.seq .d (.block (.sub w3m0 _ _ _ w3X0_0 w3X0_1 (noX 2) (subL w3I0 w3u0 (w3l0 N N)))))) .d))
theorem w3hk1 (N:Nat) (hc:CxOk (w3c N)):HintOk (w3c N) Tryd.f3.ntmps (w3h1 N) w3b1:=hk_of _ _ (And.intro trivial (And.intro (And.intro trivial (w3S0 N hc)) trivial))
theorem w3q1 [Alg] (N:Nat) (self:Sg->O) (K:Exit->Sg->O) (x:Int×Int×(List Int)×YF6×Int×Int×Int×(List Int)×(List YF6)):w3F1 N (w3s0 N) (fun v0 v1 v2 v3 v4 v5 v6 v7 v8=>self (w3I1 (v0,v1,v2,v3,v4,v5,v6,v7,v8))) (fun y0=>K (w3X1_0 y0).1 (w3X1_0 y0).2) (fun y0 y1 y2 y3 y4=>K (w3X1_1 (y0,y1,y2,y3,y4)).1 (w3X1_1 (y0,y1,y2,y3,y4)).2) x.1 x.2.1 x.2.2.1 x.2.2.2.1 x.2.2.2.2.1 x.2.2.2.2.2.1 x.2.2.2.2.2.2.1 x.2.2.2.2.2.2.2.1 x.2.2.2.2.2.2.2.2=exec (w3c N) Tryd.f3.ntmps (w3h1 N) w3b1 (w3I1 x) (roundX w3m1 w3w1 self K):=by kernel_rfl
theorem w3S1 (N:Nat) (hc:CxOk (w3c N)):SubOk (w3c N) Tryd.f3.ntmps (.loop w3b1) w3X1_0 w3X1_1 (noX 2) (subL w3I1 w3u1 (w3l1 N N)):=
 sub_loop hc (w3hk1 N hc) w3o1 (n:=N) (fun x K=>loop_ind (w3l1 N) (fun _ _ _ _=>rfl) (fun n K ih x=>by
  have h:w3F1 N (w3n0 N) (fun v0 v1 v2 v3 v4 v5 v6 v7 v8=>w3l1 N n (v0,v1,v2,v3,v4,v5,v6,v7,v8) (fun y=>K (w3X1_0 y).1 (w3X1_0 y).2) (fun y=>K (w3X1_1 y).1 (w3X1_1 y).2) (fun y=>K ((noX 2) y).1 ((noX 2) y).2)) (fun y0=>K (w3X1_0 y0).1 (w3X1_0 y0).2) (fun y0 y1 y2 y3 y4=>K (w3X1_1 (y0,y1,y2,y3,y4)).1 (w3X1_1 (y0,y1,y2,y3,y4)).2) x.1 x.2.1 x.2.2.1 x.2.2.2.1 x.2.2.2.2.1 x.2.2.2.2.2.1 x.2.2.2.2.2.2.1 x.2.2.2.2.2.2.2.1 x.2.2.2.2.2.2.2.2=w3F1 N (w3s0 N) (fun v0 v1 v2 v3 v4 v5 v6 v7 v8=>loopX (w3c N) Tryd.f3.ntmps (w3h1 N) w3b1 w3m1 w3w1 n (w3I1 (v0,v1,v2,v3,v4,v5,v6,v7,v8)) K) (fun y0=>K (w3X1_0 y0).1 (w3X1_0 y0).2) (fun y0 y1 y2 y3 y4=>K (w3X1_1 (y0,y1,y2,y3,y4)).1 (w3X1_1 (y0,y1,y2,y3,y4)).2) x.1 x.2.1 x.2.2.1 x.2.2.2.1 x.2.2.2.2.1 x.2.2.2.2.2.1 x.2.2.2.2.2.2.1 x.2.2.2.2.2.2.2.1 x.2.2.2.2.2.2.2.2:=by rw [w3e0 N,show (fun v0 v1 v2 v3 v4 v5 v6 v7 v8=>w3l1 N n (v0,v1,v2,v3,v4,v5,v6,v7,v8) (fun y=>K (w3X1_0 y).1 (w3X1_0 y).2) (fun y=>K (w3X1_1 y).1 (w3X1_1 y).2) (fun y=>K ((noX 2) y).1 ((noX 2) y).2))=(fun v0 v1 v2 v3 v4 v5 v6 v7 v8=>loopX (w3c N) Tryd.f3.ntmps (w3h1 N) w3b1 w3m1 w3w1 n (w3I1 (v0,v1,v2,v3,v4,v5,v6,v7,v8)) K) from funext fun _=>funext fun _=>funext fun _=>funext fun _=>funext fun _=>funext fun _=>funext fun _=>funext fun _=>funext fun _=>ih _]
  exact h.trans (w3q1 N (fun σ=>loopX (w3c N) Tryd.f3.ntmps (w3h1 N) w3b1 w3m1 w3w1 n σ K) K x)) N x K)
def w3F2 [Alg] (N:Nat) (_in0:Int->Int->(List Int)->YF6->Int->Int->Int->Int->(List Int)->(List YF6)->(Bool->O)->(Int->Int->(List Int)->YF6->Int->Int->Int->(List Int)->(List YF6)->O)->O) (in1:Int->Int->(List Int)->YF6->Int->Int->Int->(List Int)->(List YF6)->(Bool->O)->(Int->Int->(List Int)->YF6->Int->O)->O) (self:Int->Int->(List Int)->YF6->Int->O) (k0:Bool->O) (k1:Unit->O) (x0_0:Int) (x0_1:Int) (x0_2:(List Int)) (x0_3:YF6) (x0_4:Int):O:=
 br (decide (x0_4<=(3:Int)))
  (ck (w5p N x0_4 x0_2) <|
  ck (w6p N x0_1 (9:Int)) <|
  ck (decide ((↑(w5y0 N x0_4 x0_2).length:Int)+(1:Int)<=(9223372036854775807:Int))) <|
  ck (decide ((1:Int)+(↑(w5y0 N x0_4 x0_2).length:Int)<=(9223372036854775807:Int))) <|
  ck (decide ((1:Int)+(↑(w5y0 N x0_4 x0_2).length:Int)<=(9223372036854775807:Int))) <|
  ck (w7p N x0_3 (45:Int)) <|
  ck (decide ((↑(w5y0 N x0_4 x0_2).length:Int)+(1:Int)<=(9223372036854775807:Int))) <|
  in1 x0_0 x0_1 x0_2 x0_3 x0_4 x0_4 ((0:Int)) [w5y1 N x0_4 x0_2,IntKind.i64.wrap (w6y0 N x0_1 (9:Int) - (1:Int)),x0_1] ([w5y0 N x0_4 x0_2,w5y0 N x0_4 x0_2++[(48:UInt8)],[(48:UInt8)]++w5y0 N x0_4 x0_2,[(45:UInt8)]++w5y0 N x0_4 x0_2,w7y0 N x0_3 (45:Int),[],[(49:UInt8),(48:UInt8),(48:UInt8),(48:UInt8)],w5y0 N x0_4 x0_2++[(127:UInt8)]])
   (fun z331=>
    k0 z331)
   (fun z332 z333 z334 z335 z336=>
    self z332 z333 z334 z335 (IntKind.i64.wrap (z336+(1:Int)))))
  (k1 ())
def w3b2:Code:=atC [1,0,1,0,0] w3b
def w3m2:Nm:=⟨[0,1,2,3,9],[],[]⟩
def w3I2 (x:Int×Int×(List Int)×YF6×Int):Sg:=⟨[(0,.e (.i .i64) x.1),(1,.e (.i .i64) x.2.1),(2,.e (.sl (.i .i64)) x.2.2.1),(3,.e .tx x.2.2.2.1),(9,.e (.i .i64) x.2.2.2.2)],[],100⟩
def w3u2 (σ:Sg):Int×Int×(List Int)×YF6×Int:=(lvT (.i .i64) 0 0 σ,lvT (.i .i64) 1 0 σ,lvT (.sl (.i .i64)) 2 0 σ,lvT .tx 3 0 σ,lvT (.i .i64) 9 0 σ)
theorem w3ui2:∀ x,w3u2 (w3I2 x)=x:=fun _=>by kernel_rfl
def w3X2_0 (y:Bool):Exit×Sg:=(.ret,⟨[(8,.e .bo y)],[],100⟩)
def w3v2_0 (_:Exit) (σ:Sg):Bool:=lvT .bo 8 0 σ
def w3X2_1 (_:Unit):Exit×Sg:=((.exit 0),⟨[],[],100⟩)
def w3v2_1 (_:Exit) (_:Sg):Unit:=()
def w3w2:List (Exit×Nm):=[(.ret,⟨[8],[],[]⟩),((.exit 0),⟨[],[],[]⟩)]
theorem w3o2:Outs w3v2_0 w3v2_1 (fun _ _=>()) w3X2_0 w3X2_1 (noX 2) (exC .ret) (exC (.exit 0)) (exC (.goto 2)):=⟨fun _=>by kernel_rfl,fun _=>by kernel_rfl,fun _=>by kernel_rfl,fun _=>by kernel_rfl,fun _=>by kernel_rfl,fun _=>by kernel_rfl,exNe_ok (by kernel_rfl),exNe_ok (by kernel_rfl),exNe_ok (by kernel_rfl)⟩
def w3l2 [Alg] (N:Nat):Nat->(Int×Int×(List Int)×YF6×Int)->((Bool)->O)->((Unit)->O)->((Unit)->O)->O
 | 0,_,_,_,_=>none
 | n+1,x,k0,k1,k2=>w3F2 N (w3n0 N) (w3n1 N) (fun v0 v1 v2 v3 v4=>w3l2 N n (v0,v1,v2,v3,v4) k0 k1 k2) (fun y0=>k0 y0) (fun (_:Unit)=>k1 ()) x.1 x.2.1 x.2.2.1 x.2.2.2.1 x.2.2.2.2
def w3n2 [Alg] (N:Nat) (a0:Int) (a1:Int) (a2:(List Int)) (a3:YF6) (a4:Int) (k0:Bool->O) (k1:Unit->O):O:=w3l2 N N (a0,a1,a2,a3,a4) (fun y=>k0 y) (fun y=>k1 y) (fun _=>none)
def w3s2 [Alg] (N:Nat) (a0:Int) (a1:Int) (a2:(List Int)) (a3:YF6) (a4:Int) (k0:Bool->O) (k1:Unit->O):O:=subL w3I2 w3u2 (w3l2 N N) (w3I2 (a0,a1,a2,a3,a4)) (fun y=>k0 y) (fun y=>k1 y) (fun _=>none)
theorem w3e2 [Alg] (N:Nat):w3s2 N=w3n2 N:=funext fun _=>funext fun _=>funext fun _=>funext fun _=>funext fun _=>funext fun _=>funext fun _=>subL_I w3ui2 _ _ _ _
def w3h2 [Alg] (N:Nat):Hint:=(.seq .d (.seq (.block (.seq .d (.seq .d (.seq .d (.seq .d (.block (.sub w3m1 _ _ _ w3X1_0 w3X1_1 (noX 2) (subL w3I1 w3u1 (w3l1 N N))))))))) .d))
theorem w3hk2 (N:Nat) (hc:CxOk (w3c N)):HintOk (w3c N) Tryd.f3.ntmps (w3h2 N) w3b2:=hk_of _ _ (And.intro trivial (And.intro (And.intro trivial (And.intro trivial (And.intro trivial (And.intro trivial (w3S1 N hc))))) trivial))
theorem w3q2 [Alg] (N:Nat) (self:Sg->O) (K:Exit->Sg->O) (x:Int×Int×(List Int)×YF6×Int):w3F2 N (w3s0 N) (w3s1 N) (fun v0 v1 v2 v3 v4=>self (w3I2 (v0,v1,v2,v3,v4))) (fun y0=>K (w3X2_0 y0).1 (w3X2_0 y0).2) (fun (_:Unit)=>K (w3X2_1 ()).1 (w3X2_1 ()).2) x.1 x.2.1 x.2.2.1 x.2.2.2.1 x.2.2.2.2=exec (w3c N) Tryd.f3.ntmps (w3h2 N) w3b2 (w3I2 x) (roundX w3m2 w3w2 self K):=by kernel_rfl
theorem w3S2 (N:Nat) (hc:CxOk (w3c N)):SubOk (w3c N) Tryd.f3.ntmps (.loop w3b2) w3X2_0 w3X2_1 (noX 2) (subL w3I2 w3u2 (w3l2 N N)):=
 sub_loop hc (w3hk2 N hc) w3o2 (n:=N) (fun x K=>loop_ind (w3l2 N) (fun _ _ _ _=>rfl) (fun n K ih x=>by
  have h:w3F2 N (w3n0 N) (w3n1 N) (fun v0 v1 v2 v3 v4=>w3l2 N n (v0,v1,v2,v3,v4) (fun y=>K (w3X2_0 y).1 (w3X2_0 y).2) (fun y=>K (w3X2_1 y).1 (w3X2_1 y).2) (fun y=>K ((noX 2) y).1 ((noX 2) y).2)) (fun y0=>K (w3X2_0 y0).1 (w3X2_0 y0).2) (fun (_:Unit)=>K (w3X2_1 ()).1 (w3X2_1 ()).2) x.1 x.2.1 x.2.2.1 x.2.2.2.1 x.2.2.2.2=w3F2 N (w3s0 N) (w3s1 N) (fun v0 v1 v2 v3 v4=>loopX (w3c N) Tryd.f3.ntmps (w3h2 N) w3b2 w3m2 w3w2 n (w3I2 (v0,v1,v2,v3,v4)) K) (fun y0=>K (w3X2_0 y0).1 (w3X2_0 y0).2) (fun (_:Unit)=>K (w3X2_1 ()).1 (w3X2_1 ()).2) x.1 x.2.1 x.2.2.1 x.2.2.2.1 x.2.2.2.2:=by rw [w3e0 N,w3e1 N,show (fun v0 v1 v2 v3 v4=>w3l2 N n (v0,v1,v2,v3,v4) (fun y=>K (w3X2_0 y).1 (w3X2_0 y).2) (fun y=>K (w3X2_1 y).1 (w3X2_1 y).2) (fun y=>K ((noX 2) y).1 ((noX 2) y).2))=(fun v0 v1 v2 v3 v4=>loopX (w3c N) Tryd.f3.ntmps (w3h2 N) w3b2 w3m2 w3w2 n (w3I2 (v0,v1,v2,v3,v4)) K) from funext fun _=>funext fun _=>funext fun _=>funext fun _=>funext fun _=>ih _]
  exact h.trans (w3q2 N (fun σ=>loopX (w3c N) Tryd.f3.ntmps (w3h2 N) w3b2 w3m2 w3w2 n σ K) K x)) N x K)
def w3G [Alg] (_:Nat) (_in0:Int->Int->(List Int)->YF6->Int->Int->Int->Int->(List Int)->(List YF6)->(Bool->O)->(Int->Int->(List Int)->YF6->Int->Int->Int->(List Int)->(List YF6)->O)->O) (_in1:Int->Int->(List Int)->YF6->Int->Int->Int->(List Int)->(List YF6)->(Bool->O)->(Int->Int->(List Int)->YF6->Int->O)->O) (in2:Int->Int->(List Int)->YF6->Int->(Bool->O)->(Unit->O)->O) (kind0:Int) (options1:Int) (l2:(List Int)) (raw3:YF6):O:=
 in2 kind0 options1 l2 raw3 ((-1:Int))
  (fun z337=>
   some (w3r0 z337))
  (fun (_:Unit)=>
   ck true <|
   some (w3r0 true))
def w3 [Alg] (N:Nat) (kind0:Int) (options1:Int) (l2:(List Int)) (raw3:YF6):O:=w3G N (w3n0 N) (w3n1 N) (w3n2 N) kind0 options1 l2 raw3
def w3h [Alg] (N:Nat):Hint:=(.seq .d (.seq (.seq .d (.block (.sub w3m2 _ _ _ w3X2_0 w3X2_1 (noX 2) (subL w3I2 w3u2 (w3l2 N N))))) .d))
theorem w3hk (N:Nat) (hc:CxOk (w3c N)):HintOk (w3c N) Tryd.f3.ntmps (w3h N) w3b:=hk_of _ _ (And.intro trivial (And.intro (And.intro trivial (w3S2 N hc)) trivial))
theorem w3q [Alg] (N:Nat) (kind0:Int) (options1:Int) (l2:(List Int)) (raw3:YF6):w3G N (w3s0 N) (w3s1 N) (w3s2 N) kind0 options1 l2 raw3=exec (w3c N) Tryd.f3.ntmps (w3h N) w3b ⟨argT 0 [.e (.i .i64) kind0,.e (.i .i64) options1,.e (.sl (.i .i64)) l2,.e .tx raw3],[],100⟩ (finX (w3c N) Tryd.f3 false):=by kernel_rfl
theorem w3does {N:Nat} (hc:CxOk (w3c N)) {kind0:Int} {options1:Int} {l2:(List Int)} {raw3:YF6} {r:Res} (h:w3 N kind0 options1 l2 raw3=some r):DoesR Tryd.prog 3 (([.e (.i .i64) kind0,.e (.i .i64) options1,.e (.sl (.i .i64)) l2,.e .tx raw3]:List X).map X.D) (HA []) r:=
 fun_ok hc (f:=3) (fn:=Tryd.f3) (code:=w3b) (by kernel_rfl) (by kernel_rfl) (w3hk N hc) (Nat.le_of_ble_eq_true (by kernel_rfl)) (ow:=false) ((w3q N kind0 options1 l2 raw3).symm.trans (by rw [w3e0 N,w3e1 N,w3e2 N];exact h))
def w3un (r:Res):Option (Bool):=match r with
 | (x0,[])=>(match ue .bo x0 with | some a0=>some a0 | _=>none)
 | _=>none
theorem w3uo {r:Res} {d:Bool} (h:w3un r=some d):r=w3r0 (d):=by
 unfold w3un at h;split at h
 ·split at h
  ·rename_i h0;cases h;rw [ue_some h0];rfl
  ·cases h
 ·cases h
def w3z (N:Nat) (kind0:Int) (options1:Int) (l2:(List Int)) (raw3:YF6):Option (Bool):=(w3 N kind0 options1 l2 raw3).bind w3un
theorem w3fin {N:Nat} (hc:CxOk (w3c N)) {kind0:Int} {options1:Int} {l2:(List Int)} {raw3:YF6} {d:Bool} (hd:w3z N kind0 options1 l2 raw3=some d):Does Tryd.prog 3 (([.e (.i .i64) kind0,.e (.i .i64) options1,.e (.sl (.i .i64)) l2,.e .tx raw3]:List X).map X.D) (HA []) (w3r0 (d)).1.D (HA (w3r0 (d)).2):=by
 obtain ⟨r,hr,hu⟩:=Option.bind_eq_some_iff.1 hd;have:=w3does hc hr;rw [w3uo hu] at this;exact this
end
end Go.Proofs
