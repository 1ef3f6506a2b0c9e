/- What the law does. Conditions are in the theorems. -/
import Derived.Test.YtlhdefefoaldfaaGreatDoorE7
import Derived.Test.YtlhdefefoaldfaaGreatDoorProg
import Derived.KernelRfl
import Derived.Test.YtlhdefefoaldfaaGreatDoorL2
import Derived.Test.YtlhdefefoaldfaaGreatDoorL1
/- What functions do. -/
namespace Go.Proofs
noncomputable section
open Go.Ax Go.Ax.Alg Go.RowKit Go.Ab
open Go
abbrev YF6:=List UInt8
def w7r0 (a0:Bool):Res:=(.e .bo a0,[])
def w7L (N:Nat):List (Nat×Ent'):=[(17,l17e N),(8,w8e N),(23,w23e N),(10,w10e N),(29,w29e N),(12,w12e N),(24,w24e N),(30,w30e N),(27,w27e N),(31,w31e N),(32,w32e N)]
def w7c (N:Nat):Cx:=⟨Tryz.prog,25,w7L N,[]⟩
def w7b:Code:=Tryz.f7.body.getD .skip
theorem w7cx (N:Nat):CxOk (w7c N):=ctx_ok (by kernel_rfl) (.cons (by kernel_rfl) (l17ok N) (.cons (by kernel_rfl) (w8ok N) (.cons (by kernel_rfl) (w23ok N) (.cons (by kernel_rfl) (w10ok N) (.cons (by kernel_rfl) (w29ok N) (.cons (by kernel_rfl) (w12ok N) (.cons (by kernel_rfl) (w24ok N) (.cons (by kernel_rfl) (w30ok N) (.cons (by kernel_rfl) (w27ok N) (.cons (by kernel_rfl) (w31ok N) (.cons (by kernel_rfl) (w32ok N) .nil))))))))))) .nil
def w7F0 [Alg] (_:Nat)  (self:Int->O) (k0:Bool->O) (k1:Int->YF6->Int->(List YF6)->Int->Int->Int->Int->(List Ex)->(List Int)->O) (x0_0:Int) (x0_1:YF6) (x0_2:Int) (x0_3:(List YF6)) (x0_4:Int) (x0_6:Int) (x0_7:Int) (x0_8:(List Ex)) (x0_9:(List Int)) (x0_5:Int):O:=
 br (decide (x0_5 < (↑x0_9.length:Int)))
  (gx x0_9 x0_5 fun y9=>
  gc (!decide (y9 < 1)) 0 x0_9 x0_5 fun y10=>
  gc (!(decide (y9 < 1)||decide ((↑x0_1.length:Int)<=y10))&&decide (0 < x0_5)) 0 x0_9 x0_5 fun y11=>
  gc (!(decide (y9 < 1)||decide ((↑x0_1.length:Int)<=y10))&&decide (0 < x0_5)) 0 x0_9 (IntKind.i64.wrap (x0_5 - 1)) fun y12=>
  br (decide (y9 < 1)||decide ((↑x0_1.length:Int)<=y10)||decide (0 < x0_5)&&decide (y11<=y12))
   (k0 false)
   (self (IntKind.i64.wrap (x0_5+1))))
  (k1 x0_0 x0_1 x0_2 x0_3 x0_4 x0_5 x0_6 x0_7 x0_8 x0_9)
def w7b0:Code:=atC [1,1,1,1,1,1,1,0,1,0,0] w7b
def w7m0:Nm:=⟨[5,6,7,9,10,11,12,13],[],[]⟩
def w7I0 (x:Int×YF6×Int×(List YF6)×Int×Int×Int×Int×(List Ex)×(List Int)):Sg:=⟨[(5,.ref 0 0),(6,.e (.i .i64) x.1),(7,.e (.sl .u8) x.2.1),(9,.own 1),(10,.e (.i .i64) x.2.2.1),(11,.e (.sl (.sl .u8)) x.2.2.2.1),(12,.e (.i .i64) x.2.2.2.2.1),(13,.e (.i .i64) x.2.2.2.2.2.1)],[(0,.box 25 [.e (.i .i64) x.2.2.2.2.2.2.1,.e (.i .i64) x.2.2.2.2.2.2.2.1,.e (.sl .ex) x.2.2.2.2.2.2.2.2.1]),(1,.row 3 (.i .i64) x.2.2.2.2.2.2.2.2.2 true)],100⟩
def w7u0 (σ:Sg):Int×YF6×Int×(List YF6)×Int×Int×Int×Int×(List Ex)×(List Int):=(lvT (.i .i64) 6 0 σ,lvT (.sl .u8) 7 0 σ,lvT (.i .i64) 10 0 σ,lvT (.sl (.sl .u8)) 11 0 σ,lvT (.i .i64) 12 0 σ,lvT (.i .i64) 13 0 σ,lvH (.i .i64) 0 0 σ,lvH (.i .i64) 0 1 σ,lvH (.sl .ex) 0 2 σ,lvR (.i .i64) 1 σ)
theorem w7ui0:∀ x,w7u0 (w7I0 x)=x:=fun _=>by kernel_rfl
def w7X0_0 (y:Bool):Exit×Sg:=(.ret,⟨[(4,.e .bo y)],[],100⟩)
def w7v0_0 (_:Exit) (σ:Sg):Bool:=lvT .bo 4 0 σ
def w7X0_1 (y:Int×YF6×Int×(List YF6)×Int×Int×Int×Int×(List Ex)×(List Int)):Exit×Sg:=((.exit 0),⟨[(5,.ref 0 0),(6,.e (.i .i64) y.1),(7,.e (.sl .u8) y.2.1),(9,.own 1),(10,.e (.i .i64) y.2.2.1),(11,.e (.sl (.sl .u8)) y.2.2.2.1),(12,.e (.i .i64) y.2.2.2.2.1),(13,.e (.i .i64) y.2.2.2.2.2.1)],[(0,.box 25 [.e (.i .i64) y.2.2.2.2.2.2.1,.e (.i .i64) y.2.2.2.2.2.2.2.1,.e (.sl .ex) y.2.2.2.2.2.2.2.2.1]),(1,.row 3 (.i .i64) y.2.2.2.2.2.2.2.2.2 true)],100⟩)
def w7v0_1 (_:Exit) (σ:Sg):Int×YF6×Int×(List YF6)×Int×Int×Int×Int×(List Ex)×(List Int):=(lvT (.i .i64) 6 0 σ,lvT (.sl .u8) 7 0 σ,lvT (.i .i64) 10 0 σ,lvT (.sl (.sl .u8)) 11 0 σ,lvT (.i .i64) 12 0 σ,lvT (.i .i64) 13 0 σ,lvH (.i .i64) 0 0 σ,lvH (.i .i64) 0 1 σ,lvH (.sl .ex) 0 2 σ,lvR (.i .i64) 1 σ)
def w7w0:List (Exit×Nm):=[(.ret,⟨[4],[],[]⟩),((.exit 0),⟨[5,6,7,9,10,11,12,13],[],[]⟩)]
theorem w7o0:Outs w7v0_0 w7v0_1 (fun _ _=>()) w7X0_0 w7X0_1 (noX 2) (exC .ret) (exC (.exit 0)) (exC (.goto 2)):=⟨fun _=>by kernel_rfl,fun _=>by kernel_rfl,fun _=>by kernel_rfl,fun _=>by kernel_rfl,fun _=>by kernel_rfl,fun _=>by kernel_rfl,exNe_ok (by kernel_rfl),exNe_ok (by kernel_rfl),exNe_ok (by kernel_rfl)⟩
def w7l0 [Alg] (N:Nat):Nat->(Int×YF6×Int×(List YF6)×Int×Int×Int×Int×(List Ex)×(List Int))->((Bool)->O)->((Int×YF6×Int×(List YF6)×Int×Int×Int×Int×(List Ex)×(List Int))->O)->((Unit)->O)->O
 | 0,_,_,_,_=>none
 | n+1,x,k0,k1,k2=>w7F0 N  (fun v0=>w7l0 N n (x.1,x.2.1,x.2.2.1,x.2.2.2.1,x.2.2.2.2.1,v0,x.2.2.2.2.2.2.1,x.2.2.2.2.2.2.2.1,x.2.2.2.2.2.2.2.2.1,x.2.2.2.2.2.2.2.2.2) k0 k1 k2) (fun y0=>k0 y0) (fun y0 y1 y2 y3 y4 y5 y6 y7 y8 y9=>k1 (y0,y1,y2,y3,y4,y5,y6,y7,y8,y9)) x.1 x.2.1 x.2.2.1 x.2.2.2.1 x.2.2.2.2.1 x.2.2.2.2.2.2.1 x.2.2.2.2.2.2.2.1 x.2.2.2.2.2.2.2.2.1 x.2.2.2.2.2.2.2.2.2 x.2.2.2.2.2.1
def w7n0 [Alg] (N:Nat) (a0:Int) (a1:YF6) (a2:Int) (a3:(List YF6)) (a4:Int) (a5:Int) (a6:Int) (a7:Int) (a8:(List Ex)) (a9:(List Int)) (k0:Bool->O) (k1:Int->YF6->Int->(List YF6)->Int->Int->Int->Int->(List Ex)->(List Int)->O):O:=w7l0 N N (a0,a1,a2,a3,a4,a5,a6,a7,a8,a9) (fun y=>k0 y) (fun y=>k1 y.1 y.2.1 y.2.2.1 y.2.2.2.1 y.2.2.2.2.1 y.2.2.2.2.2.1 y.2.2.2.2.2.2.1 y.2.2.2.2.2.2.2.1 y.2.2.2.2.2.2.2.2.1 y.2.2.2.2.2.2.2.2.2) (fun _=>none)
def w7s0 [Alg] (N:Nat) (a0:Int) (a1:YF6) (a2:Int) (a3:(List YF6)) (a4:Int) (a5:Int) (a6:Int) (a7:Int) (a8:(List Ex)) (a9:(List Int)) (k0:Bool->O) (k1:Int->YF6->Int->(List YF6)->Int->Int->Int->Int->(List Ex)->(List Int)->O):O:=subL w7I0 w7u0 (w7l0 N N) (w7I0 (a0,a1,a2,a3,a4,a5,a6,a7,a8,a9)) (fun y=>k0 y) (fun y=>k1 y.1 y.2.1 y.2.2.1 y.2.2.2.1 y.2.2.2.2.1 y.2.2.2.2.2.1 y.2.2.2.2.2.2.1 y.2.2.2.2.2.2.2.1 y.2.2.2.2.2.2.2.2.1 y.2.2.2.2.2.2.2.2.2) (fun _=>none)
theorem w7e0 [Alg] (N:Nat):w7s0 N=w7n0 N:=funext fun _=>funext fun _=>funext fun _=>funext fun _=>funext fun _=>funext fun _=>funext fun _=>funext fun _=>funext fun _=>funext fun _=>funext fun _=>funext fun _=>subL_I w7ui0 _ _ _ _
def w7h0 [Alg] (_:Nat):Hint:=.d
theorem w7hk0 (N:Nat):HintOk (w7c N) Tryz.f7.ntmps (w7h0 N) w7b0:=hk_of _ _ trivial
theorem w7q0 [Alg] (N:Nat) (self:Sg->O) (K:Exit->Sg->O) (x:Int×YF6×Int×(List YF6)×Int×Int×Int×Int×(List Ex)×(List Int)):w7F0 N  (fun v0=>self (w7I0 (x.1,x.2.1,x.2.2.1,x.2.2.2.1,x.2.2.2.2.1,v0,x.2.2.2.2.2.2.1,x.2.2.2.2.2.2.2.1,x.2.2.2.2.2.2.2.2.1,x.2.2.2.2.2.2.2.2.2))) (fun y0=>K (w7X0_0 y0).1 (w7X0_0 y0).2) (fun y0 y1 y2 y3 y4 y5 y6 y7 y8 y9=>K (w7X0_1 (y0,y1,y2,y3,y4,y5,y6,y7,y8,y9)).1 (w7X0_1 (y0,y1,y2,y3,y4,y5,y6,y7,y8,y9)).2) x.1 x.2.1 x.2.2.1 x.2.2.2.1 x.2.2.2.2.1 x.2.2.2.2.2.2.1 x.2.2.2.2.2.2.2.1 x.2.2.2.2.2.2.2.2.1 x.2.2.2.2.2.2.2.2.2 x.2.2.2.2.2.1=exec (w7c N) Tryz.f7.ntmps (w7h0 N) w7b0 (w7I0 x) (roundX w7m0 w7w0 self K):=by kernel_rfl
theorem w7S0 (N:Nat) (hc:CxOk (w7c N)):SubOk (w7c N) Tryz.f7.ntmps (.loop w7b0) w7X0_0 w7X0_1 (noX 2) (subL w7I0 w7u0 (w7l0 N N)):=
 sub_loop hc (w7hk0 N) w7o0 (n:=N) (fun x K=>loop_ind (w7l0 N) (fun _ _ _ _=>rfl) (fun n K ih x=>by
  refine Eq.trans ?_ (w7q0 N _ K x)
  simp only [← ih]
  rfl) N x K)
def w7F1 [Alg] (N:Nat)  (self:Int->O) (k0:Bool->O) (k1:YF6->(List YF6)->Int->Int->Int->Int->Int->(List Ex)->Int->Int->(List Ex)->O) (x24_0:Int) (x24_1:YF6) (x24_2:(List YF6)) (x24_3:Int) (x24_4:Int) (x24_5:Int) (x24_7:Int) (x24_8:Int) (x24_9:(List Ex)) (x24_10:Int) (x24_11:Int) (x24_12:(List Ex)) (x24_6:Int):O:=
 br (decide (x24_6 < (↑x24_2.length:Int)))
  (gx x24_2 x24_6 fun y29=>
  gc (!decide (x24_0 < (↑y29.length:Int))) [] x24_2 x24_6 fun y30=>
  ck (!!decide (x24_0 < (↑y29.length:Int))||w31p N y30) <|
  br (decide (x24_0 < (↑y29.length:Int))||!w31y0 N y30)
   (k0 false)
   (self (IntKind.i64.wrap (x24_6+1))))
  (k1 x24_1 x24_2 x24_3 x24_4 x24_5 x24_7 x24_8 x24_9 x24_10 x24_11 x24_12)
def w7b1:Code:=atC [1,1,1,1,1,1,1,1,1,1,1,0,1,0,0] w7b
def w7m1:Nm:=⟨[5,6,7,11,13,14,15,16,17],[],[]⟩
def w7I1 (x:Int×YF6×(List YF6)×Int×Int×Int×Int×Int×Int×(List Ex)×Int×Int×(List Ex)):Sg:=⟨[(5,.ref 0 0),(6,.e (.i .i64) x.1),(7,.e (.sl .u8) x.2.1),(11,.e (.sl (.sl .u8)) x.2.2.1),(13,.e (.i .i64) x.2.2.2.1),(14,.e (.i .i64) x.2.2.2.2.1),(15,.ref 1 0),(16,.e (.i .i64) x.2.2.2.2.2.1),(17,.e (.i .i64) x.2.2.2.2.2.2.1)],[(0,.box 25 [.e (.i .i64) x.2.2.2.2.2.2.2.1,.e (.i .i64) x.2.2.2.2.2.2.2.2.1,.e (.sl .ex) x.2.2.2.2.2.2.2.2.2.1]),(1,.box 25 [.e (.i .i64) x.2.2.2.2.2.2.2.2.2.2.1,.e (.i .i64) x.2.2.2.2.2.2.2.2.2.2.2.1,.e (.sl .ex) x.2.2.2.2.2.2.2.2.2.2.2.2])],100⟩
def w7u1 (σ:Sg):Int×YF6×(List YF6)×Int×Int×Int×Int×Int×Int×(List Ex)×Int×Int×(List Ex):=(lvT (.i .i64) 6 0 σ,lvT (.sl .u8) 7 0 σ,lvT (.sl (.sl .u8)) 11 0 σ,lvT (.i .i64) 13 0 σ,lvT (.i .i64) 14 0 σ,lvT (.i .i64) 16 0 σ,lvT (.i .i64) 17 0 σ,lvH (.i .i64) 0 0 σ,lvH (.i .i64) 0 1 σ,lvH (.sl .ex) 0 2 σ,lvH (.i .i64) 1 0 σ,lvH (.i .i64) 1 1 σ,lvH (.sl .ex) 1 2 σ)
theorem w7ui1:∀ x,w7u1 (w7I1 x)=x:=fun _=>by kernel_rfl
def w7X1_0 (y:Bool):Exit×Sg:=(.ret,⟨[(4,.e .bo y)],[],100⟩)
def w7v1_0 (_:Exit) (σ:Sg):Bool:=lvT .bo 4 0 σ
def w7X1_1 (y:YF6×(List YF6)×Int×Int×Int×Int×Int×(List Ex)×Int×Int×(List Ex)):Exit×Sg:=((.exit 2),⟨[(5,.ref 0 0),(7,.e (.sl .u8) y.1),(11,.e (.sl (.sl .u8)) y.2.1),(13,.e (.i .i64) y.2.2.1),(14,.e (.i .i64) y.2.2.2.1),(15,.ref 1 0),(16,.e (.i .i64) y.2.2.2.2.1)],[(0,.box 25 [.e (.i .i64) y.2.2.2.2.2.1,.e (.i .i64) y.2.2.2.2.2.2.1,.e (.sl .ex) y.2.2.2.2.2.2.2.1]),(1,.box 25 [.e (.i .i64) y.2.2.2.2.2.2.2.2.1,.e (.i .i64) y.2.2.2.2.2.2.2.2.2.1,.e (.sl .ex) y.2.2.2.2.2.2.2.2.2.2])],100⟩)
def w7v1_1 (_:Exit) (σ:Sg):YF6×(List YF6)×Int×Int×Int×Int×Int×(List Ex)×Int×Int×(List Ex):=(lvT (.sl .u8) 7 0 σ,lvT (.sl (.sl .u8)) 11 0 σ,lvT (.i .i64) 13 0 σ,lvT (.i .i64) 14 0 σ,lvT (.i .i64) 16 0 σ,lvH (.i .i64) 0 0 σ,lvH (.i .i64) 0 1 σ,lvH (.sl .ex) 0 2 σ,lvH (.i .i64) 1 0 σ,lvH (.i .i64) 1 1 σ,lvH (.sl .ex) 1 2 σ)
def w7w1:List (Exit×Nm):=[(.ret,⟨[4],[],[]⟩),((.exit 2),⟨[5,7,11,13,14,15,16],[],[]⟩)]
theorem w7o1:Outs w7v1_0 w7v1_1 (fun _ _=>()) w7X1_0 w7X1_1 (noX 2) (exC .ret) (exC (.exit 2)) (exC (.goto 2)):=⟨fun _=>by kernel_rfl,fun _=>by kernel_rfl,fun _=>by kernel_rfl,fun _=>by kernel_rfl,fun _=>by kernel_rfl,fun _=>by kernel_rfl,exNe_ok (by kernel_rfl),exNe_ok (by kernel_rfl),exNe_ok (by kernel_rfl)⟩
def w7l1 [Alg] (N:Nat):Nat->(Int×YF6×(List YF6)×Int×Int×Int×Int×Int×Int×(List Ex)×Int×Int×(List Ex))->((Bool)->O)->((YF6×(List YF6)×Int×Int×Int×Int×Int×(List Ex)×Int×Int×(List Ex))->O)->((Unit)->O)->O
 | 0,_,_,_,_=>none
 | n+1,x,k0,k1,k2=>w7F1 N  (fun v0=>w7l1 N n (x.1,x.2.1,x.2.2.1,x.2.2.2.1,x.2.2.2.2.1,x.2.2.2.2.2.1,v0,x.2.2.2.2.2.2.2.1,x.2.2.2.2.2.2.2.2.1,x.2.2.2.2.2.2.2.2.2.1,x.2.2.2.2.2.2.2.2.2.2.1,x.2.2.2.2.2.2.2.2.2.2.2.1,x.2.2.2.2.2.2.2.2.2.2.2.2) k0 k1 k2) (fun y0=>k0 y0) (fun y0 y1 y2 y3 y4 y5 y6 y7 y8 y9 y10=>k1 (y0,y1,y2,y3,y4,y5,y6,y7,y8,y9,y10)) x.1 x.2.1 x.2.2.1 x.2.2.2.1 x.2.2.2.2.1 x.2.2.2.2.2.1 x.2.2.2.2.2.2.2.1 x.2.2.2.2.2.2.2.2.1 x.2.2.2.2.2.2.2.2.2.1 x.2.2.2.2.2.2.2.2.2.2.1 x.2.2.2.2.2.2.2.2.2.2.2.1 x.2.2.2.2.2.2.2.2.2.2.2.2 x.2.2.2.2.2.2.1
def w7n1 [Alg] (N:Nat) (a0:Int) (a1:YF6) (a2:(List YF6)) (a3:Int) (a4:Int) (a5:Int) (a6:Int) (a7:Int) (a8:Int) (a9:(List Ex)) (a10:Int) (a11:Int) (a12:(List Ex)) (k0:Bool->O) (k1:YF6->(List YF6)->Int->Int->Int->Int->Int->(List Ex)->Int->Int->(List Ex)->O):O:=w7l1 N N (a0,a1,a2,a3,a4,a5,a6,a7,a8,a9,a10,a11,a12) (fun y=>k0 y) (fun y=>k1 y.1 y.2.1 y.2.2.1 y.2.2.2.1 y.2.2.2.2.1 y.2.2.2.2.2.1 y.2.2.2.2.2.2.1 y.2.2.2.2.2.2.2.1 y.2.2.2.2.2.2.2.2.1 y.2.2.2.2.2.2.2.2.2.1 y.2.2.2.2.2.2.2.2.2.2) (fun _=>none)
def w7s1 [Alg] (N:Nat) (a0:Int) (a1:YF6) (a2:(List YF6)) (a3:Int) (a4:Int) (a5:Int) (a6:Int) (a7:Int) (a8:Int) (a9:(List Ex)) (a10:Int) (a11:Int) (a12:(List Ex)) (k0:Bool->O) (k1:YF6->(List YF6)->Int->Int->Int->Int->Int->(List Ex)->Int->Int->(List Ex)->O):O:=subL w7I1 w7u1 (w7l1 N N) (w7I1 (a0,a1,a2,a3,a4,a5,a6,a7,a8,a9,a10,a11,a12)) (fun y=>k0 y) (fun y=>k1 y.1 y.2.1 y.2.2.1 y.2.2.2.1 y.2.2.2.2.1 y.2.2.2.2.2.1 y.2.2.2.2.2.2.1 y.2.2.2.2.2.2.2.1 y.2.2.2.2.2.2.2.2.1 y.2.2.2.2.2.2.2.2.2.1 y.2.2.2.2.2.2.2.2.2.2) (fun _=>none)
theorem w7e1 [Alg] (N:Nat):w7s1 N=w7n1 N:=funext fun _=>funext fun _=>funext fun _=>funext fun _=>funext fun _=>funext fun _=>funext fun _=>funext fun _=>funext fun _=>funext fun _=>funext fun _=>funext fun _=>funext fun _=>funext fun _=>funext fun _=>subL_I w7ui1 _ _ _ _
def w7h1 [Alg] (_:Nat):Hint:=.d
theorem w7hk1 (N:Nat):HintOk (w7c N) Tryz.f7.ntmps (w7h1 N) w7b1:=hk_of _ _ trivial
theorem w7q1 [Alg] (N:Nat) (self:Sg->O) (K:Exit->Sg->O) (x:Int×YF6×(List YF6)×Int×Int×Int×Int×Int×Int×(List Ex)×Int×Int×(List Ex)):w7F1 N  (fun v0=>self (w7I1 (x.1,x.2.1,x.2.2.1,x.2.2.2.1,x.2.2.2.2.1,x.2.2.2.2.2.1,v0,x.2.2.2.2.2.2.2.1,x.2.2.2.2.2.2.2.2.1,x.2.2.2.2.2.2.2.2.2.1,x.2.2.2.2.2.2.2.2.2.2.1,x.2.2.2.2.2.2.2.2.2.2.2.1,x.2.2.2.2.2.2.2.2.2.2.2.2))) (fun y0=>K (w7X1_0 y0).1 (w7X1_0 y0).2) (fun y0 y1 y2 y3 y4 y5 y6 y7 y8 y9 y10=>K (w7X1_1 (y0,y1,y2,y3,y4,y5,y6,y7,y8,y9,y10)).1 (w7X1_1 (y0,y1,y2,y3,y4,y5,y6,y7,y8,y9,y10)).2) x.1 x.2.1 x.2.2.1 x.2.2.2.1 x.2.2.2.2.1 x.2.2.2.2.2.1 x.2.2.2.2.2.2.2.1 x.2.2.2.2.2.2.2.2.1 x.2.2.2.2.2.2.2.2.2.1 x.2.2.2.2.2.2.2.2.2.2.1 x.2.2.2.2.2.2.2.2.2.2.2.1 x.2.2.2.2.2.2.2.2.2.2.2.2 x.2.2.2.2.2.2.1=exec (w7c N) Tryz.f7.ntmps (w7h1 N) w7b1 (w7I1 x) (roundX w7m1 w7w1 self K):=by kernel_rfl
theorem w7S1 (N:Nat) (hc:CxOk (w7c N)):SubOk (w7c N) Tryz.f7.ntmps (.loop w7b1) w7X1_0 w7X1_1 (noX 2) (subL w7I1 w7u1 (w7l1 N N)):=
 sub_loop hc (w7hk1 N) w7o1 (n:=N) (fun x K=>loop_ind (w7l1 N) (fun _ _ _ _=>rfl) (fun n K ih x=>by
  refine Eq.trans ?_ (w7q1 N _ K x)
  simp only [← ih]
  rfl) N x K)
def w7G [Alg] (N:Nat) (in0:Int->YF6->Int->(List YF6)->Int->Int->Int->Int->(List Ex)->(List Int)->(Bool->O)->(Int->YF6->Int->(List YF6)->Int->Int->Int->Int->(List Ex)->(List Int)->O)->O) (in1:Int->YF6->(List YF6)->Int->Int->Int->Int->Int->Int->(List Ex)->Int->Int->(List Ex)->(Bool->O)->(YF6->(List YF6)->Int->Int->Int->Int->Int->(List Ex)->Int->Int->(List Ex)->O)->O) (l0:(List Int)) (width1:Int):O:=
 let b1:=IntKind.i64.wrap ((4:Int)+w23y0 N width1 (37:Int))
 let b3:=Ex.mk (w8y0 N l0) (w8y1 N l0) (w8y2 N l0)
 let b0:=Ex.mk b3.op b3.num b3.kids
 let b2:=w29y0 N b0.op b0.num b0.kids=w10y1 N b0.op b0.num b0.kids
 ck (w8p N l0) <|
 ck (w23p N width1 (37:Int)) <|
 ck (w10p N b0.op b0.num b0.kids) <|
 br (decide (w10y1 N b0.op b0.num b0.kids≠(0:Int)))
  (ck (w29p N b0.op b0.num b0.kids) <|
  ck (!decide b2||true) <|
  some (w7r0 (decide b2&&true)))
  (ck (w12p N b0.op b0.num b0.kids) <|
  ck (w24p N b0.op b0.num b0.kids b1) <|
  in0 b1 (w10y0 N b0.op b0.num b0.kids) (w12y0 N b0.op b0.num b0.kids) (w24y0 N b0.op b0.num b0.kids b1) (w24y1 N b0.op b0.num b0.kids b1) 0 (w8y0 N l0) (w8y1 N l0) (w8y2 N l0) (w12y1 N b0.op b0.num b0.kids)
   (fun z13=>
    some (w7r0 z13))
   (fun z14 z15 z16 z17 z18 z19 z20 z21 z22 z23=>
    ck (w30p N (↑z15.length:Int) z23 z14) <|
    br (decide (z16≠0)||decide (z18≠0))
     (ck (!(decide (z16=0)&&decide (z18=14)&&decide (w30y0 N (↑z15.length:Int) z23 z14 < (0:Int)))||true) <|
     some (w7r0 (decide (z16=0)&&decide (z18=14)&&decide (w30y0 N (↑z15.length:Int) z23 z14 < (0:Int))&&true)))
     (ck (w27p N z17) <|
     in1 z14 z15 z17 z19 (w30y0 N (↑z15.length:Int) z23 z14) (w27y3 N z17) 0 z20 z21 z22 (w27y0 N z17) (w27y1 N z17) (w27y2 N z17)
      (fun z31=>
       some (w7r0 z31))
      (fun _ z33 _ z35 z36 z37 z38 z39 z40 z41 z42=>
       ck (!decide (z36=0)||w32p N (Ex.mk z37 z38 z39).op (Ex.mk z37 z38 z39).num (Ex.mk z37 z38 z39).kids (Ex.mk z40 z41 z42).op (Ex.mk z40 z41 z42).num (Ex.mk z40 z41 z42).kids) <|
       ck (!(decide (z36=0)&&w32y0 N (Ex.mk z37 z38 z39).op (Ex.mk z37 z38 z39).num (Ex.mk z37 z38 z39).kids (Ex.mk z40 z41 z42).op (Ex.mk z40 z41 z42).num (Ex.mk z40 z41 z42).kids&&decide ((↑z33.length:Int)=z35))||true) <|
       some (w7r0 (decide (z36=0)&&w32y0 N (Ex.mk z37 z38 z39).op (Ex.mk z37 z38 z39).num (Ex.mk z37 z38 z39).kids (Ex.mk z40 z41 z42).op (Ex.mk z40 z41 z42).num (Ex.mk z40 z41 z42).kids&&decide ((↑z33.length:Int)=z35)&&true))))))
def w7 [Alg] (N:Nat) (l0:(List Int)) (width1:Int):O:=w7G N (w7n0 N) (w7n1 N) l0 width1
def w7h [Alg] (N:Nat):Hint:=(.seq .d (.seq .d (.seq .d (.seq .d (.seq .d (.seq .d (.seq .d (.seq (.seq .d (.block (.sub w7m0 _ _ _ w7X0_0 w7X0_1 (noX 2) (subL w7I0 w7u0 (w7l0 N N))))) (.seq .d (.seq .d (.seq .d (.seq (.seq .d (.block (.sub w7m1 _ _ _ w7X1_0 w7X1_1 (noX 2) (subL w7I1 w7u1 (w7l1 N N))))) .d))))))))))))
theorem w7hk (N:Nat) (hc:CxOk (w7c N)):HintOk (w7c N) Tryz.f7.ntmps (w7h N) w7b:=hk_of _ _ (And.intro trivial (And.intro trivial (And.intro trivial (And.intro trivial (And.intro trivial (And.intro trivial (And.intro trivial (And.intro (And.intro trivial (w7S0 N hc)) (And.intro trivial (And.intro trivial (And.intro trivial (And.intro (And.intro trivial (w7S1 N hc)) trivial))))))))))))
theorem w7q [Alg] (N:Nat) (l0:(List Int)) (width1:Int):w7G N (w7s0 N) (w7s1 N) l0 width1=exec (w7c N) Tryz.f7.ntmps (w7h N) w7b ⟨argT 0 [.e (.sl (.i .i64)) l0,.e (.i .i64) width1],[],100⟩ (finX (w7c N) Tryz.f7 false):=by kernel_rfl
def w7un (r:Res):Option (Bool):=match r with
 | (x0,[])=>(match ue .bo x0 with | some a0=>some a0 | _=>none)
 | _=>none
theorem w7uo {r:Res} {d:Bool} (h:w7un r=some d):r=w7r0 (d):=by
 unfold w7un at h
 split at h
 ·split at h
  ·rename_i h0;cases h;rw [ue_some h0];rfl
  ·cases h
 ·cases h
def w7z (N:Nat) (l0:(List Int)) (width1:Int):Option (Bool):=(w7 N l0 width1).bind w7un
theorem w7fin {N:Nat} (hc:CxOk (w7c N)) {l0:(List Int)} {width1:Int} {d:Bool} (hd:w7z N l0 width1=some d):Does Tryz.prog 7 (([.e (.sl (.i .i64)) l0,.e (.i .i64) width1]:List X).map X.D) (HA []) (w7r0 (d)).1.D (HA (w7r0 (d)).2):=by
 obtain ⟨r,hr,hu⟩:=Option.bind_eq_some_iff.1 hd
 have:=fun_ok (r:=r) hc (f:=7) (fn:=Tryz.f7) (code:=w7b) (by kernel_rfl) (by kernel_rfl) (w7hk N hc) (Nat.le_of_ble_eq_true (by kernel_rfl)) (ow:=false) ((w7q N l0 width1).symm.trans (by rw [w7e0 N,w7e1 N];exact hr))
 rw [w7uo hu] at this
 exact this
end
end Go.Proofs
