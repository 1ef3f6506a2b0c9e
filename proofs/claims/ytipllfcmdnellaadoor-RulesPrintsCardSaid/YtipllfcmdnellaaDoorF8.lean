/- What Print does. Conditions are in the theorems. -/
import Derived.Test.YtipllfcmdnellaaDoorE7
import Derived.Test.YtipllfcmdnellaaDoorProg
import Derived.KernelRfl
import Derived.Test.YtipllfcmdnellaaDoorF7
/- What functions do. -/
namespace Go.Proofs
noncomputable section
open Go.Ax Go.Ax.Alg Go.RowKit Go.Ab
open Go
abbrev YF8:=List UInt8
abbrev lF8x0:List UInt8:=[(97:UInt8),(108:UInt8),(119:UInt8),(97:UInt8),(121:UInt8),(115:UInt8)]
abbrev lF8x1:List UInt8:=[(108:UInt8),(101:UInt8),(97:UInt8),(115:UInt8),(116:UInt8)]
abbrev lF8x2:List UInt8:=[(109:UInt8),(111:UInt8),(115:UInt8),(116:UInt8)]
abbrev lF8x3:List UInt8:=[(110:UInt8),(111:UInt8),(116:UInt8)]
def w22F1 [Alg] (_:Nat) (k0:(List ((List Int)×(Int×Int)))->Int->Int->(List Int)->Int->Int->Int->YF8->(List YF8)->(List Int)->Int->Int->(List YF8)->YF8->O) (x233_0:(List ((List Int)×(Int×Int)))) (x233_1 x233_2:Int) (x233_3:(List Int)) (x233_4 x233_5:Int) (x233_6 x233_7:Int) (x233_8:YF8) (x233_9:(List YF8)) (x233_10:(List Int)) (x233_11 x233_12:Int) (x233_13:(List YF8)) (x233_14:YF8):O:=
 br (decide (x233_6=0))
  (k0 x233_0 x233_1 x233_2 x233_3 x233_4 x233_5 x233_7 [(105:UInt8),(102:UInt8)] x233_9 x233_10 x233_11 x233_12 x233_13 x233_14)
  (k0 x233_0 x233_1 x233_2 x233_3 x233_4 x233_5 x233_7 x233_8 x233_9 x233_10 x233_11 x233_12 x233_13 x233_14)
def w22b1:Code:=atC [1,1,1,1,1,0,1,0,0,1,1,0,0,1,1,0,1,0,0,1,1,0,0,1,1,0] w22b
def w22m1:Nm:=⟨[3,6,28,29,30,8,9,35,36,37,10,11,12],[],[]⟩
def w22I1 (x:(List ((List Int)×(Int×Int)))×Int×Int×(List Int)×Int×Int×Int×Int×YF8×(List YF8)×(List Int)×Int×Int×(List YF8)×YF8):Sg:=⟨[(3,.own 0),(6,.ref 1 0),(28,.e (.sl (.pr (.sl (.i .i64)) (.pr (.i .i64) (.i .i64)))) x.1),(29,.e (.i .i64) x.2.1),(30,.e (.i .i64) x.2.2.1),(8,.ref 2 0),(9,.own 3),(35,.e (.sl (.i .i64)) x.2.2.2.1),(36,.e (.i .i64) x.2.2.2.2.1),(37,.e (.i .i64) x.2.2.2.2.2.1),(10,.e (.i .i64) x.2.2.2.2.2.2.1),(11,.e (.i .i64) x.2.2.2.2.2.2.2.1),(12,.e .tx x.2.2.2.2.2.2.2.2.1)],[(0,.row 9 .tx x.2.2.2.2.2.2.2.2.2.1 false),(1,.box 74 [.via 1 0,.own 4]),(2,.box 51 [.e (.sl (.i .i64)) x.2.2.2.2.2.2.2.2.2.2.1,.e (.i .i64) x.2.2.2.2.2.2.2.2.2.2.2.1,.e (.i .i64) x.2.2.2.2.2.2.2.2.2.2.2.2.1]),(3,.row 9 .tx x.2.2.2.2.2.2.2.2.2.2.2.2.2.1 true),(4,.row 5 .u8 x.2.2.2.2.2.2.2.2.2.2.2.2.2.2 true)],100⟩
def w22u1 (σ:Sg):(List ((List Int)×(Int×Int)))×Int×Int×(List Int)×Int×Int×Int×Int×YF8×(List YF8)×(List Int)×Int×Int×(List YF8)×YF8:=(lvT (.sl (.pr (.sl (.i .i64)) (.pr (.i .i64) (.i .i64)))) 28 0 σ,lvT (.i .i64) 29 0 σ,lvT (.i .i64) 30 0 σ,lvT (.sl (.i .i64)) 35 0 σ,lvT (.i .i64) 36 0 σ,lvT (.i .i64) 37 0 σ,lvT (.i .i64) 10 0 σ,lvT (.i .i64) 11 0 σ,lvT .tx 12 0 σ,lvR .tx 0 σ,lvH (.sl (.i .i64)) 2 0 σ,lvH (.i .i64) 2 1 σ,lvH (.i .i64) 2 2 σ,lvR .tx 3 σ,lvR .u8 4 σ)
theorem w22ui1:∀ x,w22u1 (w22I1 x)=x:=fun _=>by kernel_rfl
def w22X1_0 (y:(List ((List Int)×(Int×Int)))×Int×Int×(List Int)×Int×Int×Int×YF8×(List YF8)×(List Int)×Int×Int×(List YF8)×YF8):Exit×Sg:=(.normal,⟨[(3,.own 0),(6,.ref 1 0),(28,.e (.sl (.pr (.sl (.i .i64)) (.pr (.i .i64) (.i .i64)))) y.1),(29,.e (.i .i64) y.2.1),(30,.e (.i .i64) y.2.2.1),(8,.ref 2 0),(9,.own 3),(35,.e (.sl (.i .i64)) y.2.2.2.1),(36,.e (.i .i64) y.2.2.2.2.1),(37,.e (.i .i64) y.2.2.2.2.2.1),(11,.e (.i .i64) y.2.2.2.2.2.2.1),(12,.e .tx y.2.2.2.2.2.2.2.1)],[(0,.row 9 .tx y.2.2.2.2.2.2.2.2.1 false),(1,.box 74 [.via 1 0,.own 4]),(2,.box 51 [.e (.sl (.i .i64)) y.2.2.2.2.2.2.2.2.2.1,.e (.i .i64) y.2.2.2.2.2.2.2.2.2.2.1,.e (.i .i64) y.2.2.2.2.2.2.2.2.2.2.2.1]),(3,.row 9 .tx y.2.2.2.2.2.2.2.2.2.2.2.2.1 true),(4,.row 5 .u8 y.2.2.2.2.2.2.2.2.2.2.2.2.2 true)],100⟩)
def w22v1_0 (_:Exit) (σ:Sg):(List ((List Int)×(Int×Int)))×Int×Int×(List Int)×Int×Int×Int×YF8×(List YF8)×(List Int)×Int×Int×(List YF8)×YF8:=(lvT (.sl (.pr (.sl (.i .i64)) (.pr (.i .i64) (.i .i64)))) 28 0 σ,lvT (.i .i64) 29 0 σ,lvT (.i .i64) 30 0 σ,lvT (.sl (.i .i64)) 35 0 σ,lvT (.i .i64) 36 0 σ,lvT (.i .i64) 37 0 σ,lvT (.i .i64) 11 0 σ,lvT .tx 12 0 σ,lvR .tx 0 σ,lvH (.sl (.i .i64)) 2 0 σ,lvH (.i .i64) 2 1 σ,lvH (.i .i64) 2 2 σ,lvR .tx 3 σ,lvR .u8 4 σ)
def w22w1:List (Exit×Nm):=[(.normal,⟨[3,6,28,29,30,8,9,35,36,37,11,12],[],[]⟩)]
def w22l1 [Alg] (N:Nat) (_:Nat) (x:(List ((List Int)×(Int×Int)))×Int×Int×(List Int)×Int×Int×Int×Int×YF8×(List YF8)×(List Int)×Int×Int×(List YF8)×YF8) (k0:((List ((List Int)×(Int×Int)))×Int×Int×(List Int)×Int×Int×Int×YF8×(List YF8)×(List Int)×Int×Int×(List YF8)×YF8)->O) (_:(Unit)->O) (_:(Unit)->O):O:=w22F1 N (fun y0 y1 y2 y3 y4 y5 y6 y7 y8 y9 y10 y11 y12 y13=>k0 (y0,y1,y2,y3,y4,y5,y6,y7,y8,y9,y10,y11,y12,y13)) x.1 x.2.1 x.2.2.1 x.2.2.2.1 x.2.2.2.2.1 x.2.2.2.2.2.1 x.2.2.2.2.2.2.1 x.2.2.2.2.2.2.2.1 x.2.2.2.2.2.2.2.2.1 x.2.2.2.2.2.2.2.2.2.1 x.2.2.2.2.2.2.2.2.2.2.1 x.2.2.2.2.2.2.2.2.2.2.2.1 x.2.2.2.2.2.2.2.2.2.2.2.2.1 x.2.2.2.2.2.2.2.2.2.2.2.2.2.1 x.2.2.2.2.2.2.2.2.2.2.2.2.2.2
def w22n1 [Alg] N a0 a1 a2 a3 a4 a5 a6 a7 a8 a9 a10 a11 a12 a13 a14 (k0:(List ((List Int)×(Int×Int)))->Int->Int->(List Int)->Int->Int->Int->YF8->(List YF8)->(List Int)->Int->Int->(List YF8)->YF8->O):=w22l1 N N (a0,a1,a2,a3,a4,a5,a6,a7,a8,a9,a10,a11,a12,a13,a14) (fun y=>k0 y.1 y.2.1 y.2.2.1 y.2.2.2.1 y.2.2.2.2.1 y.2.2.2.2.2.1 y.2.2.2.2.2.2.1 y.2.2.2.2.2.2.2.1 y.2.2.2.2.2.2.2.2.1 y.2.2.2.2.2.2.2.2.2.1 y.2.2.2.2.2.2.2.2.2.2.1 y.2.2.2.2.2.2.2.2.2.2.2.1 y.2.2.2.2.2.2.2.2.2.2.2.2.1 y.2.2.2.2.2.2.2.2.2.2.2.2.2) (fun _=>none) (fun _=>none)
def w22s1 [Alg] N a0 a1 a2 a3 a4 a5 a6 a7 a8 a9 a10 a11 a12 a13 a14 (k0:(List ((List Int)×(Int×Int)))->Int->Int->(List Int)->Int->Int->Int->YF8->(List YF8)->(List Int)->Int->Int->(List YF8)->YF8->O):=subL w22I1 w22u1 (w22l1 N N) (w22I1 (a0,a1,a2,a3,a4,a5,a6,a7,a8,a9,a10,a11,a12,a13,a14)) (fun y=>k0 y.1 y.2.1 y.2.2.1 y.2.2.2.1 y.2.2.2.2.1 y.2.2.2.2.2.1 y.2.2.2.2.2.2.1 y.2.2.2.2.2.2.2.1 y.2.2.2.2.2.2.2.2.1 y.2.2.2.2.2.2.2.2.2.1 y.2.2.2.2.2.2.2.2.2.2.1 y.2.2.2.2.2.2.2.2.2.2.2.1 y.2.2.2.2.2.2.2.2.2.2.2.2.1 y.2.2.2.2.2.2.2.2.2.2.2.2.2) (fun _=>none) (fun _=>none)
theorem w22e1 [Alg] N:w22s1 N=w22n1 N:=funext fun _=>funext fun _=>funext fun _=>funext fun _=>funext fun _=>funext fun _=>funext fun _=>funext fun _=>funext fun _=>funext fun _=>funext fun _=>funext fun _=>funext fun _=>funext fun _=>funext fun _=>funext fun _=>subL_I w22ui1 _ _ _ _
theorem w22q1 [Alg] (N:Nat) (K:Exit->Sg->O) (x:(List ((List Int)×(Int×Int)))×Int×Int×(List Int)×Int×Int×Int×Int×YF8×(List YF8)×(List Int)×Int×Int×(List YF8)×YF8):w22F1 N (fun y0 y1 y2 y3 y4 y5 y6 y7 y8 y9 y10 y11 y12 y13=>K (w22X1_0 (y0,y1,y2,y3,y4,y5,y6,y7,y8,y9,y10,y11,y12,y13)).1 (w22X1_0 (y0,y1,y2,y3,y4,y5,y6,y7,y8,y9,y10,y11,y12,y13)).2) x.1 x.2.1 x.2.2.1 x.2.2.2.1 x.2.2.2.2.1 x.2.2.2.2.2.1 x.2.2.2.2.2.2.1 x.2.2.2.2.2.2.2.1 x.2.2.2.2.2.2.2.2.1 x.2.2.2.2.2.2.2.2.2.1 x.2.2.2.2.2.2.2.2.2.2.1 x.2.2.2.2.2.2.2.2.2.2.2.1 x.2.2.2.2.2.2.2.2.2.2.2.2.1 x.2.2.2.2.2.2.2.2.2.2.2.2.2.1 x.2.2.2.2.2.2.2.2.2.2.2.2.2.2=exec (w22c N) Tryd.f22.ntmps .d w22b1 (w22I1 x) (partX w22w1 K):=by kernel_rfl
theorem w22S1 N (hc:CxOk (w22c N)):SubOk (w22c N) Tryd.f22.ntmps w22b1 w22X1_0 (noX 1) (noX 2) (subL w22I1 w22u1 (w22l1 N N)):=
 sub_part hc (hk_d w22b1) (oK1 w22v1_0 .normal (fun _=>by kernel_rfl) (fun _=>rfl) (by kernel_rfl)) (fun x K=>by
  exact w22q1 N K x)
def w22F2 [Alg] (N:Nat) (in1:(List ((List Int)×(Int×Int)))->Int->Int->(List Int)->Int->Int->Int->Int->YF8->(List YF8)->(List Int)->Int->Int->(List YF8)->YF8->((List ((List Int)×(Int×Int)))->Int->Int->(List Int)->Int->Int->Int->YF8->(List YF8)->(List Int)->Int->Int->(List YF8)->YF8->O)->O) (self:(List ((List Int)×(Int×Int)))->Int->Int->(List Int)->Int->Int->(List YF8)->(List Int)->Int->Int->(List YF8)->YF8->O) (k0:(List ((List Int)×(Int×Int)))->Int->Int->(List YF8)->(List Int)->Int->Int->(List YF8)->YF8->O) (x184_0:(List ((List Int)×(Int×Int)))) (x184_1 x184_2:Int) (x184_3:(List Int)) (x184_4 x184_5:Int) (x184_6:(List YF8)) (x184_7:(List Int)) (x184_8 x184_9:Int) (x184_10:(List YF8)) (x184_11:YF8):O:=
 br (decide (x184_5 < x184_4))
  (gx x184_3 x184_5 fun y232=>
  in1 x184_0 x184_1 x184_2 x184_3 x184_4 x184_5 x184_5 y232 [(97:UInt8),(110:UInt8),(100:UInt8)] x184_6 x184_7 x184_8 x184_9 x184_10 x184_11
   (fun z234 z235 z236 z237 z238 z239 z240 z241 z242 z243 z244 z245 z246 z247=>
    ck (lim (z246++[z241]).length (16:Nat)) <|
    br (decide (z240 < 0))
     (ck (lim (z246++[z241]++[lF8x3]).length (16:Nat)) <|
     ck (w36p N z240) <|
     ck (w35p N (w36y0 N z240)) <|
     ck (decide ((1:Int)+(↑(w35y0 N (w36y0 N z240)).length:Int)<=(9223372036854775807:Int))) <|
     ck (lim (z246++[z241]++[lF8x3]++[[(102:UInt8)]++w35y0 N (w36y0 N z240)]).length (16:Nat)) <|
     self z234 z235 z236 z237 z238 (IntKind.i64.wrap (z239+1)) z242 z243 z244 z245 (z246++[z241]++[lF8x3]++[[(102:UInt8)]++w35y0 N (w36y0 N z240)]) z247)
     (ck (w36p N z240) <|
     ck (w35p N (w36y0 N z240)) <|
     ck (decide ((1:Int)+(↑(w35y0 N (w36y0 N z240)).length:Int)<=(9223372036854775807:Int))) <|
     ck (lim (z246++[z241]++[[(102:UInt8)]++w35y0 N (w36y0 N z240)]).length (16:Nat)) <|
     self z234 z235 z236 z237 z238 (IntKind.i64.wrap (z239+1)) z242 z243 z244 z245 (z246++[z241]++[[(102:UInt8)]++w35y0 N (w36y0 N z240)]) z247)))
  (k0 x184_0 x184_1 x184_2 x184_6 x184_7 x184_8 x184_9 x184_10 x184_11)
def w22b2:Code:=atC [1,1,1,1,1,0,1,0,0,1,1,0,0,1,1,0,1,0,0] w22b
def w22m2:Nm:=⟨[3,6,28,29,30,8,9,35,36,37],[],[.nilR 9 (.row 9 .tx [] true)]⟩
def w22I2 (x:(List ((List Int)×(Int×Int)))×Int×Int×(List Int)×Int×Int×(List YF8)×(List Int)×Int×Int×(List YF8)×YF8):Sg:=⟨[(3,.own 0),(6,.ref 1 0),(28,.e (.sl (.pr (.sl (.i .i64)) (.pr (.i .i64) (.i .i64)))) x.1),(29,.e (.i .i64) x.2.1),(30,.e (.i .i64) x.2.2.1),(8,.ref 2 0),(9,.own 3),(35,.e (.sl (.i .i64)) x.2.2.2.1),(36,.e (.i .i64) x.2.2.2.2.1),(37,.e (.i .i64) x.2.2.2.2.2.1)],[(0,.row 9 .tx x.2.2.2.2.2.2.1 false),(1,.box 74 [.via 1 0,.own 4]),(2,.box 51 [.e (.sl (.i .i64)) x.2.2.2.2.2.2.2.1,.e (.i .i64) x.2.2.2.2.2.2.2.2.1,.e (.i .i64) x.2.2.2.2.2.2.2.2.2.1]),(3,.row 9 .tx x.2.2.2.2.2.2.2.2.2.2.1 true),(4,.row 5 .u8 x.2.2.2.2.2.2.2.2.2.2.2 true)],100⟩
def w22u2 (σ:Sg):(List ((List Int)×(Int×Int)))×Int×Int×(List Int)×Int×Int×(List YF8)×(List Int)×Int×Int×(List YF8)×YF8:=(lvT (.sl (.pr (.sl (.i .i64)) (.pr (.i .i64) (.i .i64)))) 28 0 σ,lvT (.i .i64) 29 0 σ,lvT (.i .i64) 30 0 σ,lvT (.sl (.i .i64)) 35 0 σ,lvT (.i .i64) 36 0 σ,lvT (.i .i64) 37 0 σ,lvR .tx 0 σ,lvH (.sl (.i .i64)) 2 0 σ,lvH (.i .i64) 2 1 σ,lvH (.i .i64) 2 2 σ,lvR .tx 3 σ,lvR .u8 4 σ)
theorem w22ui2:∀ x,w22u2 (w22I2 x)=x:=fun _=>by kernel_rfl
def w22X2_0 (y:(List ((List Int)×(Int×Int)))×Int×Int×(List YF8)×(List Int)×Int×Int×(List YF8)×YF8):Exit×Sg:=((.exit 4),⟨[(3,.own 0),(6,.ref 1 0),(28,.e (.sl (.pr (.sl (.i .i64)) (.pr (.i .i64) (.i .i64)))) y.1),(29,.e (.i .i64) y.2.1),(30,.e (.i .i64) y.2.2.1),(8,.ref 2 0),(9,.own 3)],[(0,.row 9 .tx y.2.2.2.1 false),(1,.box 74 [.via 1 0,.own 4]),(2,.box 51 [.e (.sl (.i .i64)) y.2.2.2.2.1,.e (.i .i64) y.2.2.2.2.2.1,.e (.i .i64) y.2.2.2.2.2.2.1]),(3,.row 9 .tx y.2.2.2.2.2.2.2.1 true),(4,.row 5 .u8 y.2.2.2.2.2.2.2.2 true)],100⟩)
def w22v2_0 (_:Exit) (σ:Sg):(List ((List Int)×(Int×Int)))×Int×Int×(List YF8)×(List Int)×Int×Int×(List YF8)×YF8:=(lvT (.sl (.pr (.sl (.i .i64)) (.pr (.i .i64) (.i .i64)))) 28 0 σ,lvT (.i .i64) 29 0 σ,lvT (.i .i64) 30 0 σ,lvR .tx 0 σ,lvH (.sl (.i .i64)) 2 0 σ,lvH (.i .i64) 2 1 σ,lvH (.i .i64) 2 2 σ,lvR .tx 3 σ,lvR .u8 4 σ)
def w22w2:List (Exit×Nm):=[((.exit 4),⟨[3,6,28,29,30,8,9],[],[]⟩)]
def w22l2 [Alg] (N:Nat):Nat->((List ((List Int)×(Int×Int)))×Int×Int×(List Int)×Int×Int×(List YF8)×(List Int)×Int×Int×(List YF8)×YF8)->(((List ((List Int)×(Int×Int)))×Int×Int×(List YF8)×(List Int)×Int×Int×(List YF8)×YF8)->O)->((Unit)->O)->((Unit)->O)->O
 | 0,_,_,_,_=>none
 | n+1,x,k0,k1,k2=>w22F2 N (w22n1 N) (fun v0 v1 v2 v3 v4 v5 v6 v7 v8 v9 v10 v11=>w22l2 N n (v0,v1,v2,v3,v4,v5,v6,v7,v8,v9,v10,v11) k0 k1 k2) (fun y0 y1 y2 y3 y4 y5 y6 y7 y8=>k0 (y0,y1,y2,y3,y4,y5,y6,y7,y8)) x.1 x.2.1 x.2.2.1 x.2.2.2.1 x.2.2.2.2.1 x.2.2.2.2.2.1 x.2.2.2.2.2.2.1 x.2.2.2.2.2.2.2.1 x.2.2.2.2.2.2.2.2.1 x.2.2.2.2.2.2.2.2.2.1 x.2.2.2.2.2.2.2.2.2.2.1 x.2.2.2.2.2.2.2.2.2.2.2
def w22n2 [Alg] N a0 a1 a2 a3 a4 a5 a6 a7 a8 a9 a10 a11 (k0:(List ((List Int)×(Int×Int)))->Int->Int->(List YF8)->(List Int)->Int->Int->(List YF8)->YF8->O):=w22l2 N N (a0,a1,a2,a3,a4,a5,a6,a7,a8,a9,a10,a11) (fun y=>k0 y.1 y.2.1 y.2.2.1 y.2.2.2.1 y.2.2.2.2.1 y.2.2.2.2.2.1 y.2.2.2.2.2.2.1 y.2.2.2.2.2.2.2.1 y.2.2.2.2.2.2.2.2) (fun _=>none) (fun _=>none)
def w22s2 [Alg] N a0 a1 a2 a3 a4 a5 a6 a7 a8 a9 a10 a11 (k0:(List ((List Int)×(Int×Int)))->Int->Int->(List YF8)->(List Int)->Int->Int->(List YF8)->YF8->O):=subL w22I2 w22u2 (w22l2 N N) (w22I2 (a0,a1,a2,a3,a4,a5,a6,a7,a8,a9,a10,a11)) (fun y=>k0 y.1 y.2.1 y.2.2.1 y.2.2.2.1 y.2.2.2.2.1 y.2.2.2.2.2.1 y.2.2.2.2.2.2.1 y.2.2.2.2.2.2.2.1 y.2.2.2.2.2.2.2.2) (fun _=>none) (fun _=>none)
theorem w22e2 [Alg] N:w22s2 N=w22n2 N:=funext fun _=>funext fun _=>funext fun _=>funext fun _=>funext fun _=>funext fun _=>funext fun _=>funext fun _=>funext fun _=>funext fun _=>funext fun _=>funext fun _=>funext fun _=>subL_I w22ui2 _ _ _ _
def w22h2 [Alg] (N:Nat):Hint:=(.seq .d (.seq .d (.seq (.block (.seq .d (.seq .d (.seq (.sub w22m1 _ _ _ w22X1_0 (noX 1) (noX 2) (subL w22I1 w22u1 (w22l1 N N))) .d)))) .d)))
theorem w22hk2 N (hc:CxOk (w22c N)):HintOk (w22c N) Tryd.f22.ntmps (w22h2 N) w22b2:=hk_of _ _ (And.intro trivial (And.intro trivial (And.intro (And.intro trivial (And.intro trivial (And.intro (w22S1 N hc) trivial))) trivial)))
theorem w22q2 [Alg] (N:Nat) (self:Sg->O) (K:Exit->Sg->O) (x:(List ((List Int)×(Int×Int)))×Int×Int×(List Int)×Int×Int×(List YF8)×(List Int)×Int×Int×(List YF8)×YF8):w22F2 N (w22s1 N) (fun v0 v1 v2 v3 v4 v5 v6 v7 v8 v9 v10 v11=>self (w22I2 (v0,v1,v2,v3,v4,v5,v6,v7,v8,v9,v10,v11))) (fun y0 y1 y2 y3 y4 y5 y6 y7 y8=>K (w22X2_0 (y0,y1,y2,y3,y4,y5,y6,y7,y8)).1 (w22X2_0 (y0,y1,y2,y3,y4,y5,y6,y7,y8)).2) x.1 x.2.1 x.2.2.1 x.2.2.2.1 x.2.2.2.2.1 x.2.2.2.2.2.1 x.2.2.2.2.2.2.1 x.2.2.2.2.2.2.2.1 x.2.2.2.2.2.2.2.2.1 x.2.2.2.2.2.2.2.2.2.1 x.2.2.2.2.2.2.2.2.2.2.1 x.2.2.2.2.2.2.2.2.2.2.2=exec (w22c N) Tryd.f22.ntmps (w22h2 N) w22b2 (w22I2 x) (roundX w22m2 w22w2 self K):=by kernel_rfl
theorem w22S2 N (hc:CxOk (w22c N)):SubOk (w22c N) Tryd.f22.ntmps (.loop w22b2) w22X2_0 (noX 1) (noX 2) (subL w22I2 w22u2 (w22l2 N N)):=
 sub_loop hc (w22hk2 N hc) (oK1 w22v2_0 (.exit 4) (fun _=>by kernel_rfl) (fun _=>rfl) (by kernel_rfl)) (n:=N) (fun x K=>loop_ind (w22l2 N) (fun _ _ _ _=>rfl) (fun n K ih x=>by
  refine Eq.trans ?_ (w22q2 N _ K x);simp only [w22e1 N,← ih];rfl) N x K)
def w22F3 [Alg] (_:Nat) (k0:(List ((List Int)×(Int×Int)))->Int->Int->(List YF8)->(List Int)->Int->Int->(List YF8)->YF8->O) (x257_0:(List ((List Int)×(Int×Int)))) (x257_1 x257_2:Int) (x257_3:(List YF8)) (x257_4:(List Int)) (x257_5 x257_6:Int) (x257_7:(List YF8)) (x257_8:YF8):O:=
 br (decide ((↑x257_7.length:Int)=(0:Int)))
  (ck (lim (x257_7++[lF8x0]).length (16:Nat)) <|
  k0 x257_0 x257_1 x257_2 x257_3 x257_4 x257_5 x257_6 (x257_7++[lF8x0]) x257_8)
  (k0 x257_0 x257_1 x257_2 x257_3 x257_4 x257_5 x257_6 x257_7 x257_8)
def w22b3:Code:=atC [1,1,1,1,1,0,1,0,0,1,1,0,0,1,1,1,0] w22b
def w22m3:Nm:=⟨[3,6,28,29,30,8,9],[],[]⟩
def w22I3 (x:(List ((List Int)×(Int×Int)))×Int×Int×(List YF8)×(List Int)×Int×Int×(List YF8)×YF8):Sg:=⟨[(3,.own 0),(6,.ref 1 0),(28,.e (.sl (.pr (.sl (.i .i64)) (.pr (.i .i64) (.i .i64)))) x.1),(29,.e (.i .i64) x.2.1),(30,.e (.i .i64) x.2.2.1),(8,.ref 2 0),(9,.own 3)],[(0,.row 9 .tx x.2.2.2.1 false),(1,.box 74 [.via 1 0,.own 4]),(2,.box 51 [.e (.sl (.i .i64)) x.2.2.2.2.1,.e (.i .i64) x.2.2.2.2.2.1,.e (.i .i64) x.2.2.2.2.2.2.1]),(3,.row 9 .tx x.2.2.2.2.2.2.2.1 true),(4,.row 5 .u8 x.2.2.2.2.2.2.2.2 true)],100⟩
def w22u3 (σ:Sg):(List ((List Int)×(Int×Int)))×Int×Int×(List YF8)×(List Int)×Int×Int×(List YF8)×YF8:=(lvT (.sl (.pr (.sl (.i .i64)) (.pr (.i .i64) (.i .i64)))) 28 0 σ,lvT (.i .i64) 29 0 σ,lvT (.i .i64) 30 0 σ,lvR .tx 0 σ,lvH (.sl (.i .i64)) 2 0 σ,lvH (.i .i64) 2 1 σ,lvH (.i .i64) 2 2 σ,lvR .tx 3 σ,lvR .u8 4 σ)
theorem w22ui3:∀ x,w22u3 (w22I3 x)=x:=fun _=>by kernel_rfl
def w22X3_0 (y:(List ((List Int)×(Int×Int)))×Int×Int×(List YF8)×(List Int)×Int×Int×(List YF8)×YF8):Exit×Sg:=(.normal,⟨[(3,.own 0),(6,.ref 1 0),(28,.e (.sl (.pr (.sl (.i .i64)) (.pr (.i .i64) (.i .i64)))) y.1),(29,.e (.i .i64) y.2.1),(30,.e (.i .i64) y.2.2.1),(8,.ref 2 0),(9,.own 3)],[(0,.row 9 .tx y.2.2.2.1 false),(1,.box 74 [.via 1 0,.own 4]),(2,.box 51 [.e (.sl (.i .i64)) y.2.2.2.2.1,.e (.i .i64) y.2.2.2.2.2.1,.e (.i .i64) y.2.2.2.2.2.2.1]),(3,.row 9 .tx y.2.2.2.2.2.2.2.1 true),(4,.row 5 .u8 y.2.2.2.2.2.2.2.2 true)],100⟩)
def w22v3_0 (_:Exit) (σ:Sg):(List ((List Int)×(Int×Int)))×Int×Int×(List YF8)×(List Int)×Int×Int×(List YF8)×YF8:=(lvT (.sl (.pr (.sl (.i .i64)) (.pr (.i .i64) (.i .i64)))) 28 0 σ,lvT (.i .i64) 29 0 σ,lvT (.i .i64) 30 0 σ,lvR .tx 0 σ,lvH (.sl (.i .i64)) 2 0 σ,lvH (.i .i64) 2 1 σ,lvH (.i .i64) 2 2 σ,lvR .tx 3 σ,lvR .u8 4 σ)
def w22w3:List (Exit×Nm):=[(.normal,⟨[3,6,28,29,30,8,9],[],[]⟩)]
def w22l3 [Alg] (N:Nat) (_:Nat) (x:(List ((List Int)×(Int×Int)))×Int×Int×(List YF8)×(List Int)×Int×Int×(List YF8)×YF8) (k0:((List ((List Int)×(Int×Int)))×Int×Int×(List YF8)×(List Int)×Int×Int×(List YF8)×YF8)->O) (_:(Unit)->O) (_:(Unit)->O):O:=w22F3 N (fun y0 y1 y2 y3 y4 y5 y6 y7 y8=>k0 (y0,y1,y2,y3,y4,y5,y6,y7,y8)) x.1 x.2.1 x.2.2.1 x.2.2.2.1 x.2.2.2.2.1 x.2.2.2.2.2.1 x.2.2.2.2.2.2.1 x.2.2.2.2.2.2.2.1 x.2.2.2.2.2.2.2.2
def w22n3 [Alg] N a0 a1 a2 a3 a4 a5 a6 a7 a8 (k0:(List ((List Int)×(Int×Int)))->Int->Int->(List YF8)->(List Int)->Int->Int->(List YF8)->YF8->O):=w22l3 N N (a0,a1,a2,a3,a4,a5,a6,a7,a8) (fun y=>k0 y.1 y.2.1 y.2.2.1 y.2.2.2.1 y.2.2.2.2.1 y.2.2.2.2.2.1 y.2.2.2.2.2.2.1 y.2.2.2.2.2.2.2.1 y.2.2.2.2.2.2.2.2) (fun _=>none) (fun _=>none)
def w22s3 [Alg] N a0 a1 a2 a3 a4 a5 a6 a7 a8 (k0:(List ((List Int)×(Int×Int)))->Int->Int->(List YF8)->(List Int)->Int->Int->(List YF8)->YF8->O):=subL w22I3 w22u3 (w22l3 N N) (w22I3 (a0,a1,a2,a3,a4,a5,a6,a7,a8)) (fun y=>k0 y.1 y.2.1 y.2.2.1 y.2.2.2.1 y.2.2.2.2.1 y.2.2.2.2.2.1 y.2.2.2.2.2.2.1 y.2.2.2.2.2.2.2.1 y.2.2.2.2.2.2.2.2) (fun _=>none) (fun _=>none)
theorem w22e3 [Alg] N:w22s3 N=w22n3 N:=funext fun _=>funext fun _=>funext fun _=>funext fun _=>funext fun _=>funext fun _=>funext fun _=>funext fun _=>funext fun _=>funext fun _=>subL_I w22ui3 _ _ _ _
theorem w22q3 [Alg] (N:Nat) (K:Exit->Sg->O) (x:(List ((List Int)×(Int×Int)))×Int×Int×(List YF8)×(List Int)×Int×Int×(List YF8)×YF8):w22F3 N (fun y0 y1 y2 y3 y4 y5 y6 y7 y8=>K (w22X3_0 (y0,y1,y2,y3,y4,y5,y6,y7,y8)).1 (w22X3_0 (y0,y1,y2,y3,y4,y5,y6,y7,y8)).2) x.1 x.2.1 x.2.2.1 x.2.2.2.1 x.2.2.2.2.1 x.2.2.2.2.2.1 x.2.2.2.2.2.2.1 x.2.2.2.2.2.2.2.1 x.2.2.2.2.2.2.2.2=exec (w22c N) Tryd.f22.ntmps .d w22b3 (w22I3 x) (partX w22w3 K):=by kernel_rfl
theorem w22S3 N (hc:CxOk (w22c N)):SubOk (w22c N) Tryd.f22.ntmps w22b3 w22X3_0 (noX 1) (noX 2) (subL w22I3 w22u3 (w22l3 N N)):=
 sub_part hc (hk_d w22b3) (oK1 w22v3_0 .normal (fun _=>by kernel_rfl) (fun _=>rfl) (by kernel_rfl)) (fun x K=>by
  exact w22q3 N K x)
def w22F4 [Alg] (N:Nat) (_in1:(List ((List Int)×(Int×Int)))->Int->Int->(List Int)->Int->Int->Int->Int->YF8->(List YF8)->(List Int)->Int->Int->(List YF8)->YF8->((List ((List Int)×(Int×Int)))->Int->Int->(List Int)->Int->Int->Int->YF8->(List YF8)->(List Int)->Int->Int->(List YF8)->YF8->O)->O) (in2:(List ((List Int)×(Int×Int)))->Int->Int->(List Int)->Int->Int->(List YF8)->(List Int)->Int->Int->(List YF8)->YF8->((List ((List Int)×(Int×Int)))->Int->Int->(List YF8)->(List Int)->Int->Int->(List YF8)->YF8->O)->O) (in3:(List ((List Int)×(Int×Int)))->Int->Int->(List YF8)->(List Int)->Int->Int->(List YF8)->YF8->((List ((List Int)×(Int×Int)))->Int->Int->(List YF8)->(List Int)->Int->Int->(List YF8)->YF8->O)->O) (self:(List ((List Int)×(Int×Int)))->Int->Int->(List YF8)->YF8->O) (k0:YF8->O) (x12_0:(List ((List Int)×(Int×Int)))) (x12_1 x12_2:Int) (x12_3:(List YF8)) (x12_4:YF8):O:=
 br (decide (x12_2 < x12_1))
  (gx x12_0 x12_2 fun y183=>
  in2 x12_0 x12_1 x12_2 y183.1 ((↑y183.1.length:Int)) 0 x12_3 y183.1 y183.2.1 y183.2.2 [] x12_4
   (fun z248 z249 z250 z251 z252 z253 z254 z255 z256=>
    in3 z248 z249 z250 z251 z252 z253 z254 z255 z256
     (fun z258 z259 z260 z261 _ z263 z264 z265 z266=>
      ck (decide ((0:Int)<=z263/\z263 < (↑z261.length:Int))) <|
      gn z261 z263.toNat fun y267=>
      ck (lim (z265++[y267]).length (16:Nat)) <|
      br (decide (z264 < 0))
       (ck (w35p N (IntKind.i64.wrap ((-1:Int) - z264))) <|
       ck (lim (z265++[y267]++[lF8x2,w35y0 N (IntKind.i64.wrap ((-1:Int) - z264))]).length (16:Nat)) <|
       ck (w38p N (z265++[y267]++[lF8x2,w35y0 N (IntKind.i64.wrap ((-1:Int) - z264))]) [(32:UInt8)]) <|
       ck (decide ((↑(w38y0 N (z265++[y267]++[lF8x2,w35y0 N (IntKind.i64.wrap ((-1:Int) - z264))]) [(32:UInt8)]).length:Int)+(1:Int)<=(9223372036854775807:Int))) <|
       ck (w37p N (w38y0 N (z265++[y267]++[lF8x2,w35y0 N (IntKind.i64.wrap ((-1:Int) - z264))]) [(32:UInt8)]++[(10:UInt8)]) z266) <|
       self z258 z259 (IntKind.i64.wrap (z260+1)) z261 (w37y1 N (w38y0 N (z265++[y267]++[lF8x2,w35y0 N (IntKind.i64.wrap ((-1:Int) - z264))]) [(32:UInt8)]++[(10:UInt8)]) z266))
       (ck (w35p N z264) <|
       ck (lim (z265++[y267]++[lF8x1,w35y0 N z264]).length (16:Nat)) <|
       ck (w38p N (z265++[y267]++[lF8x1,w35y0 N z264]) [(32:UInt8)]) <|
       ck (decide ((↑(w38y0 N (z265++[y267]++[lF8x1,w35y0 N z264]) [(32:UInt8)]).length:Int)+(1:Int)<=(9223372036854775807:Int))) <|
       ck (w37p N (w38y0 N (z265++[y267]++[lF8x1,w35y0 N z264]) [(32:UInt8)]++[(10:UInt8)]) z266) <|
       self z258 z259 (IntKind.i64.wrap (z260+1)) z261 (w37y1 N (w38y0 N (z265++[y267]++[lF8x1,w35y0 N z264]) [(32:UInt8)]++[(10:UInt8)]) z266)))))
  (k0 x12_4)
def w22b4:Code:=atC [1,1,1,1,1,0,1,0,0] w22b
def w22m4:Nm:=⟨[3,6,28,29,30],[],[]⟩
def w22I4 (x:(List ((List Int)×(Int×Int)))×Int×Int×(List YF8)×YF8):Sg:=⟨[(3,.own 0),(6,.ref 1 0),(28,.e (.sl (.pr (.sl (.i .i64)) (.pr (.i .i64) (.i .i64)))) x.1),(29,.e (.i .i64) x.2.1),(30,.e (.i .i64) x.2.2.1)],[(0,.row 9 .tx x.2.2.2.1 false),(1,.box 74 [.via 1 0,.own 2]),(2,.row 5 .u8 x.2.2.2.2 true)],100⟩
def w22u4 (σ:Sg):(List ((List Int)×(Int×Int)))×Int×Int×(List YF8)×YF8:=(lvT (.sl (.pr (.sl (.i .i64)) (.pr (.i .i64) (.i .i64)))) 28 0 σ,lvT (.i .i64) 29 0 σ,lvT (.i .i64) 30 0 σ,lvR .tx 0 σ,lvR .u8 2 σ)
theorem w22ui4:∀ x,w22u4 (w22I4 x)=x:=fun _=>by kernel_rfl
def w22X4_0 (y:YF8):Exit×Sg:=((.exit 2),⟨[(6,.ref 0 0)],[(0,.box 74 [.via 0 0,.own 1]),(1,.row 5 .u8 y true)],100⟩)
def w22v4_0 (_:Exit) (σ:Sg):YF8:=lvR .u8 1 σ
def w22w4:List (Exit×Nm):=[((.exit 2),⟨[6],[],[]⟩)]
def w22l4 [Alg] (N:Nat):Nat->((List ((List Int)×(Int×Int)))×Int×Int×(List YF8)×YF8)->((YF8)->O)->((Unit)->O)->((Unit)->O)->O
 | 0,_,_,_,_=>none
 | n+1,x,k0,k1,k2=>w22F4 N (w22n1 N) (w22n2 N) (w22n3 N) (fun v0 v1 v2 v3 v4=>w22l4 N n (v0,v1,v2,v3,v4) k0 k1 k2) (fun y0=>k0 y0) x.1 x.2.1 x.2.2.1 x.2.2.2.1 x.2.2.2.2
def w22n4 [Alg] N a0 a1 a2 a3 a4 (k0:YF8->O):=w22l4 N N (a0,a1,a2,a3,a4) (fun y=>k0 y) (fun _=>none) (fun _=>none)
def w22s4 [Alg] N a0 a1 a2 a3 a4 (k0:YF8->O):=subL w22I4 w22u4 (w22l4 N N) (w22I4 (a0,a1,a2,a3,a4)) (fun y=>k0 y) (fun _=>none) (fun _=>none)
theorem w22e4 [Alg] N:w22s4 N=w22n4 N:=funext fun _=>funext fun _=>funext fun _=>funext fun _=>funext fun _=>funext fun _=>subL_I w22ui4 _ _ _ _
def w22h4 [Alg] (N:Nat):Hint:=(.seq .d (.seq .d (.seq (.block (.seq .d (.seq .d (.seq (.seq .d (.block (.sub w22m2 _ _ _ w22X2_0 (noX 1) (noX 2) (subL w22I2 w22u2 (w22l2 N N))))) (.seq (.sub w22m3 _ _ _ w22X3_0 (noX 1) (noX 2) (subL w22I3 w22u3 (w22l3 N N))) .d))))) .d)))
theorem w22hk4 N (hc:CxOk (w22c N)):HintOk (w22c N) Tryd.f22.ntmps (w22h4 N) w22b4:=hk_of _ _ (And.intro trivial (And.intro trivial (And.intro (And.intro trivial (And.intro trivial (And.intro (And.intro trivial (w22S2 N hc)) (And.intro (w22S3 N hc) trivial)))) trivial)))
theorem w22q4 [Alg] (N:Nat) (self:Sg->O) (K:Exit->Sg->O) (x:(List ((List Int)×(Int×Int)))×Int×Int×(List YF8)×YF8):w22F4 N (w22s1 N) (w22s2 N) (w22s3 N) (fun v0 v1 v2 v3 v4=>self (w22I4 (v0,v1,v2,v3,v4))) (fun y0=>K (w22X4_0 y0).1 (w22X4_0 y0).2) x.1 x.2.1 x.2.2.1 x.2.2.2.1 x.2.2.2.2=exec (w22c N) Tryd.f22.ntmps (w22h4 N) w22b4 (w22I4 x) (roundX w22m4 w22w4 self K):=by kernel_rfl
theorem w22S4 N (hc:CxOk (w22c N)):SubOk (w22c N) Tryd.f22.ntmps (.loop w22b4) w22X4_0 (noX 1) (noX 2) (subL w22I4 w22u4 (w22l4 N N)):=
 sub_loop hc (w22hk4 N hc) (oK1 w22v4_0 (.exit 2) (fun _=>by kernel_rfl) (fun _=>rfl) (by kernel_rfl)) (n:=N) (fun x K=>loop_ind (w22l4 N) (fun _ _ _ _=>rfl) (fun n K ih x=>by
  refine Eq.trans ?_ (w22q4 N _ K x);simp only [w22e1 N,w22e2 N,w22e3 N,← ih];rfl) N x K)
def w22G [Alg] (N:Nat) (in0:(List ((List Int)×(Int×Int)))->(List YF8)->((List ((List Int)×(Int×Int)))->(List YF8)->O)->O) (_in1:(List ((List Int)×(Int×Int)))->Int->Int->(List Int)->Int->Int->Int->Int->YF8->(List YF8)->(List Int)->Int->Int->(List YF8)->YF8->((List ((List Int)×(Int×Int)))->Int->Int->(List Int)->Int->Int->Int->YF8->(List YF8)->(List Int)->Int->Int->(List YF8)->YF8->O)->O) (_in2:(List ((List Int)×(Int×Int)))->Int->Int->(List Int)->Int->Int->(List YF8)->(List Int)->Int->Int->(List YF8)->YF8->((List ((List Int)×(Int×Int)))->Int->Int->(List YF8)->(List Int)->Int->Int->(List YF8)->YF8->O)->O) (_in3:(List ((List Int)×(Int×Int)))->Int->Int->(List YF8)->(List Int)->Int->Int->(List YF8)->YF8->((List ((List Int)×(Int×Int)))->Int->Int->(List YF8)->(List Int)->Int->Int->(List YF8)->YF8->O)->O) (in4:(List ((List Int)×(Int×Int)))->Int->Int->(List YF8)->YF8->(YF8->O)->O) (l0:(List ((List Int)×(Int×Int)))):O:=
 ck (w29p N l0) <|
 br (decide (w29y0 N l0≠(0:Int)))
  (some (w22r0 []))
  (ck true <|
  ck true <|
  in0 l0 [[],[],[]]
   (fun z10 z11=>
    in4 z10 ((↑z10.length:Int)) 0 z11 []
     (fun z268=>
      ck (w39p N z268) <|
      some (w22r0 (w39y0 N z268)))))
def w22 [Alg] N l0:=w22G N (w22n0 N) (w22n1 N) (w22n2 N) (w22n3 N) (w22n4 N) l0
def w22h [Alg] (N:Nat):Hint:=(.seq .d (.seq .d (.seq .d (.seq (.sub w22m0 _ _ _ w22X0_0 (noX 1) (noX 2) (subL w22I0 w22u0 (w22l0 N N))) (.seq .d (.seq (.seq (.reg [] [.nilC 6 1 (.row 5 .u8 [] true)] []) (.block (.sub w22m4 _ _ _ w22X4_0 (noX 1) (noX 2) (subL w22I4 w22u4 (w22l4 N N))))) .d))))))
theorem w22hk N (hc:CxOk (w22c N)):HintOk (w22c N) Tryd.f22.ntmps (w22h N) w22b:=hk_of _ _ (And.intro trivial (And.intro trivial (And.intro trivial (And.intro (w22S0 N hc) (And.intro trivial (And.intro (And.intro trivial (w22S4 N hc)) trivial))))))
theorem w22q [Alg] N l0:w22G N (w22s0 N) (w22s1 N) (w22s2 N) (w22s3 N) (w22s4 N) l0=exec (w22c N) Tryd.f22.ntmps (w22h N) w22b ⟨argT 0 [.e (.sl (.pr (.sl (.i .i64)) (.pr (.i .i64) (.i .i64)))) l0],[],100⟩ (finX (w22c N) Tryd.f22 false):=by kernel_rfl
def w22un (r:Res):Option (YF8):=match r with
 | (x0,[])=>(match ue .tx x0 with | some a0=>some a0 | _=>none)
 | _=>none
theorem w22uo {r d} (h:w22un r=some d):r=w22r0 (d):=by
 unfold w22un at h;split at h
 ·split at h
  ·rename_i h0;cases h;rw [ue_some h0];rfl
  ·cases h
 ·cases h
def w22z N l0:=(w22 N l0).bind w22un
theorem w22fin {N} (hc:CxOk (w22c N)) {l0 d} (hd:w22z N l0=some d):DoK Tryd.prog 22 [.e (.sl (.pr (.sl (.i .i64)) (.pr (.i .i64) (.i .i64)))) l0] [] (w22r0 (d)):=
 finJ hc (by kernel_rfl) (by kernel_rfl) (w22hk N hc) (by kernel_rfl) w22uo (fun hr=>(w22q N l0).symm.trans (by rw [w22e0 N,w22e1 N,w22e2 N,w22e3 N,w22e4 N];exact hr)) hd
def w22p N l0:=(w22z N l0).isSome
def w22y0 N l0:=((w22z N l0).getD [])
def w22e (N:Nat):Ent':=E1 (.sl (.pr (.sl (.i .i64)) (.pr (.i .i64) (.i .i64)))) (fun x0=>(w22p N x0,w22r0 (w22y0 N x0)))
theorem w22ok N:EOk Tryd.prog 22 (w22e N):=EOk.e1 (fun x0 h=>okG (z:=w22z N x0) h (w22fin (w22cx N)) rfl)
end
end Go.Proofs
