/- What the law does. Conditions are in the theorems. -/
import Derived.Test.YtlhdefefoaldfaaDoorE7
import Derived.Test.YtlhdefefoaldfaaDoorProg
import Derived.KernelRfl
import Derived.Test.YtlhdefefoaldfaaDoorF0
import Derived.Test.YtlhdefefoaldfaaDoorF5
import Derived.Test.YtlhdefefoaldfaaDoorF2
import Derived.Test.YtlhdefefoaldfaaDoorF3
/- What functions do. -/
namespace Go.Proofs
noncomputable section
open Go.Ax Go.Ax.Alg Go.RowKit Go.Ab
open Go
def w5r0 (a0:Bool):Res:=(.e .bo a0,[])
noncomputable def w5L (N:Nat):List (Nat×Ent'):=[(19,l19e N),(12,w12e N),(14,w14e N),(20,w20e N),(16,w16e N),(18,w18e N)]
noncomputable def w5c (N:Nat):Cx:=⟨Tryd.prog,25,w5L N,[]⟩
noncomputable def w5b:Code:=Tryd.f5.body.getD .skip
theorem w5cx (N:Nat):CxOk (w5c N):=ctx_ok (by kernel_rfl) (.cons (by kernel_rfl) (l19ok N) (.cons (by kernel_rfl) (w12ok N) (.cons (by kernel_rfl) (w14ok N) (.cons (by kernel_rfl) (w20ok N) (.cons (by kernel_rfl) (w16ok N) (.cons (by kernel_rfl) (w18ok N) .nil)))))) .nil
def w5F0 [Alg] (_:Nat)   (k0:(List Int)→Bool→(List UInt8)→(List UInt8)→Int→Int→(List Ex)→O) (x21_0:(List Int)) (x21_1:Bool) (x21_2 x21_3:(List UInt8)) (x21_4 x21_5:Int) (x21_6:(List Ex)):O:=
 br (decide (x21_4=(10:Int)))
  (k0 x21_0 x21_1 x21_2 [(60:UInt8)] x21_4 x21_5 x21_6)
  (k0 x21_0 x21_1 x21_2 x21_3 x21_4 x21_5 x21_6)
noncomputable def w5b0:Code:=atC [1,1,1,1,0,1,0,1,1,0] w5b
def w5m0:Nm:=⟨[2,6,7,8,10],[],[]⟩
def w5I0 (x:(List Int)×Bool×(List UInt8)×(List UInt8)×Int×Int×(List Ex)):Sg:=⟨[(2,.e (.sl (.i .i64)) x.1),(6,.e .bo x.2.1),(7,.ref 0 0),(8,.e .tx x.2.2.1),(10,.e .tx x.2.2.2.1)],[(0,.box 25 [.e (.i .i64) x.2.2.2.2.1,.e (.i .i64) x.2.2.2.2.2.1,.e (.sl .ex) x.2.2.2.2.2.2])],100⟩
def w5u0 (σ:Sg):(List Int)×Bool×(List UInt8)×(List UInt8)×Int×Int×(List Ex):=(lvT (.sl (.i .i64)) 2 0 σ,lvT .bo 6 0 σ,lvT .tx 8 0 σ,lvT .tx 10 0 σ,lvH (.i .i64) 0 0 σ,lvH (.i .i64) 0 1 σ,lvH (.sl .ex) 0 2 σ)
theorem w5ui0:∀ x,w5u0 (w5I0 x)=x:=fun _=>by kernel_rfl
def w5X0_0 (y:(List Int)×Bool×(List UInt8)×(List UInt8)×Int×Int×(List Ex)):Exit×Sg:=(.normal,⟨[(2,.e (.sl (.i .i64)) y.1),(6,.e .bo y.2.1),(7,.ref 0 0),(8,.e .tx y.2.2.1),(10,.e .tx y.2.2.2.1)],[(0,.box 25 [.e (.i .i64) y.2.2.2.2.1,.e (.i .i64) y.2.2.2.2.2.1,.e (.sl .ex) y.2.2.2.2.2.2])],100⟩)
def w5v0_0 (_:Exit) (σ:Sg):(List Int)×Bool×(List UInt8)×(List UInt8)×Int×Int×(List Ex):=(lvT (.sl (.i .i64)) 2 0 σ,lvT .bo 6 0 σ,lvT .tx 8 0 σ,lvT .tx 10 0 σ,lvH (.i .i64) 0 0 σ,lvH (.i .i64) 0 1 σ,lvH (.sl .ex) 0 2 σ)
def w5w0:List (Exit×Nm):=[(.normal,⟨[2,6,7,8,10],[],[]⟩)]
theorem w5o0:Outs w5v0_0 (fun _ _=>()) (fun _ _=>()) w5X0_0 (noX 1) (noX 2) (exC .normal) (exC (.goto 1)) (exC (.goto 2)):=⟨fun _=>by kernel_rfl,fun _=>by kernel_rfl,fun _=>by kernel_rfl,fun _=>by kernel_rfl,fun _=>by kernel_rfl,fun _=>by kernel_rfl,exNe_ok (by kernel_rfl),exNe_ok (by kernel_rfl),exNe_ok (by kernel_rfl)⟩
def w5l0 [Alg] (N _:Nat) (x:(List Int)×Bool×(List UInt8)×(List UInt8)×Int×Int×(List Ex)) (k0:((List Int)×Bool×(List UInt8)×(List UInt8)×Int×Int×(List Ex))→O) (_:(Unit)→O) (_:(Unit)→O):O:=w5F0 N   (fun y0 y1 y2 y3 y4 y5 y6=>k0 (y0,y1,y2,y3,y4,y5,y6)) x.1 x.2.1 x.2.2.1 x.2.2.2.1 x.2.2.2.2.1 x.2.2.2.2.2.1 x.2.2.2.2.2.2
def w5n0 [Alg] (N:Nat) (a0:(List Int)) (a1:Bool) (a2 a3:(List UInt8)) (a4 a5:Int) (a6:(List Ex)) (k0:(List Int)→Bool→(List UInt8)→(List UInt8)→Int→Int→(List Ex)→O):O:=w5l0 N N (a0,a1,a2,a3,a4,a5,a6) (fun y=>k0 y.1 y.2.1 y.2.2.1 y.2.2.2.1 y.2.2.2.2.1 y.2.2.2.2.2.1 y.2.2.2.2.2.2) (fun _=>none) (fun _=>none)
noncomputable def w5s0 [Alg] (N:Nat) (a0:(List Int)) (a1:Bool) (a2 a3:(List UInt8)) (a4 a5:Int) (a6:(List Ex)) (k0:(List Int)→Bool→(List UInt8)→(List UInt8)→Int→Int→(List Ex)→O):O:=subL w5I0 w5u0 (w5l0 N N) (w5I0 (a0,a1,a2,a3,a4,a5,a6)) (fun y=>k0 y.1 y.2.1 y.2.2.1 y.2.2.2.1 y.2.2.2.2.1 y.2.2.2.2.2.1 y.2.2.2.2.2.2) (fun _=>none) (fun _=>none)
theorem w5e0 [Alg] (N:Nat):w5s0 N=w5n0 N:=funext fun _=>funext fun _=>funext fun _=>funext fun _=>funext fun _=>funext fun _=>funext fun _=>funext fun _=>subL_I w5ui0 _ _ _ _
noncomputable def w5h0 [Alg] (_:Nat):Hint:=.d
theorem w5hk0 (N:Nat):HintOk (w5c N) Tryd.f5.ntmps (w5h0 N) w5b0:=hk_of _ _ trivial
theorem w5q0 [Alg] (N:Nat) (K:Exit→Sg→O) (x:(List Int)×Bool×(List UInt8)×(List UInt8)×Int×Int×(List Ex)):w5F0 N   (fun y0 y1 y2 y3 y4 y5 y6=>K (w5X0_0 (y0,y1,y2,y3,y4,y5,y6)).1 (w5X0_0 (y0,y1,y2,y3,y4,y5,y6)).2) x.1 x.2.1 x.2.2.1 x.2.2.2.1 x.2.2.2.2.1 x.2.2.2.2.2.1 x.2.2.2.2.2.2=exec (w5c N) Tryd.f5.ntmps (w5h0 N) w5b0 (w5I0 x) (partX w5w0 K):=by kernel_rfl
theorem w5S0 (N:Nat) (hc:CxOk (w5c N)):SubOk (w5c N) Tryd.f5.ntmps w5b0 w5X0_0 (noX 1) (noX 2) (subL w5I0 w5u0 (w5l0 N N)):=
 sub_part hc (w5hk0 N) w5o0 (fun x K=>by
  have h:w5F0 N   (fun y0 y1 y2 y3 y4 y5 y6=>K (w5X0_0 (y0,y1,y2,y3,y4,y5,y6)).1 (w5X0_0 (y0,y1,y2,y3,y4,y5,y6)).2) x.1 x.2.1 x.2.2.1 x.2.2.2.1 x.2.2.2.2.1 x.2.2.2.2.2.1 x.2.2.2.2.2.2=w5F0 N   (fun y0 y1 y2 y3 y4 y5 y6=>K (w5X0_0 (y0,y1,y2,y3,y4,y5,y6)).1 (w5X0_0 (y0,y1,y2,y3,y4,y5,y6)).2) x.1 x.2.1 x.2.2.1 x.2.2.2.1 x.2.2.2.2.1 x.2.2.2.2.2.1 x.2.2.2.2.2.2:=by rfl
  exact h.trans (w5q0 N K x))
def w5F1 [Alg] (N:Nat) (in0:(List Int)→Bool→(List UInt8)→(List UInt8)→Int→Int→(List Ex)→((List Int)→Bool→(List UInt8)→(List UInt8)→Int→Int→(List Ex)→O)→O)  (k0:Bool→O) (k1:(List Int)→Bool→(List UInt8)→(List UInt8)→Int→Int→(List Ex)→O) (x0_0:(List Int)) (x0_1:Bool) (x0_2 x0_3:(List UInt8)) (x0_4 x0_5:Int) (x0_6:(List Ex)):O:=
 br (decide (x0_4=(9:Int))||decide (x0_4=(10:Int)))
  (br (decide ((↑x0_6.length:Int)≠(2:Int)))
   (k0 false)
   (in0 x0_0 x0_1 x0_2 [(61:UInt8)] x0_4 x0_5 x0_6
    (fun z22 z23 z24 z25 z26 z27 z28=>
     gx z28 ((0:Int)) fun y29=>
     ck (w14p N y29.op y29.num y29.kids) <|
     ck (decide ((1:Int)+(↑(w14y0 N y29.op y29.num y29.kids).length:Int)≤(9223372036854775807:Int))) <|
     ck (decide ((↑([(40:UInt8)]++w14y0 N y29.op y29.num y29.kids).length:Int)+(1:Int)≤(9223372036854775807:Int))) <|
     ck (decide ((↑([(40:UInt8)]++w14y0 N y29.op y29.num y29.kids++[(41:UInt8)]).length:Int)+(↑z25.length:Int)≤(9223372036854775807:Int))) <|
     ck (decide ((↑([(40:UInt8)]++w14y0 N y29.op y29.num y29.kids++[(41:UInt8)]++z25).length:Int)+(2:Int)≤(9223372036854775807:Int))) <|
     gx z28 ((1:Int)) fun y30=>
     ck (w14p N y30.op y30.num y30.kids) <|
     ck (decide ((↑([(40:UInt8)]++w14y0 N y29.op y29.num y29.kids++[(41:UInt8)]++z25++[(40:UInt8),(40:UInt8)]).length:Int)+(↑(w14y0 N y30.op y30.num y30.kids).length:Int)≤(9223372036854775807:Int))) <|
     ck (decide ((↑([(40:UInt8)]++w14y0 N y29.op y29.num y29.kids++[(41:UInt8)]++z25++[(40:UInt8),(40:UInt8)]++w14y0 N y30.op y30.num y30.kids).length:Int)+(2:Int)≤(9223372036854775807:Int))) <|
     k1 z22 z23 z24 ([(40:UInt8)]++w14y0 N y29.op y29.num y29.kids++[(41:UInt8)]++z25++[(40:UInt8),(40:UInt8)]++w14y0 N y30.op y30.num y30.kids++[(41:UInt8),(41:UInt8)]) z26 z27 z28)))
  (k1 x0_0 x0_1 x0_2 x0_3 x0_4 x0_5 x0_6)
noncomputable def w5b1:Code:=atC [1,1,1,1,0] w5b
def w5m1:Nm:=⟨[2,6,7,8,9],[],[]⟩
def w5I1 (x:(List Int)×Bool×(List UInt8)×(List UInt8)×Int×Int×(List Ex)):Sg:=⟨[(2,.e (.sl (.i .i64)) x.1),(6,.e .bo x.2.1),(7,.ref 0 0),(8,.e .tx x.2.2.1),(9,.e .tx x.2.2.2.1)],[(0,.box 25 [.e (.i .i64) x.2.2.2.2.1,.e (.i .i64) x.2.2.2.2.2.1,.e (.sl .ex) x.2.2.2.2.2.2])],100⟩
def w5u1 (σ:Sg):(List Int)×Bool×(List UInt8)×(List UInt8)×Int×Int×(List Ex):=(lvT (.sl (.i .i64)) 2 0 σ,lvT .bo 6 0 σ,lvT .tx 8 0 σ,lvT .tx 9 0 σ,lvH (.i .i64) 0 0 σ,lvH (.i .i64) 0 1 σ,lvH (.sl .ex) 0 2 σ)
theorem w5ui1:∀ x,w5u1 (w5I1 x)=x:=fun _=>by kernel_rfl
def w5X1_0 (y:Bool):Exit×Sg:=(.ret,⟨[(6,.e .bo y)],[],100⟩)
def w5v1_0 (_:Exit) (σ:Sg):Bool:=lvT .bo 6 0 σ
def w5X1_1 (y:(List Int)×Bool×(List UInt8)×(List UInt8)×Int×Int×(List Ex)):Exit×Sg:=(.normal,⟨[(2,.e (.sl (.i .i64)) y.1),(6,.e .bo y.2.1),(7,.ref 0 0),(8,.e .tx y.2.2.1),(9,.e .tx y.2.2.2.1)],[(0,.box 25 [.e (.i .i64) y.2.2.2.2.1,.e (.i .i64) y.2.2.2.2.2.1,.e (.sl .ex) y.2.2.2.2.2.2])],100⟩)
def w5v1_1 (_:Exit) (σ:Sg):(List Int)×Bool×(List UInt8)×(List UInt8)×Int×Int×(List Ex):=(lvT (.sl (.i .i64)) 2 0 σ,lvT .bo 6 0 σ,lvT .tx 8 0 σ,lvT .tx 9 0 σ,lvH (.i .i64) 0 0 σ,lvH (.i .i64) 0 1 σ,lvH (.sl .ex) 0 2 σ)
def w5w1:List (Exit×Nm):=[(.ret,⟨[6],[],[]⟩),(.normal,⟨[2,6,7,8,9],[],[]⟩)]
theorem w5o1:Outs w5v1_0 w5v1_1 (fun _ _=>()) w5X1_0 w5X1_1 (noX 2) (exC .ret) (exC .normal) (exC (.goto 2)):=⟨fun _=>by kernel_rfl,fun _=>by kernel_rfl,fun _=>by kernel_rfl,fun _=>by kernel_rfl,fun _=>by kernel_rfl,fun _=>by kernel_rfl,exNe_ok (by kernel_rfl),exNe_ok (by kernel_rfl),exNe_ok (by kernel_rfl)⟩
def w5l1 [Alg] (N _:Nat) (x:(List Int)×Bool×(List UInt8)×(List UInt8)×Int×Int×(List Ex)) (k0:(Bool)→O) (k1:((List Int)×Bool×(List UInt8)×(List UInt8)×Int×Int×(List Ex))→O) (_:(Unit)→O):O:=w5F1 N (w5n0 N)  (fun y0=>k0 y0) (fun y0 y1 y2 y3 y4 y5 y6=>k1 (y0,y1,y2,y3,y4,y5,y6)) x.1 x.2.1 x.2.2.1 x.2.2.2.1 x.2.2.2.2.1 x.2.2.2.2.2.1 x.2.2.2.2.2.2
def w5n1 [Alg] (N:Nat) (a0:(List Int)) (a1:Bool) (a2 a3:(List UInt8)) (a4 a5:Int) (a6:(List Ex)) (k0:Bool→O) (k1:(List Int)→Bool→(List UInt8)→(List UInt8)→Int→Int→(List Ex)→O):O:=w5l1 N N (a0,a1,a2,a3,a4,a5,a6) (fun y=>k0 y) (fun y=>k1 y.1 y.2.1 y.2.2.1 y.2.2.2.1 y.2.2.2.2.1 y.2.2.2.2.2.1 y.2.2.2.2.2.2) (fun _=>none)
noncomputable def w5s1 [Alg] (N:Nat) (a0:(List Int)) (a1:Bool) (a2 a3:(List UInt8)) (a4 a5:Int) (a6:(List Ex)) (k0:Bool→O) (k1:(List Int)→Bool→(List UInt8)→(List UInt8)→Int→Int→(List Ex)→O):O:=subL w5I1 w5u1 (w5l1 N N) (w5I1 (a0,a1,a2,a3,a4,a5,a6)) (fun y=>k0 y) (fun y=>k1 y.1 y.2.1 y.2.2.1 y.2.2.2.1 y.2.2.2.2.1 y.2.2.2.2.2.1 y.2.2.2.2.2.2) (fun _=>none)
theorem w5e1 [Alg] (N:Nat):w5s1 N=w5n1 N:=funext fun _=>funext fun _=>funext fun _=>funext fun _=>funext fun _=>funext fun _=>funext fun _=>funext fun _=>funext fun _=>subL_I w5ui1 _ _ _ _
noncomputable def w5h1 [Alg] (N:Nat):Hint:=(.seq .d (.cond (.seq .d (.seq .d (.seq (.sub w5m0 _ _ _ w5X0_0 (noX 1) (noX 2) (subL w5I0 w5u0 (w5l0 N N))) .d))) .d))
theorem w5hk1 (N:Nat) (hc:CxOk (w5c N)):HintOk (w5c N) Tryd.f5.ntmps (w5h1 N) w5b1:=hk_of _ _ (And.intro trivial (And.intro (And.intro trivial (And.intro trivial (And.intro (w5S0 N hc) trivial))) trivial))
theorem w5q1 [Alg] (N:Nat) (K:Exit→Sg→O) (x:(List Int)×Bool×(List UInt8)×(List UInt8)×Int×Int×(List Ex)):w5F1 N (w5s0 N)  (fun y0=>K (w5X1_0 y0).1 (w5X1_0 y0).2) (fun y0 y1 y2 y3 y4 y5 y6=>K (w5X1_1 (y0,y1,y2,y3,y4,y5,y6)).1 (w5X1_1 (y0,y1,y2,y3,y4,y5,y6)).2) x.1 x.2.1 x.2.2.1 x.2.2.2.1 x.2.2.2.2.1 x.2.2.2.2.2.1 x.2.2.2.2.2.2=exec (w5c N) Tryd.f5.ntmps (w5h1 N) w5b1 (w5I1 x) (partX w5w1 K):=by kernel_rfl
theorem w5S1 (N:Nat) (hc:CxOk (w5c N)):SubOk (w5c N) Tryd.f5.ntmps w5b1 w5X1_0 w5X1_1 (noX 2) (subL w5I1 w5u1 (w5l1 N N)):=
 sub_part hc (w5hk1 N hc) w5o1 (fun x K=>by
  have h:w5F1 N (w5n0 N)  (fun y0=>K (w5X1_0 y0).1 (w5X1_0 y0).2) (fun y0 y1 y2 y3 y4 y5 y6=>K (w5X1_1 (y0,y1,y2,y3,y4,y5,y6)).1 (w5X1_1 (y0,y1,y2,y3,y4,y5,y6)).2) x.1 x.2.1 x.2.2.1 x.2.2.2.1 x.2.2.2.2.1 x.2.2.2.2.2.1 x.2.2.2.2.2.2=w5F1 N (w5s0 N)  (fun y0=>K (w5X1_0 y0).1 (w5X1_0 y0).2) (fun y0 y1 y2 y3 y4 y5 y6=>K (w5X1_1 (y0,y1,y2,y3,y4,y5,y6)).1 (w5X1_1 (y0,y1,y2,y3,y4,y5,y6)).2) x.1 x.2.1 x.2.2.1 x.2.2.2.1 x.2.2.2.2.1 x.2.2.2.2.2.1 x.2.2.2.2.2.2:=by rw [w5e0 N]
  exact h.trans (w5q1 N K x))
def w5F2 [Alg] (N:Nat)  (self:Int→O) (k0:Bool→O) (k1:Unit→O) (_x39_0:(List Int)) (_x39_1:Bool) (x39_3 x39_4:Int) (x39_5:(List Ex)) (x39_6:(List (List UInt8))) (x39_2:Int):O:=
 br (decide (x39_2 < (3:Int)))
  (gx x39_6 x39_2 fun y42=>
  ck (w16p N y42) <|
  ck (!!(decide (w16y4 N y42≠(0:Int))||decide (w16y3 N y42≠(0:Int)))||w18p N (w16y0 N y42) (w16y1 N y42) (w16y2 N y42) x39_3 x39_4 x39_5) <|
  br (decide (w16y4 N y42≠(0:Int))||decide (w16y3 N y42≠(0:Int))||!w18y0 N (w16y0 N y42) (w16y1 N y42) (w16y2 N y42) x39_3 x39_4 x39_5)
   (k0 false)
   (self (IntKind.i64.wrap (x39_2+(1:Int)))))
  (k1 ())
noncomputable def w5b2:Code:=atC [1,1,1,1,1,1,0,1,0,0] w5b
def w5m2:Nm:=⟨[2,6,7,11,12],[],[]⟩
def w5I2 (x:(List Int)×Bool×Int×Int×Int×(List Ex)×(List (List UInt8))):Sg:=⟨[(2,.e (.sl (.i .i64)) x.1),(6,.e .bo x.2.1),(7,.ref 0 0),(11,.own 1),(12,.e (.i .i64) x.2.2.1)],[(0,.box 25 [.e (.i .i64) x.2.2.2.1,.e (.i .i64) x.2.2.2.2.1,.e (.sl .ex) x.2.2.2.2.2.1]),(1,.row 9 .tx x.2.2.2.2.2.2 true)],100⟩
def w5u2 (σ:Sg):(List Int)×Bool×Int×Int×Int×(List Ex)×(List (List UInt8)):=(lvT (.sl (.i .i64)) 2 0 σ,lvT .bo 6 0 σ,lvT (.i .i64) 12 0 σ,lvH (.i .i64) 0 0 σ,lvH (.i .i64) 0 1 σ,lvH (.sl .ex) 0 2 σ,lvR .tx 1 σ)
theorem w5ui2:∀ x,w5u2 (w5I2 x)=x:=fun _=>by kernel_rfl
def w5X2_0 (y:Bool):Exit×Sg:=(.ret,⟨[(6,.e .bo y)],[],100⟩)
def w5v2_0 (_:Exit) (σ:Sg):Bool:=lvT .bo 6 0 σ
def w5X2_1 (_:Unit):Exit×Sg:=((.exit 0),⟨[],[],100⟩)
def w5v2_1 (_:Exit) (_:Sg):Unit:=()
def w5w2:List (Exit×Nm):=[(.ret,⟨[6],[],[]⟩),((.exit 0),⟨[],[],[]⟩)]
theorem w5o2:Outs w5v2_0 w5v2_1 (fun _ _=>()) w5X2_0 w5X2_1 (noX 2) (exC .ret) (exC (.exit 0)) (exC (.goto 2)):=⟨fun _=>by kernel_rfl,fun _=>by kernel_rfl,fun _=>by kernel_rfl,fun _=>by kernel_rfl,fun _=>by kernel_rfl,fun _=>by kernel_rfl,exNe_ok (by kernel_rfl),exNe_ok (by kernel_rfl),exNe_ok (by kernel_rfl)⟩
def w5l2 [Alg] (N:Nat):Nat→((List Int)×Bool×Int×Int×Int×(List Ex)×(List (List UInt8)))→((Bool)→O)→((Unit)→O)→((Unit)→O)→O
 | 0,_,_,_,_=>none
 | n+1,x,k0,k1,k2=>w5F2 N  (fun v0=>w5l2 N n (x.1,x.2.1,v0,x.2.2.2.1,x.2.2.2.2.1,x.2.2.2.2.2.1,x.2.2.2.2.2.2) k0 k1 k2) (fun y0=>k0 y0) (fun (_:Unit)=>k1 ()) x.1 x.2.1 x.2.2.2.1 x.2.2.2.2.1 x.2.2.2.2.2.1 x.2.2.2.2.2.2 x.2.2.1
def w5n2 [Alg] (N:Nat) (a0:(List Int)) (a1:Bool) (a2 a3 a4:Int) (a5:(List Ex)) (a6:(List (List UInt8))) (k0:Bool→O) (k1:Unit→O):O:=w5l2 N N (a0,a1,a2,a3,a4,a5,a6) (fun y=>k0 y) (fun y=>k1 y) (fun _=>none)
noncomputable def w5s2 [Alg] (N:Nat) (a0:(List Int)) (a1:Bool) (a2 a3 a4:Int) (a5:(List Ex)) (a6:(List (List UInt8))) (k0:Bool→O) (k1:Unit→O):O:=subL w5I2 w5u2 (w5l2 N N) (w5I2 (a0,a1,a2,a3,a4,a5,a6)) (fun y=>k0 y) (fun y=>k1 y) (fun _=>none)
theorem w5e2 [Alg] (N:Nat):w5s2 N=w5n2 N:=funext fun _=>funext fun _=>funext fun _=>funext fun _=>funext fun _=>funext fun _=>funext fun _=>funext fun _=>funext fun _=>subL_I w5ui2 _ _ _ _
noncomputable def w5h2 [Alg] (_:Nat):Hint:=.d
theorem w5hk2 (N:Nat):HintOk (w5c N) Tryd.f5.ntmps (w5h2 N) w5b2:=hk_of _ _ trivial
theorem w5q2 [Alg] (N:Nat) (self:Sg→O) (K:Exit→Sg→O) (x:(List Int)×Bool×Int×Int×Int×(List Ex)×(List (List UInt8))):w5F2 N  (fun v0=>self (w5I2 (x.1,x.2.1,v0,x.2.2.2.1,x.2.2.2.2.1,x.2.2.2.2.2.1,x.2.2.2.2.2.2))) (fun y0=>K (w5X2_0 y0).1 (w5X2_0 y0).2) (fun (_:Unit)=>K (w5X2_1 ()).1 (w5X2_1 ()).2) x.1 x.2.1 x.2.2.2.1 x.2.2.2.2.1 x.2.2.2.2.2.1 x.2.2.2.2.2.2 x.2.2.1=exec (w5c N) Tryd.f5.ntmps (w5h2 N) w5b2 (w5I2 x) (roundX w5m2 w5w2 self K):=by kernel_rfl
theorem w5S2 (N:Nat) (hc:CxOk (w5c N)):SubOk (w5c N) Tryd.f5.ntmps (.loop w5b2) w5X2_0 w5X2_1 (noX 2) (subL w5I2 w5u2 (w5l2 N N)):=
 sub_loop hc (w5hk2 N) w5o2 (n:=N) (fun x K=>loop_ind (w5l2 N) (fun _ _ _ _=>rfl) (fun n K ih x=>by
  have h:w5F2 N  (fun v0=>w5l2 N n (x.1,x.2.1,v0,x.2.2.2.1,x.2.2.2.2.1,x.2.2.2.2.2.1,x.2.2.2.2.2.2) (fun y=>K (w5X2_0 y).1 (w5X2_0 y).2) (fun y=>K (w5X2_1 y).1 (w5X2_1 y).2) (fun y=>K ((noX 2) y).1 ((noX 2) y).2)) (fun y0=>K (w5X2_0 y0).1 (w5X2_0 y0).2) (fun (_:Unit)=>K (w5X2_1 ()).1 (w5X2_1 ()).2) x.1 x.2.1 x.2.2.2.1 x.2.2.2.2.1 x.2.2.2.2.2.1 x.2.2.2.2.2.2 x.2.2.1=w5F2 N  (fun v0=>loopX (w5c N) Tryd.f5.ntmps (w5h2 N) w5b2 w5m2 w5w2 n (w5I2 (x.1,x.2.1,v0,x.2.2.2.1,x.2.2.2.2.1,x.2.2.2.2.2.1,x.2.2.2.2.2.2)) K) (fun y0=>K (w5X2_0 y0).1 (w5X2_0 y0).2) (fun (_:Unit)=>K (w5X2_1 ()).1 (w5X2_1 ()).2) x.1 x.2.1 x.2.2.2.1 x.2.2.2.2.1 x.2.2.2.2.2.1 x.2.2.2.2.2.2 x.2.2.1:=by rw [ show (fun v0=>w5l2 N n (x.1,x.2.1,v0,x.2.2.2.1,x.2.2.2.2.1,x.2.2.2.2.2.1,x.2.2.2.2.2.2) (fun y=>K (w5X2_0 y).1 (w5X2_0 y).2) (fun y=>K (w5X2_1 y).1 (w5X2_1 y).2) (fun y=>K ((noX 2) y).1 ((noX 2) y).2))=(fun v0=>loopX (w5c N) Tryd.f5.ntmps (w5h2 N) w5b2 w5m2 w5w2 n (w5I2 (x.1,x.2.1,v0,x.2.2.2.1,x.2.2.2.2.1,x.2.2.2.2.2.1,x.2.2.2.2.2.2)) K) from funext fun _=>ih _]
  exact h.trans (w5q2 N (fun σ=>loopX (w5c N) Tryd.f5.ntmps (w5h2 N) w5b2 w5m2 w5w2 n σ K) K x)) N x K)
def w5G [Alg] (N:Nat) (_in0:(List Int)→Bool→(List UInt8)→(List UInt8)→Int→Int→(List Ex)→((List Int)→Bool→(List UInt8)→(List UInt8)→Int→Int→(List Ex)→O)→O) (in1:(List Int)→Bool→(List UInt8)→(List UInt8)→Int→Int→(List Ex)→(Bool→O)→((List Int)→Bool→(List UInt8)→(List UInt8)→Int→Int→(List Ex)→O)→O) (in2:(List Int)→Bool→Int→Int→Int→(List Ex)→(List (List UInt8))→(Bool→O)→(Unit→O)→O) (l0:(List Int)) (depth1:Int) (m2:(List Int)):O:=
 ck (w12p N l0 depth1) <|
 ck (w14p N (w12y0 N l0 depth1) (w12y1 N l0 depth1) (w12y2 N l0 depth1)) <|
 ck (decide ((1:Int)+(↑(w14y0 N (w12y0 N l0 depth1) (w12y1 N l0 depth1) (w12y2 N l0 depth1)).length:Int)≤(9223372036854775807:Int))) <|
 ck (decide ((↑([(40:UInt8)]++w14y0 N (w12y0 N l0 depth1) (w12y1 N l0 depth1) (w12y2 N l0 depth1)).length:Int)+(1:Int)≤(9223372036854775807:Int))) <|
 in1 m2 false (w14y0 N (w12y0 N l0 depth1) (w12y1 N l0 depth1) (w12y2 N l0 depth1)) ([(40:UInt8)]++w14y0 N (w12y0 N l0 depth1) (w12y1 N l0 depth1) (w12y2 N l0 depth1)++[(41:UInt8)]) (w12y0 N l0 depth1) (w12y1 N l0 depth1) (w12y2 N l0 depth1)
  (fun z31=>
   some (w5r0 z31))
  (fun z32 z33 z34 z35 z36 z37 z38=>
   ck (w20p N z34 z32) <|
   ck (w20p N z35 z32) <|
   ck (decide ((1:Int)+(↑(w20y0 N z35 z32).length:Int)≤(9223372036854775807:Int))) <|
   ck (decide ((↑([(32:UInt8)]++w20y0 N z35 z32).length:Int)+(2:Int)≤(9223372036854775807:Int))) <|
   in2 z32 z33 ((0:Int)) z36 z37 z38 ([w20y0 N z34 z32,z35,[(32:UInt8)]++w20y0 N z35 z32++[(32:UInt8),(32:UInt8)]])
    (fun z43=>
     some (w5r0 z43))
    (fun (_:Unit)=>
     ck true <|
     some (w5r0 true)))
def w5 [Alg] (N:Nat) (l0:(List Int)) (depth1:Int) (m2:(List Int)):O:=w5G N (w5n0 N) (w5n1 N) (w5n2 N) l0 depth1 m2
noncomputable def w5h [Alg] (N:Nat):Hint:=(.seq .d (.seq .d (.seq .d (.seq .d (.seq (.sub w5m1 _ _ _ w5X1_0 w5X1_1 (noX 2) (subL w5I1 w5u1 (w5l1 N N))) (.seq .d (.seq (.seq .d (.block (.sub w5m2 _ _ _ w5X2_0 w5X2_1 (noX 2) (subL w5I2 w5u2 (w5l2 N N))))) .d)))))))
theorem w5hk (N:Nat) (hc:CxOk (w5c N)):HintOk (w5c N) Tryd.f5.ntmps (w5h N) w5b:=hk_of _ _ (And.intro trivial (And.intro trivial (And.intro trivial (And.intro trivial (And.intro (w5S1 N hc) (And.intro trivial (And.intro (And.intro trivial (w5S2 N hc)) trivial)))))))
theorem w5q [Alg] (N:Nat) (l0:(List Int)) (depth1:Int) (m2:(List Int)):w5G N (w5s0 N) (w5s1 N) (w5s2 N) l0 depth1 m2=exec (w5c N) Tryd.f5.ntmps (w5h N) w5b ⟨argT 0 [.e (.sl (.i .i64)) l0,.e (.i .i64) depth1,.e (.sl (.i .i64)) m2],[],100⟩ (finX (w5c N) Tryd.f5 false):=by kernel_rfl
theorem w5does {N:Nat} (hc:CxOk (w5c N)) {l0:(List Int)} {depth1:Int} {m2:(List Int)} {r:Res} (h:w5 N l0 depth1 m2=some r):DoesR Tryd.prog 5 (([.e (.sl (.i .i64)) l0,.e (.i .i64) depth1,.e (.sl (.i .i64)) m2]:List X).map X.D) (HA []) r:=
 fun_ok hc (f:=5) (fn:=Tryd.f5) (code:=w5b) (by kernel_rfl) (by kernel_rfl) (w5hk N hc) (Nat.le_of_ble_eq_true (by kernel_rfl)) (ow:=false) ((w5q N l0 depth1 m2).symm.trans (by rw [w5e0 N,w5e1 N,w5e2 N];exact h))
def w5un (r:Res):Option (Bool):=match r with
 | (x0,[])=>(match ue .bo x0 with | some a0=>some a0 | _=>none)
 | _=>none
theorem w5uo {r:Res} {d:Bool} (h:w5un r=some d):r=w5r0 (d):=by
 unfold w5un at h
 split at h
 ·split at h
  ·rename_i h0;cases h;rw [ue_some h0];rfl
  ·cases h
 ·cases h
def w5z (N:Nat) (l0:(List Int)) (depth1:Int) (m2:(List Int)):Option (Bool):=(w5 N l0 depth1 m2).bind w5un
theorem w5fin {N:Nat} (hc:CxOk (w5c N)) {l0:(List Int)} {depth1:Int} {m2:(List Int)} {d:Bool} (hd:w5z N l0 depth1 m2=some d):Does Tryd.prog 5 (([.e (.sl (.i .i64)) l0,.e (.i .i64) depth1,.e (.sl (.i .i64)) m2]:List X).map X.D) (HA []) (w5r0 (d)).1.D (HA (w5r0 (d)).2):=by
 obtain ⟨r,hr,hu⟩:=Option.bind_eq_some_iff.1 hd
 have:=w5does hc hr
 rw [w5uo hu] at this
 exact this
end
end Go.Proofs
