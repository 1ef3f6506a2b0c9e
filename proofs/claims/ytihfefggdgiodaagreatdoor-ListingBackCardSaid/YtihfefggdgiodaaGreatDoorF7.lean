/- What the law does. Conditions are in the theorems. -/
import Derived.Test.YtihfefggdgiodaaGreatDoorE7
import Derived.Test.YtihfefggdgiodaaGreatDoorProg
import Derived.KernelRfl
import Derived.Test.YtihfefggdgiodaaGreatDoorG2
/- What functions do. -/
namespace Go.Proofs
noncomputable section
open Go.Ax Go.Ax.Alg Go.RowKit Go.Ab
abbrev YF7:=List UInt8
open Go
end
end Go.Proofs
/- What functions do. -/
namespace Go.Proofs
noncomputable section
open Go.Ax Go.Ax.Alg Go.RowKit Go.Ab
open Go
end
end Go.Proofs
/- What functions do. -/
namespace Go.Proofs
noncomputable section
open Go.Ax Go.Ax.Alg Go.RowKit Go.Ab
open Go
def w8r0 (a0:Bool):Res:=(.e .bo a0,[])
def w8c (N:Nat):Cx:=⟨Tryz.prog,99999,[(17,l17e N),(18,w18e N),(14,w14e N),(19,w19e N),(26,w26e N),(28,w28e N),(31,w31e N),(10,w10e N),(15,w15e N),(12,w12e N)],[]⟩
def w8b:Code:=Tryz.f8.body.getD .skip
theorem w8cx N:CxOk (w8c N):=ctx_ok (by kernel_rfl) (.cons (by kernel_rfl) (l17ok N) (.cons (by kernel_rfl) (w18ok N) (.cons (by kernel_rfl) (w14ok N) (.cons (by kernel_rfl) (w19ok N) (.cons (by kernel_rfl) (w26ok N) (.cons (by kernel_rfl) (w28ok N) (.cons (by kernel_rfl) (w31ok N) (.cons (by kernel_rfl) (w10ok N) (.cons (by kernel_rfl) (w15ok N) (.cons (by kernel_rfl) (w12ok N) .nil)))))))))) .nil
def w8F0 [Alg] (N:Nat) (self:Int->O) (k0:Bool->O) (k1:Int->Bool->(List (List YF7))->Int->Int->O) (x107_0:Int) (x107_1:Bool) (x107_2:(List (List YF7))) (x107_3 x107_4:Int) (x107_5:(List YF7)) (x107_6:Int):O:=
 br (decide (x107_6 < (↑x107_5.length:Int)))
  (gx x107_5 x107_6 fun y110=>
  ck (w31p N y110) <|
  br (!w31y0 N y110)
   (k0 false)
   (self (IntKind.i64.wrap (x107_6+1))))
  (k1 x107_0 x107_1 x107_2 x107_3 x107_4)
def w8b0:Code:=atC [1,1,1,0,1,0,0,1,0,0,1,1,1,1,0,1,0,0] w8b
def w8m0:Nm:=⟨[2,6,7,8,9,10,14],[],[]⟩
def w8I0 (x:Int×Bool×(List (List YF7))×Int×Int×(List YF7)×Int):Sg:=⟨[(2,.e (.i .i64) x.1),(6,.e .bo x.2.1),(7,.e (.sl (.sl .tx)) x.2.2.1),(8,.e (.i .i64) x.2.2.2.1),(9,.e (.i .i64) x.2.2.2.2.1),(10,.e (.sl (.sl .u8)) x.2.2.2.2.2.1),(14,.e (.i .i64) x.2.2.2.2.2.2)],[],100⟩
def w8u0 (σ:Sg):Int×Bool×(List (List YF7))×Int×Int×(List YF7)×Int:=(lvT (.i .i64) 2 0 σ,lvT .bo 6 0 σ,lvT (.sl (.sl .tx)) 7 0 σ,lvT (.i .i64) 8 0 σ,lvT (.i .i64) 9 0 σ,lvT (.sl (.sl .u8)) 10 0 σ,lvT (.i .i64) 14 0 σ)
theorem w8ui0:∀ x,w8u0 (w8I0 x)=x:=fun _=>by kernel_rfl
def w8X0_0 (y:Bool):Exit×Sg:=(.ret,⟨[(6,.e .bo y)],[],100⟩)
def w8v0_0 (_:Exit) (σ:Sg):Bool:=lvT .bo 6 0 σ
def w8X0_1 (y:Int×Bool×(List (List YF7))×Int×Int):Exit×Sg:=((.exit 2),⟨[(2,.e (.i .i64) y.1),(6,.e .bo y.2.1),(7,.e (.sl (.sl .tx)) y.2.2.1),(8,.e (.i .i64) y.2.2.2.1),(9,.e (.i .i64) y.2.2.2.2)],[],100⟩)
def w8v0_1 (_:Exit) (σ:Sg):Int×Bool×(List (List YF7))×Int×Int:=(lvT (.i .i64) 2 0 σ,lvT .bo 6 0 σ,lvT (.sl (.sl .tx)) 7 0 σ,lvT (.i .i64) 8 0 σ,lvT (.i .i64) 9 0 σ)
def w8w0:List (Exit×Nm):=[(.ret,⟨[6],[],[]⟩),((.exit 2),⟨[2,6,7,8,9],[],[]⟩)]
def w8l0 [Alg] (N:Nat):Nat->(Int×Bool×(List (List YF7))×Int×Int×(List YF7)×Int)->((Bool)->O)->((Int×Bool×(List (List YF7))×Int×Int)->O)->((Unit)->O)->O
 | 0,_,_,_,_=>none
 | n+1,x,k0,k1,k2=>w8F0 N (fun v0=>w8l0 N n (x.1,x.2.1,x.2.2.1,x.2.2.2.1,x.2.2.2.2.1,x.2.2.2.2.2.1,v0) k0 k1 k2) (fun y0=>k0 y0) (fun y0 y1 y2 y3 y4=>k1 (y0,y1,y2,y3,y4)) x.1 x.2.1 x.2.2.1 x.2.2.2.1 x.2.2.2.2.1 x.2.2.2.2.2.1 x.2.2.2.2.2.2
def w8n0 [Alg] N a0 a1 a2 a3 a4 a5 a6 (k0:Bool->O) (k1:Int->Bool->(List (List YF7))->Int->Int->O):=w8l0 N N (a0,a1,a2,a3,a4,a5,a6) (fun y=>k0 y) (fun y=>k1 y.1 y.2.1 y.2.2.1 y.2.2.2.1 y.2.2.2.2) (fun _=>none)
def w8s0 [Alg] N a0 a1 a2 a3 a4 a5 a6 (k0:Bool->O) (k1:Int->Bool->(List (List YF7))->Int->Int->O):=subL w8I0 w8u0 (w8l0 N N) (w8I0 (a0,a1,a2,a3,a4,a5,a6)) (fun y=>k0 y) (fun y=>k1 y.1 y.2.1 y.2.2.1 y.2.2.2.1 y.2.2.2.2) (fun _=>none)
theorem w8e0 [Alg] N:w8s0 N=w8n0 N:=funext fun _=>funext fun _=>funext fun _=>funext fun _=>funext fun _=>funext fun _=>funext fun _=>funext fun _=>funext fun _=>subL_I w8ui0 _ _ _ _
theorem w8q0 [Alg] (N:Nat) (self:Sg->O) (K:Exit->Sg->O) (x:Int×Bool×(List (List YF7))×Int×Int×(List YF7)×Int):w8F0 N (fun v0=>self (w8I0 (x.1,x.2.1,x.2.2.1,x.2.2.2.1,x.2.2.2.2.1,x.2.2.2.2.2.1,v0))) (fun y0=>K (w8X0_0 y0).1 (w8X0_0 y0).2) (fun y0 y1 y2 y3 y4=>K (w8X0_1 (y0,y1,y2,y3,y4)).1 (w8X0_1 (y0,y1,y2,y3,y4)).2) x.1 x.2.1 x.2.2.1 x.2.2.2.1 x.2.2.2.2.1 x.2.2.2.2.2.1 x.2.2.2.2.2.2=exec (w8c N) Tryz.f8.ntmps .d w8b0 (w8I0 x) (roundX w8m0 w8w0 self K):=by kernel_rfl
theorem w8S0 N (hc:CxOk (w8c N)):SubOk (w8c N) Tryz.f8.ntmps (.loop w8b0) w8X0_0 w8X0_1 (noX 2) (subL w8I0 w8u0 (w8l0 N N)):=
 sub_loop hc (hk_d w8b0) (oK2 w8v0_0 w8v0_1 .ret (.exit 2) (fun _=>by kernel_rfl) (fun _=>by kernel_rfl) (fun _=>rfl) (fun _=>rfl) (by kernel_rfl)) (n:=N) (fun x K=>loop_ind (w8l0 N) (fun _ _ _ _=>rfl) (fun n K ih x=>by
  refine Eq.trans ?_ (w8q0 N _ K x);simp only [← ih];rfl) N x K)
def w8F1 [Alg] (N:Nat) (self:Int->O) (k0:Bool->O) (k1:Int->Bool->(List (List YF7))->Int->Int->O) (x117_0:Int) (x117_1:Bool) (x117_2:(List (List YF7))) (x117_3 x117_4 x117_5:Int):O:=
 gx x117_2 x117_4 fun y140=>
 br (decide (x117_5 < (↑y140.length:Int)))
  (gx x117_2 x117_4 fun y141=>
  gx y141 x117_5 fun y142=>
  ck (w10p N y142) <|
  ck (w15p N (w10y0 N y142)) <|
  gc (!(decide (w10y1 N y142≠(0:Int))||decide (w15y1 N (w10y0 N y142)≠(0:Int)))) [] x117_2 x117_4 fun y143=>
  gc (!(decide (w10y1 N y142≠(0:Int))||decide (w15y1 N (w10y0 N y142)≠(0:Int)))) [] y143 x117_5 fun y144=>
  br (decide (w10y1 N y142≠(0:Int))||decide (w15y1 N (w10y0 N y142)≠(0:Int))||decide (w15y0 N (w10y0 N y142)≠y144))
   (k0 false)
   (gx x117_2 x117_4 fun y145=>
   gx y145 0 fun y146=>
   ck (w10p N y146) <|
   ck (!!decide (w10y1 N y146≠(0:Int))||w12p N (w10y0 N y142) (w10y0 N y146)) <|
   gc (!decide (w10y1 N y146≠(0:Int))) [] x117_2 x117_4 fun y147=>
   gc (!decide (w10y1 N y146≠(0:Int))) [] y147 x117_5 fun y148=>
   gc (!decide (w10y1 N y146≠(0:Int))) [] x117_2 x117_4 fun y149=>
   gc (!decide (w10y1 N y146≠(0:Int))) [] y149 0 fun y150=>
   br (decide (w10y1 N y146≠(0:Int))||!w12y0 N (w10y0 N y142) (w10y0 N y146) == decide (y148=y150))
    (k0 false)
    (self (IntKind.i64.wrap (x117_5+1)))))
  (k1 x117_0 x117_1 x117_2 x117_3 x117_4)
def w8b1:Code:=atC [1,1,1,0,1,0,0,1,0,0,1,1,1,1,1,1,0,0] w8b
def w8m1:Nm:=⟨[2,6,7,8,9,15],[],[]⟩
def w8I1 (x:Int×Bool×(List (List YF7))×Int×Int×Int):Sg:=⟨[(2,.e (.i .i64) x.1),(6,.e .bo x.2.1),(7,.e (.sl (.sl .tx)) x.2.2.1),(8,.e (.i .i64) x.2.2.2.1),(9,.e (.i .i64) x.2.2.2.2.1),(15,.e (.i .i64) x.2.2.2.2.2)],[],100⟩
def w8u1 (σ:Sg):Int×Bool×(List (List YF7))×Int×Int×Int:=(lvT (.i .i64) 2 0 σ,lvT .bo 6 0 σ,lvT (.sl (.sl .tx)) 7 0 σ,lvT (.i .i64) 8 0 σ,lvT (.i .i64) 9 0 σ,lvT (.i .i64) 15 0 σ)
theorem w8ui1:∀ x,w8u1 (w8I1 x)=x:=fun _=>by kernel_rfl
def w8X1_0 (y:Bool):Exit×Sg:=(.ret,⟨[(6,.e .bo y)],[],100⟩)
def w8v1_0 (_:Exit) (σ:Sg):Bool:=lvT .bo 6 0 σ
def w8X1_1 (y:Int×Bool×(List (List YF7))×Int×Int):Exit×Sg:=((.exit 4),⟨[(2,.e (.i .i64) y.1),(6,.e .bo y.2.1),(7,.e (.sl (.sl .tx)) y.2.2.1),(8,.e (.i .i64) y.2.2.2.1),(9,.e (.i .i64) y.2.2.2.2)],[],100⟩)
def w8v1_1 (_:Exit) (σ:Sg):Int×Bool×(List (List YF7))×Int×Int:=(lvT (.i .i64) 2 0 σ,lvT .bo 6 0 σ,lvT (.sl (.sl .tx)) 7 0 σ,lvT (.i .i64) 8 0 σ,lvT (.i .i64) 9 0 σ)
def w8w1:List (Exit×Nm):=[(.ret,⟨[6],[],[]⟩),((.exit 4),⟨[2,6,7,8,9],[],[]⟩)]
def w8l1 [Alg] (N:Nat):Nat->(Int×Bool×(List (List YF7))×Int×Int×Int)->((Bool)->O)->((Int×Bool×(List (List YF7))×Int×Int)->O)->((Unit)->O)->O
 | 0,_,_,_,_=>none
 | n+1,x,k0,k1,k2=>w8F1 N (fun v0=>w8l1 N n (x.1,x.2.1,x.2.2.1,x.2.2.2.1,x.2.2.2.2.1,v0) k0 k1 k2) (fun y0=>k0 y0) (fun y0 y1 y2 y3 y4=>k1 (y0,y1,y2,y3,y4)) x.1 x.2.1 x.2.2.1 x.2.2.2.1 x.2.2.2.2.1 x.2.2.2.2.2
def w8n1 [Alg] N a0 a1 a2 a3 a4 a5 (k0:Bool->O) (k1:Int->Bool->(List (List YF7))->Int->Int->O):=w8l1 N N (a0,a1,a2,a3,a4,a5) (fun y=>k0 y) (fun y=>k1 y.1 y.2.1 y.2.2.1 y.2.2.2.1 y.2.2.2.2) (fun _=>none)
def w8s1 [Alg] N a0 a1 a2 a3 a4 a5 (k0:Bool->O) (k1:Int->Bool->(List (List YF7))->Int->Int->O):=subL w8I1 w8u1 (w8l1 N N) (w8I1 (a0,a1,a2,a3,a4,a5)) (fun y=>k0 y) (fun y=>k1 y.1 y.2.1 y.2.2.1 y.2.2.2.1 y.2.2.2.2) (fun _=>none)
theorem w8e1 [Alg] N:w8s1 N=w8n1 N:=funext fun _=>funext fun _=>funext fun _=>funext fun _=>funext fun _=>funext fun _=>funext fun _=>funext fun _=>subL_I w8ui1 _ _ _ _
theorem w8q1 [Alg] (N:Nat) (self:Sg->O) (K:Exit->Sg->O) (x:Int×Bool×(List (List YF7))×Int×Int×Int):w8F1 N (fun v0=>self (w8I1 (x.1,x.2.1,x.2.2.1,x.2.2.2.1,x.2.2.2.2.1,v0))) (fun y0=>K (w8X1_0 y0).1 (w8X1_0 y0).2) (fun y0 y1 y2 y3 y4=>K (w8X1_1 (y0,y1,y2,y3,y4)).1 (w8X1_1 (y0,y1,y2,y3,y4)).2) x.1 x.2.1 x.2.2.1 x.2.2.2.1 x.2.2.2.2.1 x.2.2.2.2.2=exec (w8c N) Tryz.f8.ntmps .d w8b1 (w8I1 x) (roundX w8m1 w8w1 self K):=by kernel_rfl
theorem w8S1 N (hc:CxOk (w8c N)):SubOk (w8c N) Tryz.f8.ntmps (.loop w8b1) w8X1_0 w8X1_1 (noX 2) (subL w8I1 w8u1 (w8l1 N N)):=
 sub_loop hc (hk_d w8b1) (oK2 w8v1_0 w8v1_1 .ret (.exit 4) (fun _=>by kernel_rfl) (fun _=>by kernel_rfl) (fun _=>rfl) (fun _=>rfl) (by kernel_rfl)) (n:=N) (fun x K=>loop_ind (w8l1 N) (fun _ _ _ _=>rfl) (fun n K ih x=>by
  refine Eq.trans ?_ (w8q1 N _ K x);simp only [← ih];rfl) N x K)
def w8F2 [Alg] (N:Nat) (in0:Int->Bool->(List (List YF7))->Int->Int->(List YF7)->Int->(Bool->O)->(Int->Bool->(List (List YF7))->Int->Int->O)->O) (in1:Int->Bool->(List (List YF7))->Int->Int->Int->(Bool->O)->(Int->Bool->(List (List YF7))->Int->Int->O)->O) (self:Int->Bool->(List (List YF7))->Int->Int->O) (k0:Bool->O) (k1:Unit->O) (x0_0:Int) (x0_1:Bool) (x0_2:(List (List YF7))) (x0_3 x0_4:Int):O:=
 br (decide (x0_4 < 2))
  (gx x0_2 x0_4 fun y105=>
  ck (w19p N y105 x0_3) <|
  br (decide (w19y1 N y105 x0_3≠(0:Int)))
   (self x0_0 x0_1 x0_2 x0_3 (IntKind.i64.wrap (x0_4+1)))
   (ck (w26p N (w19y0 N y105 x0_3)) <|
   gc (!decide (w26y1 N (w19y0 N y105 x0_3)≠(0:Int))) [] x0_2 x0_4 fun y106=>
   ck (!!decide (w26y1 N (w19y0 N y105 x0_3)≠(0:Int))||w28p N (w26y0 N (w19y0 N y105 x0_3)) y106) <|
   br (decide (w26y1 N (w19y0 N y105 x0_3)≠(0:Int))||!w28y0 N (w26y0 N (w19y0 N y105 x0_3)) y106)
    (k0 false)
    (in0 x0_0 x0_1 x0_2 x0_3 x0_4 (w19y0 N y105 x0_3) 0
     (fun z111=>
      k0 z111)
     (fun z112 z113 z114 z115 z116=>
      in1 z112 z113 z114 z115 z116 0
       (fun z151=>
        k0 z151)
       (fun z152 z153 z154 z155 z156=>
        self z152 z153 z154 z155 (IntKind.i64.wrap (z156+1)))))))
  (k1 ())
def w8b2:Code:=atC [1,1,1,0,1,0,0] w8b
def w8m2:Nm:=⟨[2,6,7,8,9],[],[]⟩
def w8I2 (x:Int×Bool×(List (List YF7))×Int×Int):Sg:=⟨[(2,.e (.i .i64) x.1),(6,.e .bo x.2.1),(7,.e (.sl (.sl .tx)) x.2.2.1),(8,.e (.i .i64) x.2.2.2.1),(9,.e (.i .i64) x.2.2.2.2)],[],100⟩
def w8u2 (σ:Sg):Int×Bool×(List (List YF7))×Int×Int:=(lvT (.i .i64) 2 0 σ,lvT .bo 6 0 σ,lvT (.sl (.sl .tx)) 7 0 σ,lvT (.i .i64) 8 0 σ,lvT (.i .i64) 9 0 σ)
theorem w8ui2:∀ x,w8u2 (w8I2 x)=x:=fun _=>by kernel_rfl
def w8X2_0 (y:Bool):Exit×Sg:=(.ret,⟨[(6,.e .bo y)],[],100⟩)
def w8v2_0 (_:Exit) (σ:Sg):Bool:=lvT .bo 6 0 σ
def w8X2_1 (_:Unit):Exit×Sg:=((.exit 0),⟨[],[],100⟩)
def w8v2_1 (_:Exit) (_:Sg):Unit:=()
def w8w2:List (Exit×Nm):=[(.ret,⟨[6],[],[]⟩),((.exit 0),⟨[],[],[]⟩)]
def w8l2 [Alg] (N:Nat):Nat->(Int×Bool×(List (List YF7))×Int×Int)->((Bool)->O)->((Unit)->O)->((Unit)->O)->O
 | 0,_,_,_,_=>none
 | n+1,x,k0,k1,k2=>w8F2 N (w8n0 N) (w8n1 N) (fun v0 v1 v2 v3 v4=>w8l2 N n (v0,v1,v2,v3,v4) k0 k1 k2) (fun y0=>k0 y0) (fun (_:Unit)=>k1 ()) x.1 x.2.1 x.2.2.1 x.2.2.2.1 x.2.2.2.2
def w8n2 [Alg] N a0 a1 a2 a3 a4 (k0:Bool->O) (k1:Unit->O):=w8l2 N N (a0,a1,a2,a3,a4) (fun y=>k0 y) (fun y=>k1 y) (fun _=>none)
def w8s2 [Alg] N a0 a1 a2 a3 a4 (k0:Bool->O) (k1:Unit->O):=subL w8I2 w8u2 (w8l2 N N) (w8I2 (a0,a1,a2,a3,a4)) (fun y=>k0 y) (fun y=>k1 y) (fun _=>none)
theorem w8e2 [Alg] N:w8s2 N=w8n2 N:=funext fun _=>funext fun _=>funext fun _=>funext fun _=>funext fun _=>funext fun _=>funext fun _=>subL_I w8ui2 _ _ _ _
def w8h2 [Alg] (N:Nat):Hint:=(.seq .d (.seq (.block (.seq .d (.seq .d (.seq .d (.seq .d (.seq (.seq .d (.block (.sub w8m0 _ _ _ w8X0_0 w8X0_1 (noX 2) (subL w8I0 w8u0 (w8l0 N N))))) (.seq .d (.block (.sub w8m1 _ _ _ w8X1_0 w8X1_1 (noX 2) (subL w8I1 w8u1 (w8l1 N N))))))))))) .d))
theorem w8hk2 N (hc:CxOk (w8c N)):HintOk (w8c N) Tryz.f8.ntmps (w8h2 N) w8b2:=hk_of _ _ (And.intro trivial (And.intro (And.intro trivial (And.intro trivial (And.intro trivial (And.intro trivial (And.intro (And.intro trivial (w8S0 N hc)) (And.intro trivial (w8S1 N hc))))))) trivial))
theorem w8q2 [Alg] (N:Nat) (self:Sg->O) (K:Exit->Sg->O) (x:Int×Bool×(List (List YF7))×Int×Int):w8F2 N (w8s0 N) (w8s1 N) (fun v0 v1 v2 v3 v4=>self (w8I2 (v0,v1,v2,v3,v4))) (fun y0=>K (w8X2_0 y0).1 (w8X2_0 y0).2) (fun (_:Unit)=>K (w8X2_1 ()).1 (w8X2_1 ()).2) x.1 x.2.1 x.2.2.1 x.2.2.2.1 x.2.2.2.2=exec (w8c N) Tryz.f8.ntmps (w8h2 N) w8b2 (w8I2 x) (roundX w8m2 w8w2 self K):=by kernel_rfl
theorem w8S2 N (hc:CxOk (w8c N)):SubOk (w8c N) Tryz.f8.ntmps (.loop w8b2) w8X2_0 w8X2_1 (noX 2) (subL w8I2 w8u2 (w8l2 N N)):=
 sub_loop hc (w8hk2 N hc) (oK2 w8v2_0 w8v2_1 .ret (.exit 0) (fun _=>by kernel_rfl) (fun _=>by kernel_rfl) (fun _=>rfl) (fun _=>rfl) (by kernel_rfl)) (n:=N) (fun x K=>loop_ind (w8l2 N) (fun _ _ _ _=>rfl) (fun n K ih x=>by
  refine Eq.trans ?_ (w8q2 N _ K x);simp only [w8e0 N,w8e1 N,← ih];rfl) N x K)
def w8G [Alg] (N:Nat) (_in0:Int->Bool->(List (List YF7))->Int->Int->(List YF7)->Int->(Bool->O)->(Int->Bool->(List (List YF7))->Int->Int->O)->O) (_in1:Int->Bool->(List (List YF7))->Int->Int->Int->(Bool->O)->(Int->Bool->(List (List YF7))->Int->Int->O)->O) (in2:Int->Bool->(List (List YF7))->Int->Int->(Bool->O)->(Unit->O)->O) (l0:(List Int)) (raw1:YF7) (width2:Int):O:=
 ck (w18p N l0 raw1) <|
 ck (w14p N width2 (37:Int)) <|
 in2 width2 false (w18y0 N l0 raw1) (IntKind.i64.wrap ((4:Int)+w14y0 N width2 (37:Int))) 0
  (fun z157=>
   some (w8r0 z157))
  (fun (_:Unit)=>
   ck true <|
   some (w8r0 true))
def w8 [Alg] N l0 raw1 width2:=w8G N (w8n0 N) (w8n1 N) (w8n2 N) l0 raw1 width2
def w8h [Alg] (N:Nat):Hint:=(.seq .d (.seq .d (.seq .d (.seq (.seq .d (.block (.sub w8m2 _ _ _ w8X2_0 w8X2_1 (noX 2) (subL w8I2 w8u2 (w8l2 N N))))) .d))))
theorem w8hk N (hc:CxOk (w8c N)):HintOk (w8c N) Tryz.f8.ntmps (w8h N) w8b:=hk_of _ _ (And.intro trivial (And.intro trivial (And.intro trivial (And.intro (And.intro trivial (w8S2 N hc)) trivial))))
theorem w8q [Alg] N l0 raw1 width2:w8G N (w8s0 N) (w8s1 N) (w8s2 N) l0 raw1 width2=exec (w8c N) Tryz.f8.ntmps (w8h N) w8b ⟨argT 0 [.e (.sl (.i .i64)) l0,.e .tx raw1,.e (.i .i64) width2],[],100⟩ (finX (w8c N) Tryz.f8 false):=by kernel_rfl
def w8un (r:Res):Option (Bool):=match r with
 | (x0,[])=>(match ue .bo x0 with | some a0=>some a0 | _=>none)
 | _=>none
theorem w8uo {r d} (h:w8un r=some d):r=w8r0 (d):=by
 unfold w8un at h;split at h
 ·split at h
  ·rename_i h0;cases h;rw [ue_some h0];rfl
  ·cases h
 ·cases h
def w8z N l0 raw1 width2:=(w8 N l0 raw1 width2).bind w8un
theorem w8fin {N} (hc:CxOk (w8c N)) {l0 raw1 width2 d} (hd:w8z N l0 raw1 width2=some d):DoK Tryz.prog 8 [.e (.sl (.i .i64)) l0,.e .tx raw1,.e (.i .i64) width2] [] (w8r0 (d)):=
 finJ hc (by kernel_rfl) (by kernel_rfl) (w8hk N hc) (by kernel_rfl) w8uo (fun hr=>(w8q N l0 raw1 width2).symm.trans (by rw [w8e0 N,w8e1 N,w8e2 N];exact hr)) hd
end
end Go.Proofs
