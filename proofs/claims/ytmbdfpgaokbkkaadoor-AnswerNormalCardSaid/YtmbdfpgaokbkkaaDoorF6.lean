/- What the law does. Conditions are in the theorems. -/
import Derived.Test.YtmbdfpgaokbkkaaDoorE7
import Derived.Test.YtmbdfpgaokbkkaaDoorProg
import Derived.KernelRfl
import Derived.Test.YtmbdfpgaokbkkaaDoorF2
import Derived.Test.YtmbdfpgaokbkkaaDoorF5
/- What functions do. -/
namespace Go.Proofs
noncomputable section
open Go.Ax Go.Ax.Alg Go.RowKit Go.Ab
abbrev YF6:=List UInt8
open Go
def l11r0 (a0:(List (Int×(Int×(Int×(Int×Int)))))):Res:=(.own 100,[(100,.row 41 (.pr (.i .i64) (.pr (.i .i64) (.pr (.i .i64) (.pr (.i .i64) (.i .i64))))) a0 true)])
def l11L (N:Nat):List (Nat×Ent'):=[(15,w15e N)]
def l11c (N:Nat):Cx:=⟨Tryd.prog,99999,l11L N,[]⟩
def l11b:Code:=Tryd.f11.body.getD .skip
theorem l11cx (N:Nat):CxOk (l11c N):=ctx_ok (by kernel_rfl) (.cons (by kernel_rfl) (w15ok N) .nil) .nil
def l11F0 [Alg] (_:Nat)   (k0:Int->(List Int)->Int->(List (Int×(Int×(Int×(Int×Int)))))->Int->Int->Int->Int->Int->O) (x97_0:Int) (x97_1:(List Int)) (x97_2:Int) (x97_3:Int) (x97_4:(List (Int×(Int×(Int×(Int×Int)))))) (x97_5:Int) (x97_6:Int) (x97_7:Int) (x97_8:Int) (x97_9:Int):O:=
 br (decide (x97_0=(0:Int)))
  (ck true <|
  ck true <|
  gx [(0:Int),(0:Int),(0:Int),(0:Int),(1:Int),(2:Int),(40:Int),(-1:Int)] ((IntKind.i64.wrap (x97_3.tdiv (27:Int))).tmod (8:Int)) fun y112=>
  ck true <|
  ck true <|
  gx [(1:Int),(1:Int),(0:Int),(0:Int),(1:Int),(2:Int)] ((IntKind.i64.wrap (x97_3.tdiv (216:Int))).tmod (6:Int)) fun y113=>
  k0 x97_0 x97_1 x97_2 x97_4 x97_5 x97_6 y112 x97_8 y113)
  (br (decide (x97_0=(1:Int)))
   (ck true <|
   gx [(1:Int),(2:Int),(5:Int),(6:Int),(7:Int),(8:Int),(9:Int),(0:Int),(10:Int)] (x97_3.tmod (9:Int)) fun y114=>
   ck true <|
   ck true <|
   ck true <|
   ck true <|
   ck true <|
   k0 x97_0 x97_1 x97_2 x97_4 x97_5 x97_6 (IntKind.i64.wrap (((IntKind.i64.wrap (x97_3.tdiv (54:Int))).tmod (17:Int)).tdiv (16:Int))) y114 ((IntKind.i64.wrap (x97_3.tdiv (27:Int))).tmod (2:Int)))
   (br (decide (x97_0=(2:Int)))
    (ck true <|
    ck true <|
    gx [(0:Int),(0:Int),(0:Int),(1:Int),(1:Int),(1:Int),(2:Int),(3:Int),(4:Int)] ((IntKind.i64.wrap (x97_3.tdiv (27:Int))).tmod (9:Int)) fun y115=>
    br (decide (y115=(1:Int)))
     (ck true <|
     gx [(1:Int),(1:Int),(1:Int),(0:Int),(2:Int)] (x97_3.tmod (5:Int)) fun y116=>
     k0 x97_0 x97_1 x97_2 x97_4 x97_5 x97_6 y115 y116 x97_9)
     (k0 x97_0 x97_1 x97_2 x97_4 x97_5 x97_6 y115 x97_8 x97_9))
    (ck true <|
    gx [(48:Int),(49:Int),(50:Int),(97:Int),(32:Int),(8:Int),(8:Int),(13:Int),(127:Int)] (x97_3.tmod (9:Int)) fun y117=>
    ck true <|
    ck true <|
    gx [(1:Int),(1:Int),(1:Int),(1:Int),(0:Int),(2:Int)] ((IntKind.i64.wrap (x97_3.tdiv (27:Int))).tmod (6:Int)) fun y118=>
    k0 x97_0 x97_1 x97_2 x97_4 x97_5 x97_6 x97_7 y117 y118)))
def l11b0:Code:=atC [1,1,0,1,0,0,1,0,0,1,1,1,0] l11b
def l11m0:Nm:=⟨[0,1,4,5,6,7,9],[],[]⟩
def l11I0 (x:Int×(List Int)×Int×Int×(List (Int×(Int×(Int×(Int×Int)))))×Int×Int×Int×Int×Int):Sg:=⟨[(0,.e (.i .i64) x.1),(1,.e (.sl (.i .i64)) x.2.1),(4,.nilS),(5,.own 0),(6,.e (.i .i64) x.2.2.1),(7,.e (.i .i64) x.2.2.2.1),(9,.ref 1 0)],[(0,.row 41 (.pr (.i .i64) (.pr (.i .i64) (.pr (.i .i64) (.pr (.i .i64) (.i .i64))))) x.2.2.2.2.1 true),(1,.box 41 [.e (.i .i64) x.2.2.2.2.2.1,.e (.i .i64) x.2.2.2.2.2.2.1,.e (.i .i64) x.2.2.2.2.2.2.2.1,.e (.i .i64) x.2.2.2.2.2.2.2.2.1,.e (.i .i64) x.2.2.2.2.2.2.2.2.2])],100⟩
def l11u0 (σ:Sg):Int×(List Int)×Int×Int×(List (Int×(Int×(Int×(Int×Int)))))×Int×Int×Int×Int×Int:=(lvT (.i .i64) 0 0 σ,lvT (.sl (.i .i64)) 1 0 σ,lvT (.i .i64) 6 0 σ,lvT (.i .i64) 7 0 σ,lvR (.pr (.i .i64) (.pr (.i .i64) (.pr (.i .i64) (.pr (.i .i64) (.i .i64))))) 0 σ,lvH (.i .i64) 1 0 σ,lvH (.i .i64) 1 1 σ,lvH (.i .i64) 1 2 σ,lvH (.i .i64) 1 3 σ,lvH (.i .i64) 1 4 σ)
theorem l11ui0:∀ x,l11u0 (l11I0 x)=x:=fun _=>by kernel_rfl
def l11X0_0 (y:Int×(List Int)×Int×(List (Int×(Int×(Int×(Int×Int)))))×Int×Int×Int×Int×Int):Exit×Sg:=(.normal,⟨[(0,.e (.i .i64) y.1),(1,.e (.sl (.i .i64)) y.2.1),(4,.nilS),(5,.own 0),(6,.e (.i .i64) y.2.2.1),(9,.ref 1 0)],[(0,.row 41 (.pr (.i .i64) (.pr (.i .i64) (.pr (.i .i64) (.pr (.i .i64) (.i .i64))))) y.2.2.2.1 true),(1,.box 41 [.e (.i .i64) y.2.2.2.2.1,.e (.i .i64) y.2.2.2.2.2.1,.e (.i .i64) y.2.2.2.2.2.2.1,.e (.i .i64) y.2.2.2.2.2.2.2.1,.e (.i .i64) y.2.2.2.2.2.2.2.2])],100⟩)
def l11v0_0 (_:Exit) (σ:Sg):Int×(List Int)×Int×(List (Int×(Int×(Int×(Int×Int)))))×Int×Int×Int×Int×Int:=(lvT (.i .i64) 0 0 σ,lvT (.sl (.i .i64)) 1 0 σ,lvT (.i .i64) 6 0 σ,lvR (.pr (.i .i64) (.pr (.i .i64) (.pr (.i .i64) (.pr (.i .i64) (.i .i64))))) 0 σ,lvH (.i .i64) 1 0 σ,lvH (.i .i64) 1 1 σ,lvH (.i .i64) 1 2 σ,lvH (.i .i64) 1 3 σ,lvH (.i .i64) 1 4 σ)
def l11w0:List (Exit×Nm):=[(.normal,⟨[0,1,4,5,6,9],[],[]⟩)]
theorem l11o0:Outs l11v0_0 (fun _ _=>()) (fun _ _=>()) l11X0_0 (noX 1) (noX 2) (exC .normal) (exC (.goto 1)) (exC (.goto 2)):=⟨fun _=>by kernel_rfl,fun _=>by kernel_rfl,fun _=>by kernel_rfl,fun _=>by kernel_rfl,fun _=>by kernel_rfl,fun _=>by kernel_rfl,exNe_ok (by kernel_rfl),exNe_ok (by kernel_rfl),exNe_ok (by kernel_rfl)⟩
def l11l0 [Alg] (N:Nat) (_:Nat) (x:Int×(List Int)×Int×Int×(List (Int×(Int×(Int×(Int×Int)))))×Int×Int×Int×Int×Int) (k0:(Int×(List Int)×Int×(List (Int×(Int×(Int×(Int×Int)))))×Int×Int×Int×Int×Int)->O) (_:(Unit)->O) (_:(Unit)->O):O:=l11F0 N   (fun y0 y1 y2 y3 y4 y5 y6 y7 y8=>k0 (y0,y1,y2,y3,y4,y5,y6,y7,y8)) x.1 x.2.1 x.2.2.1 x.2.2.2.1 x.2.2.2.2.1 x.2.2.2.2.2.1 x.2.2.2.2.2.2.1 x.2.2.2.2.2.2.2.1 x.2.2.2.2.2.2.2.2.1 x.2.2.2.2.2.2.2.2.2
def l11n0 [Alg] (N:Nat) (a0:Int) (a1:(List Int)) (a2:Int) (a3:Int) (a4:(List (Int×(Int×(Int×(Int×Int)))))) (a5:Int) (a6:Int) (a7:Int) (a8:Int) (a9:Int) (k0:Int->(List Int)->Int->(List (Int×(Int×(Int×(Int×Int)))))->Int->Int->Int->Int->Int->O):O:=l11l0 N N (a0,a1,a2,a3,a4,a5,a6,a7,a8,a9) (fun y=>k0 y.1 y.2.1 y.2.2.1 y.2.2.2.1 y.2.2.2.2.1 y.2.2.2.2.2.1 y.2.2.2.2.2.2.1 y.2.2.2.2.2.2.2.1 y.2.2.2.2.2.2.2.2) (fun _=>none) (fun _=>none)
def l11s0 [Alg] (N:Nat) (a0:Int) (a1:(List Int)) (a2:Int) (a3:Int) (a4:(List (Int×(Int×(Int×(Int×Int)))))) (a5:Int) (a6:Int) (a7:Int) (a8:Int) (a9:Int) (k0:Int->(List Int)->Int->(List (Int×(Int×(Int×(Int×Int)))))->Int->Int->Int->Int->Int->O):O:=subL l11I0 l11u0 (l11l0 N N) (l11I0 (a0,a1,a2,a3,a4,a5,a6,a7,a8,a9)) (fun y=>k0 y.1 y.2.1 y.2.2.1 y.2.2.2.1 y.2.2.2.2.1 y.2.2.2.2.2.1 y.2.2.2.2.2.2.1 y.2.2.2.2.2.2.2.1 y.2.2.2.2.2.2.2.2) (fun _=>none) (fun _=>none)
theorem l11e0 [Alg] (N:Nat):l11s0 N=l11n0 N:=funext fun _=>funext fun _=>funext fun _=>funext fun _=>funext fun _=>funext fun _=>funext fun _=>funext fun _=>funext fun _=>funext fun _=>funext fun _=>subL_I l11ui0 _ _ _ _
def l11h0 [Alg] (_:Nat):Hint:=.d
theorem l11hk0 (N:Nat):HintOk (l11c N) Tryd.f11.ntmps (l11h0 N) l11b0:=hk_of _ _ trivial
theorem l11q0 [Alg] (N:Nat) (K:Exit->Sg->O) (x:Int×(List Int)×Int×Int×(List (Int×(Int×(Int×(Int×Int)))))×Int×Int×Int×Int×Int):l11F0 N   (fun y0 y1 y2 y3 y4 y5 y6 y7 y8=>K (l11X0_0 (y0,y1,y2,y3,y4,y5,y6,y7,y8)).1 (l11X0_0 (y0,y1,y2,y3,y4,y5,y6,y7,y8)).2) x.1 x.2.1 x.2.2.1 x.2.2.2.1 x.2.2.2.2.1 x.2.2.2.2.2.1 x.2.2.2.2.2.2.1 x.2.2.2.2.2.2.2.1 x.2.2.2.2.2.2.2.2.1 x.2.2.2.2.2.2.2.2.2=exec (l11c N) Tryd.f11.ntmps (l11h0 N) l11b0 (l11I0 x) (partX l11w0 K):=by kernel_rfl
theorem l11S0 (N:Nat) (hc:CxOk (l11c N)):SubOk (l11c N) Tryd.f11.ntmps l11b0 l11X0_0 (noX 1) (noX 2) (subL l11I0 l11u0 (l11l0 N N)):=
 sub_part hc (l11hk0 N) l11o0 (fun x K=>by
  have h:l11F0 N   (fun y0 y1 y2 y3 y4 y5 y6 y7 y8=>K (l11X0_0 (y0,y1,y2,y3,y4,y5,y6,y7,y8)).1 (l11X0_0 (y0,y1,y2,y3,y4,y5,y6,y7,y8)).2) x.1 x.2.1 x.2.2.1 x.2.2.2.1 x.2.2.2.2.1 x.2.2.2.2.2.1 x.2.2.2.2.2.2.1 x.2.2.2.2.2.2.2.1 x.2.2.2.2.2.2.2.2.1 x.2.2.2.2.2.2.2.2.2=l11F0 N   (fun y0 y1 y2 y3 y4 y5 y6 y7 y8=>K (l11X0_0 (y0,y1,y2,y3,y4,y5,y6,y7,y8)).1 (l11X0_0 (y0,y1,y2,y3,y4,y5,y6,y7,y8)).2) x.1 x.2.1 x.2.2.1 x.2.2.2.1 x.2.2.2.2.1 x.2.2.2.2.2.1 x.2.2.2.2.2.2.1 x.2.2.2.2.2.2.2.1 x.2.2.2.2.2.2.2.2.1 x.2.2.2.2.2.2.2.2.2:=by rfl
  exact h.trans (l11q0 N K x))
def l11F1 [Alg] (N:Nat) (in0:Int->(List Int)->Int->Int->(List (Int×(Int×(Int×(Int×Int)))))->Int->Int->Int->Int->Int->(Int->(List Int)->Int->(List (Int×(Int×(Int×(Int×Int)))))->Int->Int->Int->Int->Int->O)->O) (self:Int->(List Int)->Int->(List (Int×(Int×(Int×(Int×Int)))))->O) (k0:(List (Int×(Int×(Int×(Int×Int)))))->O) (x0_0:Int) (x0_1:(List Int)) (x0_2:Int) (x0_3:(List (Int×(Int×(Int×(Int×Int)))))):O:=
 br (decide (x0_2 < (↑x0_1.length:Int))&&decide (x0_2 < (40:Int)))
  (ck (w15p N x0_1 x0_2 (1048576:Int)) <|
  ck true <|
  gx [(48:Int),(49:Int),(50:Int),(51:Int),(97:Int),(32:Int),(126:Int),(127:Int),(31:Int)] ((w15y0 N x0_1 x0_2 (1048576:Int)).tmod (9:Int)) fun y96=>
  ck true <|
  ck true <|
  in0 x0_0 x0_1 x0_2 (w15y0 N x0_1 x0_2 (1048576:Int)) x0_3 x0_2 ((IntKind.i64.wrap ((w15y0 N x0_1 x0_2 (1048576:Int)).tdiv (9:Int))).tmod (3:Int)) ((0:Int)) y96 ((1:Int))
   (fun z119 z120 z121 z122 z123 z124 z125 z126 z127=>
    ck (lim (z122++[(z123,z124,z125,z126,z127)]).length (40:Nat)) <|
    self z119 z120 (IntKind.i64.wrap (z121+(1:Int))) (z122++[(z123,z124,z125,z126,z127)])))
  (k0 x0_3)
def l11b1:Code:=atC [1,1,0,1,0,0] l11b
def l11m1:Nm:=⟨[0,1,4,5,6],[],[.nilR 5 (.row 41 (.pr (.i .i64) (.pr (.i .i64) (.pr (.i .i64) (.pr (.i .i64) (.i .i64))))) [] true)]⟩
def l11I1 (x:Int×(List Int)×Int×(List (Int×(Int×(Int×(Int×Int)))))):Sg:=⟨[(0,.e (.i .i64) x.1),(1,.e (.sl (.i .i64)) x.2.1),(4,.nilS),(5,.own 0),(6,.e (.i .i64) x.2.2.1)],[(0,.row 41 (.pr (.i .i64) (.pr (.i .i64) (.pr (.i .i64) (.pr (.i .i64) (.i .i64))))) x.2.2.2 true)],100⟩
def l11u1 (σ:Sg):Int×(List Int)×Int×(List (Int×(Int×(Int×(Int×Int))))):=(lvT (.i .i64) 0 0 σ,lvT (.sl (.i .i64)) 1 0 σ,lvT (.i .i64) 6 0 σ,lvR (.pr (.i .i64) (.pr (.i .i64) (.pr (.i .i64) (.pr (.i .i64) (.i .i64))))) 0 σ)
theorem l11ui1:∀ x,l11u1 (l11I1 x)=x:=fun _=>by kernel_rfl
def l11X1_0 (y:(List (Int×(Int×(Int×(Int×Int)))))):Exit×Sg:=((.exit 0),⟨[(5,.own 0)],[(0,.row 41 (.pr (.i .i64) (.pr (.i .i64) (.pr (.i .i64) (.pr (.i .i64) (.i .i64))))) y true)],100⟩)
def l11v1_0 (_:Exit) (σ:Sg):(List (Int×(Int×(Int×(Int×Int))))):=lvR (.pr (.i .i64) (.pr (.i .i64) (.pr (.i .i64) (.pr (.i .i64) (.i .i64))))) 0 σ
def l11w1:List (Exit×Nm):=[((.exit 0),⟨[5],[],[]⟩)]
theorem l11o1:Outs l11v1_0 (fun _ _=>()) (fun _ _=>()) l11X1_0 (noX 1) (noX 2) (exC (.exit 0)) (exC (.goto 1)) (exC (.goto 2)):=⟨fun _=>by kernel_rfl,fun _=>by kernel_rfl,fun _=>by kernel_rfl,fun _=>by kernel_rfl,fun _=>by kernel_rfl,fun _=>by kernel_rfl,exNe_ok (by kernel_rfl),exNe_ok (by kernel_rfl),exNe_ok (by kernel_rfl)⟩
def l11l1 [Alg] (N:Nat):Nat->(Int×(List Int)×Int×(List (Int×(Int×(Int×(Int×Int))))))->(((List (Int×(Int×(Int×(Int×Int))))))->O)->((Unit)->O)->((Unit)->O)->O
 | 0,_,_,_,_=>none
 | n+1,x,k0,k1,k2=>l11F1 N (l11n0 N) (fun v0 v1 v2 v3=>l11l1 N n (v0,v1,v2,v3) k0 k1 k2) (fun y0=>k0 y0) x.1 x.2.1 x.2.2.1 x.2.2.2
def l11n1 [Alg] (N:Nat) (a0:Int) (a1:(List Int)) (a2:Int) (a3:(List (Int×(Int×(Int×(Int×Int)))))) (k0:(List (Int×(Int×(Int×(Int×Int)))))->O):O:=l11l1 N N (a0,a1,a2,a3) (fun y=>k0 y) (fun _=>none) (fun _=>none)
def l11s1 [Alg] (N:Nat) (a0:Int) (a1:(List Int)) (a2:Int) (a3:(List (Int×(Int×(Int×(Int×Int)))))) (k0:(List (Int×(Int×(Int×(Int×Int)))))->O):O:=subL l11I1 l11u1 (l11l1 N N) (l11I1 (a0,a1,a2,a3)) (fun y=>k0 y) (fun _=>none) (fun _=>none)
theorem l11e1 [Alg] (N:Nat):l11s1 N=l11n1 N:=funext fun _=>funext fun _=>funext fun _=>funext fun _=>funext fun _=>subL_I l11ui1 _ _ _ _
def l11h1 [Alg] (N:Nat):Hint:=(.seq .d (.seq (.block (.seq .d (.seq .d (.seq .d (.seq (.sub l11m0 _ _ _ l11X0_0 (noX 1) (noX 2) (subL l11I0 l11u0 (l11l0 N N))) .d))))) .d))
theorem l11hk1 (N:Nat) (hc:CxOk (l11c N)):HintOk (l11c N) Tryd.f11.ntmps (l11h1 N) l11b1:=hk_of _ _ (And.intro trivial (And.intro (And.intro trivial (And.intro trivial (And.intro trivial (And.intro (l11S0 N hc) trivial)))) trivial))
theorem l11q1 [Alg] (N:Nat) (self:Sg->O) (K:Exit->Sg->O) (x:Int×(List Int)×Int×(List (Int×(Int×(Int×(Int×Int)))))):l11F1 N (l11s0 N) (fun v0 v1 v2 v3=>self (l11I1 (v0,v1,v2,v3))) (fun y0=>K (l11X1_0 y0).1 (l11X1_0 y0).2) x.1 x.2.1 x.2.2.1 x.2.2.2=exec (l11c N) Tryd.f11.ntmps (l11h1 N) l11b1 (l11I1 x) (roundX l11m1 l11w1 self K):=by kernel_rfl
theorem l11S1 (N:Nat) (hc:CxOk (l11c N)):SubOk (l11c N) Tryd.f11.ntmps (.loop l11b1) l11X1_0 (noX 1) (noX 2) (subL l11I1 l11u1 (l11l1 N N)):=
 sub_loop hc (l11hk1 N hc) l11o1 (n:=N) (fun x K=>loop_ind (l11l1 N) (fun _ _ _ _=>rfl) (fun n K ih x=>by
  have h:l11F1 N (l11n0 N) (fun v0 v1 v2 v3=>l11l1 N n (v0,v1,v2,v3) (fun y=>K (l11X1_0 y).1 (l11X1_0 y).2) (fun y=>K ((noX 1) y).1 ((noX 1) y).2) (fun y=>K ((noX 2) y).1 ((noX 2) y).2)) (fun y0=>K (l11X1_0 y0).1 (l11X1_0 y0).2) x.1 x.2.1 x.2.2.1 x.2.2.2=l11F1 N (l11s0 N) (fun v0 v1 v2 v3=>loopX (l11c N) Tryd.f11.ntmps (l11h1 N) l11b1 l11m1 l11w1 n (l11I1 (v0,v1,v2,v3)) K) (fun y0=>K (l11X1_0 y0).1 (l11X1_0 y0).2) x.1 x.2.1 x.2.2.1 x.2.2.2:=by rw [l11e0 N,show (fun v0 v1 v2 v3=>l11l1 N n (v0,v1,v2,v3) (fun y=>K (l11X1_0 y).1 (l11X1_0 y).2) (fun y=>K ((noX 1) y).1 ((noX 1) y).2) (fun y=>K ((noX 2) y).1 ((noX 2) y).2))=(fun v0 v1 v2 v3=>loopX (l11c N) Tryd.f11.ntmps (l11h1 N) l11b1 l11m1 l11w1 n (l11I1 (v0,v1,v2,v3)) K) from funext fun _=>funext fun _=>funext fun _=>funext fun _=>ih _]
  exact h.trans (l11q1 N (fun σ=>loopX (l11c N) Tryd.f11.ntmps (l11h1 N) l11b1 l11m1 l11w1 n σ K) K x)) N x K)
def l11G [Alg] (_:Nat) (_in0:Int->(List Int)->Int->Int->(List (Int×(Int×(Int×(Int×Int)))))->Int->Int->Int->Int->Int->(Int->(List Int)->Int->(List (Int×(Int×(Int×(Int×Int)))))->Int->Int->Int->Int->Int->O)->O) (in1:Int->(List Int)->Int->(List (Int×(Int×(Int×(Int×Int)))))->((List (Int×(Int×(Int×(Int×Int)))))->O)->O) (way0:Int) (l1:(List Int)):O:=
 in1 way0 l1 ((0:Int)) []
  (fun z128=>
   some (l11r0 z128))
def l11 [Alg] (N:Nat) (way0:Int) (l1:(List Int)):O:=l11G N (l11n0 N) (l11n1 N) way0 l1
def l11h [Alg] (N:Nat):Hint:=(.seq .d (.seq .d (.seq (.seq .d (.block (.sub l11m1 _ _ _ l11X1_0 (noX 1) (noX 2) (subL l11I1 l11u1 (l11l1 N N))))) .d)))
theorem l11hk (N:Nat) (hc:CxOk (l11c N)):HintOk (l11c N) Tryd.f11.ntmps (l11h N) l11b:=hk_of _ _ (And.intro trivial (And.intro trivial (And.intro (And.intro trivial (l11S1 N hc)) trivial)))
theorem l11q [Alg] (N:Nat) (way0:Int) (l1:(List Int)):l11G N (l11s0 N) (l11s1 N) way0 l1=exec (l11c N) Tryd.f11.ntmps (l11h N) l11b ⟨argT 0 [.e (.i .i64) way0,.e (.sl (.i .i64)) l1],[],100⟩ (finX (l11c N) Tryd.f11 true):=by kernel_rfl
theorem l11does {N:Nat} (hc:CxOk (l11c N)) {way0:Int} {l1:(List Int)} {r:Res} (h:l11 N way0 l1=some r):DoesR Tryd.prog 11 (([.e (.i .i64) way0,.e (.sl (.i .i64)) l1]:List X).map X.D) (HA []) r:=
 fun_ok hc (f:=11) (fn:=Tryd.f11) (code:=l11b) (by kernel_rfl) (by kernel_rfl) (l11hk N hc) (Nat.le_of_ble_eq_true (by kernel_rfl)) (ow:=true) ((l11q N way0 l1).symm.trans (by rw [l11e0 N,l11e1 N];exact h))
def l11un (r:Res):Option ((List (Int×(Int×(Int×(Int×Int)))))):=match r with
 | (.own 100,[(100,x0)])=>(match ur 41 (.pr (.i .i64) (.pr (.i .i64) (.pr (.i .i64) (.pr (.i .i64) (.i .i64))))) true x0 with | some a0=>some a0 | _=>none)
 | _=>none
theorem l11uo {r:Res} {d:(List (Int×(Int×(Int×(Int×Int)))))} (h:l11un r=some d):r=l11r0 (d):=by
 unfold l11un at h;split at h
 ·split at h
  ·rename_i h0;cases h;rw [ur_some h0];rfl
  ·cases h
 ·cases h
def l11z (N:Nat) (way0:Int) (l1:(List Int)):Option ((List (Int×(Int×(Int×(Int×Int)))))):=(l11 N way0 l1).bind l11un
theorem l11fin {N:Nat} (hc:CxOk (l11c N)) {way0:Int} {l1:(List Int)} {d:(List (Int×(Int×(Int×(Int×Int)))))} (hd:l11z N way0 l1=some d):Does Tryd.prog 11 (([.e (.i .i64) way0,.e (.sl (.i .i64)) l1]:List X).map X.D) (HA []) (l11r0 (d)).1.D (HA (l11r0 (d)).2):=by
 obtain ⟨r,hr,hu⟩:=Option.bind_eq_some_iff.1 hd;have:=l11does hc hr;rw [l11uo hu] at this;exact this
def l11p (N:Nat) (way0:Int) (l1:(List Int)):Bool:=(l11z N way0 l1).isSome
def l11y0 (N:Nat) (way0:Int) (l1:(List Int)):(List (Int×(Int×(Int×(Int×Int))))):=((l11z N way0 l1).getD [])
def l11e (N:Nat):Ent':=E2 (.i .i64) (.sl (.i .i64))  (fun x0 x1=>(l11p N x0 x1,l11r0 (l11y0 N x0 x1)))
theorem l11re {N:Nat} {way0:Int} {l1:(List Int)} {d:(List (Int×(Int×(Int×(Int×Int)))))} (hd:l11z N way0 l1=some d):l11r0 (l11y0 N way0 l1)=l11r0 (d):=by unfold l11y0;rw [hd];rfl
theorem l11ok (N:Nat):EOk Tryd.prog 11 (l11e N):=EOk.e2 (fun x0 x1 h=>by
 have h:(l11z N x0 x1).isSome=true:=h;obtain ⟨d,hd⟩:=Option.isSome_iff_exists.1 h;have f:=l11fin (l11cx N) hd;rw [← l11re hd] at f;exact f)
end
end Go.Proofs
/- What functions do. -/
namespace Go.Proofs
noncomputable section
open Go.Ax Go.Ax.Alg Go.RowKit Go.Ab
open Go
def w4r0 (a0:Bool):Res:=(.e .bo a0,[])
def w4L (N:Nat):List (Nat×Ent'):=[(10,l10e N),(13,l13e N),(11,l11e N),(12,w12e N),(14,w14e N)]
def w4c (N:Nat):Cx:=⟨Tryd.prog,99999,w4L N,[]⟩
def w4b:Code:=Tryd.f4.body.getD .skip
theorem w4cx (N:Nat):CxOk (w4c N):=ctx_ok (by kernel_rfl) (.cons (by kernel_rfl) (l10ok N) (.cons (by kernel_rfl) (l13ok N) (.cons (by kernel_rfl) (l11ok N) (.cons (by kernel_rfl) (w12ok N) (.cons (by kernel_rfl) (w14ok N) .nil))))) .nil
def w4F0 [Alg] (_:Nat)  (self:Int->(List (Int×(Int×(Int×(Int×Int)))))->O) (k0:Int->Int->Int->(List Int)->(List Int)->(List (Int×(Int×(Int×(Int×Int)))))->Int->Int->YF6->Int->(List (Int×(Int×(Int×(Int×Int)))))->(List (Int×Int))->(List (Int×(Int×(Int×(Int×Int)))))->O) (x300_0:Int) (x300_1:Int) (x300_2:Int) (x300_3:(List Int)) (x300_4:(List Int)) (x300_5:(List (Int×(Int×(Int×(Int×Int)))))) (x300_6:Int) (x300_7:Int) (x300_8:YF6) (x300_9:Int) (x300_11:(List (Int×(Int×(Int×(Int×Int)))))) (x300_12:(List (Int×Int))) (x300_10:Int) (x300_13:(List (Int×(Int×(Int×(Int×Int)))))):O:=
 br (decide (x300_10 < (↑x300_11.length:Int)))
  (gx x300_11 x300_10 fun y304=>
  ck (lim (x300_13++[(IntKind.i64.wrap (y304.1 - IntKind.i64.wrap (x300_10 * x300_10)),x300_0,y304.2.2.1,y304.2.2.2.1,y304.2.2.2.2)]).length (40:Nat)) <|
  self (IntKind.i64.wrap (x300_10+(1:Int))) (x300_13++[(IntKind.i64.wrap (y304.1 - IntKind.i64.wrap (x300_10 * x300_10)),x300_0,y304.2.2.1,y304.2.2.2.1,y304.2.2.2.2)]))
  (k0 x300_0 x300_1 x300_2 x300_3 x300_4 x300_5 x300_6 x300_7 x300_8 x300_9 x300_11 x300_12 x300_13)
def w4b0:Code:=atC [1,0,1,0,0,1,0,0,1,1,1,1,0,0,1,0,0,1,1,1,1,0,1,0,0] w4b
def w4m0:Nm:=⟨[0,1,2,3,4,5,13,14,17,18,19,20,23,24],[],[.nilR 23 (.row 41 (.pr (.i .i64) (.pr (.i .i64) (.pr (.i .i64) (.pr (.i .i64) (.i .i64))))) [] true)]⟩
def w4I0 (x:Int×Int×Int×(List Int)×(List Int)×(List (Int×(Int×(Int×(Int×Int)))))×Int×Int×YF6×Int×Int×(List (Int×(Int×(Int×(Int×Int)))))×(List (Int×Int))×(List (Int×(Int×(Int×(Int×Int)))))):Sg:=⟨[(0,.e (.i .i64) x.1),(1,.e (.i .i64) x.2.1),(2,.e (.i .i64) x.2.2.1),(3,.e (.sl (.i .i64)) x.2.2.2.1),(4,.e (.sl (.i .i64)) x.2.2.2.2.1),(5,.e (.sl (.pr (.i .i64) (.pr (.i .i64) (.pr (.i .i64) (.pr (.i .i64) (.i .i64)))))) x.2.2.2.2.2.1),(13,.e (.i .i64) x.2.2.2.2.2.2.1),(14,.own 0),(17,.own 1),(18,.e (.i .i64) x.2.2.2.2.2.2.2.1),(19,.e .tx x.2.2.2.2.2.2.2.2.1),(20,.e (.i .i64) x.2.2.2.2.2.2.2.2.2.1),(23,.own 2),(24,.e (.i .i64) x.2.2.2.2.2.2.2.2.2.2.1)],[(0,.row 41 (.pr (.i .i64) (.pr (.i .i64) (.pr (.i .i64) (.pr (.i .i64) (.i .i64))))) x.2.2.2.2.2.2.2.2.2.2.2.1 true),(1,.row 35 (.pr (.i .i64) (.i .i64)) x.2.2.2.2.2.2.2.2.2.2.2.2.1 true),(2,.row 41 (.pr (.i .i64) (.pr (.i .i64) (.pr (.i .i64) (.pr (.i .i64) (.i .i64))))) x.2.2.2.2.2.2.2.2.2.2.2.2.2 true)],100⟩
def w4u0 (σ:Sg):Int×Int×Int×(List Int)×(List Int)×(List (Int×(Int×(Int×(Int×Int)))))×Int×Int×YF6×Int×Int×(List (Int×(Int×(Int×(Int×Int)))))×(List (Int×Int))×(List (Int×(Int×(Int×(Int×Int))))):=(lvT (.i .i64) 0 0 σ,lvT (.i .i64) 1 0 σ,lvT (.i .i64) 2 0 σ,lvT (.sl (.i .i64)) 3 0 σ,lvT (.sl (.i .i64)) 4 0 σ,lvT (.sl (.pr (.i .i64) (.pr (.i .i64) (.pr (.i .i64) (.pr (.i .i64) (.i .i64)))))) 5 0 σ,lvT (.i .i64) 13 0 σ,lvT (.i .i64) 18 0 σ,lvT .tx 19 0 σ,lvT (.i .i64) 20 0 σ,lvT (.i .i64) 24 0 σ,lvR (.pr (.i .i64) (.pr (.i .i64) (.pr (.i .i64) (.pr (.i .i64) (.i .i64))))) 0 σ,lvR (.pr (.i .i64) (.i .i64)) 1 σ,lvR (.pr (.i .i64) (.pr (.i .i64) (.pr (.i .i64) (.pr (.i .i64) (.i .i64))))) 2 σ)
theorem w4ui0:∀ x,w4u0 (w4I0 x)=x:=fun _=>by kernel_rfl
def w4X0_0 (y:Int×Int×Int×(List Int)×(List Int)×(List (Int×(Int×(Int×(Int×Int)))))×Int×Int×YF6×Int×(List (Int×(Int×(Int×(Int×Int)))))×(List (Int×Int))×(List (Int×(Int×(Int×(Int×Int)))))):Exit×Sg:=((.exit 4),⟨[(0,.e (.i .i64) y.1),(1,.e (.i .i64) y.2.1),(2,.e (.i .i64) y.2.2.1),(3,.e (.sl (.i .i64)) y.2.2.2.1),(4,.e (.sl (.i .i64)) y.2.2.2.2.1),(5,.e (.sl (.pr (.i .i64) (.pr (.i .i64) (.pr (.i .i64) (.pr (.i .i64) (.i .i64)))))) y.2.2.2.2.2.1),(13,.e (.i .i64) y.2.2.2.2.2.2.1),(14,.own 0),(17,.own 1),(18,.e (.i .i64) y.2.2.2.2.2.2.2.1),(19,.e .tx y.2.2.2.2.2.2.2.2.1),(20,.e (.i .i64) y.2.2.2.2.2.2.2.2.2.1),(23,.own 2)],[(0,.row 41 (.pr (.i .i64) (.pr (.i .i64) (.pr (.i .i64) (.pr (.i .i64) (.i .i64))))) y.2.2.2.2.2.2.2.2.2.2.1 true),(1,.row 35 (.pr (.i .i64) (.i .i64)) y.2.2.2.2.2.2.2.2.2.2.2.1 true),(2,.row 41 (.pr (.i .i64) (.pr (.i .i64) (.pr (.i .i64) (.pr (.i .i64) (.i .i64))))) y.2.2.2.2.2.2.2.2.2.2.2.2 true)],100⟩)
def w4v0_0 (_:Exit) (σ:Sg):Int×Int×Int×(List Int)×(List Int)×(List (Int×(Int×(Int×(Int×Int)))))×Int×Int×YF6×Int×(List (Int×(Int×(Int×(Int×Int)))))×(List (Int×Int))×(List (Int×(Int×(Int×(Int×Int))))):=(lvT (.i .i64) 0 0 σ,lvT (.i .i64) 1 0 σ,lvT (.i .i64) 2 0 σ,lvT (.sl (.i .i64)) 3 0 σ,lvT (.sl (.i .i64)) 4 0 σ,lvT (.sl (.pr (.i .i64) (.pr (.i .i64) (.pr (.i .i64) (.pr (.i .i64) (.i .i64)))))) 5 0 σ,lvT (.i .i64) 13 0 σ,lvT (.i .i64) 18 0 σ,lvT .tx 19 0 σ,lvT (.i .i64) 20 0 σ,lvR (.pr (.i .i64) (.pr (.i .i64) (.pr (.i .i64) (.pr (.i .i64) (.i .i64))))) 0 σ,lvR (.pr (.i .i64) (.i .i64)) 1 σ,lvR (.pr (.i .i64) (.pr (.i .i64) (.pr (.i .i64) (.pr (.i .i64) (.i .i64))))) 2 σ)
def w4w0:List (Exit×Nm):=[((.exit 4),⟨[0,1,2,3,4,5,13,14,17,18,19,20,23],[],[]⟩)]
theorem w4o0:Outs w4v0_0 (fun _ _=>()) (fun _ _=>()) w4X0_0 (noX 1) (noX 2) (exC (.exit 4)) (exC (.goto 1)) (exC (.goto 2)):=⟨fun _=>by kernel_rfl,fun _=>by kernel_rfl,fun _=>by kernel_rfl,fun _=>by kernel_rfl,fun _=>by kernel_rfl,fun _=>by kernel_rfl,exNe_ok (by kernel_rfl),exNe_ok (by kernel_rfl),exNe_ok (by kernel_rfl)⟩
def w4l0 [Alg] (N:Nat):Nat->(Int×Int×Int×(List Int)×(List Int)×(List (Int×(Int×(Int×(Int×Int)))))×Int×Int×YF6×Int×Int×(List (Int×(Int×(Int×(Int×Int)))))×(List (Int×Int))×(List (Int×(Int×(Int×(Int×Int))))))->((Int×Int×Int×(List Int)×(List Int)×(List (Int×(Int×(Int×(Int×Int)))))×Int×Int×YF6×Int×(List (Int×(Int×(Int×(Int×Int)))))×(List (Int×Int))×(List (Int×(Int×(Int×(Int×Int))))))->O)->((Unit)->O)->((Unit)->O)->O
 | 0,_,_,_,_=>none
 | n+1,x,k0,k1,k2=>w4F0 N  (fun v0 v1=>w4l0 N n (x.1,x.2.1,x.2.2.1,x.2.2.2.1,x.2.2.2.2.1,x.2.2.2.2.2.1,x.2.2.2.2.2.2.1,x.2.2.2.2.2.2.2.1,x.2.2.2.2.2.2.2.2.1,x.2.2.2.2.2.2.2.2.2.1,v0,x.2.2.2.2.2.2.2.2.2.2.2.1,x.2.2.2.2.2.2.2.2.2.2.2.2.1,v1) k0 k1 k2) (fun y0 y1 y2 y3 y4 y5 y6 y7 y8 y9 y10 y11 y12=>k0 (y0,y1,y2,y3,y4,y5,y6,y7,y8,y9,y10,y11,y12)) x.1 x.2.1 x.2.2.1 x.2.2.2.1 x.2.2.2.2.1 x.2.2.2.2.2.1 x.2.2.2.2.2.2.1 x.2.2.2.2.2.2.2.1 x.2.2.2.2.2.2.2.2.1 x.2.2.2.2.2.2.2.2.2.1 x.2.2.2.2.2.2.2.2.2.2.2.1 x.2.2.2.2.2.2.2.2.2.2.2.2.1 x.2.2.2.2.2.2.2.2.2.2.1 x.2.2.2.2.2.2.2.2.2.2.2.2.2
def w4n0 [Alg] (N:Nat) (a0:Int) (a1:Int) (a2:Int) (a3:(List Int)) (a4:(List Int)) (a5:(List (Int×(Int×(Int×(Int×Int)))))) (a6:Int) (a7:Int) (a8:YF6) (a9:Int) (a10:Int) (a11:(List (Int×(Int×(Int×(Int×Int)))))) (a12:(List (Int×Int))) (a13:(List (Int×(Int×(Int×(Int×Int)))))) (k0:Int->Int->Int->(List Int)->(List Int)->(List (Int×(Int×(Int×(Int×Int)))))->Int->Int->YF6->Int->(List (Int×(Int×(Int×(Int×Int)))))->(List (Int×Int))->(List (Int×(Int×(Int×(Int×Int)))))->O):O:=w4l0 N N (a0,a1,a2,a3,a4,a5,a6,a7,a8,a9,a10,a11,a12,a13) (fun y=>k0 y.1 y.2.1 y.2.2.1 y.2.2.2.1 y.2.2.2.2.1 y.2.2.2.2.2.1 y.2.2.2.2.2.2.1 y.2.2.2.2.2.2.2.1 y.2.2.2.2.2.2.2.2.1 y.2.2.2.2.2.2.2.2.2.1 y.2.2.2.2.2.2.2.2.2.2.1 y.2.2.2.2.2.2.2.2.2.2.2.1 y.2.2.2.2.2.2.2.2.2.2.2.2) (fun _=>none) (fun _=>none)
def w4s0 [Alg] (N:Nat) (a0:Int) (a1:Int) (a2:Int) (a3:(List Int)) (a4:(List Int)) (a5:(List (Int×(Int×(Int×(Int×Int)))))) (a6:Int) (a7:Int) (a8:YF6) (a9:Int) (a10:Int) (a11:(List (Int×(Int×(Int×(Int×Int)))))) (a12:(List (Int×Int))) (a13:(List (Int×(Int×(Int×(Int×Int)))))) (k0:Int->Int->Int->(List Int)->(List Int)->(List (Int×(Int×(Int×(Int×Int)))))->Int->Int->YF6->Int->(List (Int×(Int×(Int×(Int×Int)))))->(List (Int×Int))->(List (Int×(Int×(Int×(Int×Int)))))->O):O:=subL w4I0 w4u0 (w4l0 N N) (w4I0 (a0,a1,a2,a3,a4,a5,a6,a7,a8,a9,a10,a11,a12,a13)) (fun y=>k0 y.1 y.2.1 y.2.2.1 y.2.2.2.1 y.2.2.2.2.1 y.2.2.2.2.2.1 y.2.2.2.2.2.2.1 y.2.2.2.2.2.2.2.1 y.2.2.2.2.2.2.2.2.1 y.2.2.2.2.2.2.2.2.2.1 y.2.2.2.2.2.2.2.2.2.2.1 y.2.2.2.2.2.2.2.2.2.2.2.1 y.2.2.2.2.2.2.2.2.2.2.2.2) (fun _=>none) (fun _=>none)
theorem w4e0 [Alg] (N:Nat):w4s0 N=w4n0 N:=funext fun _=>funext fun _=>funext fun _=>funext fun _=>funext fun _=>funext fun _=>funext fun _=>funext fun _=>funext fun _=>funext fun _=>funext fun _=>funext fun _=>funext fun _=>funext fun _=>funext fun _=>subL_I w4ui0 _ _ _ _
def w4h0 [Alg] (_:Nat):Hint:=.d
theorem w4hk0 (N:Nat):HintOk (w4c N) Tryd.f4.ntmps (w4h0 N) w4b0:=hk_of _ _ trivial
theorem w4q0 [Alg] (N:Nat) (self:Sg->O) (K:Exit->Sg->O) (x:Int×Int×Int×(List Int)×(List Int)×(List (Int×(Int×(Int×(Int×Int)))))×Int×Int×YF6×Int×Int×(List (Int×(Int×(Int×(Int×Int)))))×(List (Int×Int))×(List (Int×(Int×(Int×(Int×Int)))))):w4F0 N  (fun v0 v1=>self (w4I0 (x.1,x.2.1,x.2.2.1,x.2.2.2.1,x.2.2.2.2.1,x.2.2.2.2.2.1,x.2.2.2.2.2.2.1,x.2.2.2.2.2.2.2.1,x.2.2.2.2.2.2.2.2.1,x.2.2.2.2.2.2.2.2.2.1,v0,x.2.2.2.2.2.2.2.2.2.2.2.1,x.2.2.2.2.2.2.2.2.2.2.2.2.1,v1))) (fun y0 y1 y2 y3 y4 y5 y6 y7 y8 y9 y10 y11 y12=>K (w4X0_0 (y0,y1,y2,y3,y4,y5,y6,y7,y8,y9,y10,y11,y12)).1 (w4X0_0 (y0,y1,y2,y3,y4,y5,y6,y7,y8,y9,y10,y11,y12)).2) x.1 x.2.1 x.2.2.1 x.2.2.2.1 x.2.2.2.2.1 x.2.2.2.2.2.1 x.2.2.2.2.2.2.1 x.2.2.2.2.2.2.2.1 x.2.2.2.2.2.2.2.2.1 x.2.2.2.2.2.2.2.2.2.1 x.2.2.2.2.2.2.2.2.2.2.2.1 x.2.2.2.2.2.2.2.2.2.2.2.2.1 x.2.2.2.2.2.2.2.2.2.2.1 x.2.2.2.2.2.2.2.2.2.2.2.2.2=exec (w4c N) Tryd.f4.ntmps (w4h0 N) w4b0 (w4I0 x) (roundX w4m0 w4w0 self K):=by kernel_rfl
theorem w4S0 (N:Nat) (hc:CxOk (w4c N)):SubOk (w4c N) Tryd.f4.ntmps (.loop w4b0) w4X0_0 (noX 1) (noX 2) (subL w4I0 w4u0 (w4l0 N N)):=
 sub_loop hc (w4hk0 N) w4o0 (n:=N) (fun x K=>loop_ind (w4l0 N) (fun _ _ _ _=>rfl) (fun n K ih x=>by
  have h:w4F0 N  (fun v0 v1=>w4l0 N n (x.1,x.2.1,x.2.2.1,x.2.2.2.1,x.2.2.2.2.1,x.2.2.2.2.2.1,x.2.2.2.2.2.2.1,x.2.2.2.2.2.2.2.1,x.2.2.2.2.2.2.2.2.1,x.2.2.2.2.2.2.2.2.2.1,v0,x.2.2.2.2.2.2.2.2.2.2.2.1,x.2.2.2.2.2.2.2.2.2.2.2.2.1,v1) (fun y=>K (w4X0_0 y).1 (w4X0_0 y).2) (fun y=>K ((noX 1) y).1 ((noX 1) y).2) (fun y=>K ((noX 2) y).1 ((noX 2) y).2)) (fun y0 y1 y2 y3 y4 y5 y6 y7 y8 y9 y10 y11 y12=>K (w4X0_0 (y0,y1,y2,y3,y4,y5,y6,y7,y8,y9,y10,y11,y12)).1 (w4X0_0 (y0,y1,y2,y3,y4,y5,y6,y7,y8,y9,y10,y11,y12)).2) x.1 x.2.1 x.2.2.1 x.2.2.2.1 x.2.2.2.2.1 x.2.2.2.2.2.1 x.2.2.2.2.2.2.1 x.2.2.2.2.2.2.2.1 x.2.2.2.2.2.2.2.2.1 x.2.2.2.2.2.2.2.2.2.1 x.2.2.2.2.2.2.2.2.2.2.2.1 x.2.2.2.2.2.2.2.2.2.2.2.2.1 x.2.2.2.2.2.2.2.2.2.2.1 x.2.2.2.2.2.2.2.2.2.2.2.2.2=w4F0 N  (fun v0 v1=>loopX (w4c N) Tryd.f4.ntmps (w4h0 N) w4b0 w4m0 w4w0 n (w4I0 (x.1,x.2.1,x.2.2.1,x.2.2.2.1,x.2.2.2.2.1,x.2.2.2.2.2.1,x.2.2.2.2.2.2.1,x.2.2.2.2.2.2.2.1,x.2.2.2.2.2.2.2.2.1,x.2.2.2.2.2.2.2.2.2.1,v0,x.2.2.2.2.2.2.2.2.2.2.2.1,x.2.2.2.2.2.2.2.2.2.2.2.2.1,v1)) K) (fun y0 y1 y2 y3 y4 y5 y6 y7 y8 y9 y10 y11 y12=>K (w4X0_0 (y0,y1,y2,y3,y4,y5,y6,y7,y8,y9,y10,y11,y12)).1 (w4X0_0 (y0,y1,y2,y3,y4,y5,y6,y7,y8,y9,y10,y11,y12)).2) x.1 x.2.1 x.2.2.1 x.2.2.2.1 x.2.2.2.2.1 x.2.2.2.2.2.1 x.2.2.2.2.2.2.1 x.2.2.2.2.2.2.2.1 x.2.2.2.2.2.2.2.2.1 x.2.2.2.2.2.2.2.2.2.1 x.2.2.2.2.2.2.2.2.2.2.2.1 x.2.2.2.2.2.2.2.2.2.2.2.2.1 x.2.2.2.2.2.2.2.2.2.2.1 x.2.2.2.2.2.2.2.2.2.2.2.2.2:=by rw [ show (fun v0 v1=>w4l0 N n (x.1,x.2.1,x.2.2.1,x.2.2.2.1,x.2.2.2.2.1,x.2.2.2.2.2.1,x.2.2.2.2.2.2.1,x.2.2.2.2.2.2.2.1,x.2.2.2.2.2.2.2.2.1,x.2.2.2.2.2.2.2.2.2.1,v0,x.2.2.2.2.2.2.2.2.2.2.2.1,x.2.2.2.2.2.2.2.2.2.2.2.2.1,v1) (fun y=>K (w4X0_0 y).1 (w4X0_0 y).2) (fun y=>K ((noX 1) y).1 ((noX 1) y).2) (fun y=>K ((noX 2) y).1 ((noX 2) y).2))=(fun v0 v1=>loopX (w4c N) Tryd.f4.ntmps (w4h0 N) w4b0 w4m0 w4w0 n (w4I0 (x.1,x.2.1,x.2.2.1,x.2.2.2.1,x.2.2.2.2.1,x.2.2.2.2.2.1,x.2.2.2.2.2.2.1,x.2.2.2.2.2.2.2.1,x.2.2.2.2.2.2.2.2.1,x.2.2.2.2.2.2.2.2.2.1,v0,x.2.2.2.2.2.2.2.2.2.2.2.1,x.2.2.2.2.2.2.2.2.2.2.2.2.1,v1)) K) from funext fun _=>funext fun _=>ih _]
  exact h.trans (w4q0 N (fun σ=>loopX (w4c N) Tryd.f4.ntmps (w4h0 N) w4b0 w4m0 w4w0 n σ K) K x)) N x K)
def w4F1 [Alg] (N:Nat) (in0:Int->Int->Int->(List Int)->(List Int)->(List (Int×(Int×(Int×(Int×Int)))))->Int->Int->YF6->Int->Int->(List (Int×(Int×(Int×(Int×Int)))))->(List (Int×Int))->(List (Int×(Int×(Int×(Int×Int)))))->(Int->Int->Int->(List Int)->(List Int)->(List (Int×(Int×(Int×(Int×Int)))))->Int->Int->YF6->Int->(List (Int×(Int×(Int×(Int×Int)))))->(List (Int×Int))->(List (Int×(Int×(Int×(Int×Int)))))->O)->O) (self:Int->Int->Int->(List Int)->(List Int)->(List (Int×(Int×(Int×(Int×Int)))))->Int->Int->(List (Int×(Int×(Int×(Int×Int)))))->(List (Int×Int))->O) (k0:Bool->O) (k1:Int->Int->Int->(List Int)->(List Int)->(List (Int×(Int×(Int×(Int×Int)))))->Int->O) (x223_0:Int) (x223_1:Int) (x223_2:Int) (x223_3:(List Int)) (x223_4:(List Int)) (x223_5:(List (Int×(Int×(Int×(Int×Int)))))) (x223_6:Int) (x223_7:Int) (x223_8:(List (Int×(Int×(Int×(Int×Int)))))) (x223_9:(List (Int×Int))):O:=
 br (decide (x223_7 < (3:Int)))
  (gx x223_9 x223_7 fun y292=>
  gx [y292.1,y292.2] ((0:Int)) fun y293=>
  gx x223_9 x223_7 fun y294=>
  gx [y294.1,y294.2] ((1:Int)) fun y295=>
  ck (l13p N x223_6 y293 y295 x223_8) <|
  gx x223_9 x223_7 fun y296=>
  gx [y296.1,y296.2] ((0:Int)) fun y297=>
  gx x223_9 x223_7 fun y298=>
  gx [y298.1,y298.2] ((1:Int)) fun y299=>
  ck (w14p N x223_6 y297 y299 x223_8) <|
  br (decide (l13y0 N x223_6 y293 y295 x223_8≠w14y0 N x223_6 y297 y299 x223_8)||decide (l13y1 N x223_6 y293 y295 x223_8≠w14y1 N x223_6 y297 y299 x223_8))
   (k0 false)
   (in0 x223_0 x223_1 x223_2 x223_3 x223_4 x223_5 x223_6 x223_7 (l13y0 N x223_6 y293 y295 x223_8) (l13y1 N x223_6 y293 y295 x223_8) ((0:Int)) x223_8 x223_9 []
    (fun z305 z306 z307 z308 z309 z310 z311 z312 z313 z314 z315 z316 z317=>
     gx z316 z312 fun y318=>
     gx [y318.1,y318.2] ((0:Int)) fun y319=>
     gx z316 z312 fun y320=>
     gx [y320.1,y320.2] ((1:Int)) fun y321=>
     ck (l13p N z311 y319 y321 z317) <|
     br (decide (l13y0 N z311 y319 y321 z317≠z313)||decide (l13y1 N z311 y319 y321 z317≠z314))
      (k0 false)
      (br (decide (z311≠(0:Int))&&decide (z314≠(11:Int)))
       (gx z316 z312 fun y322=>
       gx [y322.1,y322.2] ((0:Int)) fun y323=>
       gx z316 z312 fun y324=>
       gx [y324.1,y324.2] ((1:Int)) fun y325=>
       ck (lim ([]++z315).length (40:Nat)) <|
       ck (l11p N z311 z309) <|
       ck (lim ([]++z315++l11y0 N z311 z309).length (40:Nat)) <|
       ck (l13p N z311 y323 y325 ([]++z315++l11y0 N z311 z309)) <|
       br (decide (l13y0 N z311 y323 y325 ([]++z315++l11y0 N z311 z309)≠z313)||decide (l13y1 N z311 y323 y325 ([]++z315++l11y0 N z311 z309)≠z314))
        (k0 false)
        (self z305 z306 z307 z308 z309 z310 z311 (IntKind.i64.wrap (z312+(1:Int))) z315 z316))
       (self z305 z306 z307 z308 z309 z310 z311 (IntKind.i64.wrap (z312+(1:Int))) z315 z316)))))
  (k1 x223_0 x223_1 x223_2 x223_3 x223_4 x223_5 x223_6)
def w4b1:Code:=atC [1,0,1,0,0,1,0,0,1,1,1,1,0,0] w4b
def w4m1:Nm:=⟨[0,1,2,3,4,5,13,14,17,18],[],[]⟩
def w4I1 (x:Int×Int×Int×(List Int)×(List Int)×(List (Int×(Int×(Int×(Int×Int)))))×Int×Int×(List (Int×(Int×(Int×(Int×Int)))))×(List (Int×Int))):Sg:=⟨[(0,.e (.i .i64) x.1),(1,.e (.i .i64) x.2.1),(2,.e (.i .i64) x.2.2.1),(3,.e (.sl (.i .i64)) x.2.2.2.1),(4,.e (.sl (.i .i64)) x.2.2.2.2.1),(5,.e (.sl (.pr (.i .i64) (.pr (.i .i64) (.pr (.i .i64) (.pr (.i .i64) (.i .i64)))))) x.2.2.2.2.2.1),(13,.e (.i .i64) x.2.2.2.2.2.2.1),(14,.own 0),(17,.own 1),(18,.e (.i .i64) x.2.2.2.2.2.2.2.1)],[(0,.row 41 (.pr (.i .i64) (.pr (.i .i64) (.pr (.i .i64) (.pr (.i .i64) (.i .i64))))) x.2.2.2.2.2.2.2.2.1 true),(1,.row 35 (.pr (.i .i64) (.i .i64)) x.2.2.2.2.2.2.2.2.2 true)],100⟩
def w4u1 (σ:Sg):Int×Int×Int×(List Int)×(List Int)×(List (Int×(Int×(Int×(Int×Int)))))×Int×Int×(List (Int×(Int×(Int×(Int×Int)))))×(List (Int×Int)):=(lvT (.i .i64) 0 0 σ,lvT (.i .i64) 1 0 σ,lvT (.i .i64) 2 0 σ,lvT (.sl (.i .i64)) 3 0 σ,lvT (.sl (.i .i64)) 4 0 σ,lvT (.sl (.pr (.i .i64) (.pr (.i .i64) (.pr (.i .i64) (.pr (.i .i64) (.i .i64)))))) 5 0 σ,lvT (.i .i64) 13 0 σ,lvT (.i .i64) 18 0 σ,lvR (.pr (.i .i64) (.pr (.i .i64) (.pr (.i .i64) (.pr (.i .i64) (.i .i64))))) 0 σ,lvR (.pr (.i .i64) (.i .i64)) 1 σ)
theorem w4ui1:∀ x,w4u1 (w4I1 x)=x:=fun _=>by kernel_rfl
def w4X1_0 (y:Bool):Exit×Sg:=(.ret,⟨[(12,.e .bo y)],[],100⟩)
def w4v1_0 (_:Exit) (σ:Sg):Bool:=lvT .bo 12 0 σ
def w4X1_1 (y:Int×Int×Int×(List Int)×(List Int)×(List (Int×(Int×(Int×(Int×Int)))))×Int):Exit×Sg:=((.exit 2),⟨[(0,.e (.i .i64) y.1),(1,.e (.i .i64) y.2.1),(2,.e (.i .i64) y.2.2.1),(3,.e (.sl (.i .i64)) y.2.2.2.1),(4,.e (.sl (.i .i64)) y.2.2.2.2.1),(5,.e (.sl (.pr (.i .i64) (.pr (.i .i64) (.pr (.i .i64) (.pr (.i .i64) (.i .i64)))))) y.2.2.2.2.2.1),(13,.e (.i .i64) y.2.2.2.2.2.2)],[],100⟩)
def w4v1_1 (_:Exit) (σ:Sg):Int×Int×Int×(List Int)×(List Int)×(List (Int×(Int×(Int×(Int×Int)))))×Int:=(lvT (.i .i64) 0 0 σ,lvT (.i .i64) 1 0 σ,lvT (.i .i64) 2 0 σ,lvT (.sl (.i .i64)) 3 0 σ,lvT (.sl (.i .i64)) 4 0 σ,lvT (.sl (.pr (.i .i64) (.pr (.i .i64) (.pr (.i .i64) (.pr (.i .i64) (.i .i64)))))) 5 0 σ,lvT (.i .i64) 13 0 σ)
def w4w1:List (Exit×Nm):=[(.ret,⟨[12],[],[]⟩),((.exit 2),⟨[0,1,2,3,4,5,13],[],[]⟩)]
theorem w4o1:Outs w4v1_0 w4v1_1 (fun _ _=>()) w4X1_0 w4X1_1 (noX 2) (exC .ret) (exC (.exit 2)) (exC (.goto 2)):=⟨fun _=>by kernel_rfl,fun _=>by kernel_rfl,fun _=>by kernel_rfl,fun _=>by kernel_rfl,fun _=>by kernel_rfl,fun _=>by kernel_rfl,exNe_ok (by kernel_rfl),exNe_ok (by kernel_rfl),exNe_ok (by kernel_rfl)⟩
def w4l1 [Alg] (N:Nat):Nat->(Int×Int×Int×(List Int)×(List Int)×(List (Int×(Int×(Int×(Int×Int)))))×Int×Int×(List (Int×(Int×(Int×(Int×Int)))))×(List (Int×Int)))->((Bool)->O)->((Int×Int×Int×(List Int)×(List Int)×(List (Int×(Int×(Int×(Int×Int)))))×Int)->O)->((Unit)->O)->O
 | 0,_,_,_,_=>none
 | n+1,x,k0,k1,k2=>w4F1 N (w4n0 N) (fun v0 v1 v2 v3 v4 v5 v6 v7 v8 v9=>w4l1 N n (v0,v1,v2,v3,v4,v5,v6,v7,v8,v9) k0 k1 k2) (fun y0=>k0 y0) (fun y0 y1 y2 y3 y4 y5 y6=>k1 (y0,y1,y2,y3,y4,y5,y6)) x.1 x.2.1 x.2.2.1 x.2.2.2.1 x.2.2.2.2.1 x.2.2.2.2.2.1 x.2.2.2.2.2.2.1 x.2.2.2.2.2.2.2.1 x.2.2.2.2.2.2.2.2.1 x.2.2.2.2.2.2.2.2.2
def w4n1 [Alg] (N:Nat) (a0:Int) (a1:Int) (a2:Int) (a3:(List Int)) (a4:(List Int)) (a5:(List (Int×(Int×(Int×(Int×Int)))))) (a6:Int) (a7:Int) (a8:(List (Int×(Int×(Int×(Int×Int)))))) (a9:(List (Int×Int))) (k0:Bool->O) (k1:Int->Int->Int->(List Int)->(List Int)->(List (Int×(Int×(Int×(Int×Int)))))->Int->O):O:=w4l1 N N (a0,a1,a2,a3,a4,a5,a6,a7,a8,a9) (fun y=>k0 y) (fun y=>k1 y.1 y.2.1 y.2.2.1 y.2.2.2.1 y.2.2.2.2.1 y.2.2.2.2.2.1 y.2.2.2.2.2.2) (fun _=>none)
def w4s1 [Alg] (N:Nat) (a0:Int) (a1:Int) (a2:Int) (a3:(List Int)) (a4:(List Int)) (a5:(List (Int×(Int×(Int×(Int×Int)))))) (a6:Int) (a7:Int) (a8:(List (Int×(Int×(Int×(Int×Int)))))) (a9:(List (Int×Int))) (k0:Bool->O) (k1:Int->Int->Int->(List Int)->(List Int)->(List (Int×(Int×(Int×(Int×Int)))))->Int->O):O:=subL w4I1 w4u1 (w4l1 N N) (w4I1 (a0,a1,a2,a3,a4,a5,a6,a7,a8,a9)) (fun y=>k0 y) (fun y=>k1 y.1 y.2.1 y.2.2.1 y.2.2.2.1 y.2.2.2.2.1 y.2.2.2.2.2.1 y.2.2.2.2.2.2) (fun _=>none)
theorem w4e1 [Alg] (N:Nat):w4s1 N=w4n1 N:=funext fun _=>funext fun _=>funext fun _=>funext fun _=>funext fun _=>funext fun _=>funext fun _=>funext fun _=>funext fun _=>funext fun _=>funext fun _=>funext fun _=>subL_I w4ui1 _ _ _ _
def w4h1 [Alg] (N:Nat):Hint:=(.seq .d (.seq (.block (.seq .d (.seq .d (.seq .d (.seq .d (.seq (.seq .d (.block (.sub w4m0 _ _ _ w4X0_0 (noX 1) (noX 2) (subL w4I0 w4u0 (w4l0 N N))))) (.seq .d (.seq .d (.seq .d (.cond (.seq (.reg [] [] [[],[],[],[],[],[],[],[],[],[],[],[],[],[460,444],[],[],[],[492,460],[],[],[],[],[],[]]) .d) .d)))))))))) .d))
theorem w4hk1 (N:Nat) (hc:CxOk (w4c N)):HintOk (w4c N) Tryd.f4.ntmps (w4h1 N) w4b1:=hk_of _ _ (And.intro trivial (And.intro (And.intro trivial (And.intro trivial (And.intro trivial (And.intro trivial (And.intro (And.intro trivial (w4S0 N hc)) (And.intro trivial (And.intro trivial (And.intro trivial (And.intro (And.intro trivial trivial) trivial))))))))) trivial))
theorem w4q1 [Alg] (N:Nat) (self:Sg->O) (K:Exit->Sg->O) (x:Int×Int×Int×(List Int)×(List Int)×(List (Int×(Int×(Int×(Int×Int)))))×Int×Int×(List (Int×(Int×(Int×(Int×Int)))))×(List (Int×Int))):w4F1 N (w4s0 N) (fun v0 v1 v2 v3 v4 v5 v6 v7 v8 v9=>self (w4I1 (v0,v1,v2,v3,v4,v5,v6,v7,v8,v9))) (fun y0=>K (w4X1_0 y0).1 (w4X1_0 y0).2) (fun y0 y1 y2 y3 y4 y5 y6=>K (w4X1_1 (y0,y1,y2,y3,y4,y5,y6)).1 (w4X1_1 (y0,y1,y2,y3,y4,y5,y6)).2) x.1 x.2.1 x.2.2.1 x.2.2.2.1 x.2.2.2.2.1 x.2.2.2.2.2.1 x.2.2.2.2.2.2.1 x.2.2.2.2.2.2.2.1 x.2.2.2.2.2.2.2.2.1 x.2.2.2.2.2.2.2.2.2=exec (w4c N) Tryd.f4.ntmps (w4h1 N) w4b1 (w4I1 x) (roundX w4m1 w4w1 self K):=by kernel_rfl
theorem w4S1 (N:Nat) (hc:CxOk (w4c N)):SubOk (w4c N) Tryd.f4.ntmps (.loop w4b1) w4X1_0 w4X1_1 (noX 2) (subL w4I1 w4u1 (w4l1 N N)):=
 sub_loop hc (w4hk1 N hc) w4o1 (n:=N) (fun x K=>loop_ind (w4l1 N) (fun _ _ _ _=>rfl) (fun n K ih x=>by
  have h:w4F1 N (w4n0 N) (fun v0 v1 v2 v3 v4 v5 v6 v7 v8 v9=>w4l1 N n (v0,v1,v2,v3,v4,v5,v6,v7,v8,v9) (fun y=>K (w4X1_0 y).1 (w4X1_0 y).2) (fun y=>K (w4X1_1 y).1 (w4X1_1 y).2) (fun y=>K ((noX 2) y).1 ((noX 2) y).2)) (fun y0=>K (w4X1_0 y0).1 (w4X1_0 y0).2) (fun y0 y1 y2 y3 y4 y5 y6=>K (w4X1_1 (y0,y1,y2,y3,y4,y5,y6)).1 (w4X1_1 (y0,y1,y2,y3,y4,y5,y6)).2) x.1 x.2.1 x.2.2.1 x.2.2.2.1 x.2.2.2.2.1 x.2.2.2.2.2.1 x.2.2.2.2.2.2.1 x.2.2.2.2.2.2.2.1 x.2.2.2.2.2.2.2.2.1 x.2.2.2.2.2.2.2.2.2=w4F1 N (w4s0 N) (fun v0 v1 v2 v3 v4 v5 v6 v7 v8 v9=>loopX (w4c N) Tryd.f4.ntmps (w4h1 N) w4b1 w4m1 w4w1 n (w4I1 (v0,v1,v2,v3,v4,v5,v6,v7,v8,v9)) K) (fun y0=>K (w4X1_0 y0).1 (w4X1_0 y0).2) (fun y0 y1 y2 y3 y4 y5 y6=>K (w4X1_1 (y0,y1,y2,y3,y4,y5,y6)).1 (w4X1_1 (y0,y1,y2,y3,y4,y5,y6)).2) x.1 x.2.1 x.2.2.1 x.2.2.2.1 x.2.2.2.2.1 x.2.2.2.2.2.1 x.2.2.2.2.2.2.1 x.2.2.2.2.2.2.2.1 x.2.2.2.2.2.2.2.2.1 x.2.2.2.2.2.2.2.2.2:=by rw [w4e0 N,show (fun v0 v1 v2 v3 v4 v5 v6 v7 v8 v9=>w4l1 N n (v0,v1,v2,v3,v4,v5,v6,v7,v8,v9) (fun y=>K (w4X1_0 y).1 (w4X1_0 y).2) (fun y=>K (w4X1_1 y).1 (w4X1_1 y).2) (fun y=>K ((noX 2) y).1 ((noX 2) y).2))=(fun v0 v1 v2 v3 v4 v5 v6 v7 v8 v9=>loopX (w4c N) Tryd.f4.ntmps (w4h1 N) w4b1 w4m1 w4w1 n (w4I1 (v0,v1,v2,v3,v4,v5,v6,v7,v8,v9)) K) from funext fun _=>funext fun _=>funext fun _=>funext fun _=>funext fun _=>funext fun _=>funext fun _=>funext fun _=>funext fun _=>funext fun _=>ih _]
  exact h.trans (w4q1 N (fun σ=>loopX (w4c N) Tryd.f4.ntmps (w4h1 N) w4b1 w4m1 w4w1 n σ K) K x)) N x K)
def w4F2 [Alg] (N:Nat) (_in0:Int->Int->Int->(List Int)->(List Int)->(List (Int×(Int×(Int×(Int×Int)))))->Int->Int->YF6->Int->Int->(List (Int×(Int×(Int×(Int×Int)))))->(List (Int×Int))->(List (Int×(Int×(Int×(Int×Int)))))->(Int->Int->Int->(List Int)->(List Int)->(List (Int×(Int×(Int×(Int×Int)))))->Int->Int->YF6->Int->(List (Int×(Int×(Int×(Int×Int)))))->(List (Int×Int))->(List (Int×(Int×(Int×(Int×Int)))))->O)->O) (in1:Int->Int->Int->(List Int)->(List Int)->(List (Int×(Int×(Int×(Int×Int)))))->Int->Int->(List (Int×(Int×(Int×(Int×Int)))))->(List (Int×Int))->(Bool->O)->(Int->Int->Int->(List Int)->(List Int)->(List (Int×(Int×(Int×(Int×Int)))))->Int->O)->O) (self:Int->Int->Int->(List Int)->(List Int)->(List (Int×(Int×(Int×(Int×Int)))))->Int->O) (k0:Bool->O) (k1:Unit->O) (x0_0:Int) (x0_1:Int) (x0_2:Int) (x0_3:(List Int)) (x0_4:(List Int)) (x0_5:(List (Int×(Int×(Int×(Int×Int)))))) (x0_6:Int):O:=
 br (decide (x0_6<=(4:Int)))
  (ck (l11p N x0_6 x0_3) <|
  ck (slcOk x0_5.length none (some (min (↑x0_5.length:Int) (20:Int)))) <|
  ck (lim (l11y0 N x0_6 x0_3++slc x0_5 none (some (min (↑x0_5.length:Int) (20:Int)))).length (40:Nat)) <|
  ck (w12p N x0_1 x0_2) <|
  in1 x0_0 x0_1 x0_2 x0_3 x0_4 x0_5 x0_6 ((0:Int)) (l11y0 N x0_6 x0_3++slc x0_5 none (some (min (↑x0_5.length:Int) (20:Int)))) [(w12y0 N x0_1 x0_2,w12y1 N x0_1 x0_2),(x0_1,x0_2),((2:Int),(0:Int))]
   (fun z326=>
    k0 z326)
   (fun z327 z328 z329 z330 z331 z332 z333=>
    self z327 z328 z329 z330 z331 z332 (IntKind.i64.wrap (z333+(1:Int)))))
  (k1 ())
def w4b2:Code:=atC [1,0,1,0,0] w4b
def w4m2:Nm:=⟨[0,1,2,3,4,5,13],[],[]⟩
def w4I2 (x:Int×Int×Int×(List Int)×(List Int)×(List (Int×(Int×(Int×(Int×Int)))))×Int):Sg:=⟨[(0,.e (.i .i64) x.1),(1,.e (.i .i64) x.2.1),(2,.e (.i .i64) x.2.2.1),(3,.e (.sl (.i .i64)) x.2.2.2.1),(4,.e (.sl (.i .i64)) x.2.2.2.2.1),(5,.e (.sl (.pr (.i .i64) (.pr (.i .i64) (.pr (.i .i64) (.pr (.i .i64) (.i .i64)))))) x.2.2.2.2.2.1),(13,.e (.i .i64) x.2.2.2.2.2.2)],[],100⟩
def w4u2 (σ:Sg):Int×Int×Int×(List Int)×(List Int)×(List (Int×(Int×(Int×(Int×Int)))))×Int:=(lvT (.i .i64) 0 0 σ,lvT (.i .i64) 1 0 σ,lvT (.i .i64) 2 0 σ,lvT (.sl (.i .i64)) 3 0 σ,lvT (.sl (.i .i64)) 4 0 σ,lvT (.sl (.pr (.i .i64) (.pr (.i .i64) (.pr (.i .i64) (.pr (.i .i64) (.i .i64)))))) 5 0 σ,lvT (.i .i64) 13 0 σ)
theorem w4ui2:∀ x,w4u2 (w4I2 x)=x:=fun _=>by kernel_rfl
def w4X2_0 (y:Bool):Exit×Sg:=(.ret,⟨[(12,.e .bo y)],[],100⟩)
def w4v2_0 (_:Exit) (σ:Sg):Bool:=lvT .bo 12 0 σ
def w4X2_1 (_:Unit):Exit×Sg:=((.exit 0),⟨[],[],100⟩)
def w4v2_1 (_:Exit) (_:Sg):Unit:=()
def w4w2:List (Exit×Nm):=[(.ret,⟨[12],[],[]⟩),((.exit 0),⟨[],[],[]⟩)]
theorem w4o2:Outs w4v2_0 w4v2_1 (fun _ _=>()) w4X2_0 w4X2_1 (noX 2) (exC .ret) (exC (.exit 0)) (exC (.goto 2)):=⟨fun _=>by kernel_rfl,fun _=>by kernel_rfl,fun _=>by kernel_rfl,fun _=>by kernel_rfl,fun _=>by kernel_rfl,fun _=>by kernel_rfl,exNe_ok (by kernel_rfl),exNe_ok (by kernel_rfl),exNe_ok (by kernel_rfl)⟩
def w4l2 [Alg] (N:Nat):Nat->(Int×Int×Int×(List Int)×(List Int)×(List (Int×(Int×(Int×(Int×Int)))))×Int)->((Bool)->O)->((Unit)->O)->((Unit)->O)->O
 | 0,_,_,_,_=>none
 | n+1,x,k0,k1,k2=>w4F2 N (w4n0 N) (w4n1 N) (fun v0 v1 v2 v3 v4 v5 v6=>w4l2 N n (v0,v1,v2,v3,v4,v5,v6) k0 k1 k2) (fun y0=>k0 y0) (fun (_:Unit)=>k1 ()) x.1 x.2.1 x.2.2.1 x.2.2.2.1 x.2.2.2.2.1 x.2.2.2.2.2.1 x.2.2.2.2.2.2
def w4n2 [Alg] (N:Nat) (a0:Int) (a1:Int) (a2:Int) (a3:(List Int)) (a4:(List Int)) (a5:(List (Int×(Int×(Int×(Int×Int)))))) (a6:Int) (k0:Bool->O) (k1:Unit->O):O:=w4l2 N N (a0,a1,a2,a3,a4,a5,a6) (fun y=>k0 y) (fun y=>k1 y) (fun _=>none)
def w4s2 [Alg] (N:Nat) (a0:Int) (a1:Int) (a2:Int) (a3:(List Int)) (a4:(List Int)) (a5:(List (Int×(Int×(Int×(Int×Int)))))) (a6:Int) (k0:Bool->O) (k1:Unit->O):O:=subL w4I2 w4u2 (w4l2 N N) (w4I2 (a0,a1,a2,a3,a4,a5,a6)) (fun y=>k0 y) (fun y=>k1 y) (fun _=>none)
theorem w4e2 [Alg] (N:Nat):w4s2 N=w4n2 N:=funext fun _=>funext fun _=>funext fun _=>funext fun _=>funext fun _=>funext fun _=>funext fun _=>funext fun _=>funext fun _=>subL_I w4ui2 _ _ _ _
def w4h2 [Alg] (N:Nat):Hint:=(.seq .d (.seq (.block (.seq (.reg [] [] [[],[],[],[],[],[],[],[],[180,132],[]]) (.seq .d (.seq .d (.seq .d (.block (.sub w4m1 _ _ _ w4X1_0 w4X1_1 (noX 2) (subL w4I1 w4u1 (w4l1 N N))))))))) .d))
theorem w4hk2 (N:Nat) (hc:CxOk (w4c N)):HintOk (w4c N) Tryd.f4.ntmps (w4h2 N) w4b2:=hk_of _ _ (And.intro trivial (And.intro (And.intro trivial (And.intro trivial (And.intro trivial (And.intro trivial (w4S1 N hc))))) trivial))
theorem w4q2 [Alg] (N:Nat) (self:Sg->O) (K:Exit->Sg->O) (x:Int×Int×Int×(List Int)×(List Int)×(List (Int×(Int×(Int×(Int×Int)))))×Int):w4F2 N (w4s0 N) (w4s1 N) (fun v0 v1 v2 v3 v4 v5 v6=>self (w4I2 (v0,v1,v2,v3,v4,v5,v6))) (fun y0=>K (w4X2_0 y0).1 (w4X2_0 y0).2) (fun (_:Unit)=>K (w4X2_1 ()).1 (w4X2_1 ()).2) x.1 x.2.1 x.2.2.1 x.2.2.2.1 x.2.2.2.2.1 x.2.2.2.2.2.1 x.2.2.2.2.2.2=exec (w4c N) Tryd.f4.ntmps (w4h2 N) w4b2 (w4I2 x) (roundX w4m2 w4w2 self K):=by kernel_rfl
theorem w4S2 (N:Nat) (hc:CxOk (w4c N)):SubOk (w4c N) Tryd.f4.ntmps (.loop w4b2) w4X2_0 w4X2_1 (noX 2) (subL w4I2 w4u2 (w4l2 N N)):=
 sub_loop hc (w4hk2 N hc) w4o2 (n:=N) (fun x K=>loop_ind (w4l2 N) (fun _ _ _ _=>rfl) (fun n K ih x=>by
  have h:w4F2 N (w4n0 N) (w4n1 N) (fun v0 v1 v2 v3 v4 v5 v6=>w4l2 N n (v0,v1,v2,v3,v4,v5,v6) (fun y=>K (w4X2_0 y).1 (w4X2_0 y).2) (fun y=>K (w4X2_1 y).1 (w4X2_1 y).2) (fun y=>K ((noX 2) y).1 ((noX 2) y).2)) (fun y0=>K (w4X2_0 y0).1 (w4X2_0 y0).2) (fun (_:Unit)=>K (w4X2_1 ()).1 (w4X2_1 ()).2) x.1 x.2.1 x.2.2.1 x.2.2.2.1 x.2.2.2.2.1 x.2.2.2.2.2.1 x.2.2.2.2.2.2=w4F2 N (w4s0 N) (w4s1 N) (fun v0 v1 v2 v3 v4 v5 v6=>loopX (w4c N) Tryd.f4.ntmps (w4h2 N) w4b2 w4m2 w4w2 n (w4I2 (v0,v1,v2,v3,v4,v5,v6)) K) (fun y0=>K (w4X2_0 y0).1 (w4X2_0 y0).2) (fun (_:Unit)=>K (w4X2_1 ()).1 (w4X2_1 ()).2) x.1 x.2.1 x.2.2.1 x.2.2.2.1 x.2.2.2.2.1 x.2.2.2.2.2.1 x.2.2.2.2.2.2:=by rw [w4e0 N,w4e1 N,show (fun v0 v1 v2 v3 v4 v5 v6=>w4l2 N n (v0,v1,v2,v3,v4,v5,v6) (fun y=>K (w4X2_0 y).1 (w4X2_0 y).2) (fun y=>K (w4X2_1 y).1 (w4X2_1 y).2) (fun y=>K ((noX 2) y).1 ((noX 2) y).2))=(fun v0 v1 v2 v3 v4 v5 v6=>loopX (w4c N) Tryd.f4.ntmps (w4h2 N) w4b2 w4m2 w4w2 n (w4I2 (v0,v1,v2,v3,v4,v5,v6)) K) from funext fun _=>funext fun _=>funext fun _=>funext fun _=>funext fun _=>funext fun _=>funext fun _=>ih _]
  exact h.trans (w4q2 N (fun σ=>loopX (w4c N) Tryd.f4.ntmps (w4h2 N) w4b2 w4m2 w4w2 n σ K) K x)) N x K)
def w4G [Alg] (_:Nat) (_in0:Int->Int->Int->(List Int)->(List Int)->(List (Int×(Int×(Int×(Int×Int)))))->Int->Int->YF6->Int->Int->(List (Int×(Int×(Int×(Int×Int)))))->(List (Int×Int))->(List (Int×(Int×(Int×(Int×Int)))))->(Int->Int->Int->(List Int)->(List Int)->(List (Int×(Int×(Int×(Int×Int)))))->Int->Int->YF6->Int->(List (Int×(Int×(Int×(Int×Int)))))->(List (Int×Int))->(List (Int×(Int×(Int×(Int×Int)))))->O)->O) (_in1:Int->Int->Int->(List Int)->(List Int)->(List (Int×(Int×(Int×(Int×Int)))))->Int->Int->(List (Int×(Int×(Int×(Int×Int)))))->(List (Int×Int))->(Bool->O)->(Int->Int->Int->(List Int)->(List Int)->(List (Int×(Int×(Int×(Int×Int)))))->Int->O)->O) (in2:Int->Int->Int->(List Int)->(List Int)->(List (Int×(Int×(Int×(Int×Int)))))->Int->(Bool->O)->(Unit->O)->O) (way0:Int) (kind1:Int) (options2:Int) (l3:(List Int)) (m4:(List Int)) (raw5:(List (Int×(Int×(Int×(Int×Int)))))):O:=
 in2 way0 kind1 options2 l3 m4 raw5 ((-1:Int))
  (fun z334=>
   some (w4r0 z334))
  (fun (_:Unit)=>
   ck true <|
   some (w4r0 true))
def w4 [Alg] (N:Nat) (way0:Int) (kind1:Int) (options2:Int) (l3:(List Int)) (m4:(List Int)) (raw5:(List (Int×(Int×(Int×(Int×Int)))))):O:=w4G N (w4n0 N) (w4n1 N) (w4n2 N) way0 kind1 options2 l3 m4 raw5
def w4h [Alg] (N:Nat):Hint:=(.seq .d (.seq (.seq .d (.block (.sub w4m2 _ _ _ w4X2_0 w4X2_1 (noX 2) (subL w4I2 w4u2 (w4l2 N N))))) .d))
theorem w4hk (N:Nat) (hc:CxOk (w4c N)):HintOk (w4c N) Tryd.f4.ntmps (w4h N) w4b:=hk_of _ _ (And.intro trivial (And.intro (And.intro trivial (w4S2 N hc)) trivial))
theorem w4q [Alg] (N:Nat) (way0:Int) (kind1:Int) (options2:Int) (l3:(List Int)) (m4:(List Int)) (raw5:(List (Int×(Int×(Int×(Int×Int)))))):w4G N (w4s0 N) (w4s1 N) (w4s2 N) way0 kind1 options2 l3 m4 raw5=exec (w4c N) Tryd.f4.ntmps (w4h N) w4b ⟨argT 0 [.e (.i .i64) way0,.e (.i .i64) kind1,.e (.i .i64) options2,.e (.sl (.i .i64)) l3,.e (.sl (.i .i64)) m4,.e (.sl (.pr (.i .i64) (.pr (.i .i64) (.pr (.i .i64) (.pr (.i .i64) (.i .i64)))))) raw5],[],100⟩ (finX (w4c N) Tryd.f4 false):=by kernel_rfl
theorem w4does {N:Nat} (hc:CxOk (w4c N)) {way0:Int} {kind1:Int} {options2:Int} {l3:(List Int)} {m4:(List Int)} {raw5:(List (Int×(Int×(Int×(Int×Int)))))} {r:Res} (h:w4 N way0 kind1 options2 l3 m4 raw5=some r):DoesR Tryd.prog 4 (([.e (.i .i64) way0,.e (.i .i64) kind1,.e (.i .i64) options2,.e (.sl (.i .i64)) l3,.e (.sl (.i .i64)) m4,.e (.sl (.pr (.i .i64) (.pr (.i .i64) (.pr (.i .i64) (.pr (.i .i64) (.i .i64)))))) raw5]:List X).map X.D) (HA []) r:=
 fun_ok hc (f:=4) (fn:=Tryd.f4) (code:=w4b) (by kernel_rfl) (by kernel_rfl) (w4hk N hc) (Nat.le_of_ble_eq_true (by kernel_rfl)) (ow:=false) ((w4q N way0 kind1 options2 l3 m4 raw5).symm.trans (by rw [w4e0 N,w4e1 N,w4e2 N];exact h))
def w4un (r:Res):Option (Bool):=match r with
 | (x0,[])=>(match ue .bo x0 with | some a0=>some a0 | _=>none)
 | _=>none
theorem w4uo {r:Res} {d:Bool} (h:w4un r=some d):r=w4r0 (d):=by
 unfold w4un at h;split at h
 ·split at h
  ·rename_i h0;cases h;rw [ue_some h0];rfl
  ·cases h
 ·cases h
def w4z (N:Nat) (way0:Int) (kind1:Int) (options2:Int) (l3:(List Int)) (m4:(List Int)) (raw5:(List (Int×(Int×(Int×(Int×Int)))))):Option (Bool):=(w4 N way0 kind1 options2 l3 m4 raw5).bind w4un
theorem w4fin {N:Nat} (hc:CxOk (w4c N)) {way0:Int} {kind1:Int} {options2:Int} {l3:(List Int)} {m4:(List Int)} {raw5:(List (Int×(Int×(Int×(Int×Int)))))} {d:Bool} (hd:w4z N way0 kind1 options2 l3 m4 raw5=some d):Does Tryd.prog 4 (([.e (.i .i64) way0,.e (.i .i64) kind1,.e (.i .i64) options2,.e (.sl (.i .i64)) l3,.e (.sl (.i .i64)) m4,.e (.sl (.pr (.i .i64) (.pr (.i .i64) (.pr (.i .i64) (.pr (.i .i64) (.i .i64)))))) raw5]:List X).map X.D) (HA []) (w4r0 (d)).1.D (HA (w4r0 (d)).2):=by
 obtain ⟨r,hr,hu⟩:=Option.bind_eq_some_iff.1 hd;have:=w4does hc hr;rw [w4uo hu] at this;exact this
end
end Go.Proofs
