/- What the law does. Conditions are in the theorems. -/
import Derived.Test.YtihfefggdgiodaaGreatDoorE7
import Derived.Test.YtihfefggdgiodaaGreatDoorProg
import Derived.KernelRfl
import Derived.Test.YtihfefggdgiodaaGreatDoorG2
/- What functions do. -/
namespace Go.Proofs
noncomputable section
open Go.Ax Go.Ax.Alg Go.RowKit Go.Ab
abbrev YF7:=List UInt8
open Go
def w3r0 (a0:Bool):Res:=(.e .bo a0,[])
def w3c (N:Nat):Cx:=⟨Tryz.prog,99999,[(17,l17e N),(13,v13e N),(9,w9e N),(10,w10e N),(11,w11e N),(12,w12e N),(14,w14e N),(15,w15e N),(16,w16e N)],[]⟩
def w3b:Code:=Tryz.f3.body.getD .skip
theorem w3cx N:CxOk (w3c N):=ctx_ok (by kernel_rfl) (.cons (by kernel_rfl) (l17ok N) (.cons (by kernel_rfl) (v13ok N) (.cons (by kernel_rfl) (w9ok N) (.cons (by kernel_rfl) (w10ok N) (.cons (by kernel_rfl) (w11ok N) (.cons (by kernel_rfl) (w12ok N) (.cons (by kernel_rfl) (w14ok N) (.cons (by kernel_rfl) (w15ok N) (.cons (by kernel_rfl) (w16ok N) .nil))))))))) .nil
def w3F0 [Alg] (_:Nat) (self:Int->(List YF7)->O) (k0:Int->Int->(List YF7)->(List YF7)->O) (x0_0 x0_1:Int) (x0_2 x0_5:(List YF7)) (x0_3:Int) (x0_4:(List YF7)):O:=
 br (decide (x0_3 < (↑x0_2.length:Int)))
  (gx x0_2 x0_3 fun y3=>
  ck (lim (x0_4++[y3]).length (16:Nat)) <|
  self (IntKind.i64.wrap (x0_3+1)) (x0_4++[y3]))
  (k0 x0_0 x0_1 x0_4 x0_5)
def w3b0:Code:=atC [1,1,1,1,0,1,0,0] w3b
def w3m0:Nm:=⟨[3,4,11,12,13,14],[],[]⟩
def w3I0 (x:Int×Int×(List YF7)×Int×(List YF7)×(List YF7)):Sg:=⟨[(3,.e (.i .i64) x.1),(4,.e (.i .i64) x.2.1),(11,.own 0),(12,.own 1),(13,.e (.sl .tx) x.2.2.1),(14,.e (.i .i64) x.2.2.2.1)],[(0,.row 9 .tx x.2.2.2.2.1 true),(1,.row 23 (.sl .u8) x.2.2.2.2.2 true)],100⟩
def w3u0 (σ:Sg):Int×Int×(List YF7)×Int×(List YF7)×(List YF7):=(lvT (.i .i64) 3 0 σ,lvT (.i .i64) 4 0 σ,lvT (.sl .tx) 13 0 σ,lvT (.i .i64) 14 0 σ,lvR .tx 0 σ,lvR (.sl .u8) 1 σ)
theorem w3ui0:∀ x,w3u0 (w3I0 x)=x:=fun _=>by kernel_rfl
def w3X0_0 (y:Int×Int×(List YF7)×(List YF7)):Exit×Sg:=((.exit 0),⟨[(3,.e (.i .i64) y.1),(4,.e (.i .i64) y.2.1),(11,.own 0),(12,.own 1)],[(0,.row 9 .tx y.2.2.1 true),(1,.row 23 (.sl .u8) y.2.2.2 true)],100⟩)
def w3v0_0 (_:Exit) (σ:Sg):Int×Int×(List YF7)×(List YF7):=(lvT (.i .i64) 3 0 σ,lvT (.i .i64) 4 0 σ,lvR .tx 0 σ,lvR (.sl .u8) 1 σ)
def w3w0:List (Exit×Nm):=[((.exit 0),⟨[3,4,11,12],[],[]⟩)]
def w3l0 [Alg] (N:Nat):Nat->(Int×Int×(List YF7)×Int×(List YF7)×(List YF7))->((Int×Int×(List YF7)×(List YF7))->O)->((Unit)->O)->((Unit)->O)->O
 | 0,_,_,_,_=>none
 | n+1,x,k0,k1,k2=>w3F0 N (fun v0 v1=>w3l0 N n (x.1,x.2.1,x.2.2.1,v0,v1,x.2.2.2.2.2) k0 k1 k2) (fun y0 y1 y2 y3=>k0 (y0,y1,y2,y3)) x.1 x.2.1 x.2.2.1 x.2.2.2.2.2 x.2.2.2.1 x.2.2.2.2.1
def w3n0 [Alg] N a0 a1 a2 a3 a4 a5 (k0:Int->Int->(List YF7)->(List YF7)->O):=w3l0 N N (a0,a1,a2,a3,a4,a5) (fun y=>k0 y.1 y.2.1 y.2.2.1 y.2.2.2) (fun _=>none) (fun _=>none)
def w3s0 [Alg] N a0 a1 a2 a3 a4 a5 (k0:Int->Int->(List YF7)->(List YF7)->O):=subL w3I0 w3u0 (w3l0 N N) (w3I0 (a0,a1,a2,a3,a4,a5)) (fun y=>k0 y.1 y.2.1 y.2.2.1 y.2.2.2) (fun _=>none) (fun _=>none)
theorem w3e0 [Alg] N:w3s0 N=w3n0 N:=funext fun _=>funext fun _=>funext fun _=>funext fun _=>funext fun _=>funext fun _=>funext fun _=>subL_I w3ui0 _ _ _ _
theorem w3q0 [Alg] (N:Nat) (self:Sg->O) (K:Exit->Sg->O) (x:Int×Int×(List YF7)×Int×(List YF7)×(List YF7)):w3F0 N (fun v0 v1=>self (w3I0 (x.1,x.2.1,x.2.2.1,v0,v1,x.2.2.2.2.2))) (fun y0 y1 y2 y3=>K (w3X0_0 (y0,y1,y2,y3)).1 (w3X0_0 (y0,y1,y2,y3)).2) x.1 x.2.1 x.2.2.1 x.2.2.2.2.2 x.2.2.2.1 x.2.2.2.2.1=exec (w3c N) Tryz.f3.ntmps .d w3b0 (w3I0 x) (roundX w3m0 w3w0 self K):=by kernel_rfl
theorem w3S0 N (hc:CxOk (w3c N)):SubOk (w3c N) Tryz.f3.ntmps (.loop w3b0) w3X0_0 (noX 1) (noX 2) (subL w3I0 w3u0 (w3l0 N N)):=
 sub_loop hc (hk_d w3b0) (oK1 w3v0_0 (.exit 0) (fun _=>by kernel_rfl) (fun _=>rfl) (by kernel_rfl)) (n:=N) (fun x K=>loop_ind (w3l0 N) (fun _ _ _ _=>rfl) (fun n K ih x=>by
  refine Eq.trans ?_ (w3q0 N _ K x);simp only [← ih];rfl) N x K)
def w3F1 [Alg] (N:Nat) (self:Int->(List YF7)->O) (k0:Bool->O) (k1:Int->(List YF7)->O) (x8_0 x8_1:Int) (x8_3:(List YF7)) (x8_2:Int) (x8_4:(List YF7)):O:=
 br (decide (x8_2 < (↑x8_3.length:Int)))
  (gx x8_3 x8_2 fun y15=>
  ck (w10p N y15) <|
  gx x8_3 x8_2 fun y16=>
  ck (w11p N y16) <|
  ck (!!decide (w10y1 N y15≠w11y1 N y16)||w12p N (w10y0 N y15) (w11y0 N y16)) <|
  br (decide (w10y1 N y15≠w11y1 N y16)||!w12y0 N (w10y0 N y15) (w11y0 N y16))
   (k0 false)
   (ck (v13p N (w11y0 N y16) (↑(w11y0 N y16).length:Int)) <|
   br (decide ((0:Int) < (↑(v13y0 N (w11y0 N y16) (↑(w11y0 N y16).length:Int)).length:Int)))
    (ck (w14p N x8_0 (↑(v13y0 N (w11y0 N y16) (↑(w11y0 N y16).length:Int)).length:Int)) <|
    ck (w14p N x8_1 (66:Int)) <|
    ck (decide ((0:Int)<=w14y0 N x8_0 (↑(v13y0 N (w11y0 N y16) (↑(w11y0 N y16).length:Int)).length:Int)/\w14y0 N x8_0 (↑(v13y0 N (w11y0 N y16) (↑(w11y0 N y16).length:Int)).length:Int) < (↑(v13y0 N (w11y0 N y16) (↑(w11y0 N y16).length:Int)).length:Int))) <|
    gn (v13y0 N (w11y0 N y16) (↑(w11y0 N y16).length:Int)) ((w14y0 N x8_0 (↑(v13y0 N (w11y0 N y16) (↑(w11y0 N y16).length:Int)).length:Int)).toNat) fun _=>
    ck (lim (x8_4++[w11y0 N y16,(v13y0 N (w11y0 N y16) (↑(w11y0 N y16).length:Int)).set (w14y0 N x8_0 (↑(v13y0 N (w11y0 N y16) (↑(w11y0 N y16).length:Int)).length:Int)).toNat (u8of (w14y0 N x8_1 (66:Int)))]).length (24:Nat)) <|
    self (IntKind.i64.wrap (x8_2+1)) (x8_4++[w11y0 N y16,(v13y0 N (w11y0 N y16) (↑(w11y0 N y16).length:Int)).set (w14y0 N x8_0 (↑(v13y0 N (w11y0 N y16) (↑(w11y0 N y16).length:Int)).length:Int)).toNat (u8of (w14y0 N x8_1 (66:Int)))]))
    (ck (lim (x8_4++[w11y0 N y16,v13y0 N (w11y0 N y16) (↑(w11y0 N y16).length:Int)]).length (24:Nat)) <|
    self (IntKind.i64.wrap (x8_2+1)) (x8_4++[w11y0 N y16,v13y0 N (w11y0 N y16) (↑(w11y0 N y16).length:Int)]))))
  (k1 x8_0 x8_4)
def w3b1:Code:=atC [1,1,1,1,1,0,1,0,0] w3b
def w3m1:Nm:=⟨[3,4,11,12,15],[],[]⟩
def w3I1 (x:Int×Int×Int×(List YF7)×(List YF7)):Sg:=⟨[(3,.e (.i .i64) x.1),(4,.e (.i .i64) x.2.1),(11,.own 0),(12,.own 1),(15,.e (.i .i64) x.2.2.1)],[(0,.row 9 .tx x.2.2.2.1 true),(1,.row 23 (.sl .u8) x.2.2.2.2 true)],100⟩
def w3u1 (σ:Sg):Int×Int×Int×(List YF7)×(List YF7):=(lvT (.i .i64) 3 0 σ,lvT (.i .i64) 4 0 σ,lvT (.i .i64) 15 0 σ,lvR .tx 0 σ,lvR (.sl .u8) 1 σ)
theorem w3ui1:∀ x,w3u1 (w3I1 x)=x:=fun _=>by kernel_rfl
def w3X1_0 (y:Bool):Exit×Sg:=(.ret,⟨[(10,.e .bo y)],[],100⟩)
def w3v1_0 (_:Exit) (σ:Sg):Bool:=lvT .bo 10 0 σ
def w3X1_1 (y:Int×(List YF7)):Exit×Sg:=((.exit 2),⟨[(3,.e (.i .i64) y.1),(12,.own 0)],[(0,.row 23 (.sl .u8) y.2 true)],100⟩)
def w3v1_1 (_:Exit) (σ:Sg):Int×(List YF7):=(lvT (.i .i64) 3 0 σ,lvR (.sl .u8) 0 σ)
def w3w1:List (Exit×Nm):=[(.ret,⟨[10],[],[]⟩),((.exit 2),⟨[3,12],[],[]⟩)]
def w3l1 [Alg] (N:Nat):Nat->(Int×Int×Int×(List YF7)×(List YF7))->((Bool)->O)->((Int×(List YF7))->O)->((Unit)->O)->O
 | 0,_,_,_,_=>none
 | n+1,x,k0,k1,k2=>w3F1 N (fun v0 v1=>w3l1 N n (x.1,x.2.1,v0,x.2.2.2.1,v1) k0 k1 k2) (fun y0=>k0 y0) (fun y0 y1=>k1 (y0,y1)) x.1 x.2.1 x.2.2.2.1 x.2.2.1 x.2.2.2.2
def w3n1 [Alg] N a0 a1 a2 a3 a4 (k0:Bool->O) (k1:Int->(List YF7)->O):=w3l1 N N (a0,a1,a2,a3,a4) (fun y=>k0 y) (fun y=>k1 y.1 y.2) (fun _=>none)
def w3s1 [Alg] N a0 a1 a2 a3 a4 (k0:Bool->O) (k1:Int->(List YF7)->O):=subL w3I1 w3u1 (w3l1 N N) (w3I1 (a0,a1,a2,a3,a4)) (fun y=>k0 y) (fun y=>k1 y.1 y.2) (fun _=>none)
theorem w3e1 [Alg] N:w3s1 N=w3n1 N:=funext fun _=>funext fun _=>funext fun _=>funext fun _=>funext fun _=>funext fun _=>funext fun _=>subL_I w3ui1 _ _ _ _
def w3h1 [Alg] (_:Nat):Hint:=(.seq .d (.seq (.block (.seq .d (.seq .d (.seq .d (.seq .d (.seq .d (.reg [] [.slr 20] []))))))) .d))
theorem w3hk1 N:HintOk (w3c N) Tryz.f3.ntmps (w3h1 N) w3b1:=hk_of _ _ (And.intro trivial (And.intro (And.intro trivial (And.intro trivial (And.intro trivial (And.intro trivial (And.intro trivial trivial))))) trivial))
theorem w3q1 [Alg] (N:Nat) (self:Sg->O) (K:Exit->Sg->O) (x:Int×Int×Int×(List YF7)×(List YF7)):w3F1 N (fun v0 v1=>self (w3I1 (x.1,x.2.1,v0,x.2.2.2.1,v1))) (fun y0=>K (w3X1_0 y0).1 (w3X1_0 y0).2) (fun y0 y1=>K (w3X1_1 (y0,y1)).1 (w3X1_1 (y0,y1)).2) x.1 x.2.1 x.2.2.2.1 x.2.2.1 x.2.2.2.2=exec (w3c N) Tryz.f3.ntmps (w3h1 N) w3b1 (w3I1 x) (roundX w3m1 w3w1 self K):=by kernel_rfl
theorem w3S1 N (hc:CxOk (w3c N)):SubOk (w3c N) Tryz.f3.ntmps (.loop w3b1) w3X1_0 w3X1_1 (noX 2) (subL w3I1 w3u1 (w3l1 N N)):=
 sub_loop hc (w3hk1 N) (oK2 w3v1_0 w3v1_1 .ret (.exit 2) (fun _=>by kernel_rfl) (fun _=>by kernel_rfl) (fun _=>rfl) (fun _=>rfl) (by kernel_rfl)) (n:=N) (fun x K=>loop_ind (w3l1 N) (fun _ _ _ _=>rfl) (fun n K ih x=>by
  refine Eq.trans ?_ (w3q1 N _ K x);simp only [← ih];rfl) N x K)
def w3F2 [Alg] (N:Nat) (self:Int->O) (k0:Bool->O) (k1:Unit->O) (_x21_0:Int) (x21_2:(List YF7)) (x21_1:Int):O:=
 br (decide (x21_1 < (↑x21_2.length:Int)))
  (gx x21_2 x21_1 fun y26=>
  ck (w15p N y26) <|
  gx x21_2 x21_1 fun y27=>
  ck (w16p N y27) <|
  br (decide (w15y1 N y26≠w16y1 N y27)||decide (w15y0 N y26≠w16y0 N y27))
   (k0 false)
   (self (IntKind.i64.wrap (x21_1+1))))
  (k1 ())
def w3b2:Code:=atC [1,1,1,1,1,1,0,1,0,0] w3b
def w3m2:Nm:=⟨[3,12,21],[],[]⟩
def w3I2 (x:Int×Int×(List YF7)):Sg:=⟨[(3,.e (.i .i64) x.1),(12,.own 0),(21,.e (.i .i64) x.2.1)],[(0,.row 23 (.sl .u8) x.2.2 true)],100⟩
def w3u2 (σ:Sg):Int×Int×(List YF7):=(lvT (.i .i64) 3 0 σ,lvT (.i .i64) 21 0 σ,lvR (.sl .u8) 0 σ)
theorem w3ui2:∀ x,w3u2 (w3I2 x)=x:=fun _=>by kernel_rfl
def w3X2_0 (y:Bool):Exit×Sg:=(.ret,⟨[(10,.e .bo y)],[],100⟩)
def w3v2_0 (_:Exit) (σ:Sg):Bool:=lvT .bo 10 0 σ
def w3X2_1 (_:Unit):Exit×Sg:=((.exit 4),⟨[],[],100⟩)
def w3v2_1 (_:Exit) (_:Sg):Unit:=()
def w3w2:List (Exit×Nm):=[(.ret,⟨[10],[],[]⟩),((.exit 4),⟨[],[],[]⟩)]
def w3l2 [Alg] (N:Nat):Nat->(Int×Int×(List YF7))->((Bool)->O)->((Unit)->O)->((Unit)->O)->O
 | 0,_,_,_,_=>none
 | n+1,x,k0,k1,k2=>w3F2 N (fun v0=>w3l2 N n (x.1,v0,x.2.2) k0 k1 k2) (fun y0=>k0 y0) (fun (_:Unit)=>k1 ()) x.1 x.2.2 x.2.1
def w3n2 [Alg] N a0 a1 a2 (k0:Bool->O) (k1:Unit->O):=w3l2 N N (a0,a1,a2) (fun y=>k0 y) (fun y=>k1 y) (fun _=>none)
def w3s2 [Alg] N a0 a1 a2 (k0:Bool->O) (k1:Unit->O):=subL w3I2 w3u2 (w3l2 N N) (w3I2 (a0,a1,a2)) (fun y=>k0 y) (fun y=>k1 y) (fun _=>none)
theorem w3e2 [Alg] N:w3s2 N=w3n2 N:=funext fun _=>funext fun _=>funext fun _=>funext fun _=>funext fun _=>subL_I w3ui2 _ _ _ _
theorem w3q2 [Alg] (N:Nat) (self:Sg->O) (K:Exit->Sg->O) (x:Int×Int×(List YF7)):w3F2 N (fun v0=>self (w3I2 (x.1,v0,x.2.2))) (fun y0=>K (w3X2_0 y0).1 (w3X2_0 y0).2) (fun (_:Unit)=>K (w3X2_1 ()).1 (w3X2_1 ()).2) x.1 x.2.2 x.2.1=exec (w3c N) Tryz.f3.ntmps .d w3b2 (w3I2 x) (roundX w3m2 w3w2 self K):=by kernel_rfl
theorem w3S2 N (hc:CxOk (w3c N)):SubOk (w3c N) Tryz.f3.ntmps (.loop w3b2) w3X2_0 w3X2_1 (noX 2) (subL w3I2 w3u2 (w3l2 N N)):=
 sub_loop hc (hk_d w3b2) (oK2 w3v2_0 w3v2_1 .ret (.exit 4) (fun _=>by kernel_rfl) (fun _=>by kernel_rfl) (fun _=>rfl) (fun _=>rfl) (by kernel_rfl)) (n:=N) (fun x K=>loop_ind (w3l2 N) (fun _ _ _ _=>rfl) (fun n K ih x=>by
  refine Eq.trans ?_ (w3q2 N _ K x);simp only [← ih];rfl) N x K)
def w3G [Alg] (N:Nat) (in0:Int->Int->(List YF7)->Int->(List YF7)->(List YF7)->(Int->Int->(List YF7)->(List YF7)->O)->O) (in1:Int->Int->Int->(List YF7)->(List YF7)->(Bool->O)->(Int->(List YF7)->O)->O) (in2:Int->Int->(List YF7)->(Bool->O)->(Unit->O)->O) (l0:(List Int)) (raw1 b2:YF7) (at3 by4:Int):O:=
 ck (slcOk raw1.length none (some (min (↑raw1.length:Int) (100:Int)))) <|
 ck (slcOk b2.length none (some (min (↑b2.length:Int) (100:Int)))) <|
 ck (w9p N l0) <|
 in0 at3 by4 (w9y0 N l0) 0 [slc raw1 none (some (min (↑raw1.length:Int) (100:Int))),[]] [slc b2 none (some (min (↑b2.length:Int) (100:Int))),[]]
  (fun z4 z5 z6 z7=>
   in1 z4 z5 0 z6 z7
    (fun z18=>
     some (w3r0 z18))
    (fun z19 z20=>
     in2 z19 0 z20
      (fun z28=>
       some (w3r0 z28))
      (fun (_:Unit)=>
       ck true <|
       some (w3r0 true))))
def w3 [Alg] N l0 raw1 b2 at3 by4:=w3G N (w3n0 N) (w3n1 N) (w3n2 N) l0 raw1 b2 at3 by4
def w3h [Alg] (N:Nat):Hint:=(.seq .d (.seq .d (.seq .d (.seq .d (.seq (.seq .d (.block (.sub w3m0 _ _ _ w3X0_0 (noX 1) (noX 2) (subL w3I0 w3u0 (w3l0 N N))))) (.seq (.seq .d (.block (.sub w3m1 _ _ _ w3X1_0 w3X1_1 (noX 2) (subL w3I1 w3u1 (w3l1 N N))))) (.seq (.seq .d (.block (.sub w3m2 _ _ _ w3X2_0 w3X2_1 (noX 2) (subL w3I2 w3u2 (w3l2 N N))))) .d)))))))
theorem w3hk N (hc:CxOk (w3c N)):HintOk (w3c N) Tryz.f3.ntmps (w3h N) w3b:=hk_of _ _ (And.intro trivial (And.intro trivial (And.intro trivial (And.intro trivial (And.intro (And.intro trivial (w3S0 N hc)) (And.intro (And.intro trivial (w3S1 N hc)) (And.intro (And.intro trivial (w3S2 N hc)) trivial)))))))
theorem w3q [Alg] N l0 raw1 b2 at3 by4:w3G N (w3s0 N) (w3s1 N) (w3s2 N) l0 raw1 b2 at3 by4=exec (w3c N) Tryz.f3.ntmps (w3h N) w3b ⟨argT 0 [.e (.sl (.i .i64)) l0,.e .tx raw1,.e (.sl .u8) b2,.e (.i .i64) at3,.e (.i .i64) by4],[],100⟩ (finX (w3c N) Tryz.f3 false):=by kernel_rfl
def w3un (r:Res):Option (Bool):=match r with
 | (x0,[])=>(match ue .bo x0 with | some a0=>some a0 | _=>none)
 | _=>none
theorem w3uo {r d} (h:w3un r=some d):r=w3r0 (d):=by
 unfold w3un at h;split at h
 ·split at h
  ·rename_i h0;cases h;rw [ue_some h0];rfl
  ·cases h
 ·cases h
def w3z N l0 raw1 b2 at3 by4:=(w3 N l0 raw1 b2 at3 by4).bind w3un
theorem w3fin {N} (hc:CxOk (w3c N)) {l0 raw1 b2 at3 by4 d} (hd:w3z N l0 raw1 b2 at3 by4=some d):DoK Tryz.prog 3 [.e (.sl (.i .i64)) l0,.e .tx raw1,.e (.sl .u8) b2,.e (.i .i64) at3,.e (.i .i64) by4] [] (w3r0 (d)):=
 finJ hc (by kernel_rfl) (by kernel_rfl) (w3hk N hc) (by kernel_rfl) w3uo (fun hr=>(w3q N l0 raw1 b2 at3 by4).symm.trans (by rw [w3e0 N,w3e1 N,w3e2 N];exact hr)) hd
end
end Go.Proofs
