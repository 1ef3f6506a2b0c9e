/- What the law does. Conditions are in the theorems. -/
import Derived.Test.YtihfefggdgiodaaGreatDoorE7
import Derived.Test.YtihfefggdgiodaaGreatDoorProg
import Derived.KernelRfl
import Derived.Test.YtihfefggdgiodaaGreatDoorG2
/- What functions do. -/
namespace Go.Proofs
noncomputable section
open Go.Ax Go.Ax.Alg Go.RowKit Go.Ab
abbrev YF7:=List UInt8
open Go
end
end Go.Proofs
/- What functions do. -/
namespace Go.Proofs
noncomputable section
open Go.Ax Go.Ax.Alg Go.RowKit Go.Ab
open Go
def w4r0 (a0:Bool):Res:=(.e .bo a0,[])
def w4c (N:Nat):Cx:=⟨Tryz.prog,99999,[(17,l17e N),(18,v18e N),(14,w14e N),(19,w19e N),(20,w20e N),(21,w21e N),(22,w22e N),(23,w23e N),(24,w24e N)],[]⟩
def w4b:Code:=Tryz.f4.body.getD .skip
theorem w4cx N:CxOk (w4c N):=ctx_ok (by kernel_rfl) (.cons (by kernel_rfl) (l17ok N) (.cons (by kernel_rfl) (v18ok N) (.cons (by kernel_rfl) (w14ok N) (.cons (by kernel_rfl) (w19ok N) (.cons (by kernel_rfl) (w20ok N) (.cons (by kernel_rfl) (w21ok N) (.cons (by kernel_rfl) (w22ok N) (.cons (by kernel_rfl) (w23ok N) (.cons (by kernel_rfl) (w24ok N) .nil))))))))) .nil
def w4F0 [Alg] (N:Nat) (self:Int->O) (k0:Bool->O) (k1:Int->Bool->Int->(List (List YF7))->(List Int)->O) (x63_0:Int) (x63_1:Bool) (x63_2:Int) (x63_4:(List (List YF7))) (x63_5:(List Int)) (x63_3:Int):O:=
 br (decide (x63_3 < 3))
  (gx x63_4 x63_2 fun y80=>
  gx x63_5 x63_3 fun y81=>
  ck (w19p N y80 y81) <|
  gx x63_4 x63_2 fun y82=>
  gx x63_5 x63_3 fun y83=>
  ck (w20p N y82 y83) <|
  gx x63_4 x63_2 fun y84=>
  gx x63_5 x63_3 fun y85=>
  ck (w21p N y84 y85) <|
  gx x63_4 x63_2 fun y86=>
  gx x63_5 x63_3 fun y87=>
  ck (w22p N y86 y87) <|
  ck (!!(decide (w19y1 N y80 y81≠w20y1 N y82 y83)||decide (w21y1 N y84 y85≠w22y1 N y86 y87))||w23p N (w19y0 N y80 y81) (w20y0 N y82 y83)) <|
  ck (!!(decide (w19y1 N y80 y81≠w20y1 N y82 y83)||decide (w21y1 N y84 y85≠w22y1 N y86 y87)||!w23y0 N (w19y0 N y80 y81) (w20y0 N y82 y83))||w24p N (w21y0 N y84 y85) (w22y0 N y86 y87)) <|
  br (decide (w19y1 N y80 y81≠w20y1 N y82 y83)||decide (w21y1 N y84 y85≠w22y1 N y86 y87)||!w23y0 N (w19y0 N y80 y81) (w20y0 N y82 y83)||!w24y0 N (w21y0 N y84 y85) (w22y0 N y86 y87))
   (k0 false)
   (self (IntKind.i64.wrap (x63_3+1))))
  (k1 x63_0 x63_1 x63_2 x63_4 x63_5)
def w4b0:Code:=atC [1,1,1,1,0,1,0,0,1,0,0,1,0,0] w4b
def w4m0:Nm:=⟨[3,8,9,10,11,12],[],[]⟩
def w4I0 (x:Int×Bool×Int×Int×(List (List YF7))×(List Int)):Sg:=⟨[(3,.e (.i .i64) x.1),(8,.e .bo x.2.1),(9,.own 0),(10,.own 1),(11,.e (.i .i64) x.2.2.1),(12,.e (.i .i64) x.2.2.2.1)],[(0,.row 24 (.sl .tx) x.2.2.2.2.1 true),(1,.row 3 (.i .i64) x.2.2.2.2.2 true)],100⟩
def w4u0 (σ:Sg):Int×Bool×Int×Int×(List (List YF7))×(List Int):=(lvT (.i .i64) 3 0 σ,lvT .bo 8 0 σ,lvT (.i .i64) 11 0 σ,lvT (.i .i64) 12 0 σ,lvR (.sl .tx) 0 σ,lvR (.i .i64) 1 σ)
theorem w4ui0:∀ x,w4u0 (w4I0 x)=x:=fun _=>by kernel_rfl
def w4X0_0 (y:Bool):Exit×Sg:=(.ret,⟨[(8,.e .bo y)],[],100⟩)
def w4v0_0 (_:Exit) (σ:Sg):Bool:=lvT .bo 8 0 σ
def w4X0_1 (y:Int×Bool×Int×(List (List YF7))×(List Int)):Exit×Sg:=((.exit 2),⟨[(3,.e (.i .i64) y.1),(8,.e .bo y.2.1),(9,.own 0),(10,.own 1),(11,.e (.i .i64) y.2.2.1)],[(0,.row 24 (.sl .tx) y.2.2.2.1 true),(1,.row 3 (.i .i64) y.2.2.2.2 true)],100⟩)
def w4v0_1 (_:Exit) (σ:Sg):Int×Bool×Int×(List (List YF7))×(List Int):=(lvT (.i .i64) 3 0 σ,lvT .bo 8 0 σ,lvT (.i .i64) 11 0 σ,lvR (.sl .tx) 0 σ,lvR (.i .i64) 1 σ)
def w4w0:List (Exit×Nm):=[(.ret,⟨[8],[],[]⟩),((.exit 2),⟨[3,8,9,10,11],[],[]⟩)]
def w4l0 [Alg] (N:Nat):Nat->(Int×Bool×Int×Int×(List (List YF7))×(List Int))->((Bool)->O)->((Int×Bool×Int×(List (List YF7))×(List Int))->O)->((Unit)->O)->O
 | 0,_,_,_,_=>none
 | n+1,x,k0,k1,k2=>w4F0 N (fun v0=>w4l0 N n (x.1,x.2.1,x.2.2.1,v0,x.2.2.2.2.1,x.2.2.2.2.2) k0 k1 k2) (fun y0=>k0 y0) (fun y0 y1 y2 y3 y4=>k1 (y0,y1,y2,y3,y4)) x.1 x.2.1 x.2.2.1 x.2.2.2.2.1 x.2.2.2.2.2 x.2.2.2.1
def w4n0 [Alg] N a0 a1 a2 a3 a4 a5 (k0:Bool->O) (k1:Int->Bool->Int->(List (List YF7))->(List Int)->O):=w4l0 N N (a0,a1,a2,a3,a4,a5) (fun y=>k0 y) (fun y=>k1 y.1 y.2.1 y.2.2.1 y.2.2.2.1 y.2.2.2.2) (fun _=>none)
def w4s0 [Alg] N a0 a1 a2 a3 a4 a5 (k0:Bool->O) (k1:Int->Bool->Int->(List (List YF7))->(List Int)->O):=subL w4I0 w4u0 (w4l0 N N) (w4I0 (a0,a1,a2,a3,a4,a5)) (fun y=>k0 y) (fun y=>k1 y.1 y.2.1 y.2.2.1 y.2.2.2.1 y.2.2.2.2) (fun _=>none)
theorem w4e0 [Alg] N:w4s0 N=w4n0 N:=funext fun _=>funext fun _=>funext fun _=>funext fun _=>funext fun _=>funext fun _=>funext fun _=>funext fun _=>subL_I w4ui0 _ _ _ _
theorem w4q0 [Alg] (N:Nat) (self:Sg->O) (K:Exit->Sg->O) (x:Int×Bool×Int×Int×(List (List YF7))×(List Int)):w4F0 N (fun v0=>self (w4I0 (x.1,x.2.1,x.2.2.1,v0,x.2.2.2.2.1,x.2.2.2.2.2))) (fun y0=>K (w4X0_0 y0).1 (w4X0_0 y0).2) (fun y0 y1 y2 y3 y4=>K (w4X0_1 (y0,y1,y2,y3,y4)).1 (w4X0_1 (y0,y1,y2,y3,y4)).2) x.1 x.2.1 x.2.2.1 x.2.2.2.2.1 x.2.2.2.2.2 x.2.2.2.1=exec (w4c N) Tryz.f4.ntmps .d w4b0 (w4I0 x) (roundX w4m0 w4w0 self K):=by kernel_rfl
theorem w4S0 N (hc:CxOk (w4c N)):SubOk (w4c N) Tryz.f4.ntmps (.loop w4b0) w4X0_0 w4X0_1 (noX 2) (subL w4I0 w4u0 (w4l0 N N)):=
 sub_loop hc (hk_d w4b0) (oK2 w4v0_0 w4v0_1 .ret (.exit 2) (fun _=>by kernel_rfl) (fun _=>by kernel_rfl) (fun _=>rfl) (fun _=>rfl) (by kernel_rfl)) (n:=N) (fun x K=>loop_ind (w4l0 N) (fun _ _ _ _=>rfl) (fun n K ih x=>by
  refine Eq.trans ?_ (w4q0 N _ K x);simp only [← ih];rfl) N x K)
def w4F1 [Alg] (_:Nat) (in0:Int->Bool->Int->Int->(List (List YF7))->(List Int)->(Bool->O)->(Int->Bool->Int->(List (List YF7))->(List Int)->O)->O) (self:Int->Bool->Int->(List (List YF7))->(List Int)->O) (k0:Bool->O) (k1:Unit->O) (x0_0:Int) (x0_1:Bool) (x0_2:Int) (x0_3:(List (List YF7))) (x0_4:(List Int)):O:=
 br (decide (x0_2 < (↑x0_3.length:Int)))
  (in0 x0_0 x0_1 x0_2 0 x0_3 x0_4
   (fun z88=>
    k0 z88)
   (fun z89 z90 z91 z92 z93=>
    self z89 z90 (IntKind.i64.wrap (z91+1)) z92 z93))
  (k1 ())
def w4b1:Code:=atC [1,1,1,1,0,1,0,0] w4b
def w4m1:Nm:=⟨[3,8,9,10,11],[],[]⟩
def w4I1 (x:Int×Bool×Int×(List (List YF7))×(List Int)):Sg:=⟨[(3,.e (.i .i64) x.1),(8,.e .bo x.2.1),(9,.own 0),(10,.own 1),(11,.e (.i .i64) x.2.2.1)],[(0,.row 24 (.sl .tx) x.2.2.2.1 true),(1,.row 3 (.i .i64) x.2.2.2.2 true)],100⟩
def w4u1 (σ:Sg):Int×Bool×Int×(List (List YF7))×(List Int):=(lvT (.i .i64) 3 0 σ,lvT .bo 8 0 σ,lvT (.i .i64) 11 0 σ,lvR (.sl .tx) 0 σ,lvR (.i .i64) 1 σ)
theorem w4ui1:∀ x,w4u1 (w4I1 x)=x:=fun _=>by kernel_rfl
def w4X1_0 (y:Bool):Exit×Sg:=(.ret,⟨[(8,.e .bo y)],[],100⟩)
def w4v1_0 (_:Exit) (σ:Sg):Bool:=lvT .bo 8 0 σ
def w4X1_1 (_:Unit):Exit×Sg:=((.exit 0),⟨[],[],100⟩)
def w4v1_1 (_:Exit) (_:Sg):Unit:=()
def w4w1:List (Exit×Nm):=[(.ret,⟨[8],[],[]⟩),((.exit 0),⟨[],[],[]⟩)]
def w4l1 [Alg] (N:Nat):Nat->(Int×Bool×Int×(List (List YF7))×(List Int))->((Bool)->O)->((Unit)->O)->((Unit)->O)->O
 | 0,_,_,_,_=>none
 | n+1,x,k0,k1,k2=>w4F1 N (w4n0 N) (fun v0 v1 v2 v3 v4=>w4l1 N n (v0,v1,v2,v3,v4) k0 k1 k2) (fun y0=>k0 y0) (fun (_:Unit)=>k1 ()) x.1 x.2.1 x.2.2.1 x.2.2.2.1 x.2.2.2.2
def w4n1 [Alg] N a0 a1 a2 a3 a4 (k0:Bool->O) (k1:Unit->O):=w4l1 N N (a0,a1,a2,a3,a4) (fun y=>k0 y) (fun y=>k1 y) (fun _=>none)
def w4s1 [Alg] N a0 a1 a2 a3 a4 (k0:Bool->O) (k1:Unit->O):=subL w4I1 w4u1 (w4l1 N N) (w4I1 (a0,a1,a2,a3,a4)) (fun y=>k0 y) (fun y=>k1 y) (fun _=>none)
theorem w4e1 [Alg] N:w4s1 N=w4n1 N:=funext fun _=>funext fun _=>funext fun _=>funext fun _=>funext fun _=>funext fun _=>funext fun _=>subL_I w4ui1 _ _ _ _
def w4h1 [Alg] (N:Nat):Hint:=(.seq .d (.seq (.block (.seq .d (.block (.sub w4m0 _ _ _ w4X0_0 w4X0_1 (noX 2) (subL w4I0 w4u0 (w4l0 N N)))))) .d))
theorem w4hk1 N (hc:CxOk (w4c N)):HintOk (w4c N) Tryz.f4.ntmps (w4h1 N) w4b1:=hk_of _ _ (And.intro trivial (And.intro (And.intro trivial (w4S0 N hc)) trivial))
theorem w4q1 [Alg] (N:Nat) (self:Sg->O) (K:Exit->Sg->O) (x:Int×Bool×Int×(List (List YF7))×(List Int)):w4F1 N (w4s0 N) (fun v0 v1 v2 v3 v4=>self (w4I1 (v0,v1,v2,v3,v4))) (fun y0=>K (w4X1_0 y0).1 (w4X1_0 y0).2) (fun (_:Unit)=>K (w4X1_1 ()).1 (w4X1_1 ()).2) x.1 x.2.1 x.2.2.1 x.2.2.2.1 x.2.2.2.2=exec (w4c N) Tryz.f4.ntmps (w4h1 N) w4b1 (w4I1 x) (roundX w4m1 w4w1 self K):=by kernel_rfl
theorem w4S1 N (hc:CxOk (w4c N)):SubOk (w4c N) Tryz.f4.ntmps (.loop w4b1) w4X1_0 w4X1_1 (noX 2) (subL w4I1 w4u1 (w4l1 N N)):=
 sub_loop hc (w4hk1 N hc) (oK2 w4v1_0 w4v1_1 .ret (.exit 0) (fun _=>by kernel_rfl) (fun _=>by kernel_rfl) (fun _=>rfl) (fun _=>rfl) (by kernel_rfl)) (n:=N) (fun x K=>loop_ind (w4l1 N) (fun _ _ _ _=>rfl) (fun n K ih x=>by
  refine Eq.trans ?_ (w4q1 N _ K x);simp only [w4e0 N,← ih];rfl) N x K)
def w4G [Alg] (N:Nat) (_in0:Int->Bool->Int->Int->(List (List YF7))->(List Int)->(Bool->O)->(Int->Bool->Int->(List (List YF7))->(List Int)->O)->O) (in1:Int->Bool->Int->(List (List YF7))->(List Int)->(Bool->O)->(Unit->O)->O) (l0:(List Int)) (raw1:YF7) (width2 many3:Int):O:=
 ck (v18p N l0 raw1) <|
 ck (w14p N many3 (8:Int)) <|
 ck (decide ((0:Int)<=IntKind.i64.wrap ((60:Int)+w14y0 N many3 (8:Int)))) <|
 ck (lim (IntKind.i64.wrap ((60:Int)+w14y0 N many3 (8:Int))).toNat (16:Nat)) <|
 ck (lim (v18y0 N l0 raw1++[List.replicate (IntKind.i64.wrap ((60:Int)+w14y0 N many3 (8:Int))).toNat []]).length (24:Nat)) <|
 ck (w14p N width2 (37:Int)) <|
 ck (w14p N width2 (46:Int)) <|
 in1 many3 false 0 (v18y0 N l0 raw1++[List.replicate (IntKind.i64.wrap ((60:Int)+w14y0 N many3 (8:Int))).toNat []]) [IntKind.i64.wrap ((4:Int)+w14y0 N width2 (37:Int)),w14y0 N width2 (46:Int),width2]
  (fun z94=>
   some (w4r0 z94))
  (fun (_:Unit)=>
   ck true <|
   some (w4r0 true))
def w4 [Alg] N l0 raw1 width2 many3:=w4G N (w4n0 N) (w4n1 N) l0 raw1 width2 many3
def w4h [Alg] (N:Nat):Hint:=(.seq .d (.seq .d (.seq (.reg [4] [] []) (.seq .d (.seq (.seq .d (.block (.sub w4m1 _ _ _ w4X1_0 w4X1_1 (noX 2) (subL w4I1 w4u1 (w4l1 N N))))) .d)))))
theorem w4hk N (hc:CxOk (w4c N)):HintOk (w4c N) Tryz.f4.ntmps (w4h N) w4b:=hk_of _ _ (And.intro trivial (And.intro trivial (And.intro trivial (And.intro trivial (And.intro (And.intro trivial (w4S1 N hc)) trivial)))))
theorem w4q [Alg] N l0 raw1 width2 many3:w4G N (w4s0 N) (w4s1 N) l0 raw1 width2 many3=exec (w4c N) Tryz.f4.ntmps (w4h N) w4b ⟨argT 0 [.e (.sl (.i .i64)) l0,.e .tx raw1,.e (.i .i64) width2,.e (.i .i64) many3],[],100⟩ (finX (w4c N) Tryz.f4 false):=by kernel_rfl
def w4un (r:Res):Option (Bool):=match r with
 | (x0,[])=>(match ue .bo x0 with | some a0=>some a0 | _=>none)
 | _=>none
theorem w4uo {r d} (h:w4un r=some d):r=w4r0 (d):=by
 unfold w4un at h;split at h
 ·split at h
  ·rename_i h0;cases h;rw [ue_some h0];rfl
  ·cases h
 ·cases h
def w4z N l0 raw1 width2 many3:=(w4 N l0 raw1 width2 many3).bind w4un
theorem w4fin {N} (hc:CxOk (w4c N)) {l0 raw1 width2 many3 d} (hd:w4z N l0 raw1 width2 many3=some d):DoK Tryz.prog 4 [.e (.sl (.i .i64)) l0,.e .tx raw1,.e (.i .i64) width2,.e (.i .i64) many3] [] (w4r0 (d)):=
 finJ hc (by kernel_rfl) (by kernel_rfl) (w4hk N hc) (by kernel_rfl) w4uo (fun hr=>(w4q N l0 raw1 width2 many3).symm.trans (by rw [w4e0 N,w4e1 N];exact hr)) hd
end
end Go.Proofs
