/- What the law does. Conditions are in the theorems. -/
import Derived.Test.YtihfefggdgiodaaGreatDoorE7
import Derived.Test.YtihfefggdgiodaaGreatDoorProg
import Derived.KernelRfl
import Derived.Test.YtihfefggdgiodaaGreatDoorG2
/- What functions do. -/
namespace Go.Proofs
noncomputable section
open Go.Ax Go.Ax.Alg Go.RowKit Go.Ab
abbrev YF7:=List UInt8
open Go
end
end Go.Proofs
/- What functions do. -/
namespace Go.Proofs
noncomputable section
open Go.Ax Go.Ax.Alg Go.RowKit Go.Ab
open Go
end
end Go.Proofs
/- What functions do. -/
namespace Go.Proofs
noncomputable section
open Go.Ax Go.Ax.Alg Go.RowKit Go.Ab
open Go
def w6r0 (a0:Bool):Res:=(.e .bo a0,[])
def w6c (N:Nat):Cx:=⟨Tryz.prog,99999,[(17,l17e N),(14,w14e N),(18,w18e N),(21,w21e N),(30,w30e N),(29,w29e N)],[]⟩
def w6b:Code:=Tryz.f6.body.getD .skip
theorem w6cx N:CxOk (w6c N):=ctx_ok (by kernel_rfl) (.cons (by kernel_rfl) (l17ok N) (.cons (by kernel_rfl) (w14ok N) (.cons (by kernel_rfl) (w18ok N) (.cons (by kernel_rfl) (w21ok N) (.cons (by kernel_rfl) (w30ok N) (.cons (by kernel_rfl) (w29ok N) .nil)))))) .nil
def w6F0 [Alg] (N:Nat) (self:Int->O) (k0:Bool->O) (k1:Int->(List (List YF7))->Int->O) (x35_0:Int) (x35_1:(List (List YF7))) (x35_2:Int) (x35_3:(List Int)) (x35_4:Int):O:=
 br (decide (x35_4 < (↑x35_3.length:Int)))
  (gx x35_3 x35_4 fun y42=>
  gx x35_1 x35_2 fun y43=>
  gx y43 x35_4 fun y44=>
  ck (w30p N y44) <|
  ck (w29p N (w30y0 N y44) x35_0) <|
  br (decide (y42≠w29y0 N (w30y0 N y44) x35_0))
   (k0 false)
   (self (IntKind.i64.wrap (x35_4+1))))
  (k1 x35_0 x35_1 x35_2)
def w6b0:Code:=atC [1,1,1,0,1,0,0,1,0,0,1,1,1,1,0,0] w6b
def w6m0:Nm:=⟨[7,8,9,10,12],[],[]⟩
def w6I0 (x:Int×(List (List YF7))×Int×(List Int)×Int):Sg:=⟨[(7,.e (.i .i64) x.1),(8,.e (.sl (.sl .tx)) x.2.1),(9,.e (.i .i64) x.2.2.1),(10,.e (.sl (.i .i64)) x.2.2.2.1),(12,.e (.i .i64) x.2.2.2.2)],[],100⟩
def w6u0 (σ:Sg):Int×(List (List YF7))×Int×(List Int)×Int:=(lvT (.i .i64) 7 0 σ,lvT (.sl (.sl .tx)) 8 0 σ,lvT (.i .i64) 9 0 σ,lvT (.sl (.i .i64)) 10 0 σ,lvT (.i .i64) 12 0 σ)
theorem w6ui0:∀ x,w6u0 (w6I0 x)=x:=fun _=>by kernel_rfl
def w6X0_0 (y:Bool):Exit×Sg:=(.ret,⟨[(6,.e .bo y)],[],100⟩)
def w6v0_0 (_:Exit) (σ:Sg):Bool:=lvT .bo 6 0 σ
def w6X0_1 (y:Int×(List (List YF7))×Int):Exit×Sg:=((.exit 2),⟨[(7,.e (.i .i64) y.1),(8,.e (.sl (.sl .tx)) y.2.1),(9,.e (.i .i64) y.2.2)],[],100⟩)
def w6v0_1 (_:Exit) (σ:Sg):Int×(List (List YF7))×Int:=(lvT (.i .i64) 7 0 σ,lvT (.sl (.sl .tx)) 8 0 σ,lvT (.i .i64) 9 0 σ)
def w6w0:List (Exit×Nm):=[(.ret,⟨[6],[],[]⟩),((.exit 2),⟨[7,8,9],[],[]⟩)]
def w6l0 [Alg] (N:Nat):Nat->(Int×(List (List YF7))×Int×(List Int)×Int)->((Bool)->O)->((Int×(List (List YF7))×Int)->O)->((Unit)->O)->O
 | 0,_,_,_,_=>none
 | n+1,x,k0,k1,k2=>w6F0 N (fun v0=>w6l0 N n (x.1,x.2.1,x.2.2.1,x.2.2.2.1,v0) k0 k1 k2) (fun y0=>k0 y0) (fun y0 y1 y2=>k1 (y0,y1,y2)) x.1 x.2.1 x.2.2.1 x.2.2.2.1 x.2.2.2.2
def w6n0 [Alg] N a0 a1 a2 a3 a4 (k0:Bool->O) (k1:Int->(List (List YF7))->Int->O):=w6l0 N N (a0,a1,a2,a3,a4) (fun y=>k0 y) (fun y=>k1 y.1 y.2.1 y.2.2) (fun _=>none)
def w6s0 [Alg] N a0 a1 a2 a3 a4 (k0:Bool->O) (k1:Int->(List (List YF7))->Int->O):=subL w6I0 w6u0 (w6l0 N N) (w6I0 (a0,a1,a2,a3,a4)) (fun y=>k0 y) (fun y=>k1 y.1 y.2.1 y.2.2) (fun _=>none)
theorem w6e0 [Alg] N:w6s0 N=w6n0 N:=funext fun _=>funext fun _=>funext fun _=>funext fun _=>funext fun _=>funext fun _=>funext fun _=>subL_I w6ui0 _ _ _ _
theorem w6q0 [Alg] (N:Nat) (self:Sg->O) (K:Exit->Sg->O) (x:Int×(List (List YF7))×Int×(List Int)×Int):w6F0 N (fun v0=>self (w6I0 (x.1,x.2.1,x.2.2.1,x.2.2.2.1,v0))) (fun y0=>K (w6X0_0 y0).1 (w6X0_0 y0).2) (fun y0 y1 y2=>K (w6X0_1 (y0,y1,y2)).1 (w6X0_1 (y0,y1,y2)).2) x.1 x.2.1 x.2.2.1 x.2.2.2.1 x.2.2.2.2=exec (w6c N) Tryz.f6.ntmps .d w6b0 (w6I0 x) (roundX w6m0 w6w0 self K):=by kernel_rfl
theorem w6S0 N (hc:CxOk (w6c N)):SubOk (w6c N) Tryz.f6.ntmps (.loop w6b0) w6X0_0 w6X0_1 (noX 2) (subL w6I0 w6u0 (w6l0 N N)):=
 sub_loop hc (hk_d w6b0) (oK2 w6v0_0 w6v0_1 .ret (.exit 2) (fun _=>by kernel_rfl) (fun _=>by kernel_rfl) (fun _=>rfl) (fun _=>rfl) (by kernel_rfl)) (n:=N) (fun x K=>loop_ind (w6l0 N) (fun _ _ _ _=>rfl) (fun n K ih x=>by
  refine Eq.trans ?_ (w6q0 N _ K x);simp only [← ih];rfl) N x K)
def w6F1 [Alg] (N:Nat) (in0:Int->(List (List YF7))->Int->(List Int)->Int->(Bool->O)->(Int->(List (List YF7))->Int->O)->O) (self:Int->(List (List YF7))->Int->O) (k0:Bool->O) (k1:Unit->O) (x0_0:Int) (x0_1:(List (List YF7))) (x0_2:Int):O:=
 br (decide (x0_2 < 2))
  (gx x0_1 x0_2 fun y33=>
  ck (w21p N y33 x0_0) <|
  br (decide (w21y1 N y33 x0_0≠(0:Int)))
   (self x0_0 x0_1 (IntKind.i64.wrap (x0_2+1)))
   (gx x0_1 x0_2 fun y34=>
   br (decide ((↑(w21y0 N y33 x0_0).length:Int)≠(↑y34.length:Int)))
    (k0 false)
    (in0 x0_0 x0_1 x0_2 (w21y0 N y33 x0_0) 0
     (fun z45=>
      k0 z45)
     (fun z46 z47 z48=>
      self z46 z47 (IntKind.i64.wrap (z48+1))))))
  (k1 ())
def w6b1:Code:=atC [1,1,1,0,1,0,0] w6b
def w6m1:Nm:=⟨[7,8,9],[],[]⟩
def w6I1 (x:Int×(List (List YF7))×Int):Sg:=⟨[(7,.e (.i .i64) x.1),(8,.e (.sl (.sl .tx)) x.2.1),(9,.e (.i .i64) x.2.2)],[],100⟩
def w6u1 (σ:Sg):Int×(List (List YF7))×Int:=(lvT (.i .i64) 7 0 σ,lvT (.sl (.sl .tx)) 8 0 σ,lvT (.i .i64) 9 0 σ)
theorem w6ui1:∀ x,w6u1 (w6I1 x)=x:=fun _=>by kernel_rfl
def w6X1_0 (y:Bool):Exit×Sg:=(.ret,⟨[(6,.e .bo y)],[],100⟩)
def w6v1_0 (_:Exit) (σ:Sg):Bool:=lvT .bo 6 0 σ
def w6X1_1 (_:Unit):Exit×Sg:=((.exit 0),⟨[],[],100⟩)
def w6v1_1 (_:Exit) (_:Sg):Unit:=()
def w6w1:List (Exit×Nm):=[(.ret,⟨[6],[],[]⟩),((.exit 0),⟨[],[],[]⟩)]
def w6l1 [Alg] (N:Nat):Nat->(Int×(List (List YF7))×Int)->((Bool)->O)->((Unit)->O)->((Unit)->O)->O
 | 0,_,_,_,_=>none
 | n+1,x,k0,k1,k2=>w6F1 N (w6n0 N) (fun v0 v1 v2=>w6l1 N n (v0,v1,v2) k0 k1 k2) (fun y0=>k0 y0) (fun (_:Unit)=>k1 ()) x.1 x.2.1 x.2.2
def w6n1 [Alg] N a0 a1 a2 (k0:Bool->O) (k1:Unit->O):=w6l1 N N (a0,a1,a2) (fun y=>k0 y) (fun y=>k1 y) (fun _=>none)
def w6s1 [Alg] N a0 a1 a2 (k0:Bool->O) (k1:Unit->O):=subL w6I1 w6u1 (w6l1 N N) (w6I1 (a0,a1,a2)) (fun y=>k0 y) (fun y=>k1 y) (fun _=>none)
theorem w6e1 [Alg] N:w6s1 N=w6n1 N:=funext fun _=>funext fun _=>funext fun _=>funext fun _=>funext fun _=>subL_I w6ui1 _ _ _ _
def w6h1 [Alg] (N:Nat):Hint:=(.seq .d (.seq (.block (.seq .d (.seq .d (.seq .d (.seq .d (.block (.sub w6m0 _ _ _ w6X0_0 w6X0_1 (noX 2) (subL w6I0 w6u0 (w6l0 N N))))))))) .d))
theorem w6hk1 N (hc:CxOk (w6c N)):HintOk (w6c N) Tryz.f6.ntmps (w6h1 N) w6b1:=hk_of _ _ (And.intro trivial (And.intro (And.intro trivial (And.intro trivial (And.intro trivial (And.intro trivial (w6S0 N hc))))) trivial))
theorem w6q1 [Alg] (N:Nat) (self:Sg->O) (K:Exit->Sg->O) (x:Int×(List (List YF7))×Int):w6F1 N (w6s0 N) (fun v0 v1 v2=>self (w6I1 (v0,v1,v2))) (fun y0=>K (w6X1_0 y0).1 (w6X1_0 y0).2) (fun (_:Unit)=>K (w6X1_1 ()).1 (w6X1_1 ()).2) x.1 x.2.1 x.2.2=exec (w6c N) Tryz.f6.ntmps (w6h1 N) w6b1 (w6I1 x) (roundX w6m1 w6w1 self K):=by kernel_rfl
theorem w6S1 N (hc:CxOk (w6c N)):SubOk (w6c N) Tryz.f6.ntmps (.loop w6b1) w6X1_0 w6X1_1 (noX 2) (subL w6I1 w6u1 (w6l1 N N)):=
 sub_loop hc (w6hk1 N hc) (oK2 w6v1_0 w6v1_1 .ret (.exit 0) (fun _=>by kernel_rfl) (fun _=>by kernel_rfl) (fun _=>rfl) (fun _=>rfl) (by kernel_rfl)) (n:=N) (fun x K=>loop_ind (w6l1 N) (fun _ _ _ _=>rfl) (fun n K ih x=>by
  refine Eq.trans ?_ (w6q1 N _ K x);simp only [w6e0 N,← ih];rfl) N x K)
def w6G [Alg] (N:Nat) (_in0:Int->(List (List YF7))->Int->(List Int)->Int->(Bool->O)->(Int->(List (List YF7))->Int->O)->O) (in1:Int->(List (List YF7))->Int->(Bool->O)->(Unit->O)->O) (l0:(List Int)) (raw1:YF7) (width2:Int):O:=
 ck (w14p N width2 (20:Int)) <|
 ck (w18p N l0 raw1) <|
 in1 (IntKind.i64.wrap ((4:Int)+w14y0 N width2 (20:Int))) (w18y0 N l0 raw1) 0
  (fun z49=>
   some (w6r0 z49))
  (fun (_:Unit)=>
   ck true <|
   some (w6r0 true))
def w6 [Alg] N l0 raw1 width2:=w6G N (w6n0 N) (w6n1 N) l0 raw1 width2
def w6h [Alg] (N:Nat):Hint:=(.seq .d (.seq .d (.seq .d (.seq (.seq .d (.block (.sub w6m1 _ _ _ w6X1_0 w6X1_1 (noX 2) (subL w6I1 w6u1 (w6l1 N N))))) .d))))
theorem w6hk N (hc:CxOk (w6c N)):HintOk (w6c N) Tryz.f6.ntmps (w6h N) w6b:=hk_of _ _ (And.intro trivial (And.intro trivial (And.intro trivial (And.intro (And.intro trivial (w6S1 N hc)) trivial))))
theorem w6q [Alg] N l0 raw1 width2:w6G N (w6s0 N) (w6s1 N) l0 raw1 width2=exec (w6c N) Tryz.f6.ntmps (w6h N) w6b ⟨argT 0 [.e (.sl (.i .i64)) l0,.e .tx raw1,.e (.i .i64) width2],[],100⟩ (finX (w6c N) Tryz.f6 false):=by kernel_rfl
def w6un (r:Res):Option (Bool):=match r with
 | (x0,[])=>(match ue .bo x0 with | some a0=>some a0 | _=>none)
 | _=>none
theorem w6uo {r d} (h:w6un r=some d):r=w6r0 (d):=by
 unfold w6un at h;split at h
 ·split at h
  ·rename_i h0;cases h;rw [ue_some h0];rfl
  ·cases h
 ·cases h
def w6z N l0 raw1 width2:=(w6 N l0 raw1 width2).bind w6un
theorem w6fin {N} (hc:CxOk (w6c N)) {l0 raw1 width2 d} (hd:w6z N l0 raw1 width2=some d):DoK Tryz.prog 6 [.e (.sl (.i .i64)) l0,.e .tx raw1,.e (.i .i64) width2] [] (w6r0 (d)):=
 finJ hc (by kernel_rfl) (by kernel_rfl) (w6hk N hc) (by kernel_rfl) w6uo (fun hr=>(w6q N l0 raw1 width2).symm.trans (by rw [w6e0 N,w6e1 N];exact hr)) hd
end
end Go.Proofs
