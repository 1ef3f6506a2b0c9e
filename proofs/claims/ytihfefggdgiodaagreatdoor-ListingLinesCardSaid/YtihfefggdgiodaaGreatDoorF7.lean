/- What the law does. Conditions are in the theorems. -/
import Derived.Test.YtihfefggdgiodaaGreatDoorE7
import Derived.Test.YtihfefggdgiodaaGreatDoorProg
import Derived.KernelRfl
import Derived.Test.YtihfefggdgiodaaGreatDoorG2
/- What functions do. -/
namespace Go.Proofs
noncomputable section
open Go.Ax Go.Ax.Alg Go.RowKit Go.Ab
abbrev YF7:=List UInt8
open Go
def w7r0 (a0:Bool):Res:=(.e .bo a0,[])
def w7c (N:Nat):Cx:=⟨Tryz.prog,99999,[(17,l17e N),(9,w9e N),(14,w14e N),(19,w19e N),(21,w21e N),(23,w23e N)],[]⟩
def w7b:Code:=Tryz.f7.body.getD .skip
theorem w7cx N:CxOk (w7c N):=ctx_ok (by kernel_rfl) (.cons (by kernel_rfl) (l17ok N) (.cons (by kernel_rfl) (w9ok N) (.cons (by kernel_rfl) (w14ok N) (.cons (by kernel_rfl) (w19ok N) (.cons (by kernel_rfl) (w21ok N) (.cons (by kernel_rfl) (w23ok N) .nil)))))) .nil
def w7F0 [Alg] (_:Nat) (self:Int->Int->O) (k0:(List YF7)->(List YF7)->Int->(List YF7)->Int->O) (x0_0 x0_1:(List YF7)) (x0_2:Int) (x0_3:(List YF7)) (x0_4:(List Int)) (x0_5 x0_6:Int):O:=
 br (decide (x0_6 < (↑x0_4.length:Int)))
  (gx x0_4 x0_6 fun y3=>
  self (IntKind.i64.wrap (x0_5+y3)) (IntKind.i64.wrap (x0_6+1)))
  (k0 x0_0 x0_1 x0_2 x0_3 x0_5)
def w7b0:Code:=atC [1,1,1,1,1,1,1,1,1,1,0,1,0,0] w7b
def w7m0:Nm:=⟨[10,12,13,14,16,18,19],[],[]⟩
def w7I0 (x:(List YF7)×(List YF7)×Int×(List YF7)×(List Int)×Int×Int):Sg:=⟨[(10,.e (.sl (.sl .u8)) x.1),(12,.e (.sl (.sl .u8)) x.2.1),(13,.e (.i .i64) x.2.2.1),(14,.e (.sl (.sl .u8)) x.2.2.2.1),(16,.e (.sl (.i .i64)) x.2.2.2.2.1),(18,.e (.i .i64) x.2.2.2.2.2.1),(19,.e (.i .i64) x.2.2.2.2.2.2)],[],100⟩
def w7u0 (σ:Sg):(List YF7)×(List YF7)×Int×(List YF7)×(List Int)×Int×Int:=(lvT (.sl (.sl .u8)) 10 0 σ,lvT (.sl (.sl .u8)) 12 0 σ,lvT (.i .i64) 13 0 σ,lvT (.sl (.sl .u8)) 14 0 σ,lvT (.sl (.i .i64)) 16 0 σ,lvT (.i .i64) 18 0 σ,lvT (.i .i64) 19 0 σ)
theorem w7ui0:∀ x,w7u0 (w7I0 x)=x:=fun _=>by kernel_rfl
def w7X0_0 (y:(List YF7)×(List YF7)×Int×(List YF7)×Int):Exit×Sg:=((.exit 0),⟨[(10,.e (.sl (.sl .u8)) y.1),(12,.e (.sl (.sl .u8)) y.2.1),(13,.e (.i .i64) y.2.2.1),(14,.e (.sl (.sl .u8)) y.2.2.2.1),(18,.e (.i .i64) y.2.2.2.2)],[],100⟩)
def w7v0_0 (_:Exit) (σ:Sg):(List YF7)×(List YF7)×Int×(List YF7)×Int:=(lvT (.sl (.sl .u8)) 10 0 σ,lvT (.sl (.sl .u8)) 12 0 σ,lvT (.i .i64) 13 0 σ,lvT (.sl (.sl .u8)) 14 0 σ,lvT (.i .i64) 18 0 σ)
def w7w0:List (Exit×Nm):=[((.exit 0),⟨[10,12,13,14,18],[],[]⟩)]
def w7l0 [Alg] (N:Nat):Nat->((List YF7)×(List YF7)×Int×(List YF7)×(List Int)×Int×Int)->(((List YF7)×(List YF7)×Int×(List YF7)×Int)->O)->((Unit)->O)->((Unit)->O)->O
 | 0,_,_,_,_=>none
 | n+1,x,k0,k1,k2=>w7F0 N (fun v0 v1=>w7l0 N n (x.1,x.2.1,x.2.2.1,x.2.2.2.1,x.2.2.2.2.1,v0,v1) k0 k1 k2) (fun y0 y1 y2 y3 y4=>k0 (y0,y1,y2,y3,y4)) x.1 x.2.1 x.2.2.1 x.2.2.2.1 x.2.2.2.2.1 x.2.2.2.2.2.1 x.2.2.2.2.2.2
def w7n0 [Alg] N a0 a1 a2 a3 a4 a5 a6 (k0:(List YF7)->(List YF7)->Int->(List YF7)->Int->O):=w7l0 N N (a0,a1,a2,a3,a4,a5,a6) (fun y=>k0 y.1 y.2.1 y.2.2.1 y.2.2.2.1 y.2.2.2.2) (fun _=>none) (fun _=>none)
def w7s0 [Alg] N a0 a1 a2 a3 a4 a5 a6 (k0:(List YF7)->(List YF7)->Int->(List YF7)->Int->O):=subL w7I0 w7u0 (w7l0 N N) (w7I0 (a0,a1,a2,a3,a4,a5,a6)) (fun y=>k0 y.1 y.2.1 y.2.2.1 y.2.2.2.1 y.2.2.2.2) (fun _=>none) (fun _=>none)
theorem w7e0 [Alg] N:w7s0 N=w7n0 N:=funext fun _=>funext fun _=>funext fun _=>funext fun _=>funext fun _=>funext fun _=>funext fun _=>funext fun _=>subL_I w7ui0 _ _ _ _
theorem w7q0 [Alg] (N:Nat) (self:Sg->O) (K:Exit->Sg->O) (x:(List YF7)×(List YF7)×Int×(List YF7)×(List Int)×Int×Int):w7F0 N (fun v0 v1=>self (w7I0 (x.1,x.2.1,x.2.2.1,x.2.2.2.1,x.2.2.2.2.1,v0,v1))) (fun y0 y1 y2 y3 y4=>K (w7X0_0 (y0,y1,y2,y3,y4)).1 (w7X0_0 (y0,y1,y2,y3,y4)).2) x.1 x.2.1 x.2.2.1 x.2.2.2.1 x.2.2.2.2.1 x.2.2.2.2.2.1 x.2.2.2.2.2.2=exec (w7c N) Tryz.f7.ntmps .d w7b0 (w7I0 x) (roundX w7m0 w7w0 self K):=by kernel_rfl
theorem w7S0 N (hc:CxOk (w7c N)):SubOk (w7c N) Tryz.f7.ntmps (.loop w7b0) w7X0_0 (noX 1) (noX 2) (subL w7I0 w7u0 (w7l0 N N)):=
 sub_loop hc (hk_d w7b0) (oK1 w7v0_0 (.exit 0) (fun _=>by kernel_rfl) (fun _=>rfl) (by kernel_rfl)) (n:=N) (fun x K=>loop_ind (w7l0 N) (fun _ _ _ _=>rfl) (fun n K ih x=>by
  refine Eq.trans ?_ (w7q0 N _ K x);simp only [← ih];rfl) N x K)
def w7G [Alg] (N:Nat) (in0:(List YF7)->(List YF7)->Int->(List YF7)->(List Int)->Int->Int->((List YF7)->(List YF7)->Int->(List YF7)->Int->O)->O) (l0 m1:(List Int)) (width2:Int):O:=
 ck (w9p N l0) <|
 ck (w9p N m1) <|
 ck (w14p N width2 (37:Int)) <|
 ck (w19p N (w9y0 N l0) (IntKind.i64.wrap ((4:Int)+w14y0 N width2 (37:Int)))) <|
 ck (w19p N (w9y0 N m1) (IntKind.i64.wrap ((4:Int)+w14y0 N width2 (37:Int)))) <|
 ck (lim ([]++w9y0 N l0).length (16:Nat)) <|
 ck (lim ([]++w9y0 N l0++w9y0 N m1).length (16:Nat)) <|
 ck (w19p N ([]++w9y0 N l0++w9y0 N m1) (IntKind.i64.wrap ((4:Int)+w14y0 N width2 (37:Int)))) <|
 ck (w21p N (w9y0 N l0) (IntKind.i64.wrap ((4:Int)+w14y0 N width2 (37:Int)))) <|
 br (decide (w19y1 N (w9y0 N l0) (IntKind.i64.wrap ((4:Int)+w14y0 N width2 (37:Int)))≠(0:Int))||decide (w19y1 N (w9y0 N m1) (IntKind.i64.wrap ((4:Int)+w14y0 N width2 (37:Int)))≠(0:Int))||decide (w19y1 N ([]++w9y0 N l0++w9y0 N m1) (IntKind.i64.wrap ((4:Int)+w14y0 N width2 (37:Int)))≠(0:Int))||decide (w21y1 N (w9y0 N l0) (IntKind.i64.wrap ((4:Int)+w14y0 N width2 (37:Int)))≠(0:Int)))
  (some (w7r0 false))
  (in0 (w19y0 N (w9y0 N l0) (IntKind.i64.wrap ((4:Int)+w14y0 N width2 (37:Int)))) (w19y0 N (w9y0 N m1) (IntKind.i64.wrap ((4:Int)+w14y0 N width2 (37:Int)))) (w19y1 N (w9y0 N m1) (IntKind.i64.wrap ((4:Int)+w14y0 N width2 (37:Int)))) (w19y0 N ([]++w9y0 N l0++w9y0 N m1) (IntKind.i64.wrap ((4:Int)+w14y0 N width2 (37:Int)))) (w21y0 N (w9y0 N l0) (IntKind.i64.wrap ((4:Int)+w14y0 N width2 (37:Int)))) 0 0
   (fun z4 z5 _ z7 z8=>
    br (decide (z8=(↑z4.length:Int)))
     (ck (lim ([]++z4).length (24:Nat)) <|
     ck (lim ([]++z4++z5).length (24:Nat)) <|
     ck (w23p N z7 ([]++z4++z5)) <|
     ck (!w23y0 N z7 ([]++z4++z5)||true) <|
     some (w7r0 (w23y0 N z7 ([]++z4++z5)&&true)))
     (ck true <|
     some (w7r0 false))))
def w7 [Alg] N l0 m1 width2:=w7G N (w7n0 N) l0 m1 width2
def w7h [Alg] (N:Nat):Hint:=(.seq .d (.seq .d (.seq .d (.seq .d (.seq .d (.seq .d (.seq .d (.seq .d (.seq .d (.seq .d (.seq (.seq .d (.block (.sub w7m0 _ _ _ w7X0_0 (noX 1) (noX 2) (subL w7I0 w7u0 (w7l0 N N))))) (.seq (.reg [1005] [] []) .d))))))))))))
theorem w7hk N (hc:CxOk (w7c N)):HintOk (w7c N) Tryz.f7.ntmps (w7h N) w7b:=hk_of _ _ (And.intro trivial (And.intro trivial (And.intro trivial (And.intro trivial (And.intro trivial (And.intro trivial (And.intro trivial (And.intro trivial (And.intro trivial (And.intro trivial (And.intro (And.intro trivial (w7S0 N hc)) (And.intro trivial trivial))))))))))))
theorem w7q [Alg] N l0 m1 width2:w7G N (w7s0 N) l0 m1 width2=exec (w7c N) Tryz.f7.ntmps (w7h N) w7b ⟨argT 0 [.e (.sl (.i .i64)) l0,.e (.sl (.i .i64)) m1,.e (.i .i64) width2],[],100⟩ (finX (w7c N) Tryz.f7 false):=by kernel_rfl
def w7un (r:Res):Option (Bool):=match r with
 | (x0,[])=>(match ue .bo x0 with | some a0=>some a0 | _=>none)
 | _=>none
theorem w7uo {r d} (h:w7un r=some d):r=w7r0 (d):=by
 unfold w7un at h;split at h
 ·split at h
  ·rename_i h0;cases h;rw [ue_some h0];rfl
  ·cases h
 ·cases h
def w7z N l0 m1 width2:=(w7 N l0 m1 width2).bind w7un
theorem w7fin {N} (hc:CxOk (w7c N)) {l0 m1 width2 d} (hd:w7z N l0 m1 width2=some d):DoK Tryz.prog 7 [.e (.sl (.i .i64)) l0,.e (.sl (.i .i64)) m1,.e (.i .i64) width2] [] (w7r0 (d)):=
 finJ hc (by kernel_rfl) (by kernel_rfl) (w7hk N hc) (by kernel_rfl) w7uo (fun hr=>(w7q N l0 m1 width2).symm.trans (by rw [w7e0 N];exact hr)) hd
end
end Go.Proofs
