/- What the law does. Conditions are in the theorems. -/
import Derived.Test.YtipllfcmdnellaaDoorE7
import Derived.Test.YtipllfcmdnellaaDoorProg
import Derived.KernelRfl
import Derived.Test.YtipllfcmdnellaaDoorF8
/- What functions do. -/
namespace Go.Proofs
noncomputable section
open Go.Ax Go.Ax.Alg Go.RowKit Go.Ab
open Go
def w8r0 (a0:Bool):Res:=(.e .bo a0,[])
def w8L (N:Nat):List (Nat×Ent'):=[(15,l15e N),(9,w9e N),(10,w10e N),(12,w12e N),(22,w22e N),(23,w23e N),(24,w24e N),(25,w25e N),(27,w27e N),(26,w26e N)]
def w8c (N:Nat):Cx:=⟨Tryd.prog,99999,w8L N,[]⟩
def w8b:Code:=Tryd.f8.body.getD .skip
theorem w8cx (N:Nat):CxOk (w8c N):=ctx_ok (by kernel_rfl) (.cons (by kernel_rfl) (l15ok N) (.cons (by kernel_rfl) (w9ok N) (.cons (by kernel_rfl) (w10ok N) (.cons (by kernel_rfl) (w12ok N) (.cons (by kernel_rfl) (w22ok N) (.cons (by kernel_rfl) (w23ok N) (.cons (by kernel_rfl) (w24ok N) (.cons (by kernel_rfl) (w25ok N) (.cons (by kernel_rfl) (w27ok N) (.cons (by kernel_rfl) (w26ok N) .nil)))))))))) .nil
def w8F0 [Alg] (N:Nat)  (self:Int->O) (k0:Bool->O) (k1:Unit->O) (_x0_0:(List ((List Int)×(Int×Int)))) (x0_2:(List (List ((List Int)×(Int×Int))))) (x0_1:Int):O:=
 br (decide (x0_1 < (↑x0_2.length:Int)))
  (gx x0_2 x0_1 fun y9=>
  ck (w12p N y9) <|
  ck (w22p N (w12y0 N y9)) <|
  gx x0_2 x0_1 fun y10=>
  ck (w23p N y10) <|
  br (decide (w22y0 N (w12y0 N y9)≠w23y0 N y10))
   (k0 false)
   (ck (w24p N (w22y0 N (w12y0 N y9))) <|
   gx x0_2 x0_1 fun y11=>
   ck (w25p N y11) <|
   ck (!(decide (w25y0 N y11=(0:Int))&&!decide (w24y2 N (w22y0 N (w12y0 N y9))≠(0:Int)))||w27p N (w24y0 N (w22y0 N (w12y0 N y9)))) <|
   gc (decide (w25y0 N y11=(0:Int))&&!decide (w24y2 N (w22y0 N (w12y0 N y9))≠(0:Int))) [] x0_2 x0_1 fun y12=>
   ck (!(decide (w25y0 N y11=(0:Int))&&!decide (w24y2 N (w22y0 N (w12y0 N y9))≠(0:Int)))||w26p N (w27y0 N (w24y0 N (w22y0 N (w12y0 N y9)))) y12) <|
   br (decide (w25y0 N y11=(0:Int))&&(decide (w24y2 N (w22y0 N (w12y0 N y9))≠(0:Int))||!w26y0 N (w27y0 N (w24y0 N (w22y0 N (w12y0 N y9)))) y12))
    (k0 false)
    (self (IntKind.i64.wrap (x0_1+(1:Int))))))
  (k1 ())
def w8b0:Code:=atC [1,1,1,1,0,1,0,0] w8b
def w8m0:Nm:=⟨[9,11,12],[],[]⟩
def w8I0 (x:(List ((List Int)×(Int×Int)))×Int×(List (List ((List Int)×(Int×Int))))):Sg:=⟨[(9,.e (.sl (.pr (.sl (.i .i64)) (.pr (.i .i64) (.i .i64)))) x.1),(11,.own 0),(12,.e (.i .i64) x.2.1)],[(0,.row 23 (.sl (.pr (.sl (.i .i64)) (.pr (.i .i64) (.i .i64)))) x.2.2 true)],100⟩
def w8u0 (σ:Sg):(List ((List Int)×(Int×Int)))×Int×(List (List ((List Int)×(Int×Int)))):=(lvT (.sl (.pr (.sl (.i .i64)) (.pr (.i .i64) (.i .i64)))) 9 0 σ,lvT (.i .i64) 12 0 σ,lvR (.sl (.pr (.sl (.i .i64)) (.pr (.i .i64) (.i .i64)))) 0 σ)
theorem w8ui0:∀ x,w8u0 (w8I0 x)=x:=fun _=>by kernel_rfl
def w8X0_0 (y:Bool):Exit×Sg:=(.ret,⟨[(8,.e .bo y)],[],100⟩)
def w8v0_0 (_:Exit) (σ:Sg):Bool:=lvT .bo 8 0 σ
def w8X0_1 (_:Unit):Exit×Sg:=((.exit 0),⟨[],[],100⟩)
def w8v0_1 (_:Exit) (_:Sg):Unit:=()
def w8w0:List (Exit×Nm):=[(.ret,⟨[8],[],[]⟩),((.exit 0),⟨[],[],[]⟩)]
theorem w8o0:Outs w8v0_0 w8v0_1 (fun _ _=>()) w8X0_0 w8X0_1 (noX 2) (exC .ret) (exC (.exit 0)) (exC (.goto 2)):=⟨fun _=>by kernel_rfl,fun _=>by kernel_rfl,fun _=>by kernel_rfl,fun _=>by kernel_rfl,fun _=>by kernel_rfl,fun _=>by kernel_rfl,exNe_ok (by kernel_rfl),exNe_ok (by kernel_rfl),exNe_ok (by kernel_rfl)⟩
def w8l0 [Alg] (N:Nat):Nat->((List ((List Int)×(Int×Int)))×Int×(List (List ((List Int)×(Int×Int)))))->((Bool)->O)->((Unit)->O)->((Unit)->O)->O
 | 0,_,_,_,_=>none
 | n+1,x,k0,k1,k2=>w8F0 N  (fun v0=>w8l0 N n (x.1,v0,x.2.2) k0 k1 k2) (fun y0=>k0 y0) (fun (_:Unit)=>k1 ()) x.1 x.2.2 x.2.1
def w8n0 [Alg] (N:Nat) (a0:(List ((List Int)×(Int×Int)))) (a1:Int) (a2:(List (List ((List Int)×(Int×Int))))) (k0:Bool->O) (k1:Unit->O):O:=w8l0 N N (a0,a1,a2) (fun y=>k0 y) (fun y=>k1 y) (fun _=>none)
def w8s0 [Alg] (N:Nat) (a0:(List ((List Int)×(Int×Int)))) (a1:Int) (a2:(List (List ((List Int)×(Int×Int))))) (k0:Bool->O) (k1:Unit->O):O:=subL w8I0 w8u0 (w8l0 N N) (w8I0 (a0,a1,a2)) (fun y=>k0 y) (fun y=>k1 y) (fun _=>none)
theorem w8e0 [Alg] (N:Nat):w8s0 N=w8n0 N:=funext fun _=>funext fun _=>funext fun _=>funext fun _=>funext fun _=>subL_I w8ui0 _ _ _ _
def w8h0 [Alg] (_:Nat):Hint:=.d
theorem w8hk0 (N:Nat):HintOk (w8c N) Tryd.f8.ntmps (w8h0 N) w8b0:=hk_of _ _ trivial
theorem w8q0 [Alg] (N:Nat) (self:Sg->O) (K:Exit->Sg->O) (x:(List ((List Int)×(Int×Int)))×Int×(List (List ((List Int)×(Int×Int))))):w8F0 N  (fun v0=>self (w8I0 (x.1,v0,x.2.2))) (fun y0=>K (w8X0_0 y0).1 (w8X0_0 y0).2) (fun (_:Unit)=>K (w8X0_1 ()).1 (w8X0_1 ()).2) x.1 x.2.2 x.2.1=exec (w8c N) Tryd.f8.ntmps (w8h0 N) w8b0 (w8I0 x) (roundX w8m0 w8w0 self K):=by kernel_rfl
theorem w8S0 (N:Nat) (hc:CxOk (w8c N)):SubOk (w8c N) Tryd.f8.ntmps (.loop w8b0) w8X0_0 w8X0_1 (noX 2) (subL w8I0 w8u0 (w8l0 N N)):=
 sub_loop hc (w8hk0 N) w8o0 (n:=N) (fun x K=>loop_ind (w8l0 N) (fun _ _ _ _=>rfl) (fun n K ih x=>by
  have h:w8F0 N  (fun v0=>w8l0 N n (x.1,v0,x.2.2) (fun y=>K (w8X0_0 y).1 (w8X0_0 y).2) (fun y=>K (w8X0_1 y).1 (w8X0_1 y).2) (fun y=>K ((noX 2) y).1 ((noX 2) y).2)) (fun y0=>K (w8X0_0 y0).1 (w8X0_0 y0).2) (fun (_:Unit)=>K (w8X0_1 ()).1 (w8X0_1 ()).2) x.1 x.2.2 x.2.1=w8F0 N  (fun v0=>loopX (w8c N) Tryd.f8.ntmps (w8h0 N) w8b0 w8m0 w8w0 n (w8I0 (x.1,v0,x.2.2)) K) (fun y0=>K (w8X0_0 y0).1 (w8X0_0 y0).2) (fun (_:Unit)=>K (w8X0_1 ()).1 (w8X0_1 ()).2) x.1 x.2.2 x.2.1:=by rw [ show (fun v0=>w8l0 N n (x.1,v0,x.2.2) (fun y=>K (w8X0_0 y).1 (w8X0_0 y).2) (fun y=>K (w8X0_1 y).1 (w8X0_1 y).2) (fun y=>K ((noX 2) y).1 ((noX 2) y).2))=(fun v0=>loopX (w8c N) Tryd.f8.ntmps (w8h0 N) w8b0 w8m0 w8w0 n (w8I0 (x.1,v0,x.2.2)) K) from funext fun _=>ih _]
  exact h.trans (w8q0 N (fun σ=>loopX (w8c N) Tryd.f8.ntmps (w8h0 N) w8b0 w8m0 w8w0 n σ K) K x)) N x K)
def w8G [Alg] (N:Nat) (in0:(List ((List Int)×(Int×Int)))->Int->(List (List ((List Int)×(Int×Int))))->(Bool->O)->(Unit->O)->O) (l0:(List Int)) (at1:Int) (how2:Int) (by3:Int):O:=
 ck (w9p N l0) <|
 ck (w10p N (w9y0 N l0) at1 how2 by3) <|
 ck true <|
 ck (w10p N (w10y0 N (w9y0 N l0) at1 how2 by3) by3 (IntKind.i64.wrap (how2.tdiv (6:Int))) at1) <|
 in0 (w9y0 N l0) ((0:Int)) [w9y0 N l0,w10y0 N (w9y0 N l0) at1 how2 by3,w10y0 N (w10y0 N (w9y0 N l0) at1 how2 by3) by3 (IntKind.i64.wrap (how2.tdiv (6:Int))) at1,[]]
  (fun z13=>
   some (w8r0 z13))
  (fun (_:Unit)=>
   ck true <|
   some (w8r0 true))
def w8 [Alg] (N:Nat) (l0:(List Int)) (at1:Int) (how2:Int) (by3:Int):O:=w8G N (w8n0 N) l0 at1 how2 by3
def w8h [Alg] (N:Nat):Hint:=(.seq .d (.seq .d (.seq .d (.seq .d (.seq (.seq .d (.block (.sub w8m0 _ _ _ w8X0_0 w8X0_1 (noX 2) (subL w8I0 w8u0 (w8l0 N N))))) .d)))))
theorem w8hk (N:Nat) (hc:CxOk (w8c N)):HintOk (w8c N) Tryd.f8.ntmps (w8h N) w8b:=hk_of _ _ (And.intro trivial (And.intro trivial (And.intro trivial (And.intro trivial (And.intro (And.intro trivial (w8S0 N hc)) trivial)))))
theorem w8q [Alg] (N:Nat) (l0:(List Int)) (at1:Int) (how2:Int) (by3:Int):w8G N (w8s0 N) l0 at1 how2 by3=exec (w8c N) Tryd.f8.ntmps (w8h N) w8b ⟨argT 0 [.e (.sl (.i .i64)) l0,.e (.i .i64) at1,.e (.i .i64) how2,.e (.i .i64) by3],[],100⟩ (finX (w8c N) Tryd.f8 false):=by kernel_rfl
theorem w8does {N:Nat} (hc:CxOk (w8c N)) {l0:(List Int)} {at1:Int} {how2:Int} {by3:Int} {r:Res} (h:w8 N l0 at1 how2 by3=some r):DoesR Tryd.prog 8 (([.e (.sl (.i .i64)) l0,.e (.i .i64) at1,.e (.i .i64) how2,.e (.i .i64) by3]:List X).map X.D) (HA []) r:=
 fun_ok hc (f:=8) (fn:=Tryd.f8) (code:=w8b) (by kernel_rfl) (by kernel_rfl) (w8hk N hc) (Nat.le_of_ble_eq_true (by kernel_rfl)) (ow:=false) ((w8q N l0 at1 how2 by3).symm.trans (by rw [w8e0 N];exact h))
def w8un (r:Res):Option (Bool):=match r with
 | (x0,[])=>(match ue .bo x0 with | some a0=>some a0 | _=>none)
 | _=>none
theorem w8uo {r:Res} {d:Bool} (h:w8un r=some d):r=w8r0 (d):=by
 unfold w8un at h;split at h
 ·split at h
  ·rename_i h0;cases h;rw [ue_some h0];rfl
  ·cases h
 ·cases h
def w8z (N:Nat) (l0:(List Int)) (at1:Int) (how2:Int) (by3:Int):Option (Bool):=(w8 N l0 at1 how2 by3).bind w8un
theorem w8fin {N:Nat} (hc:CxOk (w8c N)) {l0:(List Int)} {at1:Int} {how2:Int} {by3:Int} {d:Bool} (hd:w8z N l0 at1 how2 by3=some d):Does Tryd.prog 8 (([.e (.sl (.i .i64)) l0,.e (.i .i64) at1,.e (.i .i64) how2,.e (.i .i64) by3]:List X).map X.D) (HA []) (w8r0 (d)).1.D (HA (w8r0 (d)).2):=by
 obtain ⟨r,hr,hu⟩:=Option.bind_eq_some_iff.1 hd;have:=w8does hc hr;rw [w8uo hu] at this;exact this
end
end Go.Proofs
