/- What functions do: the reference. Conditions are in the theorems. -/
import Derived.Test.YtmbdfpgaokbkkaaDoorE7
import Derived.Test.YtmbdfpgaokbkkaaDoorProg
import Derived.KernelRfl
import Derived.Test.YtmbdfpgaokbkkaaDoorF1
/- What functions do. -/
namespace Go.Proofs
noncomputable section
open Go.Ax Go.Ax.Alg Go.RowKit Go.Ab
abbrev YF2:=List UInt8
open Go
def w9r0 (a0:Bool):Res:=(.e .bo a0,[])
def w9L (N:Nat):List (Nat×Ent'):=[(22,w22e N)]
def w9c (N:Nat):Cx:=⟨Tryd.prog,99999,w9L N,[]⟩
def w9b:Code:=Tryd.f9.body.getD .skip
theorem w9cx (N:Nat):CxOk (w9c N):=ctx_ok (by kernel_rfl) (.cons (by kernel_rfl) (w22ok N) .nil) .nil
def w9F0 [Alg] (_:Nat)  (self:Int->O) (k0:Bool->O) (k1:Int->Int->YF2->Bool->Bool->O) (x0_0:Int) (x0_1:Int) (x0_2:YF2) (x0_3:Bool) (x0_4:Bool) (x0_5:Int):O:=
 br (decide (x0_5 < (↑x0_2.length:Int)))
  (gx x0_2 x0_5 fun y9=>
  gc (!decide (y9 < (32:UInt8))) ((0:UInt8)) x0_2 x0_5 fun y10=>
  gc (!(decide (y9 < (32:UInt8))||decide ((126:UInt8) < y10))&&decide (x0_0≠(2:Int))) ((0:UInt8)) x0_2 x0_5 fun y11=>
  gc (!(decide (y9 < (32:UInt8))||decide ((126:UInt8) < y10))&&decide (x0_0≠(2:Int))&&!decide (y11 < (48:UInt8))) ((0:UInt8)) x0_2 x0_5 fun y12=>
  br (decide (y9 < (32:UInt8))||decide ((126:UInt8) < y10)||decide (x0_0≠(2:Int))&&(decide (y11 < (48:UInt8))||decide ((57:UInt8) < y12)))
   (k0 false)
   (self (IntKind.i64.wrap (x0_5+(1:Int)))))
  (k1 x0_0 x0_1 x0_2 x0_3 x0_4)
def w9b0:Code:=atC [1,1,0,1,0,0] w9b
def w9m0:Nm:=⟨[0,1,2,6,10,7],[],[]⟩
def w9I0 (x:Int×Int×YF2×Bool×Bool×Int):Sg:=⟨[(0,.e (.i .i64) x.1),(1,.e (.i .i64) x.2.1),(2,.e .tx x.2.2.1),(6,.e .bo x.2.2.2.1),(10,.e .bo x.2.2.2.2.1),(7,.e (.i .i64) x.2.2.2.2.2)],[],100⟩
def w9u0 (σ:Sg):Int×Int×YF2×Bool×Bool×Int:=(lvT (.i .i64) 0 0 σ,lvT (.i .i64) 1 0 σ,lvT .tx 2 0 σ,lvT .bo 6 0 σ,lvT .bo 10 0 σ,lvT (.i .i64) 7 0 σ)
theorem w9ui0:∀ x,w9u0 (w9I0 x)=x:=fun _=>by kernel_rfl
def w9X0_0 (y:Bool):Exit×Sg:=(.ret,⟨[(6,.e .bo y)],[],100⟩)
def w9v0_0 (_:Exit) (σ:Sg):Bool:=lvT .bo 6 0 σ
def w9X0_1 (y:Int×Int×YF2×Bool×Bool):Exit×Sg:=((.exit 0),⟨[(0,.e (.i .i64) y.1),(1,.e (.i .i64) y.2.1),(2,.e .tx y.2.2.1),(6,.e .bo y.2.2.2.1),(10,.e .bo y.2.2.2.2)],[],100⟩)
def w9v0_1 (_:Exit) (σ:Sg):Int×Int×YF2×Bool×Bool:=(lvT (.i .i64) 0 0 σ,lvT (.i .i64) 1 0 σ,lvT .tx 2 0 σ,lvT .bo 6 0 σ,lvT .bo 10 0 σ)
def w9w0:List (Exit×Nm):=[(.ret,⟨[6],[],[]⟩),((.exit 0),⟨[0,1,2,6,10],[],[]⟩)]
theorem w9o0:Outs w9v0_0 w9v0_1 (fun _ _=>()) w9X0_0 w9X0_1 (noX 2) (exC .ret) (exC (.exit 0)) (exC (.goto 2)):=⟨fun _=>by kernel_rfl,fun _=>by kernel_rfl,fun _=>by kernel_rfl,fun _=>by kernel_rfl,fun _=>by kernel_rfl,fun _=>by kernel_rfl,exNe_ok (by kernel_rfl),exNe_ok (by kernel_rfl),exNe_ok (by kernel_rfl)⟩
def w9l0 [Alg] (N:Nat):Nat->(Int×Int×YF2×Bool×Bool×Int)->((Bool)->O)->((Int×Int×YF2×Bool×Bool)->O)->((Unit)->O)->O
 | 0,_,_,_,_=>none
 | n+1,x,k0,k1,k2=>w9F0 N  (fun v0=>w9l0 N n (x.1,x.2.1,x.2.2.1,x.2.2.2.1,x.2.2.2.2.1,v0) k0 k1 k2) (fun y0=>k0 y0) (fun y0 y1 y2 y3 y4=>k1 (y0,y1,y2,y3,y4)) x.1 x.2.1 x.2.2.1 x.2.2.2.1 x.2.2.2.2.1 x.2.2.2.2.2
def w9n0 [Alg] (N:Nat) (a0:Int) (a1:Int) (a2:YF2) (a3:Bool) (a4:Bool) (a5:Int) (k0:Bool->O) (k1:Int->Int->YF2->Bool->Bool->O):O:=w9l0 N N (a0,a1,a2,a3,a4,a5) (fun y=>k0 y) (fun y=>k1 y.1 y.2.1 y.2.2.1 y.2.2.2.1 y.2.2.2.2) (fun _=>none)
def w9s0 [Alg] (N:Nat) (a0:Int) (a1:Int) (a2:YF2) (a3:Bool) (a4:Bool) (a5:Int) (k0:Bool->O) (k1:Int->Int->YF2->Bool->Bool->O):O:=subL w9I0 w9u0 (w9l0 N N) (w9I0 (a0,a1,a2,a3,a4,a5)) (fun y=>k0 y) (fun y=>k1 y.1 y.2.1 y.2.2.1 y.2.2.2.1 y.2.2.2.2) (fun _=>none)
theorem w9e0 [Alg] (N:Nat):w9s0 N=w9n0 N:=funext fun _=>funext fun _=>funext fun _=>funext fun _=>funext fun _=>funext fun _=>funext fun _=>funext fun _=>subL_I w9ui0 _ _ _ _
def w9h0 [Alg] (_:Nat):Hint:=.d
theorem w9hk0 (N:Nat):HintOk (w9c N) Tryd.f9.ntmps (w9h0 N) w9b0:=hk_of _ _ trivial
theorem w9q0 [Alg] (N:Nat) (self:Sg->O) (K:Exit->Sg->O) (x:Int×Int×YF2×Bool×Bool×Int):w9F0 N  (fun v0=>self (w9I0 (x.1,x.2.1,x.2.2.1,x.2.2.2.1,x.2.2.2.2.1,v0))) (fun y0=>K (w9X0_0 y0).1 (w9X0_0 y0).2) (fun y0 y1 y2 y3 y4=>K (w9X0_1 (y0,y1,y2,y3,y4)).1 (w9X0_1 (y0,y1,y2,y3,y4)).2) x.1 x.2.1 x.2.2.1 x.2.2.2.1 x.2.2.2.2.1 x.2.2.2.2.2=exec (w9c N) Tryd.f9.ntmps (w9h0 N) w9b0 (w9I0 x) (roundX w9m0 w9w0 self K):=by kernel_rfl
theorem w9S0 (N:Nat) (hc:CxOk (w9c N)):SubOk (w9c N) Tryd.f9.ntmps (.loop w9b0) w9X0_0 w9X0_1 (noX 2) (subL w9I0 w9u0 (w9l0 N N)):=
 sub_loop hc (w9hk0 N) w9o0 (n:=N) (fun x K=>loop_ind (w9l0 N) (fun _ _ _ _=>rfl) (fun n K ih x=>by
  have h:w9F0 N  (fun v0=>w9l0 N n (x.1,x.2.1,x.2.2.1,x.2.2.2.1,x.2.2.2.2.1,v0) (fun y=>K (w9X0_0 y).1 (w9X0_0 y).2) (fun y=>K (w9X0_1 y).1 (w9X0_1 y).2) (fun y=>K ((noX 2) y).1 ((noX 2) y).2)) (fun y0=>K (w9X0_0 y0).1 (w9X0_0 y0).2) (fun y0 y1 y2 y3 y4=>K (w9X0_1 (y0,y1,y2,y3,y4)).1 (w9X0_1 (y0,y1,y2,y3,y4)).2) x.1 x.2.1 x.2.2.1 x.2.2.2.1 x.2.2.2.2.1 x.2.2.2.2.2=w9F0 N  (fun v0=>loopX (w9c N) Tryd.f9.ntmps (w9h0 N) w9b0 w9m0 w9w0 n (w9I0 (x.1,x.2.1,x.2.2.1,x.2.2.2.1,x.2.2.2.2.1,v0)) K) (fun y0=>K (w9X0_0 y0).1 (w9X0_0 y0).2) (fun y0 y1 y2 y3 y4=>K (w9X0_1 (y0,y1,y2,y3,y4)).1 (w9X0_1 (y0,y1,y2,y3,y4)).2) x.1 x.2.1 x.2.2.1 x.2.2.2.1 x.2.2.2.2.1 x.2.2.2.2.2:=by rw [ show (fun v0=>w9l0 N n (x.1,x.2.1,x.2.2.1,x.2.2.2.1,x.2.2.2.2.1,v0) (fun y=>K (w9X0_0 y).1 (w9X0_0 y).2) (fun y=>K (w9X0_1 y).1 (w9X0_1 y).2) (fun y=>K ((noX 2) y).1 ((noX 2) y).2))=(fun v0=>loopX (w9c N) Tryd.f9.ntmps (w9h0 N) w9b0 w9m0 w9w0 n (w9I0 (x.1,x.2.1,x.2.2.1,x.2.2.2.1,x.2.2.2.2.1,v0)) K) from funext fun _=>ih _]
  exact h.trans (w9q0 N (fun σ=>loopX (w9c N) Tryd.f9.ntmps (w9h0 N) w9b0 w9m0 w9w0 n σ K) K x)) N x K)
def w9G [Alg] (N:Nat) (in0:Int->Int->YF2->Bool->Bool->Int->(Bool->O)->(Int->Int->YF2->Bool->Bool->O)->O) (kind0:Int) (options1:Int) (s2:YF2):O:=
 ck (w22p N kind0 options1) <|
 br (!w22y0 N kind0 options1||decide ((↑s2.length:Int)=(0:Int))||decide ((40:Int) < (↑s2.length:Int)))
  (some (w9r0 false))
  (in0 kind0 options1 s2 false (w22y0 N kind0 options1) ((0:Int))
   (fun z13=>
    some (w9r0 z13))
   (fun z14 z15 z16 _ _=>
    br (decide (z14=(0:Int)))
     (gc (decide ((↑z16.length:Int)=(1:Int))) ((0:UInt8)) z16 ((0:Int)) fun y19=>
     some (w9r0 (decide ((↑z16.length:Int)=(1:Int))&&decide (IntKind.i64.wrap (↑(y19 - (48:UInt8)).toNat:Int) < z15))))
     (gc (!decide (z14=(2:Int))&&decide ((↑z16.length:Int)<=(3:Int))&&!decide ((↑z16.length:Int)=(1:Int))) ((0:UInt8)) z16 ((0:Int)) fun y20=>
     some (w9r0 (decide (z14=(2:Int))||decide ((↑z16.length:Int)<=(3:Int))&&(decide ((↑z16.length:Int)=(1:Int))||decide (y20≠(48:UInt8))))))))
def w9 [Alg] (N:Nat) (kind0:Int) (options1:Int) (s2:YF2):O:=w9G N (w9n0 N) kind0 options1 s2
def w9h [Alg] (N:Nat):Hint:=(.seq .d (.seq .d (.seq (.seq .d (.block (.sub w9m0 _ _ _ w9X0_0 w9X0_1 (noX 2) (subL w9I0 w9u0 (w9l0 N N))))) .d)))
theorem w9hk (N:Nat) (hc:CxOk (w9c N)):HintOk (w9c N) Tryd.f9.ntmps (w9h N) w9b:=hk_of _ _ (And.intro trivial (And.intro trivial (And.intro (And.intro trivial (w9S0 N hc)) trivial)))
theorem w9q [Alg] (N:Nat) (kind0:Int) (options1:Int) (s2:YF2):w9G N (w9s0 N) kind0 options1 s2=exec (w9c N) Tryd.f9.ntmps (w9h N) w9b ⟨argT 0 [.e (.i .i64) kind0,.e (.i .i64) options1,.e .tx s2],[],100⟩ (finX (w9c N) Tryd.f9 false):=by kernel_rfl
theorem w9does {N:Nat} (hc:CxOk (w9c N)) {kind0:Int} {options1:Int} {s2:YF2} {r:Res} (h:w9 N kind0 options1 s2=some r):DoesR Tryd.prog 9 (([.e (.i .i64) kind0,.e (.i .i64) options1,.e .tx s2]:List X).map X.D) (HA []) r:=
 fun_ok hc (f:=9) (fn:=Tryd.f9) (code:=w9b) (by kernel_rfl) (by kernel_rfl) (w9hk N hc) (Nat.le_of_ble_eq_true (by kernel_rfl)) (ow:=false) ((w9q N kind0 options1 s2).symm.trans (by rw [w9e0 N];exact h))
def w9un (r:Res):Option (Bool):=match r with
 | (x0,[])=>(match ue .bo x0 with | some a0=>some a0 | _=>none)
 | _=>none
theorem w9uo {r:Res} {d:Bool} (h:w9un r=some d):r=w9r0 (d):=by
 unfold w9un at h;split at h
 ·split at h
  ·rename_i h0;cases h;rw [ue_some h0];rfl
  ·cases h
 ·cases h
def w9z (N:Nat) (kind0:Int) (options1:Int) (s2:YF2):Option (Bool):=(w9 N kind0 options1 s2).bind w9un
theorem w9fin {N:Nat} (hc:CxOk (w9c N)) {kind0:Int} {options1:Int} {s2:YF2} {d:Bool} (hd:w9z N kind0 options1 s2=some d):Does Tryd.prog 9 (([.e (.i .i64) kind0,.e (.i .i64) options1,.e .tx s2]:List X).map X.D) (HA []) (w9r0 (d)).1.D (HA (w9r0 (d)).2):=by
 obtain ⟨r,hr,hu⟩:=Option.bind_eq_some_iff.1 hd;have:=w9does hc hr;rw [w9uo hu] at this;exact this
def w9p (N:Nat) (kind0:Int) (options1:Int) (s2:YF2):Bool:=(w9z N kind0 options1 s2).isSome
def w9y0 (N:Nat) (kind0:Int) (options1:Int) (s2:YF2):Bool:=((w9z N kind0 options1 s2).getD false)
def w9e (N:Nat):Ent':=E3 (.i .i64) (.i .i64) .tx  (fun x0 x1 x2=>(w9p N x0 x1 x2,w9r0 (w9y0 N x0 x1 x2)))
theorem w9re {N:Nat} {kind0:Int} {options1:Int} {s2:YF2} {d:Bool} (hd:w9z N kind0 options1 s2=some d):w9r0 (w9y0 N kind0 options1 s2)=w9r0 (d):=by unfold w9y0;rw [hd];rfl
theorem w9ok (N:Nat):EOk Tryd.prog 9 (w9e N):=EOk.e3 (fun x0 x1 x2 h=>by
 have h:(w9z N x0 x1 x2).isSome=true:=h;obtain ⟨d,hd⟩:=Option.isSome_iff_exists.1 h;have f:=w9fin (w9cx N) hd;rw [← w9re hd] at f;exact f)
def w5r0 (a0:YF2) (a1:Int):Res:=(.tup [.e .tx a0,.e (.i .i64) a1],[])
def w5L (N:Nat):List (Nat×Ent'):=[(15,w15e N)]
def w5c (N:Nat):Cx:=⟨Tryd.prog,99999,w5L N,[]⟩
def w5b:Code:=Tryd.f5.body.getD .skip
theorem w5cx (N:Nat):CxOk (w5c N):=ctx_ok (by kernel_rfl) (.cons (by kernel_rfl) (w15ok N) .nil) .nil
def w5F0 [Alg] (_:Nat)  (self:Int->YF2->O) (k0:YF2->O) (x1_0:Int) (x1_1:YF2):O:=
 br (decide ((10:Int)<=x1_0))
  (ck true <|
  ck true <|
  ck (decide ((↑[u8of (IntKind.i64.wrap ((48:Int)+(IntKind.i64.wrap (x1_0.tdiv (10:Int))).tmod (10:Int)))].length:Int)+(↑x1_1.length:Int)<=(9223372036854775807:Int))) <|
  self (IntKind.i64.wrap (x1_0.tdiv (10:Int))) ([u8of (IntKind.i64.wrap ((48:Int)+(IntKind.i64.wrap (x1_0.tdiv (10:Int))).tmod (10:Int)))]++x1_1))
  (k0 x1_1)
def w5b0:Code:=atC [1,0,1,0,1,1,1,0,1,1,0,0,0] w5b
def w5m0:Nm:=⟨[7,8],[],[]⟩
def w5I0 (x:Int×YF2):Sg:=⟨[(7,.e (.i .i64) x.1),(8,.e .tx x.2)],[],100⟩
def w5u0 (σ:Sg):Int×YF2:=(lvT (.i .i64) 7 0 σ,lvT .tx 8 0 σ)
theorem w5ui0:∀ x,w5u0 (w5I0 x)=x:=fun _=>by kernel_rfl
def w5X0_0 (y:YF2):Exit×Sg:=((.exit 1),⟨[(8,.e .tx y)],[],100⟩)
def w5v0_0 (_:Exit) (σ:Sg):YF2:=lvT .tx 8 0 σ
def w5w0:List (Exit×Nm):=[((.exit 1),⟨[8],[],[]⟩)]
theorem w5o0:Outs w5v0_0 (fun _ _=>()) (fun _ _=>()) w5X0_0 (noX 1) (noX 2) (exC (.exit 1)) (exC (.goto 1)) (exC (.goto 2)):=⟨fun _=>by kernel_rfl,fun _=>by kernel_rfl,fun _=>by kernel_rfl,fun _=>by kernel_rfl,fun _=>by kernel_rfl,fun _=>by kernel_rfl,exNe_ok (by kernel_rfl),exNe_ok (by kernel_rfl),exNe_ok (by kernel_rfl)⟩
def w5l0 [Alg] (N:Nat):Nat->(Int×YF2)->((YF2)->O)->((Unit)->O)->((Unit)->O)->O
 | 0,_,_,_,_=>none
 | n+1,x,k0,k1,k2=>w5F0 N  (fun v0 v1=>w5l0 N n (v0,v1) k0 k1 k2) (fun y0=>k0 y0) x.1 x.2
def w5n0 [Alg] (N:Nat) (a0:Int) (a1:YF2) (k0:YF2->O):O:=w5l0 N N (a0,a1) (fun y=>k0 y) (fun _=>none) (fun _=>none)
def w5s0 [Alg] (N:Nat) (a0:Int) (a1:YF2) (k0:YF2->O):O:=subL w5I0 w5u0 (w5l0 N N) (w5I0 (a0,a1)) (fun y=>k0 y) (fun _=>none) (fun _=>none)
theorem w5e0 [Alg] (N:Nat):w5s0 N=w5n0 N:=funext fun _=>funext fun _=>funext fun _=>subL_I w5ui0 _ _ _ _
def w5h0 [Alg] (_:Nat):Hint:=.d
theorem w5hk0 (N:Nat):HintOk (w5c N) Tryd.f5.ntmps (w5h0 N) w5b0:=hk_of _ _ trivial
theorem w5q0 [Alg] (N:Nat) (self:Sg->O) (K:Exit->Sg->O) (x:Int×YF2):w5F0 N  (fun v0 v1=>self (w5I0 (v0,v1))) (fun y0=>K (w5X0_0 y0).1 (w5X0_0 y0).2) x.1 x.2=exec (w5c N) Tryd.f5.ntmps (w5h0 N) w5b0 (w5I0 x) (roundX w5m0 w5w0 self K):=by kernel_rfl
theorem w5S0 (N:Nat) (hc:CxOk (w5c N)):SubOk (w5c N) Tryd.f5.ntmps (.loop w5b0) w5X0_0 (noX 1) (noX 2) (subL w5I0 w5u0 (w5l0 N N)):=
 sub_loop hc (w5hk0 N) w5o0 (n:=N) (fun x K=>loop_ind (w5l0 N) (fun _ _ _ _=>rfl) (fun n K ih x=>by
  have h:w5F0 N  (fun v0 v1=>w5l0 N n (v0,v1) (fun y=>K (w5X0_0 y).1 (w5X0_0 y).2) (fun y=>K ((noX 1) y).1 ((noX 1) y).2) (fun y=>K ((noX 2) y).1 ((noX 2) y).2)) (fun y0=>K (w5X0_0 y0).1 (w5X0_0 y0).2) x.1 x.2=w5F0 N  (fun v0 v1=>loopX (w5c N) Tryd.f5.ntmps (w5h0 N) w5b0 w5m0 w5w0 n (w5I0 (v0,v1)) K) (fun y0=>K (w5X0_0 y0).1 (w5X0_0 y0).2) x.1 x.2:=by rw [ show (fun v0 v1=>w5l0 N n (v0,v1) (fun y=>K (w5X0_0 y).1 (w5X0_0 y).2) (fun y=>K ((noX 1) y).1 ((noX 1) y).2) (fun y=>K ((noX 2) y).1 ((noX 2) y).2))=(fun v0 v1=>loopX (w5c N) Tryd.f5.ntmps (w5h0 N) w5b0 w5m0 w5w0 n (w5I0 (v0,v1)) K) from funext fun _=>funext fun _=>ih _]
  exact h.trans (w5q0 N (fun σ=>loopX (w5c N) Tryd.f5.ntmps (w5h0 N) w5b0 w5m0 w5w0 n σ K) K x)) N x K)
def w5F1 [Alg] (N:Nat)  (self:YF2->Int->O) (k0:YF2->O) (x4_0:(List Int)) (x4_1:Int) (x4_2:YF2) (x4_3:Int):O:=
 br (decide (x4_3 < x4_1))
  (ck (w15p N x4_0 (IntKind.i64.wrap ((1:Int)+x4_3)) (95:Int)) <|
  ck (decide ((↑x4_2.length:Int)+(↑[u8of (IntKind.i64.wrap ((32:Int)+w15y0 N x4_0 (IntKind.i64.wrap ((1:Int)+x4_3)) (95:Int)))].length:Int)<=(9223372036854775807:Int))) <|
  self (x4_2++[u8of (IntKind.i64.wrap ((32:Int)+w15y0 N x4_0 (IntKind.i64.wrap ((1:Int)+x4_3)) (95:Int)))]) (IntKind.i64.wrap (x4_3+(1:Int))))
  (k0 x4_2)
def w5b1:Code:=atC [1,1,1,1,0,1,0,0] w5b
def w5m1:Nm:=⟨[1,9,10,11],[],[]⟩
def w5I1 (x:(List Int)×Int×YF2×Int):Sg:=⟨[(1,.e (.sl (.i .i64)) x.1),(9,.e (.i .i64) x.2.1),(10,.e .tx x.2.2.1),(11,.e (.i .i64) x.2.2.2)],[],100⟩
def w5u1 (σ:Sg):(List Int)×Int×YF2×Int:=(lvT (.sl (.i .i64)) 1 0 σ,lvT (.i .i64) 9 0 σ,lvT .tx 10 0 σ,lvT (.i .i64) 11 0 σ)
theorem w5ui1:∀ x,w5u1 (w5I1 x)=x:=fun _=>by kernel_rfl
def w5X1_0 (y:YF2):Exit×Sg:=((.exit 3),⟨[(10,.e .tx y)],[],100⟩)
def w5v1_0 (_:Exit) (σ:Sg):YF2:=lvT .tx 10 0 σ
def w5w1:List (Exit×Nm):=[((.exit 3),⟨[10],[],[]⟩)]
theorem w5o1:Outs w5v1_0 (fun _ _=>()) (fun _ _=>()) w5X1_0 (noX 1) (noX 2) (exC (.exit 3)) (exC (.goto 1)) (exC (.goto 2)):=⟨fun _=>by kernel_rfl,fun _=>by kernel_rfl,fun _=>by kernel_rfl,fun _=>by kernel_rfl,fun _=>by kernel_rfl,fun _=>by kernel_rfl,exNe_ok (by kernel_rfl),exNe_ok (by kernel_rfl),exNe_ok (by kernel_rfl)⟩
def w5l1 [Alg] (N:Nat):Nat->((List Int)×Int×YF2×Int)->((YF2)->O)->((Unit)->O)->((Unit)->O)->O
 | 0,_,_,_,_=>none
 | n+1,x,k0,k1,k2=>w5F1 N  (fun v0 v1=>w5l1 N n (x.1,x.2.1,v0,v1) k0 k1 k2) (fun y0=>k0 y0) x.1 x.2.1 x.2.2.1 x.2.2.2
def w5n1 [Alg] (N:Nat) (a0:(List Int)) (a1:Int) (a2:YF2) (a3:Int) (k0:YF2->O):O:=w5l1 N N (a0,a1,a2,a3) (fun y=>k0 y) (fun _=>none) (fun _=>none)
def w5s1 [Alg] (N:Nat) (a0:(List Int)) (a1:Int) (a2:YF2) (a3:Int) (k0:YF2->O):O:=subL w5I1 w5u1 (w5l1 N N) (w5I1 (a0,a1,a2,a3)) (fun y=>k0 y) (fun _=>none) (fun _=>none)
theorem w5e1 [Alg] (N:Nat):w5s1 N=w5n1 N:=funext fun _=>funext fun _=>funext fun _=>funext fun _=>funext fun _=>subL_I w5ui1 _ _ _ _
def w5h1 [Alg] (_:Nat):Hint:=.d
theorem w5hk1 (N:Nat):HintOk (w5c N) Tryd.f5.ntmps (w5h1 N) w5b1:=hk_of _ _ trivial
theorem w5q1 [Alg] (N:Nat) (self:Sg->O) (K:Exit->Sg->O) (x:(List Int)×Int×YF2×Int):w5F1 N  (fun v0 v1=>self (w5I1 (x.1,x.2.1,v0,v1))) (fun y0=>K (w5X1_0 y0).1 (w5X1_0 y0).2) x.1 x.2.1 x.2.2.1 x.2.2.2=exec (w5c N) Tryd.f5.ntmps (w5h1 N) w5b1 (w5I1 x) (roundX w5m1 w5w1 self K):=by kernel_rfl
theorem w5S1 (N:Nat) (hc:CxOk (w5c N)):SubOk (w5c N) Tryd.f5.ntmps (.loop w5b1) w5X1_0 (noX 1) (noX 2) (subL w5I1 w5u1 (w5l1 N N)):=
 sub_loop hc (w5hk1 N) w5o1 (n:=N) (fun x K=>loop_ind (w5l1 N) (fun _ _ _ _=>rfl) (fun n K ih x=>by
  have h:w5F1 N  (fun v0 v1=>w5l1 N n (x.1,x.2.1,v0,v1) (fun y=>K (w5X1_0 y).1 (w5X1_0 y).2) (fun y=>K ((noX 1) y).1 ((noX 1) y).2) (fun y=>K ((noX 2) y).1 ((noX 2) y).2)) (fun y0=>K (w5X1_0 y0).1 (w5X1_0 y0).2) x.1 x.2.1 x.2.2.1 x.2.2.2=w5F1 N  (fun v0 v1=>loopX (w5c N) Tryd.f5.ntmps (w5h1 N) w5b1 w5m1 w5w1 n (w5I1 (x.1,x.2.1,v0,v1)) K) (fun y0=>K (w5X1_0 y0).1 (w5X1_0 y0).2) x.1 x.2.1 x.2.2.1 x.2.2.2:=by rw [ show (fun v0 v1=>w5l1 N n (x.1,x.2.1,v0,v1) (fun y=>K (w5X1_0 y).1 (w5X1_0 y).2) (fun y=>K ((noX 1) y).1 ((noX 1) y).2) (fun y=>K ((noX 2) y).1 ((noX 2) y).2))=(fun v0 v1=>loopX (w5c N) Tryd.f5.ntmps (w5h1 N) w5b1 w5m1 w5w1 n (w5I1 (x.1,x.2.1,v0,v1)) K) from funext fun _=>funext fun _=>ih _]
  exact h.trans (w5q1 N (fun σ=>loopX (w5c N) Tryd.f5.ntmps (w5h1 N) w5b1 w5m1 w5w1 n σ K) K x)) N x K)
def w5G [Alg] (N:Nat) (in0:Int->YF2->(YF2->O)->O) (in1:(List Int)->Int->YF2->Int->(YF2->O)->O) (kind0:Int) (l1:(List Int)):O:=
 br (decide (kind0=(0:Int)))
  (ck (w15p N l1 (0:Int) (5:Int)) <|
  ck (w15p N l1 (1:Int) (IntKind.i64.wrap ((2:Int)+w15y0 N l1 (0:Int) (5:Int)))) <|
  some (w5r0 [u8of (IntKind.i64.wrap ((48:Int)+w15y0 N l1 (1:Int) (IntKind.i64.wrap ((2:Int)+w15y0 N l1 (0:Int) (5:Int)))))] (IntKind.i64.wrap ((2:Int)+w15y0 N l1 (0:Int) (5:Int)))))
  (br (decide (kind0=(1:Int)))
   (ck (w15p N l1 (1:Int) (1000:Int)) <|
   ck (w15p N l1 (0:Int) (6:Int)) <|
   gx [(0:Int),(7:Int),(10:Int),(42:Int),(999:Int),w15y0 N l1 (1:Int) (1000:Int)] (w15y0 N l1 (0:Int) (6:Int)) fun y0=>
   ck true <|
   in0 y0 [u8of (IntKind.i64.wrap ((48:Int)+y0.tmod (10:Int)))]
    (fun z2=>
     some (w5r0 z2 ((0:Int)))))
   (ck (w15p N l1 (0:Int) (7:Int)) <|
   gx [(1:Int),(2:Int),(3:Int),(5:Int),(8:Int),(39:Int),(40:Int)] (w15y0 N l1 (0:Int) (7:Int)) fun y3=>
   in1 l1 y3 [] ((0:Int))
    (fun z5=>
     some (w5r0 z5 ((0:Int))))))
def w5 [Alg] (N:Nat) (kind0:Int) (l1:(List Int)):O:=w5G N (w5n0 N) (w5n1 N) kind0 l1
def w5h [Alg] (N:Nat):Hint:=(.seq .d (.seq (.seq .d (.block (.seq .d (.cond .d (.seq .d (.cond (.seq .d (.seq .d (.seq (.block (.sub w5m0 _ _ _ w5X0_0 (noX 1) (noX 2) (subL w5I0 w5u0 (w5l0 N N)))) .d))) .d)))))) (.seq .d (.seq .d (.seq (.seq .d (.block (.sub w5m1 _ _ _ w5X1_0 (noX 1) (noX 2) (subL w5I1 w5u1 (w5l1 N N))))) .d)))))
theorem w5hk (N:Nat) (hc:CxOk (w5c N)):HintOk (w5c N) Tryd.f5.ntmps (w5h N) w5b:=hk_of _ _ (And.intro trivial (And.intro (And.intro trivial (And.intro trivial (And.intro trivial (And.intro trivial (And.intro (And.intro trivial (And.intro trivial (And.intro (w5S0 N hc) trivial))) trivial))))) (And.intro trivial (And.intro trivial (And.intro (And.intro trivial (w5S1 N hc)) trivial)))))
theorem w5q [Alg] (N:Nat) (kind0:Int) (l1:(List Int)):w5G N (w5s0 N) (w5s1 N) kind0 l1=exec (w5c N) Tryd.f5.ntmps (w5h N) w5b ⟨argT 0 [.e (.i .i64) kind0,.e (.sl (.i .i64)) l1],[],100⟩ (finX (w5c N) Tryd.f5 false):=by kernel_rfl
theorem w5does {N:Nat} (hc:CxOk (w5c N)) {kind0:Int} {l1:(List Int)} {r:Res} (h:w5 N kind0 l1=some r):DoesR Tryd.prog 5 (([.e (.i .i64) kind0,.e (.sl (.i .i64)) l1]:List X).map X.D) (HA []) r:=
 fun_ok hc (f:=5) (fn:=Tryd.f5) (code:=w5b) (by kernel_rfl) (by kernel_rfl) (w5hk N hc) (Nat.le_of_ble_eq_true (by kernel_rfl)) (ow:=false) ((w5q N kind0 l1).symm.trans (by rw [w5e0 N,w5e1 N];exact h))
def w5un (r:Res):Option (YF2×Int):=match r with
 | (.tup [x0,x1],[])=>(match ue .tx x0,ue (.i .i64) x1 with | some a0,some a1=>some (a0,a1) | _,_=>none)
 | _=>none
theorem w5uo {r:Res} {d:YF2×Int} (h:w5un r=some d):r=w5r0 (d.1) (d.2):=by
 unfold w5un at h;split at h
 ·split at h
  ·rename_i h0 h1;cases h;rw [ue_some h0,ue_some h1];rfl
  ·cases h
 ·cases h
def w5z (N:Nat) (kind0:Int) (l1:(List Int)):Option (YF2×Int):=(w5 N kind0 l1).bind w5un
theorem w5fin {N:Nat} (hc:CxOk (w5c N)) {kind0:Int} {l1:(List Int)} {d:YF2×Int} (hd:w5z N kind0 l1=some d):Does Tryd.prog 5 (([.e (.i .i64) kind0,.e (.sl (.i .i64)) l1]:List X).map X.D) (HA []) (w5r0 (d.1) (d.2)).1.D (HA (w5r0 (d.1) (d.2)).2):=by
 obtain ⟨r,hr,hu⟩:=Option.bind_eq_some_iff.1 hd;have:=w5does hc hr;rw [w5uo hu] at this;exact this
def w5p (N:Nat) (kind0:Int) (l1:(List Int)):Bool:=(w5z N kind0 l1).isSome
def w5y0 (N:Nat) (kind0:Int) (l1:(List Int)):YF2:=((w5z N kind0 l1).getD ([],0)).1
def w5y1 (N:Nat) (kind0:Int) (l1:(List Int)):Int:=((w5z N kind0 l1).getD ([],0)).2
def w5e (N:Nat):Ent':=E2 (.i .i64) (.sl (.i .i64))  (fun x0 x1=>(w5p N x0 x1,w5r0 (w5y0 N x0 x1) (w5y1 N x0 x1)))
theorem w5re {N:Nat} {kind0:Int} {l1:(List Int)} {d:YF2×Int} (hd:w5z N kind0 l1=some d):w5r0 (w5y0 N kind0 l1) (w5y1 N kind0 l1)=w5r0 (d.1) (d.2):=by unfold w5y0 w5y1;rw [hd];rfl
theorem w5ok (N:Nat):EOk Tryd.prog 5 (w5e N):=EOk.e2 (fun x0 x1 h=>by
 have h:(w5z N x0 x1).isSome=true:=h;obtain ⟨d,hd⟩:=Option.isSome_iff_exists.1 h;have f:=w5fin (w5cx N) hd;rw [← w5re hd] at f;exact f)
end
end Go.Proofs
