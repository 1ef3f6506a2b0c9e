/- What functions do; the examples hold. Conditions are in the theorems. -/
import Derived.Test.YtipllfcmdnellaaDoorE7
import Derived.Test.YtipllfcmdnellaaDoorProg
import Derived.KernelRfl
import Derived.Test.YtipllfcmdnellaaDoorF2
/- What functions do. -/
namespace Go.Proofs
noncomputable section
open Go.Ax Go.Ax.Alg Go.RowKit Go.Ab
open Go
abbrev lF3x0:List UInt8:=[(97:UInt8),(108:UInt8),(119:UInt8),(97:UInt8),(121:UInt8),(115:UInt8),(32:UInt8),(114:UInt8),(101:UInt8),(115:UInt8),(116:UInt8),(111:UInt8),(114:UInt8),(101:UInt8),(32:UInt8),(108:UInt8),(101:UInt8),(97:UInt8),(115:UInt8),(116:UInt8),(32:UInt8),(54:UInt8),(48:UInt8),(32:UInt8),(105:UInt8),(102:UInt8),(32:UInt8),(102:UInt8),(49:UInt8),(32:UInt8),(97:UInt8),(110:UInt8),(100:UInt8),(32:UInt8),(110:UInt8),(111:UInt8),(116:UInt8),(32:UInt8),(102:UInt8),(51:UInt8),(32:UInt8),(115:UInt8),(116:UInt8),(114:UInt8),(105:UInt8),(107:UInt8),(101:UInt8),(32:UInt8),(108:UInt8),(101:UInt8),(97:UInt8),(115:UInt8),(116:UInt8),(32:UInt8),(49:UInt8),(32:UInt8),(105:UInt8),(102:UInt8),(32:UInt8),(102:UInt8),(49:UInt8),(32:UInt8),(115:UInt8),(116:UInt8),(114:UInt8),(105:UInt8),(107:UInt8),(101:UInt8),(32:UInt8),(109:UInt8),(111:UInt8),(115:UInt8),(116:UInt8),(32:UInt8),(48:UInt8)]
abbrev lF3x1:List UInt8:=[(105:UInt8),(102:UInt8),(32:UInt8),(102:UInt8),(51:UInt8),(32:UInt8),(97:UInt8),(110:UInt8),(100:UInt8),(32:UInt8),(102:UInt8),(50:UInt8),(32:UInt8),(114:UInt8),(101:UInt8),(116:UInt8),(97:UInt8),(107:UInt8),(101:UInt8),(32:UInt8),(108:UInt8),(101:UInt8),(97:UInt8),(115:UInt8),(116:UInt8),(32:UInt8),(49:UInt8)]
abbrev lF3x2:List UInt8:=[(97:UInt8),(108:UInt8),(119:UInt8),(97:UInt8),(121:UInt8),(115:UInt8),(32:UInt8),(115:UInt8),(116:UInt8),(114:UInt8),(105:UInt8),(107:UInt8),(101:UInt8),(32:UInt8),(108:UInt8),(101:UInt8),(97:UInt8),(115:UInt8),(116:UInt8),(32:UInt8),(48:UInt8),(49:UInt8)]
def w59r0 (a0:Int):Res:=(.e (.i .i64) a0,[])
def w59c (N:Nat):Cx:=⟨Tryd.prog,99999,[(46,w46e N)],[]⟩
def w59b:Code:=Tryd.f59.body.getD .skip
theorem w59cx N:CxOk (w59c N):=ctx_ok (by kernel_rfl) (.cons (by kernel_rfl) (w46ok N) .nil) .nil
def w59F0 [Alg] (N:Nat) (self:Int->O) (k0:Int->O) (k1:Int->O) (x0_0:(List ((List Int)×(Int×Int)))) (x0_1 x0_2 x0_3:Int):O:=
 br (decide (x0_3 < x0_2))
  (gx x0_0 x0_3 fun y3=>
  ck (w46p N y3.1 y3.2.1 y3.2.2) <|
  br (w46y0 N y3.1 y3.2.1 y3.2.2)
   (k0 x0_3)
   (self (IntKind.i64.wrap (x0_3+1))))
  (k1 x0_1)
def w59b0:Code:=atC [1,0,1,0,0] w59b
def w59m0:Nm:=⟨[0,1,4,7,8],[],[]⟩
def w59I0 (x:(List ((List Int)×(Int×Int)))×Int×Int×Int):Sg:=⟨[(0,.e (.sl (.pr (.sl (.i .i64)) (.pr (.i .i64) (.i .i64)))) x.1),(1,.fn 46 []),(4,.e (.i .i64) x.2.1),(7,.e (.i .i64) x.2.2.1),(8,.e (.i .i64) x.2.2.2)],[],100⟩
def w59u0 (σ:Sg):(List ((List Int)×(Int×Int)))×Int×Int×Int:=(lvT (.sl (.pr (.sl (.i .i64)) (.pr (.i .i64) (.i .i64)))) 0 0 σ,lvT (.i .i64) 4 0 σ,lvT (.i .i64) 7 0 σ,lvT (.i .i64) 8 0 σ)
theorem w59ui0:∀ x,w59u0 (w59I0 x)=x:=fun _=>by kernel_rfl
def w59X0_0 (y:Int):Exit×Sg:=(.ret,⟨[(4,.e (.i .i64) y)],[],100⟩)
def w59v0_0 (_:Exit) (σ:Sg):Int:=lvT (.i .i64) 4 0 σ
def w59X0_1 (y:Int):Exit×Sg:=((.exit 0),⟨[(4,.e (.i .i64) y)],[],100⟩)
def w59v0_1 (_:Exit) (σ:Sg):Int:=lvT (.i .i64) 4 0 σ
def w59w0:List (Exit×Nm):=[(.ret,⟨[4],[],[]⟩),((.exit 0),⟨[4],[],[]⟩)]
def w59l0 [Alg] (N:Nat):Nat->((List ((List Int)×(Int×Int)))×Int×Int×Int)->((Int)->O)->((Int)->O)->((Unit)->O)->O
 | 0,_,_,_,_=>none
 | n+1,x,k0,k1,k2=>w59F0 N (fun v0=>w59l0 N n (x.1,x.2.1,x.2.2.1,v0) k0 k1 k2) (fun y0=>k0 y0) (fun y0=>k1 y0) x.1 x.2.1 x.2.2.1 x.2.2.2
def w59n0 [Alg] N a0 a1 a2 a3 (k0:Int->O) (k1:Int->O):=w59l0 N N (a0,a1,a2,a3) (fun y=>k0 y) (fun y=>k1 y) (fun _=>none)
def w59s0 [Alg] N a0 a1 a2 a3 (k0:Int->O) (k1:Int->O):=subL w59I0 w59u0 (w59l0 N N) (w59I0 (a0,a1,a2,a3)) (fun y=>k0 y) (fun y=>k1 y) (fun _=>none)
theorem w59e0 [Alg] N:w59s0 N=w59n0 N:=funext fun _=>funext fun _=>funext fun _=>funext fun _=>funext fun _=>funext fun _=>subL_I w59ui0 _ _ _ _
theorem w59q0 [Alg] (N:Nat) (self:Sg->O) (K:Exit->Sg->O) (x:(List ((List Int)×(Int×Int)))×Int×Int×Int):w59F0 N (fun v0=>self (w59I0 (x.1,x.2.1,x.2.2.1,v0))) (fun y0=>K (w59X0_0 y0).1 (w59X0_0 y0).2) (fun y0=>K (w59X0_1 y0).1 (w59X0_1 y0).2) x.1 x.2.1 x.2.2.1 x.2.2.2=exec (w59c N) Tryd.f59.ntmps .d w59b0 (w59I0 x) (roundX w59m0 w59w0 self K):=by kernel_rfl
theorem w59S0 N (hc:CxOk (w59c N)):SubOk (w59c N) Tryd.f59.ntmps (.loop w59b0) w59X0_0 w59X0_1 (noX 2) (subL w59I0 w59u0 (w59l0 N N)):=
 sub_loop hc (hk_d w59b0) (oK2 w59v0_0 w59v0_1 .ret (.exit 0) (fun _=>by kernel_rfl) (fun _=>by kernel_rfl) (fun _=>rfl) (fun _=>rfl) (by kernel_rfl)) (n:=N) (fun x K=>loop_ind (w59l0 N) (fun _ _ _ _=>rfl) (fun n K ih x=>by
  refine Eq.trans ?_ (w59q0 N _ K x);simp only [← ih];rfl) N x K)
def w59G [Alg] (_:Nat) (in0:(List ((List Int)×(Int×Int)))->Int->Int->Int->(Int->O)->(Int->O)->O) (s0:(List ((List Int)×(Int×Int)))):O:=
 in0 s0 0 ((↑s0.length:Int)) 0
  (fun z4=>
   some (w59r0 z4))
  (fun _=>
   some (w59r0 ((-1:Int))))
def w59 [Alg] N s0:=w59G N (w59n0 N) s0
def w59h [Alg] (N:Nat):Hint:=(.seq .d (.seq (.seq .d (.block (.sub w59m0 _ _ _ w59X0_0 w59X0_1 (noX 2) (subL w59I0 w59u0 (w59l0 N N))))) .d))
theorem w59hk N (hc:CxOk (w59c N)):HintOk (w59c N) Tryd.f59.ntmps (w59h N) w59b:=hk_of _ _ (And.intro trivial (And.intro (And.intro trivial (w59S0 N hc)) trivial))
theorem w59q [Alg] N s0:w59G N (w59s0 N) s0=exec (w59c N) Tryd.f59.ntmps (w59h N) w59b ⟨argT 0 [.e (.sl (.pr (.sl (.i .i64)) (.pr (.i .i64) (.i .i64)))) s0,.fn 46 []],[],100⟩ (finX (w59c N) Tryd.f59 false):=by kernel_rfl
def w59un (r:Res):Option (Int):=match r with
 | (x0,[])=>(match ue (.i .i64) x0 with | some a0=>some a0 | _=>none)
 | _=>none
theorem w59uo {r d} (h:w59un r=some d):r=w59r0 (d):=by
 unfold w59un at h;split at h
 ·split at h
  ·rename_i h0;cases h;rw [ue_some h0];rfl
  ·cases h
 ·cases h
def w59z N s0:=(w59 N s0).bind w59un
theorem w59fin {N} (hc:CxOk (w59c N)) {s0 d} (hd:w59z N s0=some d):DoK Tryd.prog 59 [.e (.sl (.pr (.sl (.i .i64)) (.pr (.i .i64) (.i .i64)))) s0,.fn 46 []] [] (w59r0 (d)):=
 finJ hc (by kernel_rfl) (by kernel_rfl) (w59hk N hc) (by kernel_rfl) w59uo (fun hr=>(w59q N s0).symm.trans (by rw [w59e0 N];exact hr)) hd
def w59p N s0:=(w59z N s0).isSome
def w59y0 N s0:=((w59z N s0).getD 0)
def w59e (N:Nat):Ent':=Ef1 (.sl (.pr (.sl (.i .i64)) (.pr (.i .i64) (.i .i64)))) 46 (fun x0=>(w59p N x0,w59r0 (w59y0 N x0)))
theorem w59ok N:EOk Tryd.prog 59 (w59e N):=EOk.f1 (fun x0 h=>okG (z:=w59z N x0) h (w59fin (w59cx N)) rfl)
def w45r0 (a0:Bool):Res:=(.e .bo a0,[])
def w45c (N:Nat):Cx:=⟨Tryd.prog,99999,[(59,w59e N)],[]⟩
def w45b:Code:=Tryd.f45.body.getD .skip
theorem w45cx N:CxOk (w45c N):=ctx_ok (by kernel_rfl) (.cons (by kernel_rfl) (w59ok N) .nil) .nil
def w45G [Alg] (N:Nat) (s0:(List ((List Int)×(Int×Int)))):O:=
 ck (w59p N s0) <|
 some (w45r0 (decide ((0:Int)<=w59y0 N s0)))
def w45 [Alg] N s0:=w45G N s0
def w45h [Alg] (_:Nat):Hint:=.d
theorem w45hk N:HintOk (w45c N) Tryd.f45.ntmps (w45h N) w45b:=hk_of _ _ trivial
theorem w45q [Alg] N s0:w45G N s0=exec (w45c N) Tryd.f45.ntmps (w45h N) w45b ⟨argT 0 [.e (.sl (.pr (.sl (.i .i64)) (.pr (.i .i64) (.i .i64)))) s0,.fn 46 []],[],100⟩ (finX (w45c N) Tryd.f45 false):=by kernel_rfl
def w45un (r:Res):Option (Bool):=match r with
 | (x0,[])=>(match ue .bo x0 with | some a0=>some a0 | _=>none)
 | _=>none
theorem w45uo {r d} (h:w45un r=some d):r=w45r0 (d):=by
 unfold w45un at h;split at h
 ·split at h
  ·rename_i h0;cases h;rw [ue_some h0];rfl
  ·cases h
 ·cases h
def w45z N s0:=(w45 N s0).bind w45un
theorem w45fin {N} (hc:CxOk (w45c N)) {s0 d} (hd:w45z N s0=some d):DoK Tryd.prog 45 [.e (.sl (.pr (.sl (.i .i64)) (.pr (.i .i64) (.i .i64)))) s0,.fn 46 []] [] (w45r0 (d)):=
 finJ hc (by kernel_rfl) (by kernel_rfl) (w45hk N) (by kernel_rfl) w45uo (w45q N s0).symm.trans hd
def w45p N s0:=(w45z N s0).isSome
def w45y0 N s0:=((w45z N s0).getD false)
def w45e (N:Nat):Ent':=Ef1 (.sl (.pr (.sl (.i .i64)) (.pr (.i .i64) (.i .i64)))) 46 (fun x0=>(w45p N x0,w45r0 (w45y0 N x0)))
theorem w45ok N:EOk Tryd.prog 45 (w45e N):=EOk.f1 (fun x0 h=>okG (z:=w45z N x0) h (w45fin (w45cx N)) rfl)
def w29r0 (a0:Int):Res:=(.e (.i .i64) a0,[])
def w29c (N:Nat):Cx:=⟨Tryd.prog,99999,[(45,w45e N),(46,w46e N)],[]⟩
def w29b:Code:=Tryd.f29.body.getD .skip
theorem w29cx N:CxOk (w29c N):=ctx_ok (by kernel_rfl) (.cons (by kernel_rfl) (w45ok N) (.cons (by kernel_rfl) (w46ok N) .nil)) .nil
def w29G [Alg] (N:Nat) (l0:(List ((List Int)×(Int×Int)))):O:=
 br (decide ((32:Int) < (↑l0.length:Int)))
  (some (w29r0 4))
  (ck (w45p N l0) <|
  br (w45y0 N l0)
   (some (w29r0 1))
   (some (w29r0 0)))
def w29 [Alg] N l0:=w29G N l0
def w29h [Alg] (_:Nat):Hint:=.d
theorem w29hk N:HintOk (w29c N) Tryd.f29.ntmps (w29h N) w29b:=hk_of _ _ trivial
theorem w29q [Alg] N l0:w29G N l0=exec (w29c N) Tryd.f29.ntmps (w29h N) w29b ⟨argT 0 [.e (.sl (.pr (.sl (.i .i64)) (.pr (.i .i64) (.i .i64)))) l0],[],100⟩ (finX (w29c N) Tryd.f29 false):=by kernel_rfl
def w29un (r:Res):Option (Int):=match r with
 | (x0,[])=>(match ue (.i .i64) x0 with | some a0=>some a0 | _=>none)
 | _=>none
theorem w29uo {r d} (h:w29un r=some d):r=w29r0 (d):=by
 unfold w29un at h;split at h
 ·split at h
  ·rename_i h0;cases h;rw [ue_some h0];rfl
  ·cases h
 ·cases h
def w29z N l0:=(w29 N l0).bind w29un
theorem w29fin {N} (hc:CxOk (w29c N)) {l0 d} (hd:w29z N l0=some d):DoK Tryd.prog 29 [.e (.sl (.pr (.sl (.i .i64)) (.pr (.i .i64) (.i .i64)))) l0] [] (w29r0 (d)):=
 finJ hc (by kernel_rfl) (by kernel_rfl) (w29hk N) (by kernel_rfl) w29uo (w29q N l0).symm.trans hd
def w29p N l0:=(w29z N l0).isSome
def w29y0 N l0:=((w29z N l0).getD 0)
def w29e (N:Nat):Ent':=E1 (.sl (.pr (.sl (.i .i64)) (.pr (.i .i64) (.i .i64)))) (fun x0=>(w29p N x0,w29r0 (w29y0 N x0)))
theorem w29ok N:EOk Tryd.prog 29 (w29e N):=EOk.e1 (fun x0 h=>okG (z:=w29z N x0) h (w29fin (w29cx N)) rfl)
def w11r0 (a0 a1:Int) (a2:(List Bool)) (a3:Bool) (a4:Int):Res:=(.tup [.agg [.e (.i .i64) a0,.e (.i .i64) a1],.e (.sl .bo) a2,.e .bo a3,.e (.i .i64) a4],[])
def w11c (N:Nat):Cx:=⟨Tryd.prog,99999,[(29,w29e N),(30,w30e N)],[]⟩
def w11b:Code:=Tryd.f11.body.getD .skip
theorem w11cx N:CxOk (w11c N):=ctx_ok (by kernel_rfl) (.cons (by kernel_rfl) (w29ok N) (.cons (by kernel_rfl) (w30ok N) .nil)) .nil
def w11F0 [Alg] (N:Nat) (self:Int->O) (k0:(List Bool)->Bool->Int->Int->Int->O) (k1:(List ((List Int)×(Int×Int)))->Bool->Int->(List ((List Int)×(Int×Int)))->Int->Int->Bool->Int->((List Int)×(Int×Int))->(List Int)->Int->Int->Int->Int->Int->Int->Int->(List ((List Int)×(Int×Int)))->Int->Bool->Int->Int->(List Int)->Int->Int->O) (x72_0:(List ((List Int)×(Int×Int)))) (x72_1:Bool) (x72_2:Int) (x72_3:(List ((List Int)×(Int×Int)))) (x72_4 x72_5:Int) (x72_6:Bool) (x72_7:Int) (x72_8:((List Int)×(Int×Int))) (x72_9:(List Int)) (x72_10 x72_11:Int) (x72_12 x72_13:Int) (x72_14 x72_16 x72_17:Int) (x72_18:(List Int)) (x72_19 x72_20 x72_15:Int):O:=
 br (decide (x72_15 < (↑x72_0.length:Int)))
  (gx x72_0 x72_15 fun y75=>
  br (decide (x72_19≠y75.2.1)||decide (max x72_20 y75.2.2 < (0:Int))||decide ((0:Int)<=min x72_20 y75.2.2)||decide (max x72_20 y75.2.2<=IntKind.i64.wrap ((-1:Int) - min x72_20 y75.2.2)))
   (self (IntKind.i64.wrap (x72_15+1)))
   (ck (w30p N x72_18 x72_19 x72_20 y75.1 y75.2.1 y75.2.2) <|
   br (w30y1 N x72_18 x72_19 x72_20 y75.1 y75.2.1 y75.2.2)
    (k0 (w30y0 N x72_18 x72_19 x72_20 y75.1 y75.2.1 y75.2.2) true 0 x72_12 x72_15)
    (self (IntKind.i64.wrap (x72_15+1)))))
  (k1 x72_0 x72_1 x72_2 x72_3 x72_4 x72_5 x72_6 x72_7 x72_8 x72_9 x72_10 x72_11 x72_12 x72_13 x72_14 x72_15 x72_15 x72_0 ((↑x72_0.length:Int)) (decide (x72_15 < (↑x72_0.length:Int))) x72_16 x72_17 x72_18 x72_19 x72_20)
def w11b0:Code:=atC [1,1,0,1,0,0,1,1,0,0,1,1,0,0] w11b
def w11m0:Nm:=⟨[0,2,3,4,5,21,22,23,24,25,26,27,8,7,28,29,9],[],[]⟩
def w11I0 (x:(List ((List Int)×(Int×Int)))×Bool×Int×(List ((List Int)×(Int×Int)))×Int×Int×Bool×Int×((List Int)×(Int×Int))×(List Int)×Int×Int×Int×Int×Int×Int×Int×Int×(List Int)×Int×Int):Sg:=⟨[(0,.e (.sl (.pr (.sl (.i .i64)) (.pr (.i .i64) (.i .i64)))) x.1),(2,.ref 0 0),(3,.nilS),(4,.e .bo x.2.1),(5,.e (.i .i64) x.2.2.1),(21,.e (.sl (.pr (.sl (.i .i64)) (.pr (.i .i64) (.i .i64)))) x.2.2.2.1),(22,.e (.i .i64) x.2.2.2.2.1),(23,.e (.i .i64) x.2.2.2.2.2.1),(24,.e .bo x.2.2.2.2.2.2.1),(25,.e (.i .i64) x.2.2.2.2.2.2.2.1),(26,.pt (.pr (.sl (.i .i64)) (.pr (.i .i64) (.i .i64))) x.2.2.2.2.2.2.2.2.1 0),(27,.agg [.e (.sl (.i .i64)) x.2.2.2.2.2.2.2.2.2.1,.e (.i .i64) x.2.2.2.2.2.2.2.2.2.2.1,.e (.i .i64) x.2.2.2.2.2.2.2.2.2.2.2.1]),(8,.ref 1 0),(7,.e (.i .i64) x.2.2.2.2.2.2.2.2.2.2.2.2.1),(28,.e (.i .i64) x.2.2.2.2.2.2.2.2.2.2.2.2.2.1),(29,.e (.i .i64) x.2.2.2.2.2.2.2.2.2.2.2.2.2.2.1),(9,.e (.i .i64) x.2.2.2.2.2.2.2.2.2.2.2.2.2.2.2.1)],[(0,.box 27 [.e (.i .i64) x.2.2.2.2.2.2.2.2.2.2.2.2.2.2.2.2.1,.e (.i .i64) x.2.2.2.2.2.2.2.2.2.2.2.2.2.2.2.2.2.1]),(1,.box 51 [.e (.sl (.i .i64)) x.2.2.2.2.2.2.2.2.2.2.2.2.2.2.2.2.2.2.1,.e (.i .i64) x.2.2.2.2.2.2.2.2.2.2.2.2.2.2.2.2.2.2.2.1,.e (.i .i64) x.2.2.2.2.2.2.2.2.2.2.2.2.2.2.2.2.2.2.2.2])],100⟩
def w11u0 (σ:Sg):(List ((List Int)×(Int×Int)))×Bool×Int×(List ((List Int)×(Int×Int)))×Int×Int×Bool×Int×((List Int)×(Int×Int))×(List Int)×Int×Int×Int×Int×Int×Int×Int×Int×(List Int)×Int×Int:=(lvT (.sl (.pr (.sl (.i .i64)) (.pr (.i .i64) (.i .i64)))) 0 0 σ,lvT .bo 4 0 σ,lvT (.i .i64) 5 0 σ,lvT (.sl (.pr (.sl (.i .i64)) (.pr (.i .i64) (.i .i64)))) 21 0 σ,lvT (.i .i64) 22 0 σ,lvT (.i .i64) 23 0 σ,lvT .bo 24 0 σ,lvT (.i .i64) 25 0 σ,lvT (.pr (.sl (.i .i64)) (.pr (.i .i64) (.i .i64))) 26 0 σ,lvT (.sl (.i .i64)) 27 0 σ,lvT (.i .i64) 27 1 σ,lvT (.i .i64) 27 2 σ,lvT (.i .i64) 7 0 σ,lvT (.i .i64) 28 0 σ,lvT (.i .i64) 29 0 σ,lvT (.i .i64) 9 0 σ,lvH (.i .i64) 0 0 σ,lvH (.i .i64) 0 1 σ,lvH (.sl (.i .i64)) 1 0 σ,lvH (.i .i64) 1 1 σ,lvH (.i .i64) 1 2 σ)
theorem w11ui0:∀ x,w11u0 (w11I0 x)=x:=fun _=>by kernel_rfl
def w11X0_0 (y:(List Bool)×Bool×Int×Int×Int):Exit×Sg:=(.ret,⟨[(2,.ref 0 0),(3,.e (.sl .bo) y.1),(4,.e .bo y.2.1),(5,.e (.i .i64) y.2.2.1)],[(0,.box 27 [.e (.i .i64) y.2.2.2.1,.e (.i .i64) y.2.2.2.2])],100⟩)
def w11v0_0 (_:Exit) (σ:Sg):(List Bool)×Bool×Int×Int×Int:=(lvT (.sl .bo) 3 0 σ,lvT .bo 4 0 σ,lvT (.i .i64) 5 0 σ,lvH (.i .i64) 0 0 σ,lvH (.i .i64) 0 1 σ)
def w11X0_1 (y:(List ((List Int)×(Int×Int)))×Bool×Int×(List ((List Int)×(Int×Int)))×Int×Int×Bool×Int×((List Int)×(Int×Int))×(List Int)×Int×Int×Int×Int×Int×Int×Int×(List ((List Int)×(Int×Int)))×Int×Bool×Int×Int×(List Int)×Int×Int):Exit×Sg:=((.exit 2),⟨[(0,.e (.sl (.pr (.sl (.i .i64)) (.pr (.i .i64) (.i .i64)))) y.1),(2,.ref 0 0),(3,.nilS),(4,.e .bo y.2.1),(5,.e (.i .i64) y.2.2.1),(21,.e (.sl (.pr (.sl (.i .i64)) (.pr (.i .i64) (.i .i64)))) y.2.2.2.1),(22,.e (.i .i64) y.2.2.2.2.1),(23,.e (.i .i64) y.2.2.2.2.2.1),(24,.e .bo y.2.2.2.2.2.2.1),(25,.e (.i .i64) y.2.2.2.2.2.2.2.1),(26,.pt (.pr (.sl (.i .i64)) (.pr (.i .i64) (.i .i64))) y.2.2.2.2.2.2.2.2.1 0),(27,.agg [.e (.sl (.i .i64)) y.2.2.2.2.2.2.2.2.2.1,.e (.i .i64) y.2.2.2.2.2.2.2.2.2.2.1,.e (.i .i64) y.2.2.2.2.2.2.2.2.2.2.2.1]),(8,.ref 1 0),(7,.e (.i .i64) y.2.2.2.2.2.2.2.2.2.2.2.2.1),(28,.e (.i .i64) y.2.2.2.2.2.2.2.2.2.2.2.2.2.1),(29,.e (.i .i64) y.2.2.2.2.2.2.2.2.2.2.2.2.2.2.1),(9,.e (.i .i64) y.2.2.2.2.2.2.2.2.2.2.2.2.2.2.2.1),(30,.e (.i .i64) y.2.2.2.2.2.2.2.2.2.2.2.2.2.2.2.2.1),(31,.e (.sl (.pr (.sl (.i .i64)) (.pr (.i .i64) (.i .i64)))) y.2.2.2.2.2.2.2.2.2.2.2.2.2.2.2.2.2.1),(32,.e (.i .i64) y.2.2.2.2.2.2.2.2.2.2.2.2.2.2.2.2.2.2.1),(33,.e .bo y.2.2.2.2.2.2.2.2.2.2.2.2.2.2.2.2.2.2.2.1)],[(0,.box 27 [.e (.i .i64) y.2.2.2.2.2.2.2.2.2.2.2.2.2.2.2.2.2.2.2.2.1,.e (.i .i64) y.2.2.2.2.2.2.2.2.2.2.2.2.2.2.2.2.2.2.2.2.2.1]),(1,.box 51 [.e (.sl (.i .i64)) y.2.2.2.2.2.2.2.2.2.2.2.2.2.2.2.2.2.2.2.2.2.2.1,.e (.i .i64) y.2.2.2.2.2.2.2.2.2.2.2.2.2.2.2.2.2.2.2.2.2.2.2.1,.e (.i .i64) y.2.2.2.2.2.2.2.2.2.2.2.2.2.2.2.2.2.2.2.2.2.2.2.2])],100⟩)
def w11v0_1 (_:Exit) (σ:Sg):(List ((List Int)×(Int×Int)))×Bool×Int×(List ((List Int)×(Int×Int)))×Int×Int×Bool×Int×((List Int)×(Int×Int))×(List Int)×Int×Int×Int×Int×Int×Int×Int×(List ((List Int)×(Int×Int)))×Int×Bool×Int×Int×(List Int)×Int×Int:=(lvT (.sl (.pr (.sl (.i .i64)) (.pr (.i .i64) (.i .i64)))) 0 0 σ,lvT .bo 4 0 σ,lvT (.i .i64) 5 0 σ,lvT (.sl (.pr (.sl (.i .i64)) (.pr (.i .i64) (.i .i64)))) 21 0 σ,lvT (.i .i64) 22 0 σ,lvT (.i .i64) 23 0 σ,lvT .bo 24 0 σ,lvT (.i .i64) 25 0 σ,lvT (.pr (.sl (.i .i64)) (.pr (.i .i64) (.i .i64))) 26 0 σ,lvT (.sl (.i .i64)) 27 0 σ,lvT (.i .i64) 27 1 σ,lvT (.i .i64) 27 2 σ,lvT (.i .i64) 7 0 σ,lvT (.i .i64) 28 0 σ,lvT (.i .i64) 29 0 σ,lvT (.i .i64) 9 0 σ,lvT (.i .i64) 30 0 σ,lvT (.sl (.pr (.sl (.i .i64)) (.pr (.i .i64) (.i .i64)))) 31 0 σ,lvT (.i .i64) 32 0 σ,lvT .bo 33 0 σ,lvH (.i .i64) 0 0 σ,lvH (.i .i64) 0 1 σ,lvH (.sl (.i .i64)) 1 0 σ,lvH (.i .i64) 1 1 σ,lvH (.i .i64) 1 2 σ)
def w11w0:List (Exit×Nm):=[(.ret,⟨[2,3,4,5],[],[]⟩),((.exit 2),⟨[0,2,3,4,5,21,22,23,24,25,26,27,8,7,28,29,9,30,31,32,33],[],[]⟩)]
def w11l0 [Alg] (N:Nat):Nat->((List ((List Int)×(Int×Int)))×Bool×Int×(List ((List Int)×(Int×Int)))×Int×Int×Bool×Int×((List Int)×(Int×Int))×(List Int)×Int×Int×Int×Int×Int×Int×Int×Int×(List Int)×Int×Int)->(((List Bool)×Bool×Int×Int×Int)->O)->(((List ((List Int)×(Int×Int)))×Bool×Int×(List ((List Int)×(Int×Int)))×Int×Int×Bool×Int×((List Int)×(Int×Int))×(List Int)×Int×Int×Int×Int×Int×Int×Int×(List ((List Int)×(Int×Int)))×Int×Bool×Int×Int×(List Int)×Int×Int)->O)->((Unit)->O)->O
 | 0,_,_,_,_=>none
 | n+1,x,k0,k1,k2=>w11F0 N (fun v0=>w11l0 N n (x.1,x.2.1,x.2.2.1,x.2.2.2.1,x.2.2.2.2.1,x.2.2.2.2.2.1,x.2.2.2.2.2.2.1,x.2.2.2.2.2.2.2.1,x.2.2.2.2.2.2.2.2.1,x.2.2.2.2.2.2.2.2.2.1,x.2.2.2.2.2.2.2.2.2.2.1,x.2.2.2.2.2.2.2.2.2.2.2.1,x.2.2.2.2.2.2.2.2.2.2.2.2.1,x.2.2.2.2.2.2.2.2.2.2.2.2.2.1,x.2.2.2.2.2.2.2.2.2.2.2.2.2.2.1,v0,x.2.2.2.2.2.2.2.2.2.2.2.2.2.2.2.2.1,x.2.2.2.2.2.2.2.2.2.2.2.2.2.2.2.2.2.1,x.2.2.2.2.2.2.2.2.2.2.2.2.2.2.2.2.2.2.1,x.2.2.2.2.2.2.2.2.2.2.2.2.2.2.2.2.2.2.2.1,x.2.2.2.2.2.2.2.2.2.2.2.2.2.2.2.2.2.2.2.2) k0 k1 k2) (fun y0 y1 y2 y3 y4=>k0 (y0,y1,y2,y3,y4)) (fun y0 y1 y2 y3 y4 y5 y6 y7 y8 y9 y10 y11 y12 y13 y14 y15 y16 y17 y18 y19 y20 y21 y22 y23 y24=>k1 (y0,y1,y2,y3,y4,y5,y6,y7,y8,y9,y10,y11,y12,y13,y14,y15,y16,y17,y18,y19,y20,y21,y22,y23,y24)) x.1 x.2.1 x.2.2.1 x.2.2.2.1 x.2.2.2.2.1 x.2.2.2.2.2.1 x.2.2.2.2.2.2.1 x.2.2.2.2.2.2.2.1 x.2.2.2.2.2.2.2.2.1 x.2.2.2.2.2.2.2.2.2.1 x.2.2.2.2.2.2.2.2.2.2.1 x.2.2.2.2.2.2.2.2.2.2.2.1 x.2.2.2.2.2.2.2.2.2.2.2.2.1 x.2.2.2.2.2.2.2.2.2.2.2.2.2.1 x.2.2.2.2.2.2.2.2.2.2.2.2.2.2.1 x.2.2.2.2.2.2.2.2.2.2.2.2.2.2.2.2.1 x.2.2.2.2.2.2.2.2.2.2.2.2.2.2.2.2.2.1 x.2.2.2.2.2.2.2.2.2.2.2.2.2.2.2.2.2.2.1 x.2.2.2.2.2.2.2.2.2.2.2.2.2.2.2.2.2.2.2.1 x.2.2.2.2.2.2.2.2.2.2.2.2.2.2.2.2.2.2.2.2 x.2.2.2.2.2.2.2.2.2.2.2.2.2.2.2.1
def w11n0 [Alg] N a0 a1 a2 a3 a4 a5 a6 a7 a8 a9 a10 a11 a12 a13 a14 a15 a16 a17 a18 a19 a20 (k0:(List Bool)->Bool->Int->Int->Int->O) (k1:(List ((List Int)×(Int×Int)))->Bool->Int->(List ((List Int)×(Int×Int)))->Int->Int->Bool->Int->((List Int)×(Int×Int))->(List Int)->Int->Int->Int->Int->Int->Int->Int->(List ((List Int)×(Int×Int)))->Int->Bool->Int->Int->(List Int)->Int->Int->O):=w11l0 N N (a0,a1,a2,a3,a4,a5,a6,a7,a8,a9,a10,a11,a12,a13,a14,a15,a16,a17,a18,a19,a20) (fun y=>k0 y.1 y.2.1 y.2.2.1 y.2.2.2.1 y.2.2.2.2) (fun y=>k1 y.1 y.2.1 y.2.2.1 y.2.2.2.1 y.2.2.2.2.1 y.2.2.2.2.2.1 y.2.2.2.2.2.2.1 y.2.2.2.2.2.2.2.1 y.2.2.2.2.2.2.2.2.1 y.2.2.2.2.2.2.2.2.2.1 y.2.2.2.2.2.2.2.2.2.2.1 y.2.2.2.2.2.2.2.2.2.2.2.1 y.2.2.2.2.2.2.2.2.2.2.2.2.1 y.2.2.2.2.2.2.2.2.2.2.2.2.2.1 y.2.2.2.2.2.2.2.2.2.2.2.2.2.2.1 y.2.2.2.2.2.2.2.2.2.2.2.2.2.2.2.1 y.2.2.2.2.2.2.2.2.2.2.2.2.2.2.2.2.1 y.2.2.2.2.2.2.2.2.2.2.2.2.2.2.2.2.2.1 y.2.2.2.2.2.2.2.2.2.2.2.2.2.2.2.2.2.2.1 y.2.2.2.2.2.2.2.2.2.2.2.2.2.2.2.2.2.2.2.1 y.2.2.2.2.2.2.2.2.2.2.2.2.2.2.2.2.2.2.2.2.1 y.2.2.2.2.2.2.2.2.2.2.2.2.2.2.2.2.2.2.2.2.2.1 y.2.2.2.2.2.2.2.2.2.2.2.2.2.2.2.2.2.2.2.2.2.2.1 y.2.2.2.2.2.2.2.2.2.2.2.2.2.2.2.2.2.2.2.2.2.2.2.1 y.2.2.2.2.2.2.2.2.2.2.2.2.2.2.2.2.2.2.2.2.2.2.2.2) (fun _=>none)
def w11s0 [Alg] N a0 a1 a2 a3 a4 a5 a6 a7 a8 a9 a10 a11 a12 a13 a14 a15 a16 a17 a18 a19 a20 (k0:(List Bool)->Bool->Int->Int->Int->O) (k1:(List ((List Int)×(Int×Int)))->Bool->Int->(List ((List Int)×(Int×Int)))->Int->Int->Bool->Int->((List Int)×(Int×Int))->(List Int)->Int->Int->Int->Int->Int->Int->Int->(List ((List Int)×(Int×Int)))->Int->Bool->Int->Int->(List Int)->Int->Int->O):=subL w11I0 w11u0 (w11l0 N N) (w11I0 (a0,a1,a2,a3,a4,a5,a6,a7,a8,a9,a10,a11,a12,a13,a14,a15,a16,a17,a18,a19,a20)) (fun y=>k0 y.1 y.2.1 y.2.2.1 y.2.2.2.1 y.2.2.2.2) (fun y=>k1 y.1 y.2.1 y.2.2.1 y.2.2.2.1 y.2.2.2.2.1 y.2.2.2.2.2.1 y.2.2.2.2.2.2.1 y.2.2.2.2.2.2.2.1 y.2.2.2.2.2.2.2.2.1 y.2.2.2.2.2.2.2.2.2.1 y.2.2.2.2.2.2.2.2.2.2.1 y.2.2.2.2.2.2.2.2.2.2.2.1 y.2.2.2.2.2.2.2.2.2.2.2.2.1 y.2.2.2.2.2.2.2.2.2.2.2.2.2.1 y.2.2.2.2.2.2.2.2.2.2.2.2.2.2.1 y.2.2.2.2.2.2.2.2.2.2.2.2.2.2.2.1 y.2.2.2.2.2.2.2.2.2.2.2.2.2.2.2.2.1 y.2.2.2.2.2.2.2.2.2.2.2.2.2.2.2.2.2.1 y.2.2.2.2.2.2.2.2.2.2.2.2.2.2.2.2.2.2.1 y.2.2.2.2.2.2.2.2.2.2.2.2.2.2.2.2.2.2.2.1 y.2.2.2.2.2.2.2.2.2.2.2.2.2.2.2.2.2.2.2.2.1 y.2.2.2.2.2.2.2.2.2.2.2.2.2.2.2.2.2.2.2.2.2.1 y.2.2.2.2.2.2.2.2.2.2.2.2.2.2.2.2.2.2.2.2.2.2.1 y.2.2.2.2.2.2.2.2.2.2.2.2.2.2.2.2.2.2.2.2.2.2.2.1 y.2.2.2.2.2.2.2.2.2.2.2.2.2.2.2.2.2.2.2.2.2.2.2.2) (fun _=>none)
theorem w11e0 [Alg] N:w11s0 N=w11n0 N:=funext fun _=>funext fun _=>funext fun _=>funext fun _=>funext fun _=>funext fun _=>funext fun _=>funext fun _=>funext fun _=>funext fun _=>funext fun _=>funext fun _=>funext fun _=>funext fun _=>funext fun _=>funext fun _=>funext fun _=>funext fun _=>funext fun _=>funext fun _=>funext fun _=>funext fun _=>funext fun _=>subL_I w11ui0 _ _ _ _
theorem w11q0 [Alg] (N:Nat) (self:Sg->O) (K:Exit->Sg->O) (x:(List ((List Int)×(Int×Int)))×Bool×Int×(List ((List Int)×(Int×Int)))×Int×Int×Bool×Int×((List Int)×(Int×Int))×(List Int)×Int×Int×Int×Int×Int×Int×Int×Int×(List Int)×Int×Int):w11F0 N (fun v0=>self (w11I0 (x.1,x.2.1,x.2.2.1,x.2.2.2.1,x.2.2.2.2.1,x.2.2.2.2.2.1,x.2.2.2.2.2.2.1,x.2.2.2.2.2.2.2.1,x.2.2.2.2.2.2.2.2.1,x.2.2.2.2.2.2.2.2.2.1,x.2.2.2.2.2.2.2.2.2.2.1,x.2.2.2.2.2.2.2.2.2.2.2.1,x.2.2.2.2.2.2.2.2.2.2.2.2.1,x.2.2.2.2.2.2.2.2.2.2.2.2.2.1,x.2.2.2.2.2.2.2.2.2.2.2.2.2.2.1,v0,x.2.2.2.2.2.2.2.2.2.2.2.2.2.2.2.2.1,x.2.2.2.2.2.2.2.2.2.2.2.2.2.2.2.2.2.1,x.2.2.2.2.2.2.2.2.2.2.2.2.2.2.2.2.2.2.1,x.2.2.2.2.2.2.2.2.2.2.2.2.2.2.2.2.2.2.2.1,x.2.2.2.2.2.2.2.2.2.2.2.2.2.2.2.2.2.2.2.2))) (fun y0 y1 y2 y3 y4=>K (w11X0_0 (y0,y1,y2,y3,y4)).1 (w11X0_0 (y0,y1,y2,y3,y4)).2) (fun y0 y1 y2 y3 y4 y5 y6 y7 y8 y9 y10 y11 y12 y13 y14 y15 y16 y17 y18 y19 y20 y21 y22 y23 y24=>K (w11X0_1 (y0,y1,y2,y3,y4,y5,y6,y7,y8,y9,y10,y11,y12,y13,y14,y15,y16,y17,y18,y19,y20,y21,y22,y23,y24)).1 (w11X0_1 (y0,y1,y2,y3,y4,y5,y6,y7,y8,y9,y10,y11,y12,y13,y14,y15,y16,y17,y18,y19,y20,y21,y22,y23,y24)).2) x.1 x.2.1 x.2.2.1 x.2.2.2.1 x.2.2.2.2.1 x.2.2.2.2.2.1 x.2.2.2.2.2.2.1 x.2.2.2.2.2.2.2.1 x.2.2.2.2.2.2.2.2.1 x.2.2.2.2.2.2.2.2.2.1 x.2.2.2.2.2.2.2.2.2.2.1 x.2.2.2.2.2.2.2.2.2.2.2.1 x.2.2.2.2.2.2.2.2.2.2.2.2.1 x.2.2.2.2.2.2.2.2.2.2.2.2.2.1 x.2.2.2.2.2.2.2.2.2.2.2.2.2.2.1 x.2.2.2.2.2.2.2.2.2.2.2.2.2.2.2.2.1 x.2.2.2.2.2.2.2.2.2.2.2.2.2.2.2.2.2.1 x.2.2.2.2.2.2.2.2.2.2.2.2.2.2.2.2.2.2.1 x.2.2.2.2.2.2.2.2.2.2.2.2.2.2.2.2.2.2.2.1 x.2.2.2.2.2.2.2.2.2.2.2.2.2.2.2.2.2.2.2.2 x.2.2.2.2.2.2.2.2.2.2.2.2.2.2.2.1=exec (w11c N) Tryd.f11.ntmps .d w11b0 (w11I0 x) (roundX w11m0 w11w0 self K):=by kernel_rfl
theorem w11S0 N (hc:CxOk (w11c N)):SubOk (w11c N) Tryd.f11.ntmps (.loop w11b0) w11X0_0 w11X0_1 (noX 2) (subL w11I0 w11u0 (w11l0 N N)):=
 sub_loop hc (hk_d w11b0) (oK2 w11v0_0 w11v0_1 .ret (.exit 2) (fun _=>by kernel_rfl) (fun _=>by kernel_rfl) (fun _=>rfl) (fun _=>rfl) (by kernel_rfl)) (n:=N) (fun x K=>loop_ind (w11l0 N) (fun _ _ _ _=>rfl) (fun n K ih x=>by
  refine Eq.trans ?_ (w11q0 N _ K x);simp only [← ih];rfl) N x K)
def w11F1 [Alg] (_:Nat) (in0:(List ((List Int)×(Int×Int)))->Bool->Int->(List ((List Int)×(Int×Int)))->Int->Int->Bool->Int->((List Int)×(Int×Int))->(List Int)->Int->Int->Int->Int->Int->Int->Int->Int->(List Int)->Int->Int->((List Bool)->Bool->Int->Int->Int->O)->((List ((List Int)×(Int×Int)))->Bool->Int->(List ((List Int)×(Int×Int)))->Int->Int->Bool->Int->((List Int)×(Int×Int))->(List Int)->Int->Int->Int->Int->Int->Int->Int->(List ((List Int)×(Int×Int)))->Int->Bool->Int->Int->(List Int)->Int->Int->O)->O) (self:(List ((List Int)×(Int×Int)))->Bool->Int->(List ((List Int)×(Int×Int)))->Int->Int->Int->Int->O) (k0:(List Bool)->Bool->Int->Int->Int->O) (k1:Bool->Int->Int->Int->O) (x0_0:(List ((List Int)×(Int×Int)))) (x0_1:Bool) (x0_2:Int) (x0_3:(List ((List Int)×(Int×Int)))) (x0_4 x0_5:Int) (x0_6 x0_7:Int):O:=
 br (decide (x0_5 < x0_4))
  (gx x0_3 x0_5 fun y71=>
  in0 x0_0 x0_1 x0_2 x0_3 x0_4 x0_5 (decide (x0_5 < x0_4)) x0_5 y71 y71.1 y71.2.1 y71.2.2 x0_5 x0_5 (IntKind.i64.wrap (x0_5+1)) (IntKind.i64.wrap (x0_5+1)) x0_6 x0_7 y71.1 y71.2.1 y71.2.2
   (fun z76 z77 z78 z79 z80=>
    k0 z76 z77 z78 z79 z80)
   (fun z81 z82 z83 z84 z85 z86 _ _ _ _ _ _ _ _ _ _ _ _ _ _ z101 z102 _ _ _=>
    self z81 z82 z83 z84 z85 (IntKind.i64.wrap (z86+1)) z101 z102))
  (k1 x0_1 x0_2 x0_6 x0_7)
def w11b1:Code:=atC [1,1,0,1,0,0] w11b
def w11m1:Nm:=⟨[0,2,3,4,5,21,22,23],[],[]⟩
def w11I1 (x:(List ((List Int)×(Int×Int)))×Bool×Int×(List ((List Int)×(Int×Int)))×Int×Int×Int×Int):Sg:=⟨[(0,.e (.sl (.pr (.sl (.i .i64)) (.pr (.i .i64) (.i .i64)))) x.1),(2,.ref 0 0),(3,.nilS),(4,.e .bo x.2.1),(5,.e (.i .i64) x.2.2.1),(21,.e (.sl (.pr (.sl (.i .i64)) (.pr (.i .i64) (.i .i64)))) x.2.2.2.1),(22,.e (.i .i64) x.2.2.2.2.1),(23,.e (.i .i64) x.2.2.2.2.2.1)],[(0,.box 27 [.e (.i .i64) x.2.2.2.2.2.2.1,.e (.i .i64) x.2.2.2.2.2.2.2])],100⟩
def w11u1 (σ:Sg):(List ((List Int)×(Int×Int)))×Bool×Int×(List ((List Int)×(Int×Int)))×Int×Int×Int×Int:=(lvT (.sl (.pr (.sl (.i .i64)) (.pr (.i .i64) (.i .i64)))) 0 0 σ,lvT .bo 4 0 σ,lvT (.i .i64) 5 0 σ,lvT (.sl (.pr (.sl (.i .i64)) (.pr (.i .i64) (.i .i64)))) 21 0 σ,lvT (.i .i64) 22 0 σ,lvT (.i .i64) 23 0 σ,lvH (.i .i64) 0 0 σ,lvH (.i .i64) 0 1 σ)
theorem w11ui1:∀ x,w11u1 (w11I1 x)=x:=fun _=>by kernel_rfl
def w11X1_0 (y:(List Bool)×Bool×Int×Int×Int):Exit×Sg:=(.ret,⟨[(2,.ref 0 0),(3,.e (.sl .bo) y.1),(4,.e .bo y.2.1),(5,.e (.i .i64) y.2.2.1)],[(0,.box 27 [.e (.i .i64) y.2.2.2.1,.e (.i .i64) y.2.2.2.2])],100⟩)
def w11v1_0 (_:Exit) (σ:Sg):(List Bool)×Bool×Int×Int×Int:=(lvT (.sl .bo) 3 0 σ,lvT .bo 4 0 σ,lvT (.i .i64) 5 0 σ,lvH (.i .i64) 0 0 σ,lvH (.i .i64) 0 1 σ)
def w11X1_1 (y:Bool×Int×Int×Int):Exit×Sg:=((.exit 0),⟨[(2,.ref 0 0),(3,.nilS),(4,.e .bo y.1),(5,.e (.i .i64) y.2.1)],[(0,.box 27 [.e (.i .i64) y.2.2.1,.e (.i .i64) y.2.2.2])],100⟩)
def w11v1_1 (_:Exit) (σ:Sg):Bool×Int×Int×Int:=(lvT .bo 4 0 σ,lvT (.i .i64) 5 0 σ,lvH (.i .i64) 0 0 σ,lvH (.i .i64) 0 1 σ)
def w11w1:List (Exit×Nm):=[(.ret,⟨[2,3,4,5],[],[]⟩),((.exit 0),⟨[2,3,4,5],[],[]⟩)]
def w11l1 [Alg] (N:Nat):Nat->((List ((List Int)×(Int×Int)))×Bool×Int×(List ((List Int)×(Int×Int)))×Int×Int×Int×Int)->(((List Bool)×Bool×Int×Int×Int)->O)->((Bool×Int×Int×Int)->O)->((Unit)->O)->O
 | 0,_,_,_,_=>none
 | n+1,x,k0,k1,k2=>w11F1 N (w11n0 N) (fun v0 v1 v2 v3 v4 v5 v6 v7=>w11l1 N n (v0,v1,v2,v3,v4,v5,v6,v7) k0 k1 k2) (fun y0 y1 y2 y3 y4=>k0 (y0,y1,y2,y3,y4)) (fun y0 y1 y2 y3=>k1 (y0,y1,y2,y3)) x.1 x.2.1 x.2.2.1 x.2.2.2.1 x.2.2.2.2.1 x.2.2.2.2.2.1 x.2.2.2.2.2.2.1 x.2.2.2.2.2.2.2
def w11n1 [Alg] N a0 a1 a2 a3 a4 a5 a6 a7 (k0:(List Bool)->Bool->Int->Int->Int->O) (k1:Bool->Int->Int->Int->O):=w11l1 N N (a0,a1,a2,a3,a4,a5,a6,a7) (fun y=>k0 y.1 y.2.1 y.2.2.1 y.2.2.2.1 y.2.2.2.2) (fun y=>k1 y.1 y.2.1 y.2.2.1 y.2.2.2) (fun _=>none)
def w11s1 [Alg] N a0 a1 a2 a3 a4 a5 a6 a7 (k0:(List Bool)->Bool->Int->Int->Int->O) (k1:Bool->Int->Int->Int->O):=subL w11I1 w11u1 (w11l1 N N) (w11I1 (a0,a1,a2,a3,a4,a5,a6,a7)) (fun y=>k0 y.1 y.2.1 y.2.2.1 y.2.2.2.1 y.2.2.2.2) (fun y=>k1 y.1 y.2.1 y.2.2.1 y.2.2.2) (fun _=>none)
theorem w11e1 [Alg] N:w11s1 N=w11n1 N:=funext fun _=>funext fun _=>funext fun _=>funext fun _=>funext fun _=>funext fun _=>funext fun _=>funext fun _=>funext fun _=>funext fun _=>subL_I w11ui1 _ _ _ _
def w11h1 [Alg] (N:Nat):Hint:=(.seq .d (.seq .d (.seq (.block (.seq .d (.seq .d (.block (.sub w11m0 _ _ _ w11X0_0 w11X0_1 (noX 2) (subL w11I0 w11u0 (w11l0 N N))))))) .d)))
theorem w11hk1 N (hc:CxOk (w11c N)):HintOk (w11c N) Tryd.f11.ntmps (w11h1 N) w11b1:=hk_of _ _ (And.intro trivial (And.intro trivial (And.intro (And.intro trivial (And.intro trivial (w11S0 N hc))) trivial)))
theorem w11q1 [Alg] (N:Nat) (self:Sg->O) (K:Exit->Sg->O) (x:(List ((List Int)×(Int×Int)))×Bool×Int×(List ((List Int)×(Int×Int)))×Int×Int×Int×Int):w11F1 N (w11s0 N) (fun v0 v1 v2 v3 v4 v5 v6 v7=>self (w11I1 (v0,v1,v2,v3,v4,v5,v6,v7))) (fun y0 y1 y2 y3 y4=>K (w11X1_0 (y0,y1,y2,y3,y4)).1 (w11X1_0 (y0,y1,y2,y3,y4)).2) (fun y0 y1 y2 y3=>K (w11X1_1 (y0,y1,y2,y3)).1 (w11X1_1 (y0,y1,y2,y3)).2) x.1 x.2.1 x.2.2.1 x.2.2.2.1 x.2.2.2.2.1 x.2.2.2.2.2.1 x.2.2.2.2.2.2.1 x.2.2.2.2.2.2.2=exec (w11c N) Tryd.f11.ntmps (w11h1 N) w11b1 (w11I1 x) (roundX w11m1 w11w1 self K):=by kernel_rfl
theorem w11S1 N (hc:CxOk (w11c N)):SubOk (w11c N) Tryd.f11.ntmps (.loop w11b1) w11X1_0 w11X1_1 (noX 2) (subL w11I1 w11u1 (w11l1 N N)):=
 sub_loop hc (w11hk1 N hc) (oK2 w11v1_0 w11v1_1 .ret (.exit 0) (fun _=>by kernel_rfl) (fun _=>by kernel_rfl) (fun _=>rfl) (fun _=>rfl) (by kernel_rfl)) (n:=N) (fun x K=>loop_ind (w11l1 N) (fun _ _ _ _=>rfl) (fun n K ih x=>by
  refine Eq.trans ?_ (w11q1 N _ K x);simp only [w11e0 N,← ih];rfl) N x K)
def w11G [Alg] (N:Nat) (_in0:(List ((List Int)×(Int×Int)))->Bool->Int->(List ((List Int)×(Int×Int)))->Int->Int->Bool->Int->((List Int)×(Int×Int))->(List Int)->Int->Int->Int->Int->Int->Int->Int->Int->(List Int)->Int->Int->((List Bool)->Bool->Int->Int->Int->O)->((List ((List Int)×(Int×Int)))->Bool->Int->(List ((List Int)×(Int×Int)))->Int->Int->Bool->Int->((List Int)×(Int×Int))->(List Int)->Int->Int->Int->Int->Int->Int->Int->(List ((List Int)×(Int×Int)))->Int->Bool->Int->Int->(List Int)->Int->Int->O)->O) (in1:(List ((List Int)×(Int×Int)))->Bool->Int->(List ((List Int)×(Int×Int)))->Int->Int->Int->Int->((List Bool)->Bool->Int->Int->Int->O)->(Bool->Int->Int->Int->O)->O) (l0:(List ((List Int)×(Int×Int)))):O:=
 ck (w29p N l0) <|
 br (decide (w29y0 N l0≠(0:Int)))
  (some (w11r0 0 0 [] false (w29y0 N l0)))
  (in1 l0 false 0 l0 ((↑l0.length:Int)) 0 0 0
   (fun z106 z107 z108 z109 z110=>
    some (w11r0 z109 z110 z106 z107 z108))
   (fun _ _ _ _=>
    some (w11r0 0 0 [] false 0)))
def w11 [Alg] N l0:=w11G N (w11n0 N) (w11n1 N) l0
def w11h [Alg] (N:Nat):Hint:=(.seq .d (.seq .d (.seq (.seq .d (.block (.sub w11m1 _ _ _ w11X1_0 w11X1_1 (noX 2) (subL w11I1 w11u1 (w11l1 N N))))) .d)))
theorem w11hk N (hc:CxOk (w11c N)):HintOk (w11c N) Tryd.f11.ntmps (w11h N) w11b:=hk_of _ _ (And.intro trivial (And.intro trivial (And.intro (And.intro trivial (w11S1 N hc)) trivial)))
theorem w11q [Alg] N l0:w11G N (w11s0 N) (w11s1 N) l0=exec (w11c N) Tryd.f11.ntmps (w11h N) w11b ⟨argT 0 [.e (.sl (.pr (.sl (.i .i64)) (.pr (.i .i64) (.i .i64)))) l0],[],100⟩ (finX (w11c N) Tryd.f11 false):=by kernel_rfl
def w11un (r:Res):Option (Int×Int×(List Bool)×Bool×Int):=match r with
 | (.tup [.agg [x0,x1],x2,x3,x4],[])=>(match ue (.i .i64) x0,ue (.i .i64) x1,ue (.sl .bo) x2,ue .bo x3,ue (.i .i64) x4 with | some a0,some a1,some a2,some a3,some a4=>some (a0,a1,a2,a3,a4) | _,_,_,_,_=>none)
 | _=>none
theorem w11uo {r d} (h:w11un r=some d):r=w11r0 d.1 d.2.1 d.2.2.1 d.2.2.2.1 d.2.2.2.2:=by
 unfold w11un at h;split at h
 ·split at h
  ·rename_i h0 h1 h2 h3 h4;cases h;rw [ue_some h0,ue_some h1,ue_some h2,ue_some h3,ue_some h4];rfl
  ·cases h
 ·cases h
def w11z N l0:=(w11 N l0).bind w11un
theorem w11fin {N} (hc:CxOk (w11c N)) {l0 d} (hd:w11z N l0=some d):DoK Tryd.prog 11 [.e (.sl (.pr (.sl (.i .i64)) (.pr (.i .i64) (.i .i64)))) l0] [] (w11r0 d.1 d.2.1 d.2.2.1 d.2.2.2.1 d.2.2.2.2):=
 finJ hc (by kernel_rfl) (by kernel_rfl) (w11hk N hc) (by kernel_rfl) w11uo (fun hr=>(w11q N l0).symm.trans (by rw [w11e0 N,w11e1 N];exact hr)) hd
def w11p N l0:=(w11z N l0).isSome
def w11y0 N l0:=((w11z N l0).getD (0,0,[],false,0)).1
def w11y1 N l0:=((w11z N l0).getD (0,0,[],false,0)).2.1
def w11y2 N l0:=((w11z N l0).getD (0,0,[],false,0)).2.2.1
def w11y3 N l0:=((w11z N l0).getD (0,0,[],false,0)).2.2.2.1
def w11y4 N l0:=((w11z N l0).getD (0,0,[],false,0)).2.2.2.2
def w11e (N:Nat):Ent':=E1 (.sl (.pr (.sl (.i .i64)) (.pr (.i .i64) (.i .i64)))) (fun x0=>(w11p N x0,w11r0 (w11y0 N x0) (w11y1 N x0) (w11y2 N x0) (w11y3 N x0) (w11y4 N x0)))
theorem w11ok N:EOk Tryd.prog 11 (w11e N):=EOk.e1 (fun x0 h=>okG (z:=w11z N x0) h (w11fin (w11cx N)) rfl)
def w16r0 (a0 a1:Int) (a2 a3:Int):Res:=(.tup [.agg [.e (.i .i64) a0,.e (.i .i64) a1,.e (.i .i64) a2],.e (.i .i64) a3],[])
def w16c (N:Nat):Cx:=⟨Tryd.prog,99999,[(29,w29e N),(32,w32e N)],[]⟩
def w16b:Code:=Tryd.f16.body.getD .skip
theorem w16cx N:CxOk (w16c N):=ctx_ok (by kernel_rfl) (.cons (by kernel_rfl) (w29ok N) (.cons (by kernel_rfl) (w32ok N) .nil)) .nil
def w16F0 [Alg] (N:Nat) (self:Int->Int->Int->Int->Int->Int->Int->O) (k0:Int->Int->Int->Int->Int->Int->Int->Int->Int->Int->O) (x0_0:(List Bool)) (x0_1:Int) (x0_2:(List ((List Int)×(Int×Int)))) (x0_3 x0_5:Int) (x0_6 x0_7:Int) (x0_4 x0_8:Int) (x0_9 x0_10:Int) (x0_11 x0_12 x0_13:Int):O:=
 br (decide (x0_4 < x0_3))
  (gx x0_2 x0_4 fun y7=>
  ck (w32p N y7.1 y7.2.1 y7.2.2 x0_0) <|
  br (!w32y0 N y7.1 y7.2.1 y7.2.2 x0_0)
   (self (IntKind.i64.wrap (x0_4+1)) x0_8 x0_9 x0_10 x0_11 x0_12 x0_13)
   (ck (decide ((0:Int)<=y7.2.1/\y7.2.1 < (3:Int))) <|
   gx [x0_8,x0_9,x0_10] ((↑((0:Nat)+y7.2.1.toNat * (1:Nat)):Int)) fun y8=>
   ck (decide ((0:Int)<=y7.2.1/\y7.2.1 < (3:Int))) <|
   ck (decide ((0:Nat)+y7.2.1.toNat * (1:Nat) < [x0_8,x0_9,x0_10].length)) <|
   br (decide (y7.2.2 < 0))
    (ck (decide ((0:Int)<=y7.2.1/\y7.2.1 < (3:Int))) <|
    gx [x0_11,x0_12,x0_13] ((↑((0:Nat)+y7.2.1.toNat * (1:Nat)):Int)) fun y9=>
    ck (decide ((0:Int)<=y7.2.1/\y7.2.1 < (3:Int))) <|
    ck (decide ((0:Nat)+y7.2.1.toNat * (1:Nat) < [x0_11,x0_12,x0_13].length)) <|
    self (IntKind.i64.wrap (x0_4+1)) (sel (((0:Nat)+y7.2.1.toNat * (1:Nat)).beq (0:Nat)) (max y8 y7.2.2) x0_8) (sel (((0:Nat)+y7.2.1.toNat * (1:Nat)).beq (1:Nat)) (max y8 y7.2.2) x0_9) (sel (((0:Nat)+y7.2.1.toNat * (1:Nat)).beq (2:Nat)) (max y8 y7.2.2) x0_10) (sel (((0:Nat)+y7.2.1.toNat * (1:Nat)).beq (0:Nat)) (min y9 (IntKind.i64.wrap ((-1:Int) - y7.2.2))) x0_11) (sel (((0:Nat)+y7.2.1.toNat * (1:Nat)).beq (1:Nat)) (min y9 (IntKind.i64.wrap ((-1:Int) - y7.2.2))) x0_12) (sel (((0:Nat)+y7.2.1.toNat * (1:Nat)).beq (2:Nat)) (min y9 (IntKind.i64.wrap ((-1:Int) - y7.2.2))) x0_13))
    (self (IntKind.i64.wrap (x0_4+1)) (sel (((0:Nat)+y7.2.1.toNat * (1:Nat)).beq (0:Nat)) (max y8 y7.2.2) x0_8) (sel (((0:Nat)+y7.2.1.toNat * (1:Nat)).beq (1:Nat)) (max y8 y7.2.2) x0_9) (sel (((0:Nat)+y7.2.1.toNat * (1:Nat)).beq (2:Nat)) (max y8 y7.2.2) x0_10) x0_11 x0_12 x0_13)))
  (k0 x0_1 x0_5 x0_6 x0_7 x0_8 x0_9 x0_10 x0_11 x0_12 x0_13)
def w16b0:Code:=atC [1,1,1,1,1,0,1,0,0] w16b
def w16m0:Nm:=⟨[1,4,5,7,8,23,24,25],[],[]⟩
def w16I0 (x:(List Bool)×Int×(List ((List Int)×(Int×Int)))×Int×Int×Int×Int×Int×Int×Int×Int×Int×Int×Int):Sg:=⟨[(1,.e (.sl .bo) x.1),(4,.ref 0 0),(5,.e (.i .i64) x.2.1),(7,.ref 1 0),(8,.ref 2 0),(23,.e (.sl (.pr (.sl (.i .i64)) (.pr (.i .i64) (.i .i64)))) x.2.2.1),(24,.e (.i .i64) x.2.2.2.1),(25,.e (.i .i64) x.2.2.2.2.1)],[(0,.box 38 [.e (.i .i64) x.2.2.2.2.2.1,.e (.i .i64) x.2.2.2.2.2.2.1,.e (.i .i64) x.2.2.2.2.2.2.2.1]),(1,.box 38 [.e (.i .i64) x.2.2.2.2.2.2.2.2.1,.e (.i .i64) x.2.2.2.2.2.2.2.2.2.1,.e (.i .i64) x.2.2.2.2.2.2.2.2.2.2.1]),(2,.box 38 [.e (.i .i64) x.2.2.2.2.2.2.2.2.2.2.2.1,.e (.i .i64) x.2.2.2.2.2.2.2.2.2.2.2.2.1,.e (.i .i64) x.2.2.2.2.2.2.2.2.2.2.2.2.2])],100⟩
def w16u0 (σ:Sg):(List Bool)×Int×(List ((List Int)×(Int×Int)))×Int×Int×Int×Int×Int×Int×Int×Int×Int×Int×Int:=(lvT (.sl .bo) 1 0 σ,lvT (.i .i64) 5 0 σ,lvT (.sl (.pr (.sl (.i .i64)) (.pr (.i .i64) (.i .i64)))) 23 0 σ,lvT (.i .i64) 24 0 σ,lvT (.i .i64) 25 0 σ,lvH (.i .i64) 0 0 σ,lvH (.i .i64) 0 1 σ,lvH (.i .i64) 0 2 σ,lvH (.i .i64) 1 0 σ,lvH (.i .i64) 1 1 σ,lvH (.i .i64) 1 2 σ,lvH (.i .i64) 2 0 σ,lvH (.i .i64) 2 1 σ,lvH (.i .i64) 2 2 σ)
theorem w16ui0:∀ x,w16u0 (w16I0 x)=x:=fun _=>by kernel_rfl
def w16X0_0 (y:Int×Int×Int×Int×Int×Int×Int×Int×Int×Int):Exit×Sg:=((.exit 0),⟨[(4,.ref 0 0),(5,.e (.i .i64) y.1),(7,.ref 1 0),(8,.ref 2 0)],[(0,.box 38 [.e (.i .i64) y.2.1,.e (.i .i64) y.2.2.1,.e (.i .i64) y.2.2.2.1]),(1,.box 38 [.e (.i .i64) y.2.2.2.2.1,.e (.i .i64) y.2.2.2.2.2.1,.e (.i .i64) y.2.2.2.2.2.2.1]),(2,.box 38 [.e (.i .i64) y.2.2.2.2.2.2.2.1,.e (.i .i64) y.2.2.2.2.2.2.2.2.1,.e (.i .i64) y.2.2.2.2.2.2.2.2.2])],100⟩)
def w16v0_0 (_:Exit) (σ:Sg):Int×Int×Int×Int×Int×Int×Int×Int×Int×Int:=(lvT (.i .i64) 5 0 σ,lvH (.i .i64) 0 0 σ,lvH (.i .i64) 0 1 σ,lvH (.i .i64) 0 2 σ,lvH (.i .i64) 1 0 σ,lvH (.i .i64) 1 1 σ,lvH (.i .i64) 1 2 σ,lvH (.i .i64) 2 0 σ,lvH (.i .i64) 2 1 σ,lvH (.i .i64) 2 2 σ)
def w16w0:List (Exit×Nm):=[((.exit 0),⟨[4,5,7,8],[],[]⟩)]
def w16l0 [Alg] (N:Nat):Nat->((List Bool)×Int×(List ((List Int)×(Int×Int)))×Int×Int×Int×Int×Int×Int×Int×Int×Int×Int×Int)->((Int×Int×Int×Int×Int×Int×Int×Int×Int×Int)->O)->((Unit)->O)->((Unit)->O)->O
 | 0,_,_,_,_=>none
 | n+1,x,k0,k1,k2=>w16F0 N (fun v0 v1 v2 v3 v4 v5 v6=>w16l0 N n (x.1,x.2.1,x.2.2.1,x.2.2.2.1,v0,x.2.2.2.2.2.1,x.2.2.2.2.2.2.1,x.2.2.2.2.2.2.2.1,v1,v2,v3,v4,v5,v6) k0 k1 k2) (fun y0 y1 y2 y3 y4 y5 y6 y7 y8 y9=>k0 (y0,y1,y2,y3,y4,y5,y6,y7,y8,y9)) x.1 x.2.1 x.2.2.1 x.2.2.2.1 x.2.2.2.2.2.1 x.2.2.2.2.2.2.1 x.2.2.2.2.2.2.2.1 x.2.2.2.2.1 x.2.2.2.2.2.2.2.2.1 x.2.2.2.2.2.2.2.2.2.1 x.2.2.2.2.2.2.2.2.2.2.1 x.2.2.2.2.2.2.2.2.2.2.2.1 x.2.2.2.2.2.2.2.2.2.2.2.2.1 x.2.2.2.2.2.2.2.2.2.2.2.2.2
def w16n0 [Alg] N a0 a1 a2 a3 a4 a5 a6 a7 a8 a9 a10 a11 a12 a13 (k0:Int->Int->Int->Int->Int->Int->Int->Int->Int->Int->O):=w16l0 N N (a0,a1,a2,a3,a4,a5,a6,a7,a8,a9,a10,a11,a12,a13) (fun y=>k0 y.1 y.2.1 y.2.2.1 y.2.2.2.1 y.2.2.2.2.1 y.2.2.2.2.2.1 y.2.2.2.2.2.2.1 y.2.2.2.2.2.2.2.1 y.2.2.2.2.2.2.2.2.1 y.2.2.2.2.2.2.2.2.2) (fun _=>none) (fun _=>none)
def w16s0 [Alg] N a0 a1 a2 a3 a4 a5 a6 a7 a8 a9 a10 a11 a12 a13 (k0:Int->Int->Int->Int->Int->Int->Int->Int->Int->Int->O):=subL w16I0 w16u0 (w16l0 N N) (w16I0 (a0,a1,a2,a3,a4,a5,a6,a7,a8,a9,a10,a11,a12,a13)) (fun y=>k0 y.1 y.2.1 y.2.2.1 y.2.2.2.1 y.2.2.2.2.1 y.2.2.2.2.2.1 y.2.2.2.2.2.2.1 y.2.2.2.2.2.2.2.1 y.2.2.2.2.2.2.2.2.1 y.2.2.2.2.2.2.2.2.2) (fun _=>none) (fun _=>none)
theorem w16e0 [Alg] N:w16s0 N=w16n0 N:=funext fun _=>funext fun _=>funext fun _=>funext fun _=>funext fun _=>funext fun _=>funext fun _=>funext fun _=>funext fun _=>funext fun _=>funext fun _=>funext fun _=>funext fun _=>funext fun _=>funext fun _=>subL_I w16ui0 _ _ _ _
def w16h0 [Alg] (_:Nat):Hint:=(.seq .d (.seq .d (.seq (.block (.seq .d (.seq .d (.seq (.reg [4,5,9,10] [] [[],[],[],[],[],[],[],[],[],[],[1]]) (.seq .d (.cond (.reg [4,5,10,11] [] [[],[],[],[],[],[],[],[],[],[],[],[2]]) .d)))))) .d)))
theorem w16hk0 N:HintOk (w16c N) Tryd.f16.ntmps (w16h0 N) w16b0:=hk_of _ _ (And.intro trivial (And.intro trivial (And.intro (And.intro trivial (And.intro trivial (And.intro trivial (And.intro trivial (And.intro trivial trivial))))) trivial)))
theorem w16q0 [Alg] (N:Nat) (self:Sg->O) (K:Exit->Sg->O) (x:(List Bool)×Int×(List ((List Int)×(Int×Int)))×Int×Int×Int×Int×Int×Int×Int×Int×Int×Int×Int):w16F0 N (fun v0 v1 v2 v3 v4 v5 v6=>self (w16I0 (x.1,x.2.1,x.2.2.1,x.2.2.2.1,v0,x.2.2.2.2.2.1,x.2.2.2.2.2.2.1,x.2.2.2.2.2.2.2.1,v1,v2,v3,v4,v5,v6))) (fun y0 y1 y2 y3 y4 y5 y6 y7 y8 y9=>K (w16X0_0 (y0,y1,y2,y3,y4,y5,y6,y7,y8,y9)).1 (w16X0_0 (y0,y1,y2,y3,y4,y5,y6,y7,y8,y9)).2) x.1 x.2.1 x.2.2.1 x.2.2.2.1 x.2.2.2.2.2.1 x.2.2.2.2.2.2.1 x.2.2.2.2.2.2.2.1 x.2.2.2.2.1 x.2.2.2.2.2.2.2.2.1 x.2.2.2.2.2.2.2.2.2.1 x.2.2.2.2.2.2.2.2.2.2.1 x.2.2.2.2.2.2.2.2.2.2.2.1 x.2.2.2.2.2.2.2.2.2.2.2.2.1 x.2.2.2.2.2.2.2.2.2.2.2.2.2=exec (w16c N) Tryd.f16.ntmps (w16h0 N) w16b0 (w16I0 x) (roundX w16m0 w16w0 self K):=by kernel_rfl
theorem w16S0 N (hc:CxOk (w16c N)):SubOk (w16c N) Tryd.f16.ntmps (.loop w16b0) w16X0_0 (noX 1) (noX 2) (subL w16I0 w16u0 (w16l0 N N)):=
 sub_loop hc (w16hk0 N) (oK1 w16v0_0 (.exit 0) (fun _=>by kernel_rfl) (fun _=>rfl) (by kernel_rfl)) (n:=N) (fun x K=>loop_ind (w16l0 N) (fun _ _ _ _=>rfl) (fun n K ih x=>by
  refine Eq.trans ?_ (w16q0 N _ K x);simp only [← ih];rfl) N x K)
def w16F1 [Alg] (_N:Nat) (self:Int->O) (k0:Int->Int->Int->Int->O) (k1:Int->Int->Int->Int->Int->Int->Int->O) (x20_0 x20_2:Int) (x20_3 x20_4:Int) (x20_5 x20_6:Int) (x20_7 x20_8:Int) (x20_9 x20_10 x20_1:Int):O:=
 br (decide (x20_1 < 3))
  (ck (decide ((0:Int)<=x20_1/\x20_1 < (3:Int))) <|
  gx [x20_5,x20_6,x20_7] ((↑((0:Nat)+x20_1.toNat * (1:Nat)):Int)) fun y25=>
  ck (decide ((0:Int)<=x20_1/\x20_1 < (3:Int))) <|
  gx [x20_8,x20_9,x20_10] ((↑((0:Nat)+x20_1.toNat * (1:Nat)):Int)) fun y26=>
  br (decide (y26 < y25))
   (k0 18 0 0 0)
   (self (IntKind.i64.wrap (x20_1+1))))
  (k1 x20_0 x20_2 x20_3 x20_4 x20_5 x20_6 x20_7)
def w16b1:Code:=atC [1,1,1,1,1,1,0,1,0,0] w16b
def w16m1:Nm:=⟨[4,5,7,8,58],[],[]⟩
def w16I1 (x:Int×Int×Int×Int×Int×Int×Int×Int×Int×Int×Int):Sg:=⟨[(4,.ref 0 0),(5,.e (.i .i64) x.1),(7,.ref 1 0),(8,.ref 2 0),(58,.e (.i .i64) x.2.1)],[(0,.box 38 [.e (.i .i64) x.2.2.1,.e (.i .i64) x.2.2.2.1,.e (.i .i64) x.2.2.2.2.1]),(1,.box 38 [.e (.i .i64) x.2.2.2.2.2.1,.e (.i .i64) x.2.2.2.2.2.2.1,.e (.i .i64) x.2.2.2.2.2.2.2.1]),(2,.box 38 [.e (.i .i64) x.2.2.2.2.2.2.2.2.1,.e (.i .i64) x.2.2.2.2.2.2.2.2.2.1,.e (.i .i64) x.2.2.2.2.2.2.2.2.2.2])],100⟩
def w16u1 (σ:Sg):Int×Int×Int×Int×Int×Int×Int×Int×Int×Int×Int:=(lvT (.i .i64) 5 0 σ,lvT (.i .i64) 58 0 σ,lvH (.i .i64) 0 0 σ,lvH (.i .i64) 0 1 σ,lvH (.i .i64) 0 2 σ,lvH (.i .i64) 1 0 σ,lvH (.i .i64) 1 1 σ,lvH (.i .i64) 1 2 σ,lvH (.i .i64) 2 0 σ,lvH (.i .i64) 2 1 σ,lvH (.i .i64) 2 2 σ)
theorem w16ui1:∀ x,w16u1 (w16I1 x)=x:=fun _=>by kernel_rfl
def w16X1_0 (y:Int×Int×Int×Int):Exit×Sg:=(.ret,⟨[(4,.ref 0 0),(5,.e (.i .i64) y.1)],[(0,.box 38 [.e (.i .i64) y.2.1,.e (.i .i64) y.2.2.1,.e (.i .i64) y.2.2.2])],100⟩)
def w16v1_0 (_:Exit) (σ:Sg):Int×Int×Int×Int:=(lvT (.i .i64) 5 0 σ,lvH (.i .i64) 0 0 σ,lvH (.i .i64) 0 1 σ,lvH (.i .i64) 0 2 σ)
def w16X1_1 (y:Int×Int×Int×Int×Int×Int×Int):Exit×Sg:=((.exit 2),⟨[(4,.ref 0 0),(5,.e (.i .i64) y.1),(7,.ref 1 0)],[(0,.box 38 [.e (.i .i64) y.2.1,.e (.i .i64) y.2.2.1,.e (.i .i64) y.2.2.2.1]),(1,.box 38 [.e (.i .i64) y.2.2.2.2.1,.e (.i .i64) y.2.2.2.2.2.1,.e (.i .i64) y.2.2.2.2.2.2])],100⟩)
def w16v1_1 (_:Exit) (σ:Sg):Int×Int×Int×Int×Int×Int×Int:=(lvT (.i .i64) 5 0 σ,lvH (.i .i64) 0 0 σ,lvH (.i .i64) 0 1 σ,lvH (.i .i64) 0 2 σ,lvH (.i .i64) 1 0 σ,lvH (.i .i64) 1 1 σ,lvH (.i .i64) 1 2 σ)
def w16w1:List (Exit×Nm):=[(.ret,⟨[4,5],[],[]⟩),((.exit 2),⟨[4,5,7],[],[]⟩)]
def w16l1 [Alg] (N:Nat):Nat->(Int×Int×Int×Int×Int×Int×Int×Int×Int×Int×Int)->((Int×Int×Int×Int)->O)->((Int×Int×Int×Int×Int×Int×Int)->O)->((Unit)->O)->O
 | 0,_,_,_,_=>none
 | n+1,x,k0,k1,k2=>w16F1 N (fun v0=>w16l1 N n (x.1,v0,x.2.2.1,x.2.2.2.1,x.2.2.2.2.1,x.2.2.2.2.2.1,x.2.2.2.2.2.2.1,x.2.2.2.2.2.2.2.1,x.2.2.2.2.2.2.2.2.1,x.2.2.2.2.2.2.2.2.2.1,x.2.2.2.2.2.2.2.2.2.2) k0 k1 k2) (fun y0 y1 y2 y3=>k0 (y0,y1,y2,y3)) (fun y0 y1 y2 y3 y4 y5 y6=>k1 (y0,y1,y2,y3,y4,y5,y6)) x.1 x.2.2.1 x.2.2.2.1 x.2.2.2.2.1 x.2.2.2.2.2.1 x.2.2.2.2.2.2.1 x.2.2.2.2.2.2.2.1 x.2.2.2.2.2.2.2.2.1 x.2.2.2.2.2.2.2.2.2.1 x.2.2.2.2.2.2.2.2.2.2 x.2.1
def w16n1 [Alg] N a0 a1 a2 a3 a4 a5 a6 a7 a8 a9 a10 (k0:Int->Int->Int->Int->O) (k1:Int->Int->Int->Int->Int->Int->Int->O):=w16l1 N N (a0,a1,a2,a3,a4,a5,a6,a7,a8,a9,a10) (fun y=>k0 y.1 y.2.1 y.2.2.1 y.2.2.2) (fun y=>k1 y.1 y.2.1 y.2.2.1 y.2.2.2.1 y.2.2.2.2.1 y.2.2.2.2.2.1 y.2.2.2.2.2.2) (fun _=>none)
def w16s1 [Alg] N a0 a1 a2 a3 a4 a5 a6 a7 a8 a9 a10 (k0:Int->Int->Int->Int->O) (k1:Int->Int->Int->Int->Int->Int->Int->O):=subL w16I1 w16u1 (w16l1 N N) (w16I1 (a0,a1,a2,a3,a4,a5,a6,a7,a8,a9,a10)) (fun y=>k0 y.1 y.2.1 y.2.2.1 y.2.2.2) (fun y=>k1 y.1 y.2.1 y.2.2.1 y.2.2.2.1 y.2.2.2.2.1 y.2.2.2.2.2.1 y.2.2.2.2.2.2) (fun _=>none)
theorem w16e1 [Alg] N:w16s1 N=w16n1 N:=funext fun _=>funext fun _=>funext fun _=>funext fun _=>funext fun _=>funext fun _=>funext fun _=>funext fun _=>funext fun _=>funext fun _=>funext fun _=>funext fun _=>funext fun _=>subL_I w16ui1 _ _ _ _
def w16h1 [Alg] (_:Nat):Hint:=(.seq .d (.seq .d (.seq (.block (.seq .d (.seq (.reg [1,2,4,5] [] []) .d))) .d)))
theorem w16hk1 N:HintOk (w16c N) Tryd.f16.ntmps (w16h1 N) w16b1:=hk_of _ _ (And.intro trivial (And.intro trivial (And.intro (And.intro trivial (And.intro trivial trivial)) trivial)))
theorem w16q1 [Alg] (N:Nat) (self:Sg->O) (K:Exit->Sg->O) (x:Int×Int×Int×Int×Int×Int×Int×Int×Int×Int×Int):w16F1 N (fun v0=>self (w16I1 (x.1,v0,x.2.2.1,x.2.2.2.1,x.2.2.2.2.1,x.2.2.2.2.2.1,x.2.2.2.2.2.2.1,x.2.2.2.2.2.2.2.1,x.2.2.2.2.2.2.2.2.1,x.2.2.2.2.2.2.2.2.2.1,x.2.2.2.2.2.2.2.2.2.2))) (fun y0 y1 y2 y3=>K (w16X1_0 (y0,y1,y2,y3)).1 (w16X1_0 (y0,y1,y2,y3)).2) (fun y0 y1 y2 y3 y4 y5 y6=>K (w16X1_1 (y0,y1,y2,y3,y4,y5,y6)).1 (w16X1_1 (y0,y1,y2,y3,y4,y5,y6)).2) x.1 x.2.2.1 x.2.2.2.1 x.2.2.2.2.1 x.2.2.2.2.2.1 x.2.2.2.2.2.2.1 x.2.2.2.2.2.2.2.1 x.2.2.2.2.2.2.2.2.1 x.2.2.2.2.2.2.2.2.2.1 x.2.2.2.2.2.2.2.2.2.2 x.2.1=exec (w16c N) Tryd.f16.ntmps (w16h1 N) w16b1 (w16I1 x) (roundX w16m1 w16w1 self K):=by kernel_rfl
theorem w16S1 N (hc:CxOk (w16c N)):SubOk (w16c N) Tryd.f16.ntmps (.loop w16b1) w16X1_0 w16X1_1 (noX 2) (subL w16I1 w16u1 (w16l1 N N)):=
 sub_loop hc (w16hk1 N) (oK2 w16v1_0 w16v1_1 .ret (.exit 2) (fun _=>by kernel_rfl) (fun _=>by kernel_rfl) (fun _=>rfl) (fun _=>rfl) (by kernel_rfl)) (n:=N) (fun x K=>loop_ind (w16l1 N) (fun _ _ _ _=>rfl) (fun n K ih x=>by
  refine Eq.trans ?_ (w16q1 N _ K x);simp only [← ih];rfl) N x K)
def w16G [Alg] (N:Nat) (in0:(List Bool)->Int->(List ((List Int)×(Int×Int)))->Int->Int->Int->Int->Int->Int->Int->Int->Int->Int->Int->(Int->Int->Int->Int->Int->Int->Int->Int->Int->Int->O)->O) (in1:Int->Int->Int->Int->Int->Int->Int->Int->Int->Int->Int->(Int->Int->Int->Int->O)->(Int->Int->Int->Int->Int->Int->Int->O)->O) (l0:(List ((List Int)×(Int×Int)))) (have1:(List Bool)):O:=
 ck (w29p N l0) <|
 br (decide (w29y0 N l0≠(0:Int)))
  (some (w16r0 0 0 0 (w29y0 N l0)))
  (br (decide ((↑have1.length:Int)≠(16:Int)))
   (some (w16r0 0 0 0 1))
   (in0 have1 0 l0 ((↑l0.length:Int)) 0 0 0 0 0 0 0 9999 9999 9999
    (fun z10 z11 z12 z13 z14 z15 z16 z17 z18 z19=>
     in1 z10 0 z11 z12 z13 z14 z15 z16 z17 z18 z19
      (fun z27 z28 z29 z30=>
       some (w16r0 z28 z29 z30 z27))
      (fun _ _ _ _ z35 z36 z37=>
       some (w16r0 z35 z36 z37 0)))))
def w16 [Alg] N l0 have1:=w16G N (w16n0 N) (w16n1 N) l0 have1
def w16h [Alg] (N:Nat):Hint:=(.seq .d (.seq .d (.seq .d (.seq .d (.seq .d (.seq (.seq .d (.block (.sub w16m0 _ _ _ w16X0_0 (noX 1) (noX 2) (subL w16I0 w16u0 (w16l0 N N))))) (.seq (.seq .d (.block (.sub w16m1 _ _ _ w16X1_0 w16X1_1 (noX 2) (subL w16I1 w16u1 (w16l1 N N))))) .d)))))))
theorem w16hk N (hc:CxOk (w16c N)):HintOk (w16c N) Tryd.f16.ntmps (w16h N) w16b:=hk_of _ _ (And.intro trivial (And.intro trivial (And.intro trivial (And.intro trivial (And.intro trivial (And.intro (And.intro trivial (w16S0 N hc)) (And.intro (And.intro trivial (w16S1 N hc)) trivial)))))))
theorem w16q [Alg] N l0 have1:w16G N (w16s0 N) (w16s1 N) l0 have1=exec (w16c N) Tryd.f16.ntmps (w16h N) w16b ⟨argT 0 [.e (.sl (.pr (.sl (.i .i64)) (.pr (.i .i64) (.i .i64)))) l0,.e (.sl .bo) have1],[],100⟩ (finX (w16c N) Tryd.f16 false):=by kernel_rfl
def w16un (r:Res):Option (Int×Int×Int×Int):=match r with
 | (.tup [.agg [x0,x1,x2],x3],[])=>(match ue (.i .i64) x0,ue (.i .i64) x1,ue (.i .i64) x2,ue (.i .i64) x3 with | some a0,some a1,some a2,some a3=>some (a0,a1,a2,a3) | _,_,_,_=>none)
 | _=>none
theorem w16uo {r d} (h:w16un r=some d):r=w16r0 d.1 d.2.1 d.2.2.1 d.2.2.2:=by
 unfold w16un at h;split at h
 ·split at h
  ·rename_i h0 h1 h2 h3;cases h;rw [ue_some h0,ue_some h1,ue_some h2,ue_some h3];rfl
  ·cases h
 ·cases h
def w16z N l0 have1:=(w16 N l0 have1).bind w16un
theorem w16fin {N} (hc:CxOk (w16c N)) {l0 have1 d} (hd:w16z N l0 have1=some d):DoK Tryd.prog 16 [.e (.sl (.pr (.sl (.i .i64)) (.pr (.i .i64) (.i .i64)))) l0,.e (.sl .bo) have1] [] (w16r0 d.1 d.2.1 d.2.2.1 d.2.2.2):=
 finJ hc (by kernel_rfl) (by kernel_rfl) (w16hk N hc) (by kernel_rfl) w16uo (fun hr=>(w16q N l0 have1).symm.trans (by rw [w16e0 N,w16e1 N];exact hr)) hd
def w16p N l0 have1:=(w16z N l0 have1).isSome
def w16y0 N l0 have1:=((w16z N l0 have1).getD (0,0,0,0)).1
def w16y1 N l0 have1:=((w16z N l0 have1).getD (0,0,0,0)).2.1
def w16y2 N l0 have1:=((w16z N l0 have1).getD (0,0,0,0)).2.2.1
def w16y3 N l0 have1:=((w16z N l0 have1).getD (0,0,0,0)).2.2.2
def w16e (N:Nat):Ent':=E2 (.sl (.pr (.sl (.i .i64)) (.pr (.i .i64) (.i .i64)))) (.sl .bo) (fun x0 x1=>(w16p N x0 x1,w16r0 (w16y0 N x0 x1) (w16y1 N x0 x1) (w16y2 N x0 x1) (w16y3 N x0 x1)))
theorem w16ok N:EOk Tryd.prog 16 (w16e N):=EOk.e2 (fun x0 x1 h=>okG (z:=w16z N x0 x1) h (w16fin (w16cx N)) rfl)
def w17r0 (a0:(List Bool)):Res:=(.e (.sl .bo) a0,[])
def w17c (_:Nat):Cx:=⟨Tryd.prog,99999,[],[]⟩
def w17b:Code:=Tryd.f17.body.getD .skip
theorem w17cx N:CxOk (w17c N):=ctx_ok (by kernel_rfl) .nil .nil
def w17F0 [Alg] (_:Nat) (self:Int->(List Bool)->O) (k0:(List Bool)->O) (x0_0 x0_1:Int) (x0_2:(List Bool)):O:=
 br (decide (x0_1 < 16))
  (ck (decide ((0:Int)<=IntKind.u64.wrap x0_1)) <|
  ck true <|
  ck (lim (x0_2++[decide ((x0_0.fdiv ((2:Int) ^ min (IntKind.u64.wrap x0_1).toNat (64:Nat))).tmod (2:Int)=(1:Int))]).length (1:Nat)) <|
  self (IntKind.i64.wrap (x0_1+1)) (x0_2++[decide ((x0_0.fdiv ((2:Int) ^ min (IntKind.u64.wrap x0_1).toNat (64:Nat))).tmod (2:Int)=(1:Int))]))
  (k0 x0_2)
def w17b0:Code:=atC [1,1,0,1,0,0] w17b
def w17m0:Nm:=⟨[0,2,3,4],[],[.nilR 3 (.row 4 .bo [] true)]⟩
def w17I0 (x:Int×Int×(List Bool)):Sg:=⟨[(0,.e (.i .i64) x.1),(2,.nilS),(3,.own 0),(4,.e (.i .i64) x.2.1)],[(0,.row 4 .bo x.2.2 true)],100⟩
def w17u0 (σ:Sg):Int×Int×(List Bool):=(lvT (.i .i64) 0 0 σ,lvT (.i .i64) 4 0 σ,lvR .bo 0 σ)
theorem w17ui0:∀ x,w17u0 (w17I0 x)=x:=fun _=>by kernel_rfl
def w17X0_0 (y:(List Bool)):Exit×Sg:=((.exit 0),⟨[(2,.nilS),(3,.own 0)],[(0,.row 4 .bo y true)],100⟩)
def w17v0_0 (_:Exit) (σ:Sg):(List Bool):=lvR .bo 0 σ
def w17w0:List (Exit×Nm):=[((.exit 0),⟨[2,3],[],[]⟩)]
def w17l0 [Alg] (N:Nat):Nat->(Int×Int×(List Bool))->(((List Bool))->O)->((Unit)->O)->((Unit)->O)->O
 | 0,_,_,_,_=>none
 | n+1,x,k0,k1,k2=>w17F0 N (fun v0 v1=>w17l0 N n (x.1,v0,v1) k0 k1 k2) (fun y0=>k0 y0) x.1 x.2.1 x.2.2
def w17n0 [Alg] N a0 a1 a2 (k0:(List Bool)->O):=w17l0 N N (a0,a1,a2) (fun y=>k0 y) (fun _=>none) (fun _=>none)
def w17s0 [Alg] N a0 a1 a2 (k0:(List Bool)->O):=subL w17I0 w17u0 (w17l0 N N) (w17I0 (a0,a1,a2)) (fun y=>k0 y) (fun _=>none) (fun _=>none)
theorem w17e0 [Alg] N:w17s0 N=w17n0 N:=funext fun _=>funext fun _=>funext fun _=>funext fun _=>subL_I w17ui0 _ _ _ _
theorem w17q0 [Alg] (N:Nat) (self:Sg->O) (K:Exit->Sg->O) (x:Int×Int×(List Bool)):w17F0 N (fun v0 v1=>self (w17I0 (x.1,v0,v1))) (fun y0=>K (w17X0_0 y0).1 (w17X0_0 y0).2) x.1 x.2.1 x.2.2=exec (w17c N) Tryd.f17.ntmps .d w17b0 (w17I0 x) (roundX w17m0 w17w0 self K):=by kernel_rfl
theorem w17S0 N (hc:CxOk (w17c N)):SubOk (w17c N) Tryd.f17.ntmps (.loop w17b0) w17X0_0 (noX 1) (noX 2) (subL w17I0 w17u0 (w17l0 N N)):=
 sub_loop hc (hk_d w17b0) (oK1 w17v0_0 (.exit 0) (fun _=>by kernel_rfl) (fun _=>rfl) (by kernel_rfl)) (n:=N) (fun x K=>loop_ind (w17l0 N) (fun _ _ _ _=>rfl) (fun n K ih x=>by
  refine Eq.trans ?_ (w17q0 N _ K x);simp only [← ih];rfl) N x K)
def w17G [Alg] (_:Nat) (in0:Int->Int->(List Bool)->((List Bool)->O)->O) (n0:Int):O:=
 in0 n0 0 []
  (fun z1=>
   some (w17r0 z1))
def w17 [Alg] N n0:=w17G N (w17n0 N) n0
def w17h [Alg] (N:Nat):Hint:=(.seq .d (.seq .d (.seq (.seq .d (.block (.sub w17m0 _ _ _ w17X0_0 (noX 1) (noX 2) (subL w17I0 w17u0 (w17l0 N N))))) .d)))
theorem w17hk N (hc:CxOk (w17c N)):HintOk (w17c N) Tryd.f17.ntmps (w17h N) w17b:=hk_of _ _ (And.intro trivial (And.intro trivial (And.intro (And.intro trivial (w17S0 N hc)) trivial)))
theorem w17q [Alg] N n0:w17G N (w17s0 N) n0=exec (w17c N) Tryd.f17.ntmps (w17h N) w17b ⟨argT 0 [.e (.i .i64) n0],[],100⟩ (finX (w17c N) Tryd.f17 false):=by kernel_rfl
def w17un (r:Res):Option ((List Bool)):=match r with
 | (x0,[])=>(match ue (.sl .bo) x0 with | some a0=>some a0 | _=>none)
 | _=>none
theorem w17uo {r d} (h:w17un r=some d):r=w17r0 (d):=by
 unfold w17un at h;split at h
 ·split at h
  ·rename_i h0;cases h;rw [ue_some h0];rfl
  ·cases h
 ·cases h
def w17z N n0:=(w17 N n0).bind w17un
theorem w17fin {N} (hc:CxOk (w17c N)) {n0 d} (hd:w17z N n0=some d):DoK Tryd.prog 17 [.e (.i .i64) n0] [] (w17r0 (d)):=
 finJ hc (by kernel_rfl) (by kernel_rfl) (w17hk N hc) (by kernel_rfl) w17uo (fun hr=>(w17q N n0).symm.trans (by rw [w17e0 N];exact hr)) hd
def w17p N n0:=(w17z N n0).isSome
def w17y0 N n0:=((w17z N n0).getD [])
def w17e (N:Nat):Ent':=E1 (.i .i64) (fun x0=>(w17p N x0,w17r0 (w17y0 N x0)))
theorem w17ok N:EOk Tryd.prog 17 (w17e N):=EOk.e1 (fun x0 h=>okG (z:=w17z N x0) h (w17fin (w17cx N)) rfl)
def w27r0 (a0:(List ((List Int)×(Int×Int)))):Res:=(.e (.sl (.pr (.sl (.i .i64)) (.pr (.i .i64) (.i .i64)))) a0,[])
def w27c (_:Nat):Cx:=⟨Tryd.prog,99999,[],[]⟩
def w27b:Code:=Tryd.f27.body.getD .skip
theorem w27cx N:CxOk (w27c N):=ctx_ok (by kernel_rfl) .nil .nil
def w27F0 [Alg] (_:Nat) (self:Int->(List ((List Int)×(Int×Int)))->O) (k0:(List ((List Int)×(Int×Int)))->O) (x0_0:(List ((List Int)×(Int×Int)))) (x0_1:Int) (x0_2:(List ((List Int)×(Int×Int)))):O:=
 br (decide (x0_1 < (↑x0_0.length:Int)))
  (gx x0_0 x0_1 fun y10=>
  gx x0_0 x0_1 fun y11=>
  gx x0_0 x0_1 fun y12=>
  ck (lim (x0_2++[(y10.1,y11.2.1,y12.2.2)]).length (40:Nat)) <|
  self (IntKind.i64.wrap (x0_1+1)) (x0_2++[(y10.1,y11.2.1,y12.2.2)]))
  (k0 x0_2)
def w27b0:Code:=atC [1,1,0,1,0,0] w27b
def w27m0:Nm:=⟨[0,2,3,4],[],[.nilR 3 (.row 49 (.pr (.sl (.i .i64)) (.pr (.i .i64) (.i .i64))) [] true)]⟩
def w27I0 (x:(List ((List Int)×(Int×Int)))×Int×(List ((List Int)×(Int×Int)))):Sg:=⟨[(0,.e (.sl (.pr (.sl (.i .i64)) (.pr (.i .i64) (.i .i64)))) x.1),(2,.nilS),(3,.own 0),(4,.e (.i .i64) x.2.1)],[(0,.row 49 (.pr (.sl (.i .i64)) (.pr (.i .i64) (.i .i64))) x.2.2 true)],100⟩
def w27u0 (σ:Sg):(List ((List Int)×(Int×Int)))×Int×(List ((List Int)×(Int×Int))):=(lvT (.sl (.pr (.sl (.i .i64)) (.pr (.i .i64) (.i .i64)))) 0 0 σ,lvT (.i .i64) 4 0 σ,lvR (.pr (.sl (.i .i64)) (.pr (.i .i64) (.i .i64))) 0 σ)
theorem w27ui0:∀ x,w27u0 (w27I0 x)=x:=fun _=>by kernel_rfl
def w27X0_0 (y:(List ((List Int)×(Int×Int)))):Exit×Sg:=((.exit 0),⟨[(2,.nilS),(3,.own 0)],[(0,.row 49 (.pr (.sl (.i .i64)) (.pr (.i .i64) (.i .i64))) y true)],100⟩)
def w27v0_0 (_:Exit) (σ:Sg):(List ((List Int)×(Int×Int))):=lvR (.pr (.sl (.i .i64)) (.pr (.i .i64) (.i .i64))) 0 σ
def w27w0:List (Exit×Nm):=[((.exit 0),⟨[2,3],[],[]⟩)]
def w27l0 [Alg] (N:Nat):Nat->((List ((List Int)×(Int×Int)))×Int×(List ((List Int)×(Int×Int))))->(((List ((List Int)×(Int×Int))))->O)->((Unit)->O)->((Unit)->O)->O
 | 0,_,_,_,_=>none
 | n+1,x,k0,k1,k2=>w27F0 N (fun v0 v1=>w27l0 N n (x.1,v0,v1) k0 k1 k2) (fun y0=>k0 y0) x.1 x.2.1 x.2.2
def w27n0 [Alg] N a0 a1 a2 (k0:(List ((List Int)×(Int×Int)))->O):=w27l0 N N (a0,a1,a2) (fun y=>k0 y) (fun _=>none) (fun _=>none)
def w27s0 [Alg] N a0 a1 a2 (k0:(List ((List Int)×(Int×Int)))->O):=subL w27I0 w27u0 (w27l0 N N) (w27I0 (a0,a1,a2)) (fun y=>k0 y) (fun _=>none) (fun _=>none)
theorem w27e0 [Alg] N:w27s0 N=w27n0 N:=funext fun _=>funext fun _=>funext fun _=>funext fun _=>subL_I w27ui0 _ _ _ _
def w27h0 [Alg] (_:Nat):Hint:=(.seq .d (.seq (.block (.reg [] [] [[],[],[],[],[],[],[],[],[],[],[],[],[],[],[],[],[],[],[276,0],[]])) .d))
theorem w27hk0 N:HintOk (w27c N) Tryd.f27.ntmps (w27h0 N) w27b0:=hk_of _ _ (And.intro trivial (And.intro trivial trivial))
theorem w27q0 [Alg] (N:Nat) (self:Sg->O) (K:Exit->Sg->O) (x:(List ((List Int)×(Int×Int)))×Int×(List ((List Int)×(Int×Int)))):w27F0 N (fun v0 v1=>self (w27I0 (x.1,v0,v1))) (fun y0=>K (w27X0_0 y0).1 (w27X0_0 y0).2) x.1 x.2.1 x.2.2=exec (w27c N) Tryd.f27.ntmps (w27h0 N) w27b0 (w27I0 x) (roundX w27m0 w27w0 self K):=by kernel_rfl
theorem w27S0 N (hc:CxOk (w27c N)):SubOk (w27c N) Tryd.f27.ntmps (.loop w27b0) w27X0_0 (noX 1) (noX 2) (subL w27I0 w27u0 (w27l0 N N)):=
 sub_loop hc (w27hk0 N) (oK1 w27v0_0 (.exit 0) (fun _=>by kernel_rfl) (fun _=>rfl) (by kernel_rfl)) (n:=N) (fun x K=>loop_ind (w27l0 N) (fun _ _ _ _=>rfl) (fun n K ih x=>by
  refine Eq.trans ?_ (w27q0 N _ K x);simp only [← ih];rfl) N x K)
def w27G [Alg] (_:Nat) (in0:(List ((List Int)×(Int×Int)))->Int->(List ((List Int)×(Int×Int)))->((List ((List Int)×(Int×Int)))->O)->O) (l0:(List ((List Int)×(Int×Int)))):O:=
 in0 l0 0 []
  (fun z13=>
   some (w27r0 z13))
def w27 [Alg] N l0:=w27G N (w27n0 N) l0
def w27h [Alg] (N:Nat):Hint:=(.seq .d (.seq .d (.seq (.seq .d (.block (.sub w27m0 _ _ _ w27X0_0 (noX 1) (noX 2) (subL w27I0 w27u0 (w27l0 N N))))) .d)))
theorem w27hk N (hc:CxOk (w27c N)):HintOk (w27c N) Tryd.f27.ntmps (w27h N) w27b:=hk_of _ _ (And.intro trivial (And.intro trivial (And.intro (And.intro trivial (w27S0 N hc)) trivial)))
theorem w27q [Alg] N l0:w27G N (w27s0 N) l0=exec (w27c N) Tryd.f27.ntmps (w27h N) w27b ⟨argT 0 [.e (.sl (.pr (.sl (.i .i64)) (.pr (.i .i64) (.i .i64)))) l0],[],100⟩ (finX (w27c N) Tryd.f27 false):=by kernel_rfl
def w27un (r:Res):Option ((List ((List Int)×(Int×Int)))):=match r with
 | (x0,[])=>(match ue (.sl (.pr (.sl (.i .i64)) (.pr (.i .i64) (.i .i64)))) x0 with | some a0=>some a0 | _=>none)
 | _=>none
theorem w27uo {r d} (h:w27un r=some d):r=w27r0 (d):=by
 unfold w27un at h;split at h
 ·split at h
  ·rename_i h0;cases h;rw [ue_some h0];rfl
  ·cases h
 ·cases h
def w27z N l0:=(w27 N l0).bind w27un
theorem w27fin {N} (hc:CxOk (w27c N)) {l0 d} (hd:w27z N l0=some d):DoK Tryd.prog 27 [.e (.sl (.pr (.sl (.i .i64)) (.pr (.i .i64) (.i .i64)))) l0] [] (w27r0 (d)):=
 finJ hc (by kernel_rfl) (by kernel_rfl) (w27hk N hc) (by kernel_rfl) w27uo (fun hr=>(w27q N l0).symm.trans (by rw [w27e0 N];exact hr)) hd
def w27p N l0:=(w27z N l0).isSome
def w27y0 N l0:=((w27z N l0).getD [])
def w27e (N:Nat):Ent':=E1 (.sl (.pr (.sl (.i .i64)) (.pr (.i .i64) (.i .i64)))) (fun x0=>(w27p N x0,w27r0 (w27y0 N x0)))
theorem w27ok N:EOk Tryd.prog 27 (w27e N):=EOk.e1 (fun x0 h=>okG (z:=w27z N x0) h (w27fin (w27cx N)) rfl)
def w44r0 (a0:Bool):Res:=(.e .bo a0,[])
def w44c (_:Nat):Cx:=⟨Tryd.prog,99999,[],[]⟩
def w44b:Code:=Tryd.f44.body.getD .skip
theorem w44cx N:CxOk (w44c N):=ctx_ok (by kernel_rfl) .nil .nil
def w44F0 [Alg] (_:Nat) (self:Int->O) (k0:Bool->O) (k1:Bool->O) (x0_0 x0_1:(List Int)) (x0_2:Bool) (x0_3:Int):O:=
 br (decide (x0_3 < (↑x0_0.length:Int)))
  (gx x0_0 x0_3 fun y5=>
  gx x0_1 x0_3 fun y6=>
  br (decide (y5≠y6))
   (k0 false)
   (self (IntKind.i64.wrap (x0_3+1))))
  (k1 x0_2)
def w44b0:Code:=atC [1,1,0,1,0,0] w44b
def w44m0:Nm:=⟨[0,1,4,5],[],[]⟩
def w44I0 (x:(List Int)×(List Int)×Bool×Int):Sg:=⟨[(0,.e (.sl (.i .i64)) x.1),(1,.e (.sl (.i .i64)) x.2.1),(4,.e .bo x.2.2.1),(5,.e (.i .i64) x.2.2.2)],[],100⟩
def w44u0 (σ:Sg):(List Int)×(List Int)×Bool×Int:=(lvT (.sl (.i .i64)) 0 0 σ,lvT (.sl (.i .i64)) 1 0 σ,lvT .bo 4 0 σ,lvT (.i .i64) 5 0 σ)
theorem w44ui0:∀ x,w44u0 (w44I0 x)=x:=fun _=>by kernel_rfl
def w44X0_0 (y:Bool):Exit×Sg:=(.ret,⟨[(4,.e .bo y)],[],100⟩)
def w44v0_0 (_:Exit) (σ:Sg):Bool:=lvT .bo 4 0 σ
def w44X0_1 (y:Bool):Exit×Sg:=((.exit 0),⟨[(4,.e .bo y)],[],100⟩)
def w44v0_1 (_:Exit) (σ:Sg):Bool:=lvT .bo 4 0 σ
def w44w0:List (Exit×Nm):=[(.ret,⟨[4],[],[]⟩),((.exit 0),⟨[4],[],[]⟩)]
def w44l0 [Alg] (N:Nat):Nat->((List Int)×(List Int)×Bool×Int)->((Bool)->O)->((Bool)->O)->((Unit)->O)->O
 | 0,_,_,_,_=>none
 | n+1,x,k0,k1,k2=>w44F0 N (fun v0=>w44l0 N n (x.1,x.2.1,x.2.2.1,v0) k0 k1 k2) (fun y0=>k0 y0) (fun y0=>k1 y0) x.1 x.2.1 x.2.2.1 x.2.2.2
def w44n0 [Alg] N a0 a1 a2 a3 (k0:Bool->O) (k1:Bool->O):=w44l0 N N (a0,a1,a2,a3) (fun y=>k0 y) (fun y=>k1 y) (fun _=>none)
def w44s0 [Alg] N a0 a1 a2 a3 (k0:Bool->O) (k1:Bool->O):=subL w44I0 w44u0 (w44l0 N N) (w44I0 (a0,a1,a2,a3)) (fun y=>k0 y) (fun y=>k1 y) (fun _=>none)
theorem w44e0 [Alg] N:w44s0 N=w44n0 N:=funext fun _=>funext fun _=>funext fun _=>funext fun _=>funext fun _=>funext fun _=>subL_I w44ui0 _ _ _ _
theorem w44q0 [Alg] (N:Nat) (self:Sg->O) (K:Exit->Sg->O) (x:(List Int)×(List Int)×Bool×Int):w44F0 N (fun v0=>self (w44I0 (x.1,x.2.1,x.2.2.1,v0))) (fun y0=>K (w44X0_0 y0).1 (w44X0_0 y0).2) (fun y0=>K (w44X0_1 y0).1 (w44X0_1 y0).2) x.1 x.2.1 x.2.2.1 x.2.2.2=exec (w44c N) Tryd.f44.ntmps .d w44b0 (w44I0 x) (roundX w44m0 w44w0 self K):=by kernel_rfl
theorem w44S0 N (hc:CxOk (w44c N)):SubOk (w44c N) Tryd.f44.ntmps (.loop w44b0) w44X0_0 w44X0_1 (noX 2) (subL w44I0 w44u0 (w44l0 N N)):=
 sub_loop hc (hk_d w44b0) (oK2 w44v0_0 w44v0_1 .ret (.exit 0) (fun _=>by kernel_rfl) (fun _=>by kernel_rfl) (fun _=>rfl) (fun _=>rfl) (by kernel_rfl)) (n:=N) (fun x K=>loop_ind (w44l0 N) (fun _ _ _ _=>rfl) (fun n K ih x=>by
  refine Eq.trans ?_ (w44q0 N _ K x);simp only [← ih];rfl) N x K)
def w44G [Alg] (_:Nat) (in0:(List Int)->(List Int)->Bool->Int->(Bool->O)->(Bool->O)->O) (a0 b1:(List Int)):O:=
 br (decide ((↑a0.length:Int)≠(↑b1.length:Int)))
  (some (w44r0 false))
  (in0 a0 b1 false 0
   (fun z7=>
    some (w44r0 z7))
   (fun _=>
    some (w44r0 true)))
def w44 [Alg] N a0 b1:=w44G N (w44n0 N) a0 b1
def w44h [Alg] (N:Nat):Hint:=(.seq .d (.seq .d (.seq (.seq .d (.block (.sub w44m0 _ _ _ w44X0_0 w44X0_1 (noX 2) (subL w44I0 w44u0 (w44l0 N N))))) .d)))
theorem w44hk N (hc:CxOk (w44c N)):HintOk (w44c N) Tryd.f44.ntmps (w44h N) w44b:=hk_of _ _ (And.intro trivial (And.intro trivial (And.intro (And.intro trivial (w44S0 N hc)) trivial)))
theorem w44q [Alg] N a0 b1:w44G N (w44s0 N) a0 b1=exec (w44c N) Tryd.f44.ntmps (w44h N) w44b ⟨argT 0 [.e (.sl (.i .i64)) a0,.e (.sl (.i .i64)) b1],[],100⟩ (finX (w44c N) Tryd.f44 false):=by kernel_rfl
def w44un (r:Res):Option (Bool):=match r with
 | (x0,[])=>(match ue .bo x0 with | some a0=>some a0 | _=>none)
 | _=>none
theorem w44uo {r d} (h:w44un r=some d):r=w44r0 (d):=by
 unfold w44un at h;split at h
 ·split at h
  ·rename_i h0;cases h;rw [ue_some h0];rfl
  ·cases h
 ·cases h
def w44z N a0 b1:=(w44 N a0 b1).bind w44un
theorem w44fin {N} (hc:CxOk (w44c N)) {a0 b1 d} (hd:w44z N a0 b1=some d):DoK Tryd.prog 44 [.e (.sl (.i .i64)) a0,.e (.sl (.i .i64)) b1] [] (w44r0 (d)):=
 finJ hc (by kernel_rfl) (by kernel_rfl) (w44hk N hc) (by kernel_rfl) w44uo (fun hr=>(w44q N a0 b1).symm.trans (by rw [w44e0 N];exact hr)) hd
def w44p N a0 b1:=(w44z N a0 b1).isSome
def w44y0 N a0 b1:=((w44z N a0 b1).getD false)
def w44e (N:Nat):Ent':=E2 (.sl (.i .i64)) (.sl (.i .i64)) (fun x0 x1=>(w44p N x0 x1,w44r0 (w44y0 N x0 x1)))
theorem w44ok N:EOk Tryd.prog 44 (w44e N):=EOk.e2 (fun x0 x1 h=>okG (z:=w44z N x0 x1) h (w44fin (w44cx N)) rfl)
def w26r0 (a0:Bool):Res:=(.e .bo a0,[])
def w26c (N:Nat):Cx:=⟨Tryd.prog,99999,[(44,w44e N)],[]⟩
def w26b:Code:=Tryd.f26.body.getD .skip
theorem w26cx N:CxOk (w26c N):=ctx_ok (by kernel_rfl) (.cons (by kernel_rfl) (w44ok N) .nil) .nil
def w26F0 [Alg] (N:Nat) (self:Int->O) (k0:Bool->O) (k1:Bool->O) (x0_0:(List ((List Int)×(Int×Int)))) (x0_1:(List ((List Int)×(Int×Int)))) (x0_2:Bool) (x0_3:Int):O:=
 br (decide (x0_3 < (↑x0_0.length:Int)))
  (gx x0_0 x0_3 fun y13=>
  gx x0_1 x0_3 fun y14=>
  gc (!decide (y13.2.1≠y14.2.1)) (([],((0:Int),(0:Int)))) x0_0 x0_3 fun y15=>
  gc (!decide (y13.2.1≠y14.2.1)) (([],((0:Int),(0:Int)))) x0_1 x0_3 fun y16=>
  gc (!(decide (y13.2.1≠y14.2.1)||decide (y15.2.2≠y16.2.2))) (([],((0:Int),(0:Int)))) x0_0 x0_3 fun y17=>
  gc (!(decide (y13.2.1≠y14.2.1)||decide (y15.2.2≠y16.2.2))) (([],((0:Int),(0:Int)))) x0_1 x0_3 fun y18=>
  ck (!!(decide (y13.2.1≠y14.2.1)||decide (y15.2.2≠y16.2.2))||w44p N y17.1 y18.1) <|
  br (decide (y13.2.1≠y14.2.1)||decide (y15.2.2≠y16.2.2)||!w44y0 N y17.1 y18.1)
   (k0 false)
   (self (IntKind.i64.wrap (x0_3+1))))
  (k1 x0_2)
def w26b0:Code:=atC [1,1,0,1,0,0] w26b
def w26m0:Nm:=⟨[0,1,4,5],[],[]⟩
def w26I0 (x:(List ((List Int)×(Int×Int)))×(List ((List Int)×(Int×Int)))×Bool×Int):Sg:=⟨[(0,.e (.sl (.pr (.sl (.i .i64)) (.pr (.i .i64) (.i .i64)))) x.1),(1,.e (.sl (.pr (.sl (.i .i64)) (.pr (.i .i64) (.i .i64)))) x.2.1),(4,.e .bo x.2.2.1),(5,.e (.i .i64) x.2.2.2)],[],100⟩
def w26u0 (σ:Sg):(List ((List Int)×(Int×Int)))×(List ((List Int)×(Int×Int)))×Bool×Int:=(lvT (.sl (.pr (.sl (.i .i64)) (.pr (.i .i64) (.i .i64)))) 0 0 σ,lvT (.sl (.pr (.sl (.i .i64)) (.pr (.i .i64) (.i .i64)))) 1 0 σ,lvT .bo 4 0 σ,lvT (.i .i64) 5 0 σ)
theorem w26ui0:∀ x,w26u0 (w26I0 x)=x:=fun _=>by kernel_rfl
def w26X0_0 (y:Bool):Exit×Sg:=(.ret,⟨[(4,.e .bo y)],[],100⟩)
def w26v0_0 (_:Exit) (σ:Sg):Bool:=lvT .bo 4 0 σ
def w26X0_1 (y:Bool):Exit×Sg:=((.exit 0),⟨[(4,.e .bo y)],[],100⟩)
def w26v0_1 (_:Exit) (σ:Sg):Bool:=lvT .bo 4 0 σ
def w26w0:List (Exit×Nm):=[(.ret,⟨[4],[],[]⟩),((.exit 0),⟨[4],[],[]⟩)]
def w26l0 [Alg] (N:Nat):Nat->((List ((List Int)×(Int×Int)))×(List ((List Int)×(Int×Int)))×Bool×Int)->((Bool)->O)->((Bool)->O)->((Unit)->O)->O
 | 0,_,_,_,_=>none
 | n+1,x,k0,k1,k2=>w26F0 N (fun v0=>w26l0 N n (x.1,x.2.1,x.2.2.1,v0) k0 k1 k2) (fun y0=>k0 y0) (fun y0=>k1 y0) x.1 x.2.1 x.2.2.1 x.2.2.2
def w26n0 [Alg] N a0 a1 a2 a3 (k0:Bool->O) (k1:Bool->O):=w26l0 N N (a0,a1,a2,a3) (fun y=>k0 y) (fun y=>k1 y) (fun _=>none)
def w26s0 [Alg] N a0 a1 a2 a3 (k0:Bool->O) (k1:Bool->O):=subL w26I0 w26u0 (w26l0 N N) (w26I0 (a0,a1,a2,a3)) (fun y=>k0 y) (fun y=>k1 y) (fun _=>none)
theorem w26e0 [Alg] N:w26s0 N=w26n0 N:=funext fun _=>funext fun _=>funext fun _=>funext fun _=>funext fun _=>funext fun _=>subL_I w26ui0 _ _ _ _
theorem w26q0 [Alg] (N:Nat) (self:Sg->O) (K:Exit->Sg->O) (x:(List ((List Int)×(Int×Int)))×(List ((List Int)×(Int×Int)))×Bool×Int):w26F0 N (fun v0=>self (w26I0 (x.1,x.2.1,x.2.2.1,v0))) (fun y0=>K (w26X0_0 y0).1 (w26X0_0 y0).2) (fun y0=>K (w26X0_1 y0).1 (w26X0_1 y0).2) x.1 x.2.1 x.2.2.1 x.2.2.2=exec (w26c N) Tryd.f26.ntmps .d w26b0 (w26I0 x) (roundX w26m0 w26w0 self K):=by kernel_rfl
theorem w26S0 N (hc:CxOk (w26c N)):SubOk (w26c N) Tryd.f26.ntmps (.loop w26b0) w26X0_0 w26X0_1 (noX 2) (subL w26I0 w26u0 (w26l0 N N)):=
 sub_loop hc (hk_d w26b0) (oK2 w26v0_0 w26v0_1 .ret (.exit 0) (fun _=>by kernel_rfl) (fun _=>by kernel_rfl) (fun _=>rfl) (fun _=>rfl) (by kernel_rfl)) (n:=N) (fun x K=>loop_ind (w26l0 N) (fun _ _ _ _=>rfl) (fun n K ih x=>by
  refine Eq.trans ?_ (w26q0 N _ K x);simp only [← ih];rfl) N x K)
def w26G [Alg] (_:Nat) (in0:(List ((List Int)×(Int×Int)))->(List ((List Int)×(Int×Int)))->Bool->Int->(Bool->O)->(Bool->O)->O) (a0:(List ((List Int)×(Int×Int)))) (b1:(List ((List Int)×(Int×Int)))):O:=
 br (decide ((↑a0.length:Int)≠(↑b1.length:Int)))
  (some (w26r0 false))
  (in0 a0 b1 false 0
   (fun z19=>
    some (w26r0 z19))
   (fun _=>
    some (w26r0 true)))
def w26 [Alg] N a0 b1:=w26G N (w26n0 N) a0 b1
def w26h [Alg] (N:Nat):Hint:=(.seq .d (.seq .d (.seq (.seq .d (.block (.sub w26m0 _ _ _ w26X0_0 w26X0_1 (noX 2) (subL w26I0 w26u0 (w26l0 N N))))) .d)))
theorem w26hk N (hc:CxOk (w26c N)):HintOk (w26c N) Tryd.f26.ntmps (w26h N) w26b:=hk_of _ _ (And.intro trivial (And.intro trivial (And.intro (And.intro trivial (w26S0 N hc)) trivial)))
theorem w26q [Alg] N a0 b1:w26G N (w26s0 N) a0 b1=exec (w26c N) Tryd.f26.ntmps (w26h N) w26b ⟨argT 0 [.e (.sl (.pr (.sl (.i .i64)) (.pr (.i .i64) (.i .i64)))) a0,.e (.sl (.pr (.sl (.i .i64)) (.pr (.i .i64) (.i .i64)))) b1],[],100⟩ (finX (w26c N) Tryd.f26 false):=by kernel_rfl
def w26un (r:Res):Option (Bool):=match r with
 | (x0,[])=>(match ue .bo x0 with | some a0=>some a0 | _=>none)
 | _=>none
theorem w26uo {r d} (h:w26un r=some d):r=w26r0 (d):=by
 unfold w26un at h;split at h
 ·split at h
  ·rename_i h0;cases h;rw [ue_some h0];rfl
  ·cases h
 ·cases h
def w26z N a0 b1:=(w26 N a0 b1).bind w26un
theorem w26fin {N} (hc:CxOk (w26c N)) {a0 b1 d} (hd:w26z N a0 b1=some d):DoK Tryd.prog 26 [.e (.sl (.pr (.sl (.i .i64)) (.pr (.i .i64) (.i .i64)))) a0,.e (.sl (.pr (.sl (.i .i64)) (.pr (.i .i64) (.i .i64)))) b1] [] (w26r0 (d)):=
 finJ hc (by kernel_rfl) (by kernel_rfl) (w26hk N hc) (by kernel_rfl) w26uo (fun hr=>(w26q N a0 b1).symm.trans (by rw [w26e0 N];exact hr)) hd
def w26p N a0 b1:=(w26z N a0 b1).isSome
def w26y0 N a0 b1:=((w26z N a0 b1).getD false)
def w26e (N:Nat):Ent':=E2 (.sl (.pr (.sl (.i .i64)) (.pr (.i .i64) (.i .i64)))) (.sl (.pr (.sl (.i .i64)) (.pr (.i .i64) (.i .i64)))) (fun x0 x1=>(w26p N x0 x1,w26r0 (w26y0 N x0 x1)))
theorem w26ok N:EOk Tryd.prog 26 (w26e N):=EOk.e2 (fun x0 x1 h=>okG (z:=w26z N x0 x1) h (w26fin (w26cx N)) rfl)
def w14r0 (a0:Bool):Res:=(.e .bo a0,[])
def w14c (_:Nat):Cx:=⟨Tryd.prog,99999,[],[]⟩
def w14b:Code:=Tryd.f14.body.getD .skip
theorem w14cx N:CxOk (w14c N):=ctx_ok (by kernel_rfl) .nil .nil
def w14F0 [Alg] (_:Nat) (self:Int->O) (k0:Bool->O) (k1:Bool->O) (x0_0 x0_1:(List Bool)) (x0_2:Bool) (x0_3:Int):O:=
 br (decide (x0_3 < (↑x0_0.length:Int)))
  (gx x0_0 x0_3 fun y5=>
  gx x0_1 x0_3 fun y6=>
  br (!y5 == y6)
   (k0 false)
   (self (IntKind.i64.wrap (x0_3+1))))
  (k1 x0_2)
def w14b0:Code:=atC [1,1,0,1,0,0] w14b
def w14m0:Nm:=⟨[0,1,4,5],[],[]⟩
def w14I0 (x:(List Bool)×(List Bool)×Bool×Int):Sg:=⟨[(0,.e (.sl .bo) x.1),(1,.e (.sl .bo) x.2.1),(4,.e .bo x.2.2.1),(5,.e (.i .i64) x.2.2.2)],[],100⟩
def w14u0 (σ:Sg):(List Bool)×(List Bool)×Bool×Int:=(lvT (.sl .bo) 0 0 σ,lvT (.sl .bo) 1 0 σ,lvT .bo 4 0 σ,lvT (.i .i64) 5 0 σ)
theorem w14ui0:∀ x,w14u0 (w14I0 x)=x:=fun _=>by kernel_rfl
def w14X0_0 (y:Bool):Exit×Sg:=(.ret,⟨[(4,.e .bo y)],[],100⟩)
def w14v0_0 (_:Exit) (σ:Sg):Bool:=lvT .bo 4 0 σ
def w14X0_1 (y:Bool):Exit×Sg:=((.exit 0),⟨[(4,.e .bo y)],[],100⟩)
def w14v0_1 (_:Exit) (σ:Sg):Bool:=lvT .bo 4 0 σ
def w14w0:List (Exit×Nm):=[(.ret,⟨[4],[],[]⟩),((.exit 0),⟨[4],[],[]⟩)]
def w14l0 [Alg] (N:Nat):Nat->((List Bool)×(List Bool)×Bool×Int)->((Bool)->O)->((Bool)->O)->((Unit)->O)->O
 | 0,_,_,_,_=>none
 | n+1,x,k0,k1,k2=>w14F0 N (fun v0=>w14l0 N n (x.1,x.2.1,x.2.2.1,v0) k0 k1 k2) (fun y0=>k0 y0) (fun y0=>k1 y0) x.1 x.2.1 x.2.2.1 x.2.2.2
def w14n0 [Alg] N a0 a1 a2 a3 (k0:Bool->O) (k1:Bool->O):=w14l0 N N (a0,a1,a2,a3) (fun y=>k0 y) (fun y=>k1 y) (fun _=>none)
def w14s0 [Alg] N a0 a1 a2 a3 (k0:Bool->O) (k1:Bool->O):=subL w14I0 w14u0 (w14l0 N N) (w14I0 (a0,a1,a2,a3)) (fun y=>k0 y) (fun y=>k1 y) (fun _=>none)
theorem w14e0 [Alg] N:w14s0 N=w14n0 N:=funext fun _=>funext fun _=>funext fun _=>funext fun _=>funext fun _=>funext fun _=>subL_I w14ui0 _ _ _ _
theorem w14q0 [Alg] (N:Nat) (self:Sg->O) (K:Exit->Sg->O) (x:(List Bool)×(List Bool)×Bool×Int):w14F0 N (fun v0=>self (w14I0 (x.1,x.2.1,x.2.2.1,v0))) (fun y0=>K (w14X0_0 y0).1 (w14X0_0 y0).2) (fun y0=>K (w14X0_1 y0).1 (w14X0_1 y0).2) x.1 x.2.1 x.2.2.1 x.2.2.2=exec (w14c N) Tryd.f14.ntmps .d w14b0 (w14I0 x) (roundX w14m0 w14w0 self K):=by kernel_rfl
theorem w14S0 N (hc:CxOk (w14c N)):SubOk (w14c N) Tryd.f14.ntmps (.loop w14b0) w14X0_0 w14X0_1 (noX 2) (subL w14I0 w14u0 (w14l0 N N)):=
 sub_loop hc (hk_d w14b0) (oK2 w14v0_0 w14v0_1 .ret (.exit 0) (fun _=>by kernel_rfl) (fun _=>by kernel_rfl) (fun _=>rfl) (fun _=>rfl) (by kernel_rfl)) (n:=N) (fun x K=>loop_ind (w14l0 N) (fun _ _ _ _=>rfl) (fun n K ih x=>by
  refine Eq.trans ?_ (w14q0 N _ K x);simp only [← ih];rfl) N x K)
def w14G [Alg] (_:Nat) (in0:(List Bool)->(List Bool)->Bool->Int->(Bool->O)->(Bool->O)->O) (a0 b1:(List Bool)):O:=
 br (decide ((↑a0.length:Int)≠(↑b1.length:Int)))
  (some (w14r0 false))
  (in0 a0 b1 false 0
   (fun z7=>
    some (w14r0 z7))
   (fun _=>
    some (w14r0 true)))
def w14 [Alg] N a0 b1:=w14G N (w14n0 N) a0 b1
def w14h [Alg] (N:Nat):Hint:=(.seq .d (.seq .d (.seq (.seq .d (.block (.sub w14m0 _ _ _ w14X0_0 w14X0_1 (noX 2) (subL w14I0 w14u0 (w14l0 N N))))) .d)))
theorem w14hk N (hc:CxOk (w14c N)):HintOk (w14c N) Tryd.f14.ntmps (w14h N) w14b:=hk_of _ _ (And.intro trivial (And.intro trivial (And.intro (And.intro trivial (w14S0 N hc)) trivial)))
theorem w14q [Alg] N a0 b1:w14G N (w14s0 N) a0 b1=exec (w14c N) Tryd.f14.ntmps (w14h N) w14b ⟨argT 0 [.e (.sl .bo) a0,.e (.sl .bo) b1],[],100⟩ (finX (w14c N) Tryd.f14 false):=by kernel_rfl
def w14un (r:Res):Option (Bool):=match r with
 | (x0,[])=>(match ue .bo x0 with | some a0=>some a0 | _=>none)
 | _=>none
theorem w14uo {r d} (h:w14un r=some d):r=w14r0 (d):=by
 unfold w14un at h;split at h
 ·split at h
  ·rename_i h0;cases h;rw [ue_some h0];rfl
  ·cases h
 ·cases h
def w14z N a0 b1:=(w14 N a0 b1).bind w14un
theorem w14fin {N} (hc:CxOk (w14c N)) {a0 b1 d} (hd:w14z N a0 b1=some d):DoK Tryd.prog 14 [.e (.sl .bo) a0,.e (.sl .bo) b1] [] (w14r0 (d)):=
 finJ hc (by kernel_rfl) (by kernel_rfl) (w14hk N hc) (by kernel_rfl) w14uo (fun hr=>(w14q N a0 b1).symm.trans (by rw [w14e0 N];exact hr)) hd
def w14p N a0 b1:=(w14z N a0 b1).isSome
def w14y0 N a0 b1:=((w14z N a0 b1).getD false)
def w14e (N:Nat):Ent':=E2 (.sl .bo) (.sl .bo) (fun x0 x1=>(w14p N x0 x1,w14r0 (w14y0 N x0 x1)))
theorem w14ok N:EOk Tryd.prog 14 (w14e N):=EOk.e2 (fun x0 x1 h=>okG (z:=w14z N x0 x1) h (w14fin (w14cx N)) rfl)
def w15r0 (a0:Bool):Res:=(.e .bo a0,[])
def w15c (N:Nat):Cx:=⟨Tryd.prog,99999,[(24,w24e N),(11,w11e N),(17,w17e N),(16,w16e N),(27,w27e N),(26,w26e N),(14,w14e N)],[]⟩
def w15b:Code:=Tryd.f15.body.getD .skip
theorem w15cx N:CxOk (w15c N):=ctx_ok (by kernel_rfl) (.cons (by kernel_rfl) (w24ok N) (.cons (by kernel_rfl) (w11ok N) (.cons (by kernel_rfl) (w17ok N) (.cons (by kernel_rfl) (w16ok N) (.cons (by kernel_rfl) (w27ok N) (.cons (by kernel_rfl) (w26ok N) (.cons (by kernel_rfl) (w14ok N) .nil))))))) .nil
def w15G [Alg] (N:Nat):O:=
 ck (w24p N lF3x0) <|
 ck (w11p N (w24y0 N lF3x0)) <|
 ck (w17p N (5:Int)) <|
 ck (w16p N (w24y0 N lF3x0) (w17y0 N (5:Int))) <|
 ck (w17p N (1:Int)) <|
 ck (w16p N (w24y0 N lF3x0) (w17y0 N (1:Int))) <|
 ck (w24p N lF3x1) <|
 ck (w24p N lF3x2) <|
 br (decide (w24y2 N lF3x0≠(0:Int))||decide (w11y4 N (w24y0 N lF3x0)≠(0:Int))||decide (w16y3 N (w24y0 N lF3x0) (w17y0 N (5:Int))≠(0:Int))||decide (w16y3 N (w24y0 N lF3x0) (w17y0 N (1:Int))≠(18:Int))||decide (w24y2 N lF3x1≠(2:Int))||decide (w24y2 N lF3x2≠(2:Int)))
  (some (w15r0 false))
  (ck (w27p N (w24y0 N lF3x0)) <|
  ck (w26p N (w27y0 N (w24y0 N lF3x0)) [([],(1:Int),(60:Int)),([(1:Int),(-3:Int)],(0:Int),(1:Int)),([(1:Int)],(0:Int),(-1:Int))]) <|
  br (w26y0 N (w27y0 N (w24y0 N lF3x0)) [([],(1:Int),(60:Int)),([(1:Int),(-3:Int)],(0:Int),(1:Int)),([(1:Int)],(0:Int),(-1:Int))]&&w11y3 N (w24y0 N lF3x0))
   (ck (!(decide (w11y0 N (w24y0 N lF3x0)=(1:Int))&&decide (w11y1 N (w24y0 N lF3x0)=(2:Int)))||w17p N (1:Int)) <|
   ck (!(decide (w11y0 N (w24y0 N lF3x0)=(1:Int))&&decide (w11y1 N (w24y0 N lF3x0)=(2:Int)))||w14p N (w11y2 N (w24y0 N lF3x0)) (w17y0 N (1:Int))) <|
   br (decide (w11y0 N (w24y0 N lF3x0)=(1:Int))&&decide (w11y1 N (w24y0 N lF3x0)=(2:Int))&&w14y0 N (w11y2 N (w24y0 N lF3x0)) (w17y0 N (1:Int)))
    (some (w15r0 (decide (w16y0 N (w24y0 N lF3x0) (w17y0 N (5:Int))=(0:Int))&&(decide (w16y1 N (w24y0 N lF3x0) (w17y0 N (5:Int))=(60:Int))&&decide (w16y2 N (w24y0 N lF3x0) (w17y0 N (5:Int))=(0:Int)))&&decide (w24y1 N lF3x1=(10:Int))&&decide (w24y1 N lF3x2=(20:Int)))))
    (some (w15r0 (false&&decide (w24y1 N lF3x1=(10:Int))&&decide (w24y1 N lF3x2=(20:Int))))))
   (ck (true||w17p N (1:Int)) <|
   ck (true||w14p N (w11y2 N (w24y0 N lF3x0)) (w17y0 N (1:Int))) <|
   br (false&&w14y0 N (w11y2 N (w24y0 N lF3x0)) (w17y0 N (1:Int)))
    (some (w15r0 (decide (w16y0 N (w24y0 N lF3x0) (w17y0 N (5:Int))=(0:Int))&&(decide (w16y1 N (w24y0 N lF3x0) (w17y0 N (5:Int))=(60:Int))&&decide (w16y2 N (w24y0 N lF3x0) (w17y0 N (5:Int))=(0:Int)))&&decide (w24y1 N lF3x1=(10:Int))&&decide (w24y1 N lF3x2=(20:Int)))))
    (some (w15r0 (false&&decide (w24y1 N lF3x1=(10:Int))&&decide (w24y1 N lF3x2=(20:Int)))))))
def w15 [Alg] (N:Nat):O:=w15G N  
def w15h [Alg] (_:Nat):Hint:=(.seq .d (.seq .d (.seq .d (.seq .d (.seq .d (.seq .d (.seq .d (.seq .d (.seq .d (.seq (.reg [1008,1018] [] []) .d))))))))))
theorem w15hk N:HintOk (w15c N) Tryd.f15.ntmps (w15h N) w15b:=hk_of _ _ (And.intro trivial (And.intro trivial (And.intro trivial (And.intro trivial (And.intro trivial (And.intro trivial (And.intro trivial (And.intro trivial (And.intro trivial (And.intro trivial trivial))))))))))
theorem w15q [Alg] N:w15G N=exec (w15c N) Tryd.f15.ntmps (w15h N) w15b ⟨argT 0 [],[],100⟩ (finX (w15c N) Tryd.f15 false):=by kernel_rfl
def w15un (r:Res):Option (Bool):=match r with
 | (x0,[])=>(match ue .bo x0 with | some a0=>some a0 | _=>none)
 | _=>none
theorem w15uo {r d} (h:w15un r=some d):r=w15r0 (d):=by
 unfold w15un at h;split at h
 ·split at h
  ·rename_i h0;cases h;rw [ue_some h0];rfl
  ·cases h
 ·cases h
def w15z (N:Nat):Option (Bool):=(w15 N ).bind w15un
theorem w15fin {N} (hc:CxOk (w15c N)) {d} (hd:w15z N=some d):DoK Tryd.prog 15 [] [] (w15r0 (d)):=
 finJ hc (by kernel_rfl) (by kernel_rfl) (w15hk N) (by kernel_rfl) w15uo (w15q N).symm.trans hd
end
end Go.Proofs
/- The examples hold. -/
namespace Go.Proofs
open Go Go.Ax
theorem lives60:w15z 60=some true:=by kernel_rfl
theorem l15ok (N:Nat):EOk Tryd.prog 15 (l15e N):=EOk.e0 (fun _=>w15fin (w15cx 60) lives60)
end Go.Proofs
/- What functions do. -/
namespace Go.Proofs
noncomputable section
open Go.Ax Go.Ax.Alg Go.RowKit Go.Ab
open Go
def w18r0 (a0:Int):Res:=(.e (.i .i64) a0,[])
def w18c (_:Nat):Cx:=⟨Tryd.prog,99999,[],[]⟩
def w18b:Code:=Tryd.f18.body.getD .skip
theorem w18cx N:CxOk (w18c N):=ctx_ok (by kernel_rfl) .nil .nil
def w18G [Alg] (_:Nat) (n0 most1:Int):O:=
 br (decide (n0 < 0))
  (br (decide (most1 < 1))
   (some (w18r0 0))
   (ck (decide (most1≠0)) <|
   some (w18r0 ((IntKind.i64.wrap (-IntKind.i64.wrap (n0+1))).tmod most1))))
  (br (decide (most1 < 1))
   (some (w18r0 0))
   (ck (decide (most1≠0)) <|
   some (w18r0 (n0.tmod most1))))
def w18 [Alg] N n0 most1:=w18G N n0 most1
def w18h [Alg] (_:Nat):Hint:=.d
theorem w18hk N:HintOk (w18c N) Tryd.f18.ntmps (w18h N) w18b:=hk_of _ _ trivial
theorem w18q [Alg] N n0 most1:w18G N n0 most1=exec (w18c N) Tryd.f18.ntmps (w18h N) w18b ⟨argT 0 [.e (.i .i64) n0,.e (.i .i64) most1],[],100⟩ (finX (w18c N) Tryd.f18 false):=by kernel_rfl
def w18un (r:Res):Option (Int):=match r with
 | (x0,[])=>(match ue (.i .i64) x0 with | some a0=>some a0 | _=>none)
 | _=>none
theorem w18uo {r d} (h:w18un r=some d):r=w18r0 (d):=by
 unfold w18un at h;split at h
 ·split at h
  ·rename_i h0;cases h;rw [ue_some h0];rfl
  ·cases h
 ·cases h
def w18z N n0 most1:=(w18 N n0 most1).bind w18un
theorem w18fin {N} (hc:CxOk (w18c N)) {n0 most1 d} (hd:w18z N n0 most1=some d):DoK Tryd.prog 18 [.e (.i .i64) n0,.e (.i .i64) most1] [] (w18r0 (d)):=
 finJ hc (by kernel_rfl) (by kernel_rfl) (w18hk N) (by kernel_rfl) w18uo (w18q N n0 most1).symm.trans hd
def w18p N n0 most1:=(w18z N n0 most1).isSome
def w18y0 N n0 most1:=((w18z N n0 most1).getD 0)
def w18e (N:Nat):Ent':=E2 (.i .i64) (.i .i64) (fun x0 x1=>(w18p N x0 x1,w18r0 (w18y0 N x0 x1)))
theorem w18ok N:EOk Tryd.prog 18 (w18e N):=EOk.e2 (fun x0 x1 h=>okG (z:=w18z N x0 x1) h (w18fin (w18cx N)) rfl)
def w28r0 (a0:Int):Res:=(.e (.i .i64) a0,[])
def w28c (N:Nat):Cx:=⟨Tryd.prog,99999,[(18,w18e N)],[]⟩
def w28b:Code:=Tryd.f28.body.getD .skip
theorem w28cx N:CxOk (w28c N):=ctx_ok (by kernel_rfl) (.cons (by kernel_rfl) (w18ok N) .nil) .nil
def w28G [Alg] (N:Nat) (l0:(List Int)) (i1 most2:Int):O:=
 br (decide (i1 < 0)||decide ((↑l0.length:Int)<=i1))
  (some (w28r0 0))
  (gx l0 i1 fun y0=>
  ck (w18p N y0 most2) <|
  some (w28r0 (w18y0 N y0 most2)))
def w28 [Alg] N l0 i1 most2:=w28G N l0 i1 most2
def w28h [Alg] (_:Nat):Hint:=.d
theorem w28hk N:HintOk (w28c N) Tryd.f28.ntmps (w28h N) w28b:=hk_of _ _ trivial
theorem w28q [Alg] N l0 i1 most2:w28G N l0 i1 most2=exec (w28c N) Tryd.f28.ntmps (w28h N) w28b ⟨argT 0 [.e (.sl (.i .i64)) l0,.e (.i .i64) i1,.e (.i .i64) most2],[],100⟩ (finX (w28c N) Tryd.f28 false):=by kernel_rfl
def w28un (r:Res):Option (Int):=match r with
 | (x0,[])=>(match ue (.i .i64) x0 with | some a0=>some a0 | _=>none)
 | _=>none
theorem w28uo {r d} (h:w28un r=some d):r=w28r0 (d):=by
 unfold w28un at h;split at h
 ·split at h
  ·rename_i h0;cases h;rw [ue_some h0];rfl
  ·cases h
 ·cases h
def w28z N l0 i1 most2:=(w28 N l0 i1 most2).bind w28un
theorem w28fin {N} (hc:CxOk (w28c N)) {l0 i1 most2 d} (hd:w28z N l0 i1 most2=some d):DoK Tryd.prog 28 [.e (.sl (.i .i64)) l0,.e (.i .i64) i1,.e (.i .i64) most2] [] (w28r0 (d)):=
 finJ hc (by kernel_rfl) (by kernel_rfl) (w28hk N) (by kernel_rfl) w28uo (w28q N l0 i1 most2).symm.trans hd
def w28p N l0 i1 most2:=(w28z N l0 i1 most2).isSome
def w28y0 N l0 i1 most2:=((w28z N l0 i1 most2).getD 0)
def w28e (N:Nat):Ent':=E3 (.sl (.i .i64)) (.i .i64) (.i .i64) (fun x0 x1 x2=>(w28p N x0 x1 x2,w28r0 (w28y0 N x0 x1 x2)))
theorem w28ok N:EOk Tryd.prog 28 (w28e N):=EOk.e3 (fun x0 x1 x2 h=>okG (z:=w28z N x0 x1 x2) h (w28fin (w28cx N)) rfl)
def w9r0 (a0:(List ((List Int)×(Int×Int)))):Res:=(.e (.sl (.pr (.sl (.i .i64)) (.pr (.i .i64) (.i .i64)))) a0,[])
def w9c (N:Nat):Cx:=⟨Tryd.prog,99999,[(28,w28e N)],[]⟩
def w9b:Code:=Tryd.f9.body.getD .skip
theorem w9cx N:CxOk (w9c N):=ctx_ok (by kernel_rfl) (.cons (by kernel_rfl) (w28ok N) .nil) .nil
def w9F0 [Alg] (N:Nat) (self:Int->Int->(List Int)->O) (k0:(List Int)->Int->Int->Int->Int->(List Int)->Int->Bool->Bool->Bool->(List Int)->Int->Int->Int->(List Int)->Int->Int->Int->Int->Int->Int->Int->Int->(List Int)->Int->Int->Int->Int->Int->Int->Int->Bool->Bool->Bool->(List ((List Int)×(Int×Int)))->(List Int)->Int->Int->(List Int)->O) (x124_0:(List Int)) (x124_1 x124_2:Int) (x124_3 x124_4:Int) (x124_5:(List Int)) (x124_6:Int) (x124_7 x124_8 x124_9:Bool) (x124_10:(List Int)) (x124_11 x124_12 x124_13:Int) (x124_14:(List Int)) (x124_15 x124_16:Int) (x124_17 x124_18:Int) (x124_19 x124_20:Int) (x124_21 x124_22:Int) (x124_23:(List Int)) (x124_24 x124_25:Int) (x124_26 x124_27:Int) (x124_30:(List ((List Int)×(Int×Int)))) (x124_31:(List Int)) (x124_32 x124_33:Int) (x124_28 x124_29:Int) (x124_34:(List Int)):O:=
 br (decide (x124_29<=16)&&decide ((↑x124_34.length:Int) < (8:Int)))
  (ck (!!decide (x124_29<=3)||w28p N x124_0 (IntKind.i64.wrap (IntKind.i64.wrap ((4:Int) * x124_1)+(3:Int))) (4:Int)) <|
  ck (!(decide (x124_29<=3)||decide (w28y0 N x124_0 (IntKind.i64.wrap (IntKind.i64.wrap ((4:Int) * x124_1)+(3:Int))) (4:Int)=(0:Int)))||true) <|
  br ((decide (x124_29<=3)||decide (w28y0 N x124_0 (IntKind.i64.wrap (IntKind.i64.wrap ((4:Int) * x124_1)+(3:Int))) (4:Int)=(0:Int)))&&decide ((0:Int) < x124_28.tmod (3:Int)))
   (ck true <|
   ck (lim (x124_34++[IntKind.i64.wrap (x124_29 * IntKind.i64.wrap (IntKind.i64.wrap ((2:Int) * x124_28.tmod (3:Int)) - (3:Int)))]).length (8:Nat)) <|
   ck true <|
   ck (w28p N x124_0 (IntKind.i64.wrap (IntKind.i64.wrap ((4:Int) * x124_1)+(3:Int))) (1048576:Int)) <|
   ck (decide (IntKind.i64.wrap (x124_29+1)≠(0:Int))) <|
   self (IntKind.i64.wrap (IntKind.i64.wrap (x124_28.tdiv (3:Int))+IntKind.i64.wrap ((w28y0 N x124_0 (IntKind.i64.wrap (IntKind.i64.wrap ((4:Int) * x124_1)+(3:Int))) (1048576:Int)).tdiv (IntKind.i64.wrap (x124_29+1))))) (IntKind.i64.wrap (x124_29+1)) (x124_34++[IntKind.i64.wrap (x124_29 * IntKind.i64.wrap (IntKind.i64.wrap ((2:Int) * x124_28.tmod (3:Int)) - (3:Int)))]))
   (ck true <|
   ck (w28p N x124_0 (IntKind.i64.wrap (IntKind.i64.wrap ((4:Int) * x124_1)+(3:Int))) (1048576:Int)) <|
   ck (decide (IntKind.i64.wrap (x124_29+1)≠(0:Int))) <|
   self (IntKind.i64.wrap (IntKind.i64.wrap (x124_28.tdiv (3:Int))+IntKind.i64.wrap ((w28y0 N x124_0 (IntKind.i64.wrap (IntKind.i64.wrap ((4:Int) * x124_1)+(3:Int))) (1048576:Int)).tdiv (IntKind.i64.wrap (x124_29+1))))) (IntKind.i64.wrap (x124_29+1)) x124_34))
  (k0 x124_0 x124_1 x124_2 x124_3 x124_4 x124_5 x124_6 x124_7 x124_8 x124_9 x124_10 x124_11 x124_12 x124_13 x124_14 x124_15 x124_16 x124_17 x124_18 x124_19 x124_20 x124_21 x124_22 x124_23 x124_24 x124_25 x124_26 x124_27 x124_28 x124_29 x124_29 (decide (x124_29<=16)) (decide (x124_29<=16)) (decide (x124_29<=16)&&decide ((↑x124_34.length:Int) < (8:Int))) x124_30 x124_31 x124_32 x124_33 x124_34)
def w9b0:Code:=atC [1,1,0,1,0,0,1,0,0,1,1,0,1,0,0] w9b
def w9m0:Nm:=⟨[0,2,3,4,9,10,11,12,13,14,15,18,21,22,23,24,25,26,27,28,29,30,31,32,33,5,34,35,36,37,38,6,7],[],[.nilC 5 0 (.row 3 (.i .i64) [] true)]⟩
def w9I0 (x:(List Int)×Int×Int×Int×Int×(List Int)×Int×Bool×Bool×Bool×(List Int)×Int×Int×Int×(List Int)×Int×Int×Int×Int×Int×Int×Int×Int×(List Int)×Int×Int×Int×Int×Int×Int×(List ((List Int)×(Int×Int)))×(List Int)×Int×Int×(List Int)):Sg:=⟨[(0,.e (.sl (.i .i64)) x.1),(2,.nilS),(3,.own 0),(4,.e (.i .i64) x.2.1),(9,.e (.i .i64) x.2.2.1),(10,.e (.i .i64) x.2.2.2.1),(11,.e (.i .i64) x.2.2.2.2.1),(12,.e (.sl (.i .i64)) x.2.2.2.2.2.1),(13,.e (.i .i64) x.2.2.2.2.2.2.1),(14,.e .bo x.2.2.2.2.2.2.2.1),(15,.e .bo x.2.2.2.2.2.2.2.2.1),(18,.e .bo x.2.2.2.2.2.2.2.2.2.1),(21,.e (.sl (.i .i64)) x.2.2.2.2.2.2.2.2.2.2.1),(22,.e (.i .i64) x.2.2.2.2.2.2.2.2.2.2.2.1),(23,.e (.i .i64) x.2.2.2.2.2.2.2.2.2.2.2.2.1),(24,.e (.i .i64) x.2.2.2.2.2.2.2.2.2.2.2.2.2.1),(25,.own 1),(26,.e (.sl (.i .i64)) x.2.2.2.2.2.2.2.2.2.2.2.2.2.2.1),(27,.e (.i .i64) x.2.2.2.2.2.2.2.2.2.2.2.2.2.2.2.1),(28,.e (.i .i64) x.2.2.2.2.2.2.2.2.2.2.2.2.2.2.2.2.1),(29,.e (.i .i64) x.2.2.2.2.2.2.2.2.2.2.2.2.2.2.2.2.2.1),(30,.e (.i .i64) x.2.2.2.2.2.2.2.2.2.2.2.2.2.2.2.2.2.2.1),(31,.pt (.i .i64) x.2.2.2.2.2.2.2.2.2.2.2.2.2.2.2.2.2.2.2.1 0),(32,.e (.i .i64) x.2.2.2.2.2.2.2.2.2.2.2.2.2.2.2.2.2.2.2.2.1),(33,.agg [.nilS,.e (.i .i64) x.2.2.2.2.2.2.2.2.2.2.2.2.2.2.2.2.2.2.2.2.2.1,.e (.i .i64) x.2.2.2.2.2.2.2.2.2.2.2.2.2.2.2.2.2.2.2.2.2.2.1]),(5,.ref 2 0),(34,.e (.sl (.i .i64)) x.2.2.2.2.2.2.2.2.2.2.2.2.2.2.2.2.2.2.2.2.2.2.2.1),(35,.e (.i .i64) x.2.2.2.2.2.2.2.2.2.2.2.2.2.2.2.2.2.2.2.2.2.2.2.2.1),(36,.e (.i .i64) x.2.2.2.2.2.2.2.2.2.2.2.2.2.2.2.2.2.2.2.2.2.2.2.2.2.1),(37,.e (.i .i64) x.2.2.2.2.2.2.2.2.2.2.2.2.2.2.2.2.2.2.2.2.2.2.2.2.2.2.1),(38,.e (.i .i64) x.2.2.2.2.2.2.2.2.2.2.2.2.2.2.2.2.2.2.2.2.2.2.2.2.2.2.2.1),(6,.e (.i .i64) x.2.2.2.2.2.2.2.2.2.2.2.2.2.2.2.2.2.2.2.2.2.2.2.2.2.2.2.2.1),(7,.e (.i .i64) x.2.2.2.2.2.2.2.2.2.2.2.2.2.2.2.2.2.2.2.2.2.2.2.2.2.2.2.2.2.1)],[(0,.row 49 (.pr (.sl (.i .i64)) (.pr (.i .i64) (.i .i64))) x.2.2.2.2.2.2.2.2.2.2.2.2.2.2.2.2.2.2.2.2.2.2.2.2.2.2.2.2.2.2.1 true),(1,.row 3 (.i .i64) x.2.2.2.2.2.2.2.2.2.2.2.2.2.2.2.2.2.2.2.2.2.2.2.2.2.2.2.2.2.2.2.1 true),(2,.box 49 [.own 3,.e (.i .i64) x.2.2.2.2.2.2.2.2.2.2.2.2.2.2.2.2.2.2.2.2.2.2.2.2.2.2.2.2.2.2.2.2.1,.e (.i .i64) x.2.2.2.2.2.2.2.2.2.2.2.2.2.2.2.2.2.2.2.2.2.2.2.2.2.2.2.2.2.2.2.2.2.1]),(3,.row 3 (.i .i64) x.2.2.2.2.2.2.2.2.2.2.2.2.2.2.2.2.2.2.2.2.2.2.2.2.2.2.2.2.2.2.2.2.2.2 true)],100⟩
def w9u0 (σ:Sg):(List Int)×Int×Int×Int×Int×(List Int)×Int×Bool×Bool×Bool×(List Int)×Int×Int×Int×(List Int)×Int×Int×Int×Int×Int×Int×Int×Int×(List Int)×Int×Int×Int×Int×Int×Int×(List ((List Int)×(Int×Int)))×(List Int)×Int×Int×(List Int):=(lvT (.sl (.i .i64)) 0 0 σ,lvT (.i .i64) 4 0 σ,lvT (.i .i64) 9 0 σ,lvT (.i .i64) 10 0 σ,lvT (.i .i64) 11 0 σ,lvT (.sl (.i .i64)) 12 0 σ,lvT (.i .i64) 13 0 σ,lvT .bo 14 0 σ,lvT .bo 15 0 σ,lvT .bo 18 0 σ,lvT (.sl (.i .i64)) 21 0 σ,lvT (.i .i64) 22 0 σ,lvT (.i .i64) 23 0 σ,lvT (.i .i64) 24 0 σ,lvT (.sl (.i .i64)) 26 0 σ,lvT (.i .i64) 27 0 σ,lvT (.i .i64) 28 0 σ,lvT (.i .i64) 29 0 σ,lvT (.i .i64) 30 0 σ,lvT (.i .i64) 31 0 σ,lvT (.i .i64) 32 0 σ,lvT (.i .i64) 33 1 σ,lvT (.i .i64) 33 2 σ,lvT (.sl (.i .i64)) 34 0 σ,lvT (.i .i64) 35 0 σ,lvT (.i .i64) 36 0 σ,lvT (.i .i64) 37 0 σ,lvT (.i .i64) 38 0 σ,lvT (.i .i64) 6 0 σ,lvT (.i .i64) 7 0 σ,lvR (.pr (.sl (.i .i64)) (.pr (.i .i64) (.i .i64))) 0 σ,lvR (.i .i64) 1 σ,lvH (.i .i64) 2 1 σ,lvH (.i .i64) 2 2 σ,lvR (.i .i64) 3 σ)
theorem w9ui0:∀ x,w9u0 (w9I0 x)=x:=fun _=>by kernel_rfl
def w9X0_0 (y:(List Int)×Int×Int×Int×Int×(List Int)×Int×Bool×Bool×Bool×(List Int)×Int×Int×Int×(List Int)×Int×Int×Int×Int×Int×Int×Int×Int×(List Int)×Int×Int×Int×Int×Int×Int×Int×Bool×Bool×Bool×(List ((List Int)×(Int×Int)))×(List Int)×Int×Int×(List Int)):Exit×Sg:=((.exit 2),⟨[(0,.e (.sl (.i .i64)) y.1),(2,.nilS),(3,.own 0),(4,.e (.i .i64) y.2.1),(9,.e (.i .i64) y.2.2.1),(10,.e (.i .i64) y.2.2.2.1),(11,.e (.i .i64) y.2.2.2.2.1),(12,.e (.sl (.i .i64)) y.2.2.2.2.2.1),(13,.e (.i .i64) y.2.2.2.2.2.2.1),(14,.e .bo y.2.2.2.2.2.2.2.1),(15,.e .bo y.2.2.2.2.2.2.2.2.1),(18,.e .bo y.2.2.2.2.2.2.2.2.2.1),(21,.e (.sl (.i .i64)) y.2.2.2.2.2.2.2.2.2.2.1),(22,.e (.i .i64) y.2.2.2.2.2.2.2.2.2.2.2.1),(23,.e (.i .i64) y.2.2.2.2.2.2.2.2.2.2.2.2.1),(24,.e (.i .i64) y.2.2.2.2.2.2.2.2.2.2.2.2.2.1),(25,.own 1),(26,.e (.sl (.i .i64)) y.2.2.2.2.2.2.2.2.2.2.2.2.2.2.1),(27,.e (.i .i64) y.2.2.2.2.2.2.2.2.2.2.2.2.2.2.2.1),(28,.e (.i .i64) y.2.2.2.2.2.2.2.2.2.2.2.2.2.2.2.2.1),(29,.e (.i .i64) y.2.2.2.2.2.2.2.2.2.2.2.2.2.2.2.2.2.1),(30,.e (.i .i64) y.2.2.2.2.2.2.2.2.2.2.2.2.2.2.2.2.2.2.1),(31,.pt (.i .i64) y.2.2.2.2.2.2.2.2.2.2.2.2.2.2.2.2.2.2.2.1 0),(32,.e (.i .i64) y.2.2.2.2.2.2.2.2.2.2.2.2.2.2.2.2.2.2.2.2.1),(33,.agg [.nilS,.e (.i .i64) y.2.2.2.2.2.2.2.2.2.2.2.2.2.2.2.2.2.2.2.2.2.1,.e (.i .i64) y.2.2.2.2.2.2.2.2.2.2.2.2.2.2.2.2.2.2.2.2.2.2.1]),(5,.ref 2 0),(34,.e (.sl (.i .i64)) y.2.2.2.2.2.2.2.2.2.2.2.2.2.2.2.2.2.2.2.2.2.2.2.1),(35,.e (.i .i64) y.2.2.2.2.2.2.2.2.2.2.2.2.2.2.2.2.2.2.2.2.2.2.2.2.1),(36,.e (.i .i64) y.2.2.2.2.2.2.2.2.2.2.2.2.2.2.2.2.2.2.2.2.2.2.2.2.2.1),(37,.e (.i .i64) y.2.2.2.2.2.2.2.2.2.2.2.2.2.2.2.2.2.2.2.2.2.2.2.2.2.2.1),(38,.e (.i .i64) y.2.2.2.2.2.2.2.2.2.2.2.2.2.2.2.2.2.2.2.2.2.2.2.2.2.2.2.1),(6,.e (.i .i64) y.2.2.2.2.2.2.2.2.2.2.2.2.2.2.2.2.2.2.2.2.2.2.2.2.2.2.2.2.1),(7,.e (.i .i64) y.2.2.2.2.2.2.2.2.2.2.2.2.2.2.2.2.2.2.2.2.2.2.2.2.2.2.2.2.2.1),(39,.e (.i .i64) y.2.2.2.2.2.2.2.2.2.2.2.2.2.2.2.2.2.2.2.2.2.2.2.2.2.2.2.2.2.2.1),(40,.e .bo y.2.2.2.2.2.2.2.2.2.2.2.2.2.2.2.2.2.2.2.2.2.2.2.2.2.2.2.2.2.2.2.1),(41,.e .bo y.2.2.2.2.2.2.2.2.2.2.2.2.2.2.2.2.2.2.2.2.2.2.2.2.2.2.2.2.2.2.2.2.1),(46,.e .bo y.2.2.2.2.2.2.2.2.2.2.2.2.2.2.2.2.2.2.2.2.2.2.2.2.2.2.2.2.2.2.2.2.2.1)],[(0,.row 49 (.pr (.sl (.i .i64)) (.pr (.i .i64) (.i .i64))) y.2.2.2.2.2.2.2.2.2.2.2.2.2.2.2.2.2.2.2.2.2.2.2.2.2.2.2.2.2.2.2.2.2.2.1 true),(1,.row 3 (.i .i64) y.2.2.2.2.2.2.2.2.2.2.2.2.2.2.2.2.2.2.2.2.2.2.2.2.2.2.2.2.2.2.2.2.2.2.2.1 true),(2,.box 49 [.own 3,.e (.i .i64) y.2.2.2.2.2.2.2.2.2.2.2.2.2.2.2.2.2.2.2.2.2.2.2.2.2.2.2.2.2.2.2.2.2.2.2.2.1,.e (.i .i64) y.2.2.2.2.2.2.2.2.2.2.2.2.2.2.2.2.2.2.2.2.2.2.2.2.2.2.2.2.2.2.2.2.2.2.2.2.2.1]),(3,.row 3 (.i .i64) y.2.2.2.2.2.2.2.2.2.2.2.2.2.2.2.2.2.2.2.2.2.2.2.2.2.2.2.2.2.2.2.2.2.2.2.2.2.2 true)],100⟩)
def w9v0_0 (_:Exit) (σ:Sg):(List Int)×Int×Int×Int×Int×(List Int)×Int×Bool×Bool×Bool×(List Int)×Int×Int×Int×(List Int)×Int×Int×Int×Int×Int×Int×Int×Int×(List Int)×Int×Int×Int×Int×Int×Int×Int×Bool×Bool×Bool×(List ((List Int)×(Int×Int)))×(List Int)×Int×Int×(List Int):=(lvT (.sl (.i .i64)) 0 0 σ,lvT (.i .i64) 4 0 σ,lvT (.i .i64) 9 0 σ,lvT (.i .i64) 10 0 σ,lvT (.i .i64) 11 0 σ,lvT (.sl (.i .i64)) 12 0 σ,lvT (.i .i64) 13 0 σ,lvT .bo 14 0 σ,lvT .bo 15 0 σ,lvT .bo 18 0 σ,lvT (.sl (.i .i64)) 21 0 σ,lvT (.i .i64) 22 0 σ,lvT (.i .i64) 23 0 σ,lvT (.i .i64) 24 0 σ,lvT (.sl (.i .i64)) 26 0 σ,lvT (.i .i64) 27 0 σ,lvT (.i .i64) 28 0 σ,lvT (.i .i64) 29 0 σ,lvT (.i .i64) 30 0 σ,lvT (.i .i64) 31 0 σ,lvT (.i .i64) 32 0 σ,lvT (.i .i64) 33 1 σ,lvT (.i .i64) 33 2 σ,lvT (.sl (.i .i64)) 34 0 σ,lvT (.i .i64) 35 0 σ,lvT (.i .i64) 36 0 σ,lvT (.i .i64) 37 0 σ,lvT (.i .i64) 38 0 σ,lvT (.i .i64) 6 0 σ,lvT (.i .i64) 7 0 σ,lvT (.i .i64) 39 0 σ,lvT .bo 40 0 σ,lvT .bo 41 0 σ,lvT .bo 46 0 σ,lvR (.pr (.sl (.i .i64)) (.pr (.i .i64) (.i .i64))) 0 σ,lvR (.i .i64) 1 σ,lvH (.i .i64) 2 1 σ,lvH (.i .i64) 2 2 σ,lvR (.i .i64) 3 σ)
def w9w0:List (Exit×Nm):=[((.exit 2),⟨[0,2,3,4,9,10,11,12,13,14,15,18,21,22,23,24,25,26,27,28,29,30,31,32,33,5,34,35,36,37,38,6,7,39,40,41,46],[],[]⟩)]
def w9l0 [Alg] (N:Nat):Nat->((List Int)×Int×Int×Int×Int×(List Int)×Int×Bool×Bool×Bool×(List Int)×Int×Int×Int×(List Int)×Int×Int×Int×Int×Int×Int×Int×Int×(List Int)×Int×Int×Int×Int×Int×Int×(List ((List Int)×(Int×Int)))×(List Int)×Int×Int×(List Int))->(((List Int)×Int×Int×Int×Int×(List Int)×Int×Bool×Bool×Bool×(List Int)×Int×Int×Int×(List Int)×Int×Int×Int×Int×Int×Int×Int×Int×(List Int)×Int×Int×Int×Int×Int×Int×Int×Bool×Bool×Bool×(List ((List Int)×(Int×Int)))×(List Int)×Int×Int×(List Int))->O)->((Unit)->O)->((Unit)->O)->O
 | 0,_,_,_,_=>none
 | n+1,x,k0,k1,k2=>w9F0 N (fun v0 v1 v2=>w9l0 N n (x.1,x.2.1,x.2.2.1,x.2.2.2.1,x.2.2.2.2.1,x.2.2.2.2.2.1,x.2.2.2.2.2.2.1,x.2.2.2.2.2.2.2.1,x.2.2.2.2.2.2.2.2.1,x.2.2.2.2.2.2.2.2.2.1,x.2.2.2.2.2.2.2.2.2.2.1,x.2.2.2.2.2.2.2.2.2.2.2.1,x.2.2.2.2.2.2.2.2.2.2.2.2.1,x.2.2.2.2.2.2.2.2.2.2.2.2.2.1,x.2.2.2.2.2.2.2.2.2.2.2.2.2.2.1,x.2.2.2.2.2.2.2.2.2.2.2.2.2.2.2.1,x.2.2.2.2.2.2.2.2.2.2.2.2.2.2.2.2.1,x.2.2.2.2.2.2.2.2.2.2.2.2.2.2.2.2.2.1,x.2.2.2.2.2.2.2.2.2.2.2.2.2.2.2.2.2.2.1,x.2.2.2.2.2.2.2.2.2.2.2.2.2.2.2.2.2.2.2.1,x.2.2.2.2.2.2.2.2.2.2.2.2.2.2.2.2.2.2.2.2.1,x.2.2.2.2.2.2.2.2.2.2.2.2.2.2.2.2.2.2.2.2.2.1,x.2.2.2.2.2.2.2.2.2.2.2.2.2.2.2.2.2.2.2.2.2.2.1,x.2.2.2.2.2.2.2.2.2.2.2.2.2.2.2.2.2.2.2.2.2.2.2.1,x.2.2.2.2.2.2.2.2.2.2.2.2.2.2.2.2.2.2.2.2.2.2.2.2.1,x.2.2.2.2.2.2.2.2.2.2.2.2.2.2.2.2.2.2.2.2.2.2.2.2.2.1,x.2.2.2.2.2.2.2.2.2.2.2.2.2.2.2.2.2.2.2.2.2.2.2.2.2.2.1,x.2.2.2.2.2.2.2.2.2.2.2.2.2.2.2.2.2.2.2.2.2.2.2.2.2.2.2.1,v0,v1,x.2.2.2.2.2.2.2.2.2.2.2.2.2.2.2.2.2.2.2.2.2.2.2.2.2.2.2.2.2.2.1,x.2.2.2.2.2.2.2.2.2.2.2.2.2.2.2.2.2.2.2.2.2.2.2.2.2.2.2.2.2.2.2.1,x.2.2.2.2.2.2.2.2.2.2.2.2.2.2.2.2.2.2.2.2.2.2.2.2.2.2.2.2.2.2.2.2.1,x.2.2.2.2.2.2.2.2.2.2.2.2.2.2.2.2.2.2.2.2.2.2.2.2.2.2.2.2.2.2.2.2.2.1,v2) k0 k1 k2) (fun y0 y1 y2 y3 y4 y5 y6 y7 y8 y9 y10 y11 y12 y13 y14 y15 y16 y17 y18 y19 y20 y21 y22 y23 y24 y25 y26 y27 y28 y29 y30 y31 y32 y33 y34 y35 y36 y37 y38=>k0 (y0,y1,y2,y3,y4,y5,y6,y7,y8,y9,y10,y11,y12,y13,y14,y15,y16,y17,y18,y19,y20,y21,y22,y23,y24,y25,y26,y27,y28,y29,y30,y31,y32,y33,y34,y35,y36,y37,y38)) x.1 x.2.1 x.2.2.1 x.2.2.2.1 x.2.2.2.2.1 x.2.2.2.2.2.1 x.2.2.2.2.2.2.1 x.2.2.2.2.2.2.2.1 x.2.2.2.2.2.2.2.2.1 x.2.2.2.2.2.2.2.2.2.1 x.2.2.2.2.2.2.2.2.2.2.1 x.2.2.2.2.2.2.2.2.2.2.2.1 x.2.2.2.2.2.2.2.2.2.2.2.2.1 x.2.2.2.2.2.2.2.2.2.2.2.2.2.1 x.2.2.2.2.2.2.2.2.2.2.2.2.2.2.1 x.2.2.2.2.2.2.2.2.2.2.2.2.2.2.2.1 x.2.2.2.2.2.2.2.2.2.2.2.2.2.2.2.2.1 x.2.2.2.2.2.2.2.2.2.2.2.2.2.2.2.2.2.1 x.2.2.2.2.2.2.2.2.2.2.2.2.2.2.2.2.2.2.1 x.2.2.2.2.2.2.2.2.2.2.2.2.2.2.2.2.2.2.2.1 x.2.2.2.2.2.2.2.2.2.2.2.2.2.2.2.2.2.2.2.2.1 x.2.2.2.2.2.2.2.2.2.2.2.2.2.2.2.2.2.2.2.2.2.1 x.2.2.2.2.2.2.2.2.2.2.2.2.2.2.2.2.2.2.2.2.2.2.1 x.2.2.2.2.2.2.2.2.2.2.2.2.2.2.2.2.2.2.2.2.2.2.2.1 x.2.2.2.2.2.2.2.2.2.2.2.2.2.2.2.2.2.2.2.2.2.2.2.2.1 x.2.2.2.2.2.2.2.2.2.2.2.2.2.2.2.2.2.2.2.2.2.2.2.2.2.1 x.2.2.2.2.2.2.2.2.2.2.2.2.2.2.2.2.2.2.2.2.2.2.2.2.2.2.1 x.2.2.2.2.2.2.2.2.2.2.2.2.2.2.2.2.2.2.2.2.2.2.2.2.2.2.2.1 x.2.2.2.2.2.2.2.2.2.2.2.2.2.2.2.2.2.2.2.2.2.2.2.2.2.2.2.2.2.2.1 x.2.2.2.2.2.2.2.2.2.2.2.2.2.2.2.2.2.2.2.2.2.2.2.2.2.2.2.2.2.2.2.1 x.2.2.2.2.2.2.2.2.2.2.2.2.2.2.2.2.2.2.2.2.2.2.2.2.2.2.2.2.2.2.2.2.1 x.2.2.2.2.2.2.2.2.2.2.2.2.2.2.2.2.2.2.2.2.2.2.2.2.2.2.2.2.2.2.2.2.2.1 x.2.2.2.2.2.2.2.2.2.2.2.2.2.2.2.2.2.2.2.2.2.2.2.2.2.2.2.2.1 x.2.2.2.2.2.2.2.2.2.2.2.2.2.2.2.2.2.2.2.2.2.2.2.2.2.2.2.2.2.1 x.2.2.2.2.2.2.2.2.2.2.2.2.2.2.2.2.2.2.2.2.2.2.2.2.2.2.2.2.2.2.2.2.2.2
def w9n0 [Alg] N a0 a1 a2 a3 a4 a5 a6 a7 a8 a9 a10 a11 a12 a13 a14 a15 a16 a17 a18 a19 a20 a21 a22 a23 a24 a25 a26 a27 a28 a29 a30 a31 a32 a33 a34 (k0:(List Int)->Int->Int->Int->Int->(List Int)->Int->Bool->Bool->Bool->(List Int)->Int->Int->Int->(List Int)->Int->Int->Int->Int->Int->Int->Int->Int->(List Int)->Int->Int->Int->Int->Int->Int->Int->Bool->Bool->Bool->(List ((List Int)×(Int×Int)))->(List Int)->Int->Int->(List Int)->O):=w9l0 N N (a0,a1,a2,a3,a4,a5,a6,a7,a8,a9,a10,a11,a12,a13,a14,a15,a16,a17,a18,a19,a20,a21,a22,a23,a24,a25,a26,a27,a28,a29,a30,a31,a32,a33,a34) (fun y=>k0 y.1 y.2.1 y.2.2.1 y.2.2.2.1 y.2.2.2.2.1 y.2.2.2.2.2.1 y.2.2.2.2.2.2.1 y.2.2.2.2.2.2.2.1 y.2.2.2.2.2.2.2.2.1 y.2.2.2.2.2.2.2.2.2.1 y.2.2.2.2.2.2.2.2.2.2.1 y.2.2.2.2.2.2.2.2.2.2.2.1 y.2.2.2.2.2.2.2.2.2.2.2.2.1 y.2.2.2.2.2.2.2.2.2.2.2.2.2.1 y.2.2.2.2.2.2.2.2.2.2.2.2.2.2.1 y.2.2.2.2.2.2.2.2.2.2.2.2.2.2.2.1 y.2.2.2.2.2.2.2.2.2.2.2.2.2.2.2.2.1 y.2.2.2.2.2.2.2.2.2.2.2.2.2.2.2.2.2.1 y.2.2.2.2.2.2.2.2.2.2.2.2.2.2.2.2.2.2.1 y.2.2.2.2.2.2.2.2.2.2.2.2.2.2.2.2.2.2.2.1 y.2.2.2.2.2.2.2.2.2.2.2.2.2.2.2.2.2.2.2.2.1 y.2.2.2.2.2.2.2.2.2.2.2.2.2.2.2.2.2.2.2.2.2.1 y.2.2.2.2.2.2.2.2.2.2.2.2.2.2.2.2.2.2.2.2.2.2.1 y.2.2.2.2.2.2.2.2.2.2.2.2.2.2.2.2.2.2.2.2.2.2.2.1 y.2.2.2.2.2.2.2.2.2.2.2.2.2.2.2.2.2.2.2.2.2.2.2.2.1 y.2.2.2.2.2.2.2.2.2.2.2.2.2.2.2.2.2.2.2.2.2.2.2.2.2.1 y.2.2.2.2.2.2.2.2.2.2.2.2.2.2.2.2.2.2.2.2.2.2.2.2.2.2.1 y.2.2.2.2.2.2.2.2.2.2.2.2.2.2.2.2.2.2.2.2.2.2.2.2.2.2.2.1 y.2.2.2.2.2.2.2.2.2.2.2.2.2.2.2.2.2.2.2.2.2.2.2.2.2.2.2.2.1 y.2.2.2.2.2.2.2.2.2.2.2.2.2.2.2.2.2.2.2.2.2.2.2.2.2.2.2.2.2.1 y.2.2.2.2.2.2.2.2.2.2.2.2.2.2.2.2.2.2.2.2.2.2.2.2.2.2.2.2.2.2.1 y.2.2.2.2.2.2.2.2.2.2.2.2.2.2.2.2.2.2.2.2.2.2.2.2.2.2.2.2.2.2.2.1 y.2.2.2.2.2.2.2.2.2.2.2.2.2.2.2.2.2.2.2.2.2.2.2.2.2.2.2.2.2.2.2.2.1 y.2.2.2.2.2.2.2.2.2.2.2.2.2.2.2.2.2.2.2.2.2.2.2.2.2.2.2.2.2.2.2.2.2.1 y.2.2.2.2.2.2.2.2.2.2.2.2.2.2.2.2.2.2.2.2.2.2.2.2.2.2.2.2.2.2.2.2.2.2.1 y.2.2.2.2.2.2.2.2.2.2.2.2.2.2.2.2.2.2.2.2.2.2.2.2.2.2.2.2.2.2.2.2.2.2.2.1 y.2.2.2.2.2.2.2.2.2.2.2.2.2.2.2.2.2.2.2.2.2.2.2.2.2.2.2.2.2.2.2.2.2.2.2.2.1 y.2.2.2.2.2.2.2.2.2.2.2.2.2.2.2.2.2.2.2.2.2.2.2.2.2.2.2.2.2.2.2.2.2.2.2.2.2.1 y.2.2.2.2.2.2.2.2.2.2.2.2.2.2.2.2.2.2.2.2.2.2.2.2.2.2.2.2.2.2.2.2.2.2.2.2.2.2) (fun _=>none) (fun _=>none)
def w9s0 [Alg] N a0 a1 a2 a3 a4 a5 a6 a7 a8 a9 a10 a11 a12 a13 a14 a15 a16 a17 a18 a19 a20 a21 a22 a23 a24 a25 a26 a27 a28 a29 a30 a31 a32 a33 a34 (k0:(List Int)->Int->Int->Int->Int->(List Int)->Int->Bool->Bool->Bool->(List Int)->Int->Int->Int->(List Int)->Int->Int->Int->Int->Int->Int->Int->Int->(List Int)->Int->Int->Int->Int->Int->Int->Int->Bool->Bool->Bool->(List ((List Int)×(Int×Int)))->(List Int)->Int->Int->(List Int)->O):=subL w9I0 w9u0 (w9l0 N N) (w9I0 (a0,a1,a2,a3,a4,a5,a6,a7,a8,a9,a10,a11,a12,a13,a14,a15,a16,a17,a18,a19,a20,a21,a22,a23,a24,a25,a26,a27,a28,a29,a30,a31,a32,a33,a34)) (fun y=>k0 y.1 y.2.1 y.2.2.1 y.2.2.2.1 y.2.2.2.2.1 y.2.2.2.2.2.1 y.2.2.2.2.2.2.1 y.2.2.2.2.2.2.2.1 y.2.2.2.2.2.2.2.2.1 y.2.2.2.2.2.2.2.2.2.1 y.2.2.2.2.2.2.2.2.2.2.1 y.2.2.2.2.2.2.2.2.2.2.2.1 y.2.2.2.2.2.2.2.2.2.2.2.2.1 y.2.2.2.2.2.2.2.2.2.2.2.2.2.1 y.2.2.2.2.2.2.2.2.2.2.2.2.2.2.1 y.2.2.2.2.2.2.2.2.2.2.2.2.2.2.2.1 y.2.2.2.2.2.2.2.2.2.2.2.2.2.2.2.2.1 y.2.2.2.2.2.2.2.2.2.2.2.2.2.2.2.2.2.1 y.2.2.2.2.2.2.2.2.2.2.2.2.2.2.2.2.2.2.1 y.2.2.2.2.2.2.2.2.2.2.2.2.2.2.2.2.2.2.2.1 y.2.2.2.2.2.2.2.2.2.2.2.2.2.2.2.2.2.2.2.2.1 y.2.2.2.2.2.2.2.2.2.2.2.2.2.2.2.2.2.2.2.2.2.1 y.2.2.2.2.2.2.2.2.2.2.2.2.2.2.2.2.2.2.2.2.2.2.1 y.2.2.2.2.2.2.2.2.2.2.2.2.2.2.2.2.2.2.2.2.2.2.2.1 y.2.2.2.2.2.2.2.2.2.2.2.2.2.2.2.2.2.2.2.2.2.2.2.2.1 y.2.2.2.2.2.2.2.2.2.2.2.2.2.2.2.2.2.2.2.2.2.2.2.2.2.1 y.2.2.2.2.2.2.2.2.2.2.2.2.2.2.2.2.2.2.2.2.2.2.2.2.2.2.1 y.2.2.2.2.2.2.2.2.2.2.2.2.2.2.2.2.2.2.2.2.2.2.2.2.2.2.2.1 y.2.2.2.2.2.2.2.2.2.2.2.2.2.2.2.2.2.2.2.2.2.2.2.2.2.2.2.2.1 y.2.2.2.2.2.2.2.2.2.2.2.2.2.2.2.2.2.2.2.2.2.2.2.2.2.2.2.2.2.1 y.2.2.2.2.2.2.2.2.2.2.2.2.2.2.2.2.2.2.2.2.2.2.2.2.2.2.2.2.2.2.1 y.2.2.2.2.2.2.2.2.2.2.2.2.2.2.2.2.2.2.2.2.2.2.2.2.2.2.2.2.2.2.2.1 y.2.2.2.2.2.2.2.2.2.2.2.2.2.2.2.2.2.2.2.2.2.2.2.2.2.2.2.2.2.2.2.2.1 y.2.2.2.2.2.2.2.2.2.2.2.2.2.2.2.2.2.2.2.2.2.2.2.2.2.2.2.2.2.2.2.2.2.1 y.2.2.2.2.2.2.2.2.2.2.2.2.2.2.2.2.2.2.2.2.2.2.2.2.2.2.2.2.2.2.2.2.2.2.1 y.2.2.2.2.2.2.2.2.2.2.2.2.2.2.2.2.2.2.2.2.2.2.2.2.2.2.2.2.2.2.2.2.2.2.2.1 y.2.2.2.2.2.2.2.2.2.2.2.2.2.2.2.2.2.2.2.2.2.2.2.2.2.2.2.2.2.2.2.2.2.2.2.2.1 y.2.2.2.2.2.2.2.2.2.2.2.2.2.2.2.2.2.2.2.2.2.2.2.2.2.2.2.2.2.2.2.2.2.2.2.2.2.1 y.2.2.2.2.2.2.2.2.2.2.2.2.2.2.2.2.2.2.2.2.2.2.2.2.2.2.2.2.2.2.2.2.2.2.2.2.2.2) (fun _=>none) (fun _=>none)
theorem w9e0 [Alg] N:w9s0 N=w9n0 N:=funext fun _=>funext fun _=>funext fun _=>funext fun _=>funext fun _=>funext fun _=>funext fun _=>funext fun _=>funext fun _=>funext fun _=>funext fun _=>funext fun _=>funext fun _=>funext fun _=>funext fun _=>funext fun _=>funext fun _=>funext fun _=>funext fun _=>funext fun _=>funext fun _=>funext fun _=>funext fun _=>funext fun _=>funext fun _=>funext fun _=>funext fun _=>funext fun _=>funext fun _=>funext fun _=>funext fun _=>funext fun _=>funext fun _=>funext fun _=>funext fun _=>funext fun _=>subL_I w9ui0 _ _ _ _
theorem w9q0 [Alg] (N:Nat) (self:Sg->O) (K:Exit->Sg->O) (x:(List Int)×Int×Int×Int×Int×(List Int)×Int×Bool×Bool×Bool×(List Int)×Int×Int×Int×(List Int)×Int×Int×Int×Int×Int×Int×Int×Int×(List Int)×Int×Int×Int×Int×Int×Int×(List ((List Int)×(Int×Int)))×(List Int)×Int×Int×(List Int)):w9F0 N (fun v0 v1 v2=>self (w9I0 (x.1,x.2.1,x.2.2.1,x.2.2.2.1,x.2.2.2.2.1,x.2.2.2.2.2.1,x.2.2.2.2.2.2.1,x.2.2.2.2.2.2.2.1,x.2.2.2.2.2.2.2.2.1,x.2.2.2.2.2.2.2.2.2.1,x.2.2.2.2.2.2.2.2.2.2.1,x.2.2.2.2.2.2.2.2.2.2.2.1,x.2.2.2.2.2.2.2.2.2.2.2.2.1,x.2.2.2.2.2.2.2.2.2.2.2.2.2.1,x.2.2.2.2.2.2.2.2.2.2.2.2.2.2.1,x.2.2.2.2.2.2.2.2.2.2.2.2.2.2.2.1,x.2.2.2.2.2.2.2.2.2.2.2.2.2.2.2.2.1,x.2.2.2.2.2.2.2.2.2.2.2.2.2.2.2.2.2.1,x.2.2.2.2.2.2.2.2.2.2.2.2.2.2.2.2.2.2.1,x.2.2.2.2.2.2.2.2.2.2.2.2.2.2.2.2.2.2.2.1,x.2.2.2.2.2.2.2.2.2.2.2.2.2.2.2.2.2.2.2.2.1,x.2.2.2.2.2.2.2.2.2.2.2.2.2.2.2.2.2.2.2.2.2.1,x.2.2.2.2.2.2.2.2.2.2.2.2.2.2.2.2.2.2.2.2.2.2.1,x.2.2.2.2.2.2.2.2.2.2.2.2.2.2.2.2.2.2.2.2.2.2.2.1,x.2.2.2.2.2.2.2.2.2.2.2.2.2.2.2.2.2.2.2.2.2.2.2.2.1,x.2.2.2.2.2.2.2.2.2.2.2.2.2.2.2.2.2.2.2.2.2.2.2.2.2.1,x.2.2.2.2.2.2.2.2.2.2.2.2.2.2.2.2.2.2.2.2.2.2.2.2.2.2.1,x.2.2.2.2.2.2.2.2.2.2.2.2.2.2.2.2.2.2.2.2.2.2.2.2.2.2.2.1,v0,v1,x.2.2.2.2.2.2.2.2.2.2.2.2.2.2.2.2.2.2.2.2.2.2.2.2.2.2.2.2.2.2.1,x.2.2.2.2.2.2.2.2.2.2.2.2.2.2.2.2.2.2.2.2.2.2.2.2.2.2.2.2.2.2.2.1,x.2.2.2.2.2.2.2.2.2.2.2.2.2.2.2.2.2.2.2.2.2.2.2.2.2.2.2.2.2.2.2.2.1,x.2.2.2.2.2.2.2.2.2.2.2.2.2.2.2.2.2.2.2.2.2.2.2.2.2.2.2.2.2.2.2.2.2.1,v2))) (fun y0 y1 y2 y3 y4 y5 y6 y7 y8 y9 y10 y11 y12 y13 y14 y15 y16 y17 y18 y19 y20 y21 y22 y23 y24 y25 y26 y27 y28 y29 y30 y31 y32 y33 y34 y35 y36 y37 y38=>K (w9X0_0 (y0,y1,y2,y3,y4,y5,y6,y7,y8,y9,y10,y11,y12,y13,y14,y15,y16,y17,y18,y19,y20,y21,y22,y23,y24,y25,y26,y27,y28,y29,y30,y31,y32,y33,y34,y35,y36,y37,y38)).1 (w9X0_0 (y0,y1,y2,y3,y4,y5,y6,y7,y8,y9,y10,y11,y12,y13,y14,y15,y16,y17,y18,y19,y20,y21,y22,y23,y24,y25,y26,y27,y28,y29,y30,y31,y32,y33,y34,y35,y36,y37,y38)).2) x.1 x.2.1 x.2.2.1 x.2.2.2.1 x.2.2.2.2.1 x.2.2.2.2.2.1 x.2.2.2.2.2.2.1 x.2.2.2.2.2.2.2.1 x.2.2.2.2.2.2.2.2.1 x.2.2.2.2.2.2.2.2.2.1 x.2.2.2.2.2.2.2.2.2.2.1 x.2.2.2.2.2.2.2.2.2.2.2.1 x.2.2.2.2.2.2.2.2.2.2.2.2.1 x.2.2.2.2.2.2.2.2.2.2.2.2.2.1 x.2.2.2.2.2.2.2.2.2.2.2.2.2.2.1 x.2.2.2.2.2.2.2.2.2.2.2.2.2.2.2.1 x.2.2.2.2.2.2.2.2.2.2.2.2.2.2.2.2.1 x.2.2.2.2.2.2.2.2.2.2.2.2.2.2.2.2.2.1 x.2.2.2.2.2.2.2.2.2.2.2.2.2.2.2.2.2.2.1 x.2.2.2.2.2.2.2.2.2.2.2.2.2.2.2.2.2.2.2.1 x.2.2.2.2.2.2.2.2.2.2.2.2.2.2.2.2.2.2.2.2.1 x.2.2.2.2.2.2.2.2.2.2.2.2.2.2.2.2.2.2.2.2.2.1 x.2.2.2.2.2.2.2.2.2.2.2.2.2.2.2.2.2.2.2.2.2.2.1 x.2.2.2.2.2.2.2.2.2.2.2.2.2.2.2.2.2.2.2.2.2.2.2.1 x.2.2.2.2.2.2.2.2.2.2.2.2.2.2.2.2.2.2.2.2.2.2.2.2.1 x.2.2.2.2.2.2.2.2.2.2.2.2.2.2.2.2.2.2.2.2.2.2.2.2.2.1 x.2.2.2.2.2.2.2.2.2.2.2.2.2.2.2.2.2.2.2.2.2.2.2.2.2.2.1 x.2.2.2.2.2.2.2.2.2.2.2.2.2.2.2.2.2.2.2.2.2.2.2.2.2.2.2.1 x.2.2.2.2.2.2.2.2.2.2.2.2.2.2.2.2.2.2.2.2.2.2.2.2.2.2.2.2.2.2.1 x.2.2.2.2.2.2.2.2.2.2.2.2.2.2.2.2.2.2.2.2.2.2.2.2.2.2.2.2.2.2.2.1 x.2.2.2.2.2.2.2.2.2.2.2.2.2.2.2.2.2.2.2.2.2.2.2.2.2.2.2.2.2.2.2.2.1 x.2.2.2.2.2.2.2.2.2.2.2.2.2.2.2.2.2.2.2.2.2.2.2.2.2.2.2.2.2.2.2.2.2.1 x.2.2.2.2.2.2.2.2.2.2.2.2.2.2.2.2.2.2.2.2.2.2.2.2.2.2.2.2.1 x.2.2.2.2.2.2.2.2.2.2.2.2.2.2.2.2.2.2.2.2.2.2.2.2.2.2.2.2.2.1 x.2.2.2.2.2.2.2.2.2.2.2.2.2.2.2.2.2.2.2.2.2.2.2.2.2.2.2.2.2.2.2.2.2.2=exec (w9c N) Tryd.f9.ntmps .d w9b0 (w9I0 x) (roundX w9m0 w9w0 self K):=by kernel_rfl
theorem w9S0 N (hc:CxOk (w9c N)):SubOk (w9c N) Tryd.f9.ntmps (.loop w9b0) w9X0_0 (noX 1) (noX 2) (subL w9I0 w9u0 (w9l0 N N)):=
 sub_loop hc (hk_d w9b0) (oK1 w9v0_0 (.exit 2) (fun _=>by kernel_rfl) (fun _=>rfl) (by kernel_rfl)) (n:=N) (fun x K=>loop_ind (w9l0 N) (fun _ _ _ _=>rfl) (fun n K ih x=>by
  refine Eq.trans ?_ (w9q0 N _ K x);simp only [← ih];rfl) N x K)
def w9F1 [Alg] (N:Nat) (in0:(List Int)->Int->Int->Int->Int->(List Int)->Int->Bool->Bool->Bool->(List Int)->Int->Int->Int->(List Int)->Int->Int->Int->Int->Int->Int->Int->Int->(List Int)->Int->Int->Int->Int->Int->Int->(List ((List Int)×(Int×Int)))->(List Int)->Int->Int->(List Int)->((List Int)->Int->Int->Int->Int->(List Int)->Int->Bool->Bool->Bool->(List Int)->Int->Int->Int->(List Int)->Int->Int->Int->Int->Int->Int->Int->Int->(List Int)->Int->Int->Int->Int->Int->Int->Int->Bool->Bool->Bool->(List ((List Int)×(Int×Int)))->(List Int)->Int->Int->(List Int)->O)->O) (self:(List Int)->Int->(List ((List Int)×(Int×Int)))->O) (k0:(List ((List Int)×(Int×Int)))->O) (x0_0:(List Int)) (x0_1:Int) (x0_2:(List ((List Int)×(Int×Int)))):O:=
 br (decide (IntKind.i64.wrap (IntKind.i64.wrap ((4:Int) * x0_1)+(3:Int)) < (↑x0_0.length:Int))&&decide (x0_1 < 6))
  (ck (w28p N x0_0 (IntKind.i64.wrap ((4:Int) * x0_1)) (3:Int)) <|
  ck (w28p N x0_0 (IntKind.i64.wrap (IntKind.i64.wrap ((4:Int) * x0_1)+(1:Int))) (10:Int)) <|
  gx [(0:Int),(1:Int),(2:Int),(60:Int),(9999:Int),(-1:Int),(-2:Int),(-3:Int),(-61:Int),(-10000:Int)] (w28y0 N x0_0 (IntKind.i64.wrap (IntKind.i64.wrap ((4:Int) * x0_1)+(1:Int))) (10:Int)) fun y123=>
  ck (w28p N x0_0 (IntKind.i64.wrap (IntKind.i64.wrap ((4:Int) * x0_1)+(2:Int))) (1048576:Int)) <|
  in0 x0_0 x0_1 x0_1 (IntKind.i64.wrap ((4:Int) * x0_1)) (IntKind.i64.wrap (IntKind.i64.wrap ((4:Int) * x0_1)+(3:Int))) x0_0 ((↑x0_0.length:Int)) (decide (IntKind.i64.wrap (IntKind.i64.wrap ((4:Int) * x0_1)+(3:Int)) < (↑x0_0.length:Int))) (decide (IntKind.i64.wrap (IntKind.i64.wrap ((4:Int) * x0_1)+(3:Int)) < (↑x0_0.length:Int))) (decide (IntKind.i64.wrap (IntKind.i64.wrap ((4:Int) * x0_1)+(3:Int)) < (↑x0_0.length:Int))&&decide (x0_1 < 6)) x0_0 x0_1 (IntKind.i64.wrap ((4:Int) * x0_1)) (w28y0 N x0_0 (IntKind.i64.wrap ((4:Int) * x0_1)) (3:Int)) x0_0 x0_1 (IntKind.i64.wrap ((4:Int) * x0_1)) (IntKind.i64.wrap (IntKind.i64.wrap ((4:Int) * x0_1)+(1:Int))) (w28y0 N x0_0 (IntKind.i64.wrap (IntKind.i64.wrap ((4:Int) * x0_1)+(1:Int))) (10:Int)) y123 y123 (w28y0 N x0_0 (IntKind.i64.wrap ((4:Int) * x0_1)) (3:Int)) y123 x0_0 x0_1 (IntKind.i64.wrap ((4:Int) * x0_1)) (IntKind.i64.wrap (IntKind.i64.wrap ((4:Int) * x0_1)+(2:Int))) (w28y0 N x0_0 (IntKind.i64.wrap (IntKind.i64.wrap ((4:Int) * x0_1)+(2:Int))) (1048576:Int)) (w28y0 N x0_0 (IntKind.i64.wrap (IntKind.i64.wrap ((4:Int) * x0_1)+(2:Int))) (1048576:Int)) 1 x0_2 [(0:Int),(1:Int),(2:Int),(60:Int),(9999:Int),(-1:Int),(-2:Int),(-3:Int),(-61:Int),(-10000:Int)] (w28y0 N x0_0 (IntKind.i64.wrap ((4:Int) * x0_1)) (3:Int)) y123 []
   (fun z125 z126 _ _ _ _ _ _ _ _ _ _ _ _ _ _ _ _ _ _ _ _ _ _ _ _ _ _ _ _ _ _ _ _ z159 _ z161 z162 z163=>
    ck (lim (z159++[(z163,z161,z162)]).length (40:Nat)) <|
    self z125 (IntKind.i64.wrap (z126+1)) (z159++[(z163,z161,z162)])))
  (k0 x0_2)
def w9b1:Code:=atC [1,1,0,1,0,0] w9b
def w9m1:Nm:=⟨[0,2,3,4],[],[.nilR 3 (.row 49 (.pr (.sl (.i .i64)) (.pr (.i .i64) (.i .i64))) [] true)]⟩
def w9I1 (x:(List Int)×Int×(List ((List Int)×(Int×Int)))):Sg:=⟨[(0,.e (.sl (.i .i64)) x.1),(2,.nilS),(3,.own 0),(4,.e (.i .i64) x.2.1)],[(0,.row 49 (.pr (.sl (.i .i64)) (.pr (.i .i64) (.i .i64))) x.2.2 true)],100⟩
def w9u1 (σ:Sg):(List Int)×Int×(List ((List Int)×(Int×Int))):=(lvT (.sl (.i .i64)) 0 0 σ,lvT (.i .i64) 4 0 σ,lvR (.pr (.sl (.i .i64)) (.pr (.i .i64) (.i .i64))) 0 σ)
theorem w9ui1:∀ x,w9u1 (w9I1 x)=x:=fun _=>by kernel_rfl
def w9X1_0 (y:(List ((List Int)×(Int×Int)))):Exit×Sg:=((.exit 0),⟨[(2,.nilS),(3,.own 0)],[(0,.row 49 (.pr (.sl (.i .i64)) (.pr (.i .i64) (.i .i64))) y true)],100⟩)
def w9v1_0 (_:Exit) (σ:Sg):(List ((List Int)×(Int×Int))):=lvR (.pr (.sl (.i .i64)) (.pr (.i .i64) (.i .i64))) 0 σ
def w9w1:List (Exit×Nm):=[((.exit 0),⟨[2,3],[],[]⟩)]
def w9l1 [Alg] (N:Nat):Nat->((List Int)×Int×(List ((List Int)×(Int×Int))))->(((List ((List Int)×(Int×Int))))->O)->((Unit)->O)->((Unit)->O)->O
 | 0,_,_,_,_=>none
 | n+1,x,k0,k1,k2=>w9F1 N (w9n0 N) (fun v0 v1 v2=>w9l1 N n (v0,v1,v2) k0 k1 k2) (fun y0=>k0 y0) x.1 x.2.1 x.2.2
def w9n1 [Alg] N a0 a1 a2 (k0:(List ((List Int)×(Int×Int)))->O):=w9l1 N N (a0,a1,a2) (fun y=>k0 y) (fun _=>none) (fun _=>none)
def w9s1 [Alg] N a0 a1 a2 (k0:(List ((List Int)×(Int×Int)))->O):=subL w9I1 w9u1 (w9l1 N N) (w9I1 (a0,a1,a2)) (fun y=>k0 y) (fun _=>none) (fun _=>none)
theorem w9e1 [Alg] N:w9s1 N=w9n1 N:=funext fun _=>funext fun _=>funext fun _=>funext fun _=>subL_I w9ui1 _ _ _ _
def w9h1 [Alg] (N:Nat):Hint:=(.seq .d (.seq (.block (.seq .d (.seq .d (.seq (.seq .d (.block (.sub w9m0 _ _ _ w9X0_0 (noX 1) (noX 2) (subL w9I0 w9u0 (w9l0 N N))))) .d)))) .d))
theorem w9hk1 N (hc:CxOk (w9c N)):HintOk (w9c N) Tryd.f9.ntmps (w9h1 N) w9b1:=hk_of _ _ (And.intro trivial (And.intro (And.intro trivial (And.intro trivial (And.intro (And.intro trivial (w9S0 N hc)) trivial))) trivial))
theorem w9q1 [Alg] (N:Nat) (self:Sg->O) (K:Exit->Sg->O) (x:(List Int)×Int×(List ((List Int)×(Int×Int)))):w9F1 N (w9s0 N) (fun v0 v1 v2=>self (w9I1 (v0,v1,v2))) (fun y0=>K (w9X1_0 y0).1 (w9X1_0 y0).2) x.1 x.2.1 x.2.2=exec (w9c N) Tryd.f9.ntmps (w9h1 N) w9b1 (w9I1 x) (roundX w9m1 w9w1 self K):=by kernel_rfl
theorem w9S1 N (hc:CxOk (w9c N)):SubOk (w9c N) Tryd.f9.ntmps (.loop w9b1) w9X1_0 (noX 1) (noX 2) (subL w9I1 w9u1 (w9l1 N N)):=
 sub_loop hc (w9hk1 N hc) (oK1 w9v1_0 (.exit 0) (fun _=>by kernel_rfl) (fun _=>rfl) (by kernel_rfl)) (n:=N) (fun x K=>loop_ind (w9l1 N) (fun _ _ _ _=>rfl) (fun n K ih x=>by
  refine Eq.trans ?_ (w9q1 N _ K x);simp only [w9e0 N,← ih];rfl) N x K)
def w9G [Alg] (_:Nat) (_in0:(List Int)->Int->Int->Int->Int->(List Int)->Int->Bool->Bool->Bool->(List Int)->Int->Int->Int->(List Int)->Int->Int->Int->Int->Int->Int->Int->Int->(List Int)->Int->Int->Int->Int->Int->Int->(List ((List Int)×(Int×Int)))->(List Int)->Int->Int->(List Int)->((List Int)->Int->Int->Int->Int->(List Int)->Int->Bool->Bool->Bool->(List Int)->Int->Int->Int->(List Int)->Int->Int->Int->Int->Int->Int->Int->Int->(List Int)->Int->Int->Int->Int->Int->Int->Int->Bool->Bool->Bool->(List ((List Int)×(Int×Int)))->(List Int)->Int->Int->(List Int)->O)->O) (in1:(List Int)->Int->(List ((List Int)×(Int×Int)))->((List ((List Int)×(Int×Int)))->O)->O) (l0:(List Int)):O:=
 in1 l0 0 []
  (fun z164=>
   some (w9r0 z164))
def w9 [Alg] N l0:=w9G N (w9n0 N) (w9n1 N) l0
def w9h [Alg] (N:Nat):Hint:=(.seq .d (.seq .d (.seq (.seq .d (.block (.sub w9m1 _ _ _ w9X1_0 (noX 1) (noX 2) (subL w9I1 w9u1 (w9l1 N N))))) .d)))
theorem w9hk N (hc:CxOk (w9c N)):HintOk (w9c N) Tryd.f9.ntmps (w9h N) w9b:=hk_of _ _ (And.intro trivial (And.intro trivial (And.intro (And.intro trivial (w9S1 N hc)) trivial)))
theorem w9q [Alg] N l0:w9G N (w9s0 N) (w9s1 N) l0=exec (w9c N) Tryd.f9.ntmps (w9h N) w9b ⟨argT 0 [.e (.sl (.i .i64)) l0],[],100⟩ (finX (w9c N) Tryd.f9 false):=by kernel_rfl
def w9un (r:Res):Option ((List ((List Int)×(Int×Int)))):=match r with
 | (x0,[])=>(match ue (.sl (.pr (.sl (.i .i64)) (.pr (.i .i64) (.i .i64)))) x0 with | some a0=>some a0 | _=>none)
 | _=>none
theorem w9uo {r d} (h:w9un r=some d):r=w9r0 (d):=by
 unfold w9un at h;split at h
 ·split at h
  ·rename_i h0;cases h;rw [ue_some h0];rfl
  ·cases h
 ·cases h
def w9z N l0:=(w9 N l0).bind w9un
theorem w9fin {N} (hc:CxOk (w9c N)) {l0 d} (hd:w9z N l0=some d):DoK Tryd.prog 9 [.e (.sl (.i .i64)) l0] [] (w9r0 (d)):=
 finJ hc (by kernel_rfl) (by kernel_rfl) (w9hk N hc) (by kernel_rfl) w9uo (fun hr=>(w9q N l0).symm.trans (by rw [w9e0 N,w9e1 N];exact hr)) hd
def w9p N l0:=(w9z N l0).isSome
def w9y0 N l0:=((w9z N l0).getD [])
def w9e (N:Nat):Ent':=E1 (.sl (.i .i64)) (fun x0=>(w9p N x0,w9r0 (w9y0 N x0)))
theorem w9ok N:EOk Tryd.prog 9 (w9e N):=EOk.e1 (fun x0 h=>okG (z:=w9z N x0) h (w9fin (w9cx N)) rfl)
def w12r0 (a0:(List ((List Int)×(Int×Int)))):Res:=(.own 100,[(100,.row 51 (.pr (.sl (.i .i64)) (.pr (.i .i64) (.i .i64))) a0 true)])
def w12c (_:Nat):Cx:=⟨Tryd.prog,99999,[],[]⟩
def w12b:Code:=Tryd.f12.body.getD .skip
theorem w12cx N:CxOk (w12c N):=ctx_ok (by kernel_rfl) .nil .nil
def w12F0 [Alg] (_:Nat) (self:Int->(List ((List Int)×(Int×Int)))->O) (k0:(List ((List Int)×(Int×Int)))->O) (x0_0:(List ((List Int)×(Int×Int)))) (x0_1:Int) (x0_2:(List ((List Int)×(Int×Int)))):O:=
 br (decide (x0_1 < (↑x0_0.length:Int)))
  (gx x0_0 x0_1 fun y10=>
  gx x0_0 x0_1 fun y11=>
  gx x0_0 x0_1 fun y12=>
  ck (lim (x0_2++[(y10.1,y11.2.1,y12.2.2)]).length (40:Nat)) <|
  self (IntKind.i64.wrap (x0_1+1)) (x0_2++[(y10.1,y11.2.1,y12.2.2)]))
  (k0 x0_2)
def w12b0:Code:=atC [1,1,0,1,0,0] w12b
def w12m0:Nm:=⟨[0,2,3,4],[],[.nilR 3 (.row 51 (.pr (.sl (.i .i64)) (.pr (.i .i64) (.i .i64))) [] true)]⟩
def w12I0 (x:(List ((List Int)×(Int×Int)))×Int×(List ((List Int)×(Int×Int)))):Sg:=⟨[(0,.e (.sl (.pr (.sl (.i .i64)) (.pr (.i .i64) (.i .i64)))) x.1),(2,.nilS),(3,.own 0),(4,.e (.i .i64) x.2.1)],[(0,.row 51 (.pr (.sl (.i .i64)) (.pr (.i .i64) (.i .i64))) x.2.2 true)],100⟩
def w12u0 (σ:Sg):(List ((List Int)×(Int×Int)))×Int×(List ((List Int)×(Int×Int))):=(lvT (.sl (.pr (.sl (.i .i64)) (.pr (.i .i64) (.i .i64)))) 0 0 σ,lvT (.i .i64) 4 0 σ,lvR (.pr (.sl (.i .i64)) (.pr (.i .i64) (.i .i64))) 0 σ)
theorem w12ui0:∀ x,w12u0 (w12I0 x)=x:=fun _=>by kernel_rfl
def w12X0_0 (y:(List ((List Int)×(Int×Int)))):Exit×Sg:=((.exit 0),⟨[(2,.nilS),(3,.own 0)],[(0,.row 51 (.pr (.sl (.i .i64)) (.pr (.i .i64) (.i .i64))) y true)],100⟩)
def w12v0_0 (_:Exit) (σ:Sg):(List ((List Int)×(Int×Int))):=lvR (.pr (.sl (.i .i64)) (.pr (.i .i64) (.i .i64))) 0 σ
def w12w0:List (Exit×Nm):=[((.exit 0),⟨[2,3],[],[]⟩)]
def w12l0 [Alg] (N:Nat):Nat->((List ((List Int)×(Int×Int)))×Int×(List ((List Int)×(Int×Int))))->(((List ((List Int)×(Int×Int))))->O)->((Unit)->O)->((Unit)->O)->O
 | 0,_,_,_,_=>none
 | n+1,x,k0,k1,k2=>w12F0 N (fun v0 v1=>w12l0 N n (x.1,v0,v1) k0 k1 k2) (fun y0=>k0 y0) x.1 x.2.1 x.2.2
def w12n0 [Alg] N a0 a1 a2 (k0:(List ((List Int)×(Int×Int)))->O):=w12l0 N N (a0,a1,a2) (fun y=>k0 y) (fun _=>none) (fun _=>none)
def w12s0 [Alg] N a0 a1 a2 (k0:(List ((List Int)×(Int×Int)))->O):=subL w12I0 w12u0 (w12l0 N N) (w12I0 (a0,a1,a2)) (fun y=>k0 y) (fun _=>none) (fun _=>none)
theorem w12e0 [Alg] N:w12s0 N=w12n0 N:=funext fun _=>funext fun _=>funext fun _=>funext fun _=>subL_I w12ui0 _ _ _ _
def w12h0 [Alg] (_:Nat):Hint:=(.seq .d (.seq (.block (.reg [] [] [[],[],[],[],[],[],[],[],[],[],[],[],[],[],[],[],[],[],[276,0],[]])) .d))
theorem w12hk0 N:HintOk (w12c N) Tryd.f12.ntmps (w12h0 N) w12b0:=hk_of _ _ (And.intro trivial (And.intro trivial trivial))
theorem w12q0 [Alg] (N:Nat) (self:Sg->O) (K:Exit->Sg->O) (x:(List ((List Int)×(Int×Int)))×Int×(List ((List Int)×(Int×Int)))):w12F0 N (fun v0 v1=>self (w12I0 (x.1,v0,v1))) (fun y0=>K (w12X0_0 y0).1 (w12X0_0 y0).2) x.1 x.2.1 x.2.2=exec (w12c N) Tryd.f12.ntmps (w12h0 N) w12b0 (w12I0 x) (roundX w12m0 w12w0 self K):=by kernel_rfl
theorem w12S0 N (hc:CxOk (w12c N)):SubOk (w12c N) Tryd.f12.ntmps (.loop w12b0) w12X0_0 (noX 1) (noX 2) (subL w12I0 w12u0 (w12l0 N N)):=
 sub_loop hc (w12hk0 N) (oK1 w12v0_0 (.exit 0) (fun _=>by kernel_rfl) (fun _=>rfl) (by kernel_rfl)) (n:=N) (fun x K=>loop_ind (w12l0 N) (fun _ _ _ _=>rfl) (fun n K ih x=>by
  refine Eq.trans ?_ (w12q0 N _ K x);simp only [← ih];rfl) N x K)
def w12G [Alg] (_:Nat) (in0:(List ((List Int)×(Int×Int)))->Int->(List ((List Int)×(Int×Int)))->((List ((List Int)×(Int×Int)))->O)->O) (l0:(List ((List Int)×(Int×Int)))):O:=
 in0 l0 0 []
  (fun z13=>
   some (w12r0 z13))
def w12 [Alg] N l0:=w12G N (w12n0 N) l0
def w12h [Alg] (N:Nat):Hint:=(.seq .d (.seq .d (.seq (.seq .d (.block (.sub w12m0 _ _ _ w12X0_0 (noX 1) (noX 2) (subL w12I0 w12u0 (w12l0 N N))))) .d)))
theorem w12hk N (hc:CxOk (w12c N)):HintOk (w12c N) Tryd.f12.ntmps (w12h N) w12b:=hk_of _ _ (And.intro trivial (And.intro trivial (And.intro (And.intro trivial (w12S0 N hc)) trivial)))
theorem w12q [Alg] N l0:w12G N (w12s0 N) l0=exec (w12c N) Tryd.f12.ntmps (w12h N) w12b ⟨argT 0 [.e (.sl (.pr (.sl (.i .i64)) (.pr (.i .i64) (.i .i64)))) l0],[],100⟩ (finX (w12c N) Tryd.f12 true):=by kernel_rfl
def w12un (r:Res):Option ((List ((List Int)×(Int×Int)))):=match r with
 | (.own 100,[(100,x0)])=>(match ur 51 (.pr (.sl (.i .i64)) (.pr (.i .i64) (.i .i64))) true x0 with | some a0=>some a0 | _=>none)
 | _=>none
theorem w12uo {r d} (h:w12un r=some d):r=w12r0 (d):=by
 unfold w12un at h;split at h
 ·split at h
  ·rename_i h0;cases h;rw [ur_some h0];rfl
  ·cases h
 ·cases h
def w12z N l0:=(w12 N l0).bind w12un
theorem w12fin {N} (hc:CxOk (w12c N)) {l0 d} (hd:w12z N l0=some d):DoK Tryd.prog 12 [.e (.sl (.pr (.sl (.i .i64)) (.pr (.i .i64) (.i .i64)))) l0] [] (w12r0 (d)):=
 finJ hc (by kernel_rfl) (by kernel_rfl) (w12hk N hc) (by kernel_rfl) w12uo (fun hr=>(w12q N l0).symm.trans (by rw [w12e0 N];exact hr)) hd
def w12p N l0:=(w12z N l0).isSome
def w12y0 N l0:=((w12z N l0).getD [])
def w12e (N:Nat):Ent':=E1 (.sl (.pr (.sl (.i .i64)) (.pr (.i .i64) (.i .i64)))) (fun x0=>(w12p N x0,w12r0 (w12y0 N x0)))
theorem w12ok N:EOk Tryd.prog 12 (w12e N):=EOk.e1 (fun x0 h=>okG (z:=w12z N x0) h (w12fin (w12cx N)) rfl)
end
end Go.Proofs
