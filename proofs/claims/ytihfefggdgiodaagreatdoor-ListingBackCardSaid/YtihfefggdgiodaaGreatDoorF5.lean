/- What functions do. Conditions are in the theorems. -/
import Derived.Test.YtihfefggdgiodaaGreatDoorE7
import Derived.Test.YtihfefggdgiodaaGreatDoorProg
import Derived.KernelRfl
import Derived.Test.YtihfefggdgiodaaGreatDoorF4
/- What functions do. -/
namespace Go.Proofs
noncomputable section
open Go.Ax Go.Ax.Alg Go.RowKit Go.Ab
open Go
def w18r0 (a0:(List (List (List UInt8)))):Res:=(.e (.sl (.sl .tx)) a0,[])
def w18c (N:Nat):Cx:=⟨Tryz.prog,99999,[(9,w9e N),(44,w44e N)],[]⟩
def w18b:Code:=Tryz.f18.body.getD .skip
theorem w18cx N:CxOk (w18c N):=ctx_ok (by kernel_rfl) (.cons (by kernel_rfl) (w9ok N) (.cons (by kernel_rfl) (w44ok N) .nil)) .nil
def w18G [Alg] (N:Nat) (l0:(List Int)) (raw1:(List UInt8)):O:=
 ck (w9p N l0) <|
 ck (lim ([]++w9y0 N l0).length (16:Nat)) <|
 ck (w44p N raw1 (90:Int)) <|
 ck (lim ([]++w9y0 N l0++[w44y0 N raw1 (90:Int)]).length (16:Nat)) <|
 some (w18r0 ([w9y0 N l0,[]++w9y0 N l0++[w44y0 N raw1 (90:Int)]]))
def w18 [Alg] N l0 raw1:=w18G N l0 raw1
def w18h [Alg] (_:Nat):Hint:=.d
theorem w18hk N:HintOk (w18c N) Tryz.f18.ntmps (w18h N) w18b:=hk_of _ _ trivial
theorem w18q [Alg] N l0 raw1:w18G N l0 raw1=exec (w18c N) Tryz.f18.ntmps (w18h N) w18b ⟨argT 0 [.e (.sl (.i .i64)) l0,.e .tx raw1],[],100⟩ (finX (w18c N) Tryz.f18 false):=by kernel_rfl
def w18un (r:Res):Option ((List (List (List UInt8)))):=match r with
 | (x0,[])=>(match ue (.sl (.sl .tx)) x0 with | some a0=>some a0 | _=>none)
 | _=>none
theorem w18uo {r d} (h:w18un r=some d):r=w18r0 (d):=by
 unfold w18un at h;split at h
 ·split at h
  ·rename_i h0;cases h;rw [ue_some h0];rfl
  ·cases h
 ·cases h
def w18z N l0 raw1:=(w18 N l0 raw1).bind w18un
theorem w18fin {N} (hc:CxOk (w18c N)) {l0 raw1 d} (hd:w18z N l0 raw1=some d):DoK Tryz.prog 18 [.e (.sl (.i .i64)) l0,.e .tx raw1] [] (w18r0 (d)):=
 finJ hc (by kernel_rfl) (by kernel_rfl) (w18hk N) (by kernel_rfl) w18uo (w18q N l0 raw1).symm.trans hd
def w18p N l0 raw1:=(w18z N l0 raw1).isSome
def w18y0 N l0 raw1:=((w18z N l0 raw1).getD [])
def w18e (N:Nat):Ent':=E2 (.sl (.i .i64)) .tx (fun x0 x1=>(w18p N x0 x1,w18r0 (w18y0 N x0 x1)))
theorem w18ok N:EOk Tryz.prog 18 (w18e N):=EOk.e2 (fun x0 x1 h=>okG (z:=w18z N x0 x1) h (w18fin (w18cx N)) rfl)
def w31r0 (a0:Bool):Res:=(.e .bo a0,[])
def w31c (N:Nat):Cx:=⟨Tryz.prog,99999,[(53,l53e N),(54,w54e N)],[]⟩
def w31b:Code:=Tryz.f31.body.getD .skip
theorem w31cx N:CxOk (w31c N):=ctx_ok (by kernel_rfl) (.cons (by kernel_rfl) (l53ok N) (.cons (by kernel_rfl) (w54ok N) .nil)) .nil
def w31G [Alg] (N:Nat) (l0:(List UInt8)):O:=
 ck (v53p N l0) <|
 some (w31r0 (!v53y0 N l0))
def w31 [Alg] N l0:=w31G N l0
def w31h [Alg] (_:Nat):Hint:=.d
theorem w31hk N:HintOk (w31c N) Tryz.f31.ntmps (w31h N) w31b:=hk_of _ _ trivial
theorem w31q [Alg] N l0:w31G N l0=exec (w31c N) Tryz.f31.ntmps (w31h N) w31b ⟨argT 0 [.e (.sl .u8) l0],[],100⟩ (finX (w31c N) Tryz.f31 false):=by kernel_rfl
def w31un (r:Res):Option (Bool):=match r with
 | (x0,[])=>(match ue .bo x0 with | some a0=>some a0 | _=>none)
 | _=>none
theorem w31uo {r d} (h:w31un r=some d):r=w31r0 (d):=by
 unfold w31un at h;split at h
 ·split at h
  ·rename_i h0;cases h;rw [ue_some h0];rfl
  ·cases h
 ·cases h
def w31z N l0:=(w31 N l0).bind w31un
theorem w31fin {N} (hc:CxOk (w31c N)) {l0 d} (hd:w31z N l0=some d):DoK Tryz.prog 31 [.e (.sl .u8) l0] [] (w31r0 (d)):=
 finJ hc (by kernel_rfl) (by kernel_rfl) (w31hk N) (by kernel_rfl) w31uo (w31q N l0).symm.trans hd
def w31p N l0:=(w31z N l0).isSome
def w31y0 N l0:=((w31z N l0).getD false)
def w31e (N:Nat):Ent':=E1 (.sl .u8) (fun x0=>(w31p N x0,w31r0 (w31y0 N x0)))
theorem w31ok N:EOk Tryz.prog 31 (w31e N):=EOk.e1 (fun x0 h=>okG (z:=w31z N x0) h (w31fin (w31cx N)) rfl)
end
end Go.Proofs
