/- What Breaks gives, told as a value. Conditions are in the theorems. -/
import Derived.Test.YtlhdefefoaldfaaGreatDoorE7
import Derived.Test.YtlhdefefoaldfaaGreatDoorProg
import Derived.KernelRfl
import Derived.Test.YtlhdefefoaldfaaGreatDoorL2
/- What functions do. -/
namespace Go.Proofs
noncomputable section
open Go.Ax Go.Ax.Alg Go.RowKit Go.Ab
open Go
def v12r0 (a0:(List Int)) (a1:Int):Res:=(.tup [.e (.sl (.i .i64)) a0,.e (.i .i64) a1],[])
noncomputable def v12L (N:Nat):List (Nat×Ent'):=[(29,w29e N),(35,w35e N),(34,w34e N)]
noncomputable def v12c (N:Nat):Cx:=⟨Tryz.prog,25,v12L N,[]⟩
noncomputable def v12b:Code:=Tryz.f12.body.getD .skip
theorem v12cx (N:Nat):CxOk (v12c N):=ctx_ok (by kernel_rfl) (.cons (by kernel_rfl) (w29ok N) (.cons (by kernel_rfl) (w35ok N) (.cons (by kernel_rfl) (w34ok N) .nil))) .nil
def v12G [Alg] (N:Nat)  (e0_0:Int) (e0_1:Int) (e0_2:(List Ex)):O:=
  ck (w29p N (Ex.mk (Ex.mk e0_0 e0_1 e0_2).op (Ex.mk e0_0 e0_1 e0_2).num (Ex.mk e0_0 e0_1 e0_2).kids).op (Ex.mk (Ex.mk e0_0 e0_1 e0_2).op (Ex.mk e0_0 e0_1 e0_2).num (Ex.mk e0_0 e0_1 e0_2).kids).num (Ex.mk (Ex.mk e0_0 e0_1 e0_2).op (Ex.mk e0_0 e0_1 e0_2).num (Ex.mk e0_0 e0_1 e0_2).kids).kids) <|
  br (decide (w29y0 N (Ex.mk (Ex.mk e0_0 e0_1 e0_2).op (Ex.mk e0_0 e0_1 e0_2).num (Ex.mk e0_0 e0_1 e0_2).kids).op (Ex.mk (Ex.mk e0_0 e0_1 e0_2).op (Ex.mk e0_0 e0_1 e0_2).num (Ex.mk e0_0 e0_1 e0_2).kids).num (Ex.mk (Ex.mk e0_0 e0_1 e0_2).op (Ex.mk e0_0 e0_1 e0_2).num (Ex.mk e0_0 e0_1 e0_2).kids).kids≠(0:Int)))
    (some (v12r0 [] (w29y0 N (Ex.mk (Ex.mk e0_0 e0_1 e0_2).op (Ex.mk e0_0 e0_1 e0_2).num (Ex.mk e0_0 e0_1 e0_2).kids).op (Ex.mk (Ex.mk e0_0 e0_1 e0_2).op (Ex.mk e0_0 e0_1 e0_2).num (Ex.mk e0_0 e0_1 e0_2).kids).num (Ex.mk (Ex.mk e0_0 e0_1 e0_2).op (Ex.mk e0_0 e0_1 e0_2).num (Ex.mk e0_0 e0_1 e0_2).kids).kids)))
    (ck (w35p N (Ex.mk (Ex.mk e0_0 e0_1 e0_2).op (Ex.mk e0_0 e0_1 e0_2).num (Ex.mk e0_0 e0_1 e0_2).kids).op (Ex.mk (Ex.mk e0_0 e0_1 e0_2).op (Ex.mk e0_0 e0_1 e0_2).num (Ex.mk e0_0 e0_1 e0_2).kids).num (Ex.mk (Ex.mk e0_0 e0_1 e0_2).op (Ex.mk e0_0 e0_1 e0_2).num (Ex.mk e0_0 e0_1 e0_2).kids).kids) <|
    ck (w34p N (w35y0 N (Ex.mk (Ex.mk e0_0 e0_1 e0_2).op (Ex.mk e0_0 e0_1 e0_2).num (Ex.mk e0_0 e0_1 e0_2).kids).op (Ex.mk (Ex.mk e0_0 e0_1 e0_2).op (Ex.mk e0_0 e0_1 e0_2).num (Ex.mk e0_0 e0_1 e0_2).kids).num (Ex.mk (Ex.mk e0_0 e0_1 e0_2).op (Ex.mk e0_0 e0_1 e0_2).num (Ex.mk e0_0 e0_1 e0_2).kids).kids)) <|
    some (v12r0 (w34y1 N (w35y0 N (Ex.mk (Ex.mk e0_0 e0_1 e0_2).op (Ex.mk e0_0 e0_1 e0_2).num (Ex.mk e0_0 e0_1 e0_2).kids).op (Ex.mk (Ex.mk e0_0 e0_1 e0_2).op (Ex.mk e0_0 e0_1 e0_2).num (Ex.mk e0_0 e0_1 e0_2).kids).num (Ex.mk (Ex.mk e0_0 e0_1 e0_2).op (Ex.mk e0_0 e0_1 e0_2).num (Ex.mk e0_0 e0_1 e0_2).kids).kids)) ((0:Int))))
def v12 [Alg] (N:Nat) (e0_0:Int) (e0_1:Int) (e0_2:(List Ex)):O:=v12G N  e0_0 e0_1 e0_2
noncomputable def v12h [Alg] (_:Nat):Hint:=.d
theorem v12hk (N:Nat):HintOk (v12c N) Tryz.f12.ntmps (v12h N) v12b:=hk_of _ _ trivial
theorem v12q [Alg] (N:Nat) (e0_0:Int) (e0_1:Int) (e0_2:(List Ex)):v12G N  e0_0 e0_1 e0_2=exec (v12c N) Tryz.f12.ntmps (v12h N) v12b ⟨argT 0 [.agg [.e (.i .i64) e0_0,.e (.i .i64) e0_1,.e (.sl .ex) e0_2]],[],100⟩ (finX (v12c N) Tryz.f12 false):=by kernel_rfl
theorem v12does {N:Nat} (hc:CxOk (v12c N)) {e0_0:Int} {e0_1:Int} {e0_2:(List Ex)} {r:Res} (h:v12 N e0_0 e0_1 e0_2=some r):DoesR Tryz.prog 12 (([.agg [.e (.i .i64) e0_0,.e (.i .i64) e0_1,.e (.sl .ex) e0_2]]:List X).map X.D) (HA []) r:=
  fun_ok hc (f:=12) (fn:=Tryz.f12) (code:=v12b) (by kernel_rfl) (by kernel_rfl) (v12hk N) (Nat.le_of_ble_eq_true (by kernel_rfl)) (ow:=false) ((v12q N e0_0 e0_1 e0_2).symm.trans (by exact h))
def v12un (r:Res):Option ((List Int)×Int):=match r with
  | (.tup [x0,x1],[])=>(match ue (.sl (.i .i64)) x0,ue (.i .i64) x1 with | some a0,some a1=>some (a0,a1) | _,_=>none)
  | _=>none
theorem v12uo {r:Res} {d:(List Int)×Int} (h:v12un r=some d):r=v12r0 (d.1) (d.2):=by
  unfold v12un at h
  split at h
  · split at h
    · rename_i h0 h1;cases h;rw [ue_some h0,ue_some h1];rfl
    · cases h
  · cases h
def v12z (N:Nat) (e0_0:Int) (e0_1:Int) (e0_2:(List Ex)):Option ((List Int)×Int):=(v12 N e0_0 e0_1 e0_2).bind v12un
theorem v12fin {N:Nat} (hc:CxOk (v12c N)) {e0_0:Int} {e0_1:Int} {e0_2:(List Ex)} {d:(List Int)×Int} (hd:v12z N e0_0 e0_1 e0_2=some d):Does Tryz.prog 12 (([.agg [.e (.i .i64) e0_0,.e (.i .i64) e0_1,.e (.sl .ex) e0_2]]:List X).map X.D) (HA []) (v12r0 (d.1) (d.2)).1.D (HA (v12r0 (d.1) (d.2)).2):=by
  obtain ⟨r,hr,hu⟩:=Option.bind_eq_some_iff.1 hd
  have:=v12does hc hr
  rw [v12uo hu] at this
  exact this
def v12p (N:Nat) (e0_0:Int) (e0_1:Int) (e0_2:(List Ex)):Bool:=(v12z N e0_0 e0_1 e0_2).isSome
def v12y0 (N:Nat) (e0_0:Int) (e0_1:Int) (e0_2:(List Ex)):(List Int):=((v12z N e0_0 e0_1 e0_2).getD ([],0)).1
def v12y1 (N:Nat) (e0_0:Int) (e0_1:Int) (e0_2:(List Ex)):Int:=((v12z N e0_0 e0_1 e0_2).getD ([],0)).2
def v12e (N:Nat):Ent':=E1 .ex  (fun x0=>(v12p N (Ex.op x0) (Ex.num x0) (Ex.kids x0),v12r0 (v12y0 N (Ex.op x0) (Ex.num x0) (Ex.kids x0)) (v12y1 N (Ex.op x0) (Ex.num x0) (Ex.kids x0))))
theorem v12re {N:Nat} {e0_0:Int} {e0_1:Int} {e0_2:(List Ex)} {d:(List Int)×Int} (hd:v12z N e0_0 e0_1 e0_2=some d):v12r0 (v12y0 N e0_0 e0_1 e0_2) (v12y1 N e0_0 e0_1 e0_2)=v12r0 (d.1) (d.2):=by unfold v12y0 v12y1;rw [hd];rfl
theorem v12ok (N:Nat):EOk Tryz.prog 12 (v12e N):=EOk.e1 (fun x0 h=>by
  have h:(v12z N (Ex.op x0) (Ex.num x0) (Ex.kids x0)).isSome=true:=h
  obtain ⟨d,hd⟩:=Option.isSome_iff_exists.1 h
  have f:=v12fin (v12cx N) hd
  rw [← v12re hd] at f
  exact f)
def v13r0 (a0:(List Int)) (a1:Int):Res:=(.tup [.e (.sl (.i .i64)) a0,.e (.i .i64) a1],[])
noncomputable def v13L (N:Nat):List (Nat×Ent'):=[(36,w36e N),(38,w38e N),(37,w37e N)]
noncomputable def v13c (N:Nat):Cx:=⟨Tryz.prog,25,v13L N,[]⟩
noncomputable def v13b:Code:=Tryz.f13.body.getD .skip
theorem v13cx (N:Nat):CxOk (v13c N):=ctx_ok (by kernel_rfl) (.cons (by kernel_rfl) (w36ok N) (.cons (by kernel_rfl) (w38ok N) (.cons (by kernel_rfl) (w37ok N) .nil))) .nil
def v13G [Alg] (N:Nat)  (e0_0:Int) (e0_1:Int) (e0_2:(List Ex)):O:=
  ck (w36p N (Ex.mk (Ex.mk e0_0 e0_1 e0_2).op (Ex.mk e0_0 e0_1 e0_2).num (Ex.mk e0_0 e0_1 e0_2).kids).op (Ex.mk (Ex.mk e0_0 e0_1 e0_2).op (Ex.mk e0_0 e0_1 e0_2).num (Ex.mk e0_0 e0_1 e0_2).kids).num (Ex.mk (Ex.mk e0_0 e0_1 e0_2).op (Ex.mk e0_0 e0_1 e0_2).num (Ex.mk e0_0 e0_1 e0_2).kids).kids) <|
  br (decide (w36y0 N (Ex.mk (Ex.mk e0_0 e0_1 e0_2).op (Ex.mk e0_0 e0_1 e0_2).num (Ex.mk e0_0 e0_1 e0_2).kids).op (Ex.mk (Ex.mk e0_0 e0_1 e0_2).op (Ex.mk e0_0 e0_1 e0_2).num (Ex.mk e0_0 e0_1 e0_2).kids).num (Ex.mk (Ex.mk e0_0 e0_1 e0_2).op (Ex.mk e0_0 e0_1 e0_2).num (Ex.mk e0_0 e0_1 e0_2).kids).kids≠(0:Int)))
    (some (v13r0 [] (w36y0 N (Ex.mk (Ex.mk e0_0 e0_1 e0_2).op (Ex.mk e0_0 e0_1 e0_2).num (Ex.mk e0_0 e0_1 e0_2).kids).op (Ex.mk (Ex.mk e0_0 e0_1 e0_2).op (Ex.mk e0_0 e0_1 e0_2).num (Ex.mk e0_0 e0_1 e0_2).kids).num (Ex.mk (Ex.mk e0_0 e0_1 e0_2).op (Ex.mk e0_0 e0_1 e0_2).num (Ex.mk e0_0 e0_1 e0_2).kids).kids)))
    (ck (w38p N (Ex.mk (Ex.mk e0_0 e0_1 e0_2).op (Ex.mk e0_0 e0_1 e0_2).num (Ex.mk e0_0 e0_1 e0_2).kids).op (Ex.mk (Ex.mk e0_0 e0_1 e0_2).op (Ex.mk e0_0 e0_1 e0_2).num (Ex.mk e0_0 e0_1 e0_2).kids).num (Ex.mk (Ex.mk e0_0 e0_1 e0_2).op (Ex.mk e0_0 e0_1 e0_2).num (Ex.mk e0_0 e0_1 e0_2).kids).kids) <|
    ck (w37p N (w38y0 N (Ex.mk (Ex.mk e0_0 e0_1 e0_2).op (Ex.mk e0_0 e0_1 e0_2).num (Ex.mk e0_0 e0_1 e0_2).kids).op (Ex.mk (Ex.mk e0_0 e0_1 e0_2).op (Ex.mk e0_0 e0_1 e0_2).num (Ex.mk e0_0 e0_1 e0_2).kids).num (Ex.mk (Ex.mk e0_0 e0_1 e0_2).op (Ex.mk e0_0 e0_1 e0_2).num (Ex.mk e0_0 e0_1 e0_2).kids).kids)) <|
    some (v13r0 (w37y1 N (w38y0 N (Ex.mk (Ex.mk e0_0 e0_1 e0_2).op (Ex.mk e0_0 e0_1 e0_2).num (Ex.mk e0_0 e0_1 e0_2).kids).op (Ex.mk (Ex.mk e0_0 e0_1 e0_2).op (Ex.mk e0_0 e0_1 e0_2).num (Ex.mk e0_0 e0_1 e0_2).kids).num (Ex.mk (Ex.mk e0_0 e0_1 e0_2).op (Ex.mk e0_0 e0_1 e0_2).num (Ex.mk e0_0 e0_1 e0_2).kids).kids)) ((0:Int))))
def v13 [Alg] (N:Nat) (e0_0:Int) (e0_1:Int) (e0_2:(List Ex)):O:=v13G N  e0_0 e0_1 e0_2
noncomputable def v13h [Alg] (_:Nat):Hint:=.d
theorem v13hk (N:Nat):HintOk (v13c N) Tryz.f13.ntmps (v13h N) v13b:=hk_of _ _ trivial
theorem v13q [Alg] (N:Nat) (e0_0:Int) (e0_1:Int) (e0_2:(List Ex)):v13G N  e0_0 e0_1 e0_2=exec (v13c N) Tryz.f13.ntmps (v13h N) v13b ⟨argT 0 [.agg [.e (.i .i64) e0_0,.e (.i .i64) e0_1,.e (.sl .ex) e0_2]],[],100⟩ (finX (v13c N) Tryz.f13 false):=by kernel_rfl
theorem v13does {N:Nat} (hc:CxOk (v13c N)) {e0_0:Int} {e0_1:Int} {e0_2:(List Ex)} {r:Res} (h:v13 N e0_0 e0_1 e0_2=some r):DoesR Tryz.prog 13 (([.agg [.e (.i .i64) e0_0,.e (.i .i64) e0_1,.e (.sl .ex) e0_2]]:List X).map X.D) (HA []) r:=
  fun_ok hc (f:=13) (fn:=Tryz.f13) (code:=v13b) (by kernel_rfl) (by kernel_rfl) (v13hk N) (Nat.le_of_ble_eq_true (by kernel_rfl)) (ow:=false) ((v13q N e0_0 e0_1 e0_2).symm.trans (by exact h))
def v13un (r:Res):Option ((List Int)×Int):=match r with
  | (.tup [x0,x1],[])=>(match ue (.sl (.i .i64)) x0,ue (.i .i64) x1 with | some a0,some a1=>some (a0,a1) | _,_=>none)
  | _=>none
theorem v13uo {r:Res} {d:(List Int)×Int} (h:v13un r=some d):r=v13r0 (d.1) (d.2):=by
  unfold v13un at h
  split at h
  · split at h
    · rename_i h0 h1;cases h;rw [ue_some h0,ue_some h1];rfl
    · cases h
  · cases h
def v13z (N:Nat) (e0_0:Int) (e0_1:Int) (e0_2:(List Ex)):Option ((List Int)×Int):=(v13 N e0_0 e0_1 e0_2).bind v13un
theorem v13fin {N:Nat} (hc:CxOk (v13c N)) {e0_0:Int} {e0_1:Int} {e0_2:(List Ex)} {d:(List Int)×Int} (hd:v13z N e0_0 e0_1 e0_2=some d):Does Tryz.prog 13 (([.agg [.e (.i .i64) e0_0,.e (.i .i64) e0_1,.e (.sl .ex) e0_2]]:List X).map X.D) (HA []) (v13r0 (d.1) (d.2)).1.D (HA (v13r0 (d.1) (d.2)).2):=by
  obtain ⟨r,hr,hu⟩:=Option.bind_eq_some_iff.1 hd
  have:=v13does hc hr
  rw [v13uo hu] at this
  exact this
def v13p (N:Nat) (e0_0:Int) (e0_1:Int) (e0_2:(List Ex)):Bool:=(v13z N e0_0 e0_1 e0_2).isSome
def v13y0 (N:Nat) (e0_0:Int) (e0_1:Int) (e0_2:(List Ex)):(List Int):=((v13z N e0_0 e0_1 e0_2).getD ([],0)).1
def v13y1 (N:Nat) (e0_0:Int) (e0_1:Int) (e0_2:(List Ex)):Int:=((v13z N e0_0 e0_1 e0_2).getD ([],0)).2
def v13e (N:Nat):Ent':=E1 .ex  (fun x0=>(v13p N (Ex.op x0) (Ex.num x0) (Ex.kids x0),v13r0 (v13y0 N (Ex.op x0) (Ex.num x0) (Ex.kids x0)) (v13y1 N (Ex.op x0) (Ex.num x0) (Ex.kids x0))))
theorem v13re {N:Nat} {e0_0:Int} {e0_1:Int} {e0_2:(List Ex)} {d:(List Int)×Int} (hd:v13z N e0_0 e0_1 e0_2=some d):v13r0 (v13y0 N e0_0 e0_1 e0_2) (v13y1 N e0_0 e0_1 e0_2)=v13r0 (d.1) (d.2):=by unfold v13y0 v13y1;rw [hd];rfl
theorem v13ok (N:Nat):EOk Tryz.prog 13 (v13e N):=EOk.e1 (fun x0 h=>by
  have h:(v13z N (Ex.op x0) (Ex.num x0) (Ex.kids x0)).isSome=true:=h
  obtain ⟨d,hd⟩:=Option.isSome_iff_exists.1 h
  have f:=v13fin (v13cx N) hd
  rw [← v13re hd] at f
  exact f)
end
end Go.Proofs
