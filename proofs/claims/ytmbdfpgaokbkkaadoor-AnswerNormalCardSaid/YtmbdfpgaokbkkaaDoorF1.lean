/- What functions do: the devices. Conditions are in the theorems. -/
import Derived.Test.YtmbdfpgaokbkkaaDoorE7
import Derived.Test.YtmbdfpgaokbkkaaDoorProg
import Derived.KernelRfl
import Derived.Test.YtmbdfpgaokbkkaaDoorF0
/- What functions do. -/
namespace Go.Proofs
noncomputable section
open Go.Ax Go.Ax.Alg Go.RowKit Go.Ab
abbrev YF1:=List UInt8
open Go
def w19r0 (a0:Bool):Res:=(.e .bo a0,[])
def w19L (_:Nat):List (Nat×Ent'):=[]
def w19c (N:Nat):Cx:=⟨Tryd.prog,99999,w19L N,[]⟩
def w19b:Code:=Tryd.f19.body.getD .skip
theorem w19cx (N:Nat):CxOk (w19c N):=ctx_ok (by kernel_rfl) .nil .nil
def w19G [Alg] (_:Nat)  (n0:Int):O:=
 some (w19r0 (decide ((32:Int)<=n0)&&decide (n0<=(126:Int))))
def w19 [Alg] (N:Nat) (n0:Int):O:=w19G N  n0
def w19h [Alg] (_:Nat):Hint:=.d
theorem w19hk (N:Nat):HintOk (w19c N) Tryd.f19.ntmps (w19h N) w19b:=hk_of _ _ trivial
theorem w19q [Alg] (N:Nat) (n0:Int):w19G N  n0=exec (w19c N) Tryd.f19.ntmps (w19h N) w19b ⟨argT 0 [.e (.i .i64) n0],[],100⟩ (finX (w19c N) Tryd.f19 false):=by kernel_rfl
theorem w19does {N:Nat} (hc:CxOk (w19c N)) {n0:Int} {r:Res} (h:w19 N n0=some r):DoesR Tryd.prog 19 (([.e (.i .i64) n0]:List X).map X.D) (HA []) r:=
 fun_ok hc (f:=19) (fn:=Tryd.f19) (code:=w19b) (by kernel_rfl) (by kernel_rfl) (w19hk N) (Nat.le_of_ble_eq_true (by kernel_rfl)) (ow:=false) ((w19q N n0).symm.trans (by exact h))
def w19un (r:Res):Option (Bool):=match r with
 | (x0,[])=>(match ue .bo x0 with | some a0=>some a0 | _=>none)
 | _=>none
theorem w19uo {r:Res} {d:Bool} (h:w19un r=some d):r=w19r0 (d):=by
 unfold w19un at h;split at h
 ·split at h
  ·rename_i h0;cases h;rw [ue_some h0];rfl
  ·cases h
 ·cases h
def w19z (N:Nat) (n0:Int):Option (Bool):=(w19 N n0).bind w19un
theorem w19fin {N:Nat} (hc:CxOk (w19c N)) {n0:Int} {d:Bool} (hd:w19z N n0=some d):Does Tryd.prog 19 (([.e (.i .i64) n0]:List X).map X.D) (HA []) (w19r0 (d)).1.D (HA (w19r0 (d)).2):=by
 obtain ⟨r,hr,hu⟩:=Option.bind_eq_some_iff.1 hd;have:=w19does hc hr;rw [w19uo hu] at this;exact this
def w19p (N:Nat) (n0:Int):Bool:=(w19z N n0).isSome
def w19y0 (N:Nat) (n0:Int):Bool:=((w19z N n0).getD false)
def w19e (N:Nat):Ent':=E1 (.i .i64)  (fun x0=>(w19p N x0,w19r0 (w19y0 N x0)))
theorem w19re {N:Nat} {n0:Int} {d:Bool} (hd:w19z N n0=some d):w19r0 (w19y0 N n0)=w19r0 (d):=by unfold w19y0;rw [hd];rfl
theorem w19ok (N:Nat):EOk Tryd.prog 19 (w19e N):=EOk.e1 (fun x0 h=>by
 have h:(w19z N x0).isSome=true:=h;obtain ⟨d,hd⟩:=Option.isSome_iff_exists.1 h;have f:=w19fin (w19cx N) hd;rw [← w19re hd] at f;exact f)
def w16r0 (a0:Bool):Res:=(.e .bo a0,[])
def w16L (_:Nat):List (Nat×Ent'):=[]
def w16c (N:Nat):Cx:=⟨Tryd.prog,99999,w16L N,[]⟩
def w16b:Code:=Tryd.f16.body.getD .skip
theorem w16cx (N:Nat):CxOk (w16c N):=ctx_ok (by kernel_rfl) .nil .nil
def w16G [Alg] (_:Nat)  (kind0:Int) (options1:Int):O:=
 br (decide (kind0=(0:Int)))
  (some (w16r0 (decide ((2:Int)<=options1)&&decide (options1<=(6:Int)))))
  (br (decide (kind0=(1:Int)))
   (br (decide (kind0=(1:Int)))
    (some (w16r0 (decide (options1=(0:Int)))))
    (some (w16r0 false)))
   (br (decide (kind0=(2:Int)))
    (some (w16r0 (decide (options1=(0:Int)))))
    (some (w16r0 false))))
def w16 [Alg] (N:Nat) (kind0:Int) (options1:Int):O:=w16G N  kind0 options1
def w16h [Alg] (_:Nat):Hint:=.d
theorem w16hk (N:Nat):HintOk (w16c N) Tryd.f16.ntmps (w16h N) w16b:=hk_of _ _ trivial
theorem w16q [Alg] (N:Nat) (kind0:Int) (options1:Int):w16G N  kind0 options1=exec (w16c N) Tryd.f16.ntmps (w16h N) w16b ⟨argT 0 [.e (.i .i64) kind0,.e (.i .i64) options1],[],100⟩ (finX (w16c N) Tryd.f16 false):=by kernel_rfl
theorem w16does {N:Nat} (hc:CxOk (w16c N)) {kind0:Int} {options1:Int} {r:Res} (h:w16 N kind0 options1=some r):DoesR Tryd.prog 16 (([.e (.i .i64) kind0,.e (.i .i64) options1]:List X).map X.D) (HA []) r:=
 fun_ok hc (f:=16) (fn:=Tryd.f16) (code:=w16b) (by kernel_rfl) (by kernel_rfl) (w16hk N) (Nat.le_of_ble_eq_true (by kernel_rfl)) (ow:=false) ((w16q N kind0 options1).symm.trans (by exact h))
def w16un (r:Res):Option (Bool):=match r with
 | (x0,[])=>(match ue .bo x0 with | some a0=>some a0 | _=>none)
 | _=>none
theorem w16uo {r:Res} {d:Bool} (h:w16un r=some d):r=w16r0 (d):=by
 unfold w16un at h;split at h
 ·split at h
  ·rename_i h0;cases h;rw [ue_some h0];rfl
  ·cases h
 ·cases h
def w16z (N:Nat) (kind0:Int) (options1:Int):Option (Bool):=(w16 N kind0 options1).bind w16un
theorem w16fin {N:Nat} (hc:CxOk (w16c N)) {kind0:Int} {options1:Int} {d:Bool} (hd:w16z N kind0 options1=some d):Does Tryd.prog 16 (([.e (.i .i64) kind0,.e (.i .i64) options1]:List X).map X.D) (HA []) (w16r0 (d)).1.D (HA (w16r0 (d)).2):=by
 obtain ⟨r,hr,hu⟩:=Option.bind_eq_some_iff.1 hd;have:=w16does hc hr;rw [w16uo hu] at this;exact this
def w16p (N:Nat) (kind0:Int) (options1:Int):Bool:=(w16z N kind0 options1).isSome
def w16y0 (N:Nat) (kind0:Int) (options1:Int):Bool:=((w16z N kind0 options1).getD false)
def w16e (N:Nat):Ent':=E2 (.i .i64) (.i .i64)  (fun x0 x1=>(w16p N x0 x1,w16r0 (w16y0 N x0 x1)))
theorem w16re {N:Nat} {kind0:Int} {options1:Int} {d:Bool} (hd:w16z N kind0 options1=some d):w16r0 (w16y0 N kind0 options1)=w16r0 (d):=by unfold w16y0;rw [hd];rfl
theorem w16ok (N:Nat):EOk Tryd.prog 16 (w16e N):=EOk.e2 (fun x0 x1 h=>by
 have h:(w16z N x0 x1).isSome=true:=h;obtain ⟨d,hd⟩:=Option.isSome_iff_exists.1 h;have f:=w16fin (w16cx N) hd;rw [← w16re hd] at f;exact f)
def w6r0 (a0:Int):Res:=(.e (.i .i64) a0,[])
def w6L (_:Nat):List (Nat×Ent'):=[]
def w6c (N:Nat):Cx:=⟨Tryd.prog,99999,w6L N,[]⟩
def w6b:Code:=Tryd.f6.body.getD .skip
theorem w6cx (N:Nat):CxOk (w6c N):=ctx_ok (by kernel_rfl) .nil .nil
def w6G [Alg] (_:Nat)  (n0:Int) (most1:Int):O:=
 br (decide (n0 < (0:Int)))
  (br (decide (most1 < (1:Int)))
   (some (w6r0 ((0:Int))))
   (ck (decide (most1≠(0:Int))) <|
   some (w6r0 ((IntKind.i64.wrap (-IntKind.i64.wrap (n0+(1:Int)))).tmod most1))))
  (br (decide (most1 < (1:Int)))
   (some (w6r0 ((0:Int))))
   (ck (decide (most1≠(0:Int))) <|
   some (w6r0 (n0.tmod most1))))
def w6 [Alg] (N:Nat) (n0:Int) (most1:Int):O:=w6G N  n0 most1
def w6h [Alg] (_:Nat):Hint:=.d
theorem w6hk (N:Nat):HintOk (w6c N) Tryd.f6.ntmps (w6h N) w6b:=hk_of _ _ trivial
theorem w6q [Alg] (N:Nat) (n0:Int) (most1:Int):w6G N  n0 most1=exec (w6c N) Tryd.f6.ntmps (w6h N) w6b ⟨argT 0 [.e (.i .i64) n0,.e (.i .i64) most1],[],100⟩ (finX (w6c N) Tryd.f6 false):=by kernel_rfl
theorem w6does {N:Nat} (hc:CxOk (w6c N)) {n0:Int} {most1:Int} {r:Res} (h:w6 N n0 most1=some r):DoesR Tryd.prog 6 (([.e (.i .i64) n0,.e (.i .i64) most1]:List X).map X.D) (HA []) r:=
 fun_ok hc (f:=6) (fn:=Tryd.f6) (code:=w6b) (by kernel_rfl) (by kernel_rfl) (w6hk N) (Nat.le_of_ble_eq_true (by kernel_rfl)) (ow:=false) ((w6q N n0 most1).symm.trans (by exact h))
def w6un (r:Res):Option (Int):=match r with
 | (x0,[])=>(match ue (.i .i64) x0 with | some a0=>some a0 | _=>none)
 | _=>none
theorem w6uo {r:Res} {d:Int} (h:w6un r=some d):r=w6r0 (d):=by
 unfold w6un at h;split at h
 ·split at h
  ·rename_i h0;cases h;rw [ue_some h0];rfl
  ·cases h
 ·cases h
def w6z (N:Nat) (n0:Int) (most1:Int):Option (Int):=(w6 N n0 most1).bind w6un
theorem w6fin {N:Nat} (hc:CxOk (w6c N)) {n0:Int} {most1:Int} {d:Int} (hd:w6z N n0 most1=some d):Does Tryd.prog 6 (([.e (.i .i64) n0,.e (.i .i64) most1]:List X).map X.D) (HA []) (w6r0 (d)).1.D (HA (w6r0 (d)).2):=by
 obtain ⟨r,hr,hu⟩:=Option.bind_eq_some_iff.1 hd;have:=w6does hc hr;rw [w6uo hu] at this;exact this
def w6p (N:Nat) (n0:Int) (most1:Int):Bool:=(w6z N n0 most1).isSome
def w6y0 (N:Nat) (n0:Int) (most1:Int):Int:=((w6z N n0 most1).getD 0)
def w6e (N:Nat):Ent':=E2 (.i .i64) (.i .i64)  (fun x0 x1=>(w6p N x0 x1,w6r0 (w6y0 N x0 x1)))
theorem w6re {N:Nat} {n0:Int} {most1:Int} {d:Int} (hd:w6z N n0 most1=some d):w6r0 (w6y0 N n0 most1)=w6r0 (d):=by unfold w6y0;rw [hd];rfl
theorem w6ok (N:Nat):EOk Tryd.prog 6 (w6e N):=EOk.e2 (fun x0 x1 h=>by
 have h:(w6z N x0 x1).isSome=true:=h;obtain ⟨d,hd⟩:=Option.isSome_iff_exists.1 h;have f:=w6fin (w6cx N) hd;rw [← w6re hd] at f;exact f)
def w15r0 (a0:Int):Res:=(.e (.i .i64) a0,[])
def w15L (N:Nat):List (Nat×Ent'):=[(6,w6e N)]
def w15c (N:Nat):Cx:=⟨Tryd.prog,99999,w15L N,[]⟩
def w15b:Code:=Tryd.f15.body.getD .skip
theorem w15cx (N:Nat):CxOk (w15c N):=ctx_ok (by kernel_rfl) (.cons (by kernel_rfl) (w6ok N) .nil) .nil
def w15G [Alg] (N:Nat)  (l0:(List Int)) (i1:Int) (most2:Int):O:=
 br (decide (i1 < (0:Int))||decide ((↑l0.length:Int)<=i1))
  (some (w15r0 ((0:Int))))
  (gx l0 i1 fun y0=>
  ck (w6p N y0 most2) <|
  some (w15r0 (w6y0 N y0 most2)))
def w15 [Alg] (N:Nat) (l0:(List Int)) (i1:Int) (most2:Int):O:=w15G N  l0 i1 most2
def w15h [Alg] (_:Nat):Hint:=.d
theorem w15hk (N:Nat):HintOk (w15c N) Tryd.f15.ntmps (w15h N) w15b:=hk_of _ _ trivial
theorem w15q [Alg] (N:Nat) (l0:(List Int)) (i1:Int) (most2:Int):w15G N  l0 i1 most2=exec (w15c N) Tryd.f15.ntmps (w15h N) w15b ⟨argT 0 [.e (.sl (.i .i64)) l0,.e (.i .i64) i1,.e (.i .i64) most2],[],100⟩ (finX (w15c N) Tryd.f15 false):=by kernel_rfl
theorem w15does {N:Nat} (hc:CxOk (w15c N)) {l0:(List Int)} {i1:Int} {most2:Int} {r:Res} (h:w15 N l0 i1 most2=some r):DoesR Tryd.prog 15 (([.e (.sl (.i .i64)) l0,.e (.i .i64) i1,.e (.i .i64) most2]:List X).map X.D) (HA []) r:=
 fun_ok hc (f:=15) (fn:=Tryd.f15) (code:=w15b) (by kernel_rfl) (by kernel_rfl) (w15hk N) (Nat.le_of_ble_eq_true (by kernel_rfl)) (ow:=false) ((w15q N l0 i1 most2).symm.trans (by exact h))
def w15un (r:Res):Option (Int):=match r with
 | (x0,[])=>(match ue (.i .i64) x0 with | some a0=>some a0 | _=>none)
 | _=>none
theorem w15uo {r:Res} {d:Int} (h:w15un r=some d):r=w15r0 (d):=by
 unfold w15un at h;split at h
 ·split at h
  ·rename_i h0;cases h;rw [ue_some h0];rfl
  ·cases h
 ·cases h
def w15z (N:Nat) (l0:(List Int)) (i1:Int) (most2:Int):Option (Int):=(w15 N l0 i1 most2).bind w15un
theorem w15fin {N:Nat} (hc:CxOk (w15c N)) {l0:(List Int)} {i1:Int} {most2:Int} {d:Int} (hd:w15z N l0 i1 most2=some d):Does Tryd.prog 15 (([.e (.sl (.i .i64)) l0,.e (.i .i64) i1,.e (.i .i64) most2]:List X).map X.D) (HA []) (w15r0 (d)).1.D (HA (w15r0 (d)).2):=by
 obtain ⟨r,hr,hu⟩:=Option.bind_eq_some_iff.1 hd;have:=w15does hc hr;rw [w15uo hu] at this;exact this
def w15p (N:Nat) (l0:(List Int)) (i1:Int) (most2:Int):Bool:=(w15z N l0 i1 most2).isSome
def w15y0 (N:Nat) (l0:(List Int)) (i1:Int) (most2:Int):Int:=((w15z N l0 i1 most2).getD 0)
def w15e (N:Nat):Ent':=E3 (.sl (.i .i64)) (.i .i64) (.i .i64)  (fun x0 x1 x2=>(w15p N x0 x1 x2,w15r0 (w15y0 N x0 x1 x2)))
theorem w15re {N:Nat} {l0:(List Int)} {i1:Int} {most2:Int} {d:Int} (hd:w15z N l0 i1 most2=some d):w15r0 (w15y0 N l0 i1 most2)=w15r0 (d):=by unfold w15y0;rw [hd];rfl
theorem w15ok (N:Nat):EOk Tryd.prog 15 (w15e N):=EOk.e3 (fun x0 x1 x2 h=>by
 have h:(w15z N x0 x1 x2).isSome=true:=h;obtain ⟨d,hd⟩:=Option.isSome_iff_exists.1 h;have f:=w15fin (w15cx N) hd;rw [← w15re hd] at f;exact f)
def w22r0 (a0:Bool):Res:=(.e .bo a0,[])
def w22L (_:Nat):List (Nat×Ent'):=[]
def w22c (N:Nat):Cx:=⟨Tryd.prog,99999,w22L N,[]⟩
def w22b:Code:=Tryd.f22.body.getD .skip
theorem w22cx (N:Nat):CxOk (w22c N):=ctx_ok (by kernel_rfl) .nil .nil
def w22G [Alg] (_:Nat)  (kind0:Int) (options1:Int):O:=
 br (decide (kind0=(0:Int)))
  (some (w22r0 (decide ((2:Int)<=options1)&&decide (options1<=(6:Int)))))
  (some (w22r0 ((decide (kind0=(1:Int))||decide (kind0=(2:Int)))&&decide (options1=(0:Int)))))
def w22 [Alg] (N:Nat) (kind0:Int) (options1:Int):O:=w22G N  kind0 options1
def w22h [Alg] (_:Nat):Hint:=.d
theorem w22hk (N:Nat):HintOk (w22c N) Tryd.f22.ntmps (w22h N) w22b:=hk_of _ _ trivial
theorem w22q [Alg] (N:Nat) (kind0:Int) (options1:Int):w22G N  kind0 options1=exec (w22c N) Tryd.f22.ntmps (w22h N) w22b ⟨argT 0 [.e (.i .i64) kind0,.e (.i .i64) options1],[],100⟩ (finX (w22c N) Tryd.f22 false):=by kernel_rfl
theorem w22does {N:Nat} (hc:CxOk (w22c N)) {kind0:Int} {options1:Int} {r:Res} (h:w22 N kind0 options1=some r):DoesR Tryd.prog 22 (([.e (.i .i64) kind0,.e (.i .i64) options1]:List X).map X.D) (HA []) r:=
 fun_ok hc (f:=22) (fn:=Tryd.f22) (code:=w22b) (by kernel_rfl) (by kernel_rfl) (w22hk N) (Nat.le_of_ble_eq_true (by kernel_rfl)) (ow:=false) ((w22q N kind0 options1).symm.trans (by exact h))
def w22un (r:Res):Option (Bool):=match r with
 | (x0,[])=>(match ue .bo x0 with | some a0=>some a0 | _=>none)
 | _=>none
theorem w22uo {r:Res} {d:Bool} (h:w22un r=some d):r=w22r0 (d):=by
 unfold w22un at h;split at h
 ·split at h
  ·rename_i h0;cases h;rw [ue_some h0];rfl
  ·cases h
 ·cases h
def w22z (N:Nat) (kind0:Int) (options1:Int):Option (Bool):=(w22 N kind0 options1).bind w22un
theorem w22fin {N:Nat} (hc:CxOk (w22c N)) {kind0:Int} {options1:Int} {d:Bool} (hd:w22z N kind0 options1=some d):Does Tryd.prog 22 (([.e (.i .i64) kind0,.e (.i .i64) options1]:List X).map X.D) (HA []) (w22r0 (d)).1.D (HA (w22r0 (d)).2):=by
 obtain ⟨r,hr,hu⟩:=Option.bind_eq_some_iff.1 hd;have:=w22does hc hr;rw [w22uo hu] at this;exact this
def w22p (N:Nat) (kind0:Int) (options1:Int):Bool:=(w22z N kind0 options1).isSome
def w22y0 (N:Nat) (kind0:Int) (options1:Int):Bool:=((w22z N kind0 options1).getD false)
def w22e (N:Nat):Ent':=E2 (.i .i64) (.i .i64)  (fun x0 x1=>(w22p N x0 x1,w22r0 (w22y0 N x0 x1)))
theorem w22re {N:Nat} {kind0:Int} {options1:Int} {d:Bool} (hd:w22z N kind0 options1=some d):w22r0 (w22y0 N kind0 options1)=w22r0 (d):=by unfold w22y0;rw [hd];rfl
theorem w22ok (N:Nat):EOk Tryd.prog 22 (w22e N):=EOk.e2 (fun x0 x1 h=>by
 have h:(w22z N x0 x1).isSome=true:=h;obtain ⟨d,hd⟩:=Option.isSome_iff_exists.1 h;have f:=w22fin (w22cx N) hd;rw [← w22re hd] at f;exact f)
def w23r0 (a0:Int) (a1:Int) (a2:Int) (a3:Int) (a4:Int):Res:=(.agg [.e (.i .i64) a0,.e (.i .i64) a1,.e (.i .i64) a2,.e (.i .i64) a3,.e (.i .i64) a4],[])
def w23L (_:Nat):List (Nat×Ent'):=[]
def w23c (N:Nat):Cx:=⟨Tryd.prog,99999,w23L N,[]⟩
def w23b:Code:=Tryd.f23.body.getD .skip
theorem w23cx (N:Nat):CxOk (w23c N):=ctx_ok (by kernel_rfl) .nil .nil
def w23G [Alg] (_:Nat)  (kind0:Int) (a1:Int) (b2:Int):O:=
 some (w23r0 ((0:Int)) ((0:Int)) kind0 a1 b2)
def w23 [Alg] (N:Nat) (kind0:Int) (a1:Int) (b2:Int):O:=w23G N  kind0 a1 b2
def w23h [Alg] (_:Nat):Hint:=.d
theorem w23hk (N:Nat):HintOk (w23c N) Tryd.f23.ntmps (w23h N) w23b:=hk_of _ _ trivial
theorem w23q [Alg] (N:Nat) (kind0:Int) (a1:Int) (b2:Int):w23G N  kind0 a1 b2=exec (w23c N) Tryd.f23.ntmps (w23h N) w23b ⟨argT 0 [.e (.i .i64) kind0,.e (.i .i64) a1,.e (.i .i64) b2],[],100⟩ (finX (w23c N) Tryd.f23 false):=by kernel_rfl
theorem w23does {N:Nat} (hc:CxOk (w23c N)) {kind0:Int} {a1:Int} {b2:Int} {r:Res} (h:w23 N kind0 a1 b2=some r):DoesR Tryd.prog 23 (([.e (.i .i64) kind0,.e (.i .i64) a1,.e (.i .i64) b2]:List X).map X.D) (HA []) r:=
 fun_ok hc (f:=23) (fn:=Tryd.f23) (code:=w23b) (by kernel_rfl) (by kernel_rfl) (w23hk N) (Nat.le_of_ble_eq_true (by kernel_rfl)) (ow:=false) ((w23q N kind0 a1 b2).symm.trans (by exact h))
def w23un (r:Res):Option (Int×Int×Int×Int×Int):=match r with
 | (.agg [x0,x1,x2,x3,x4],[])=>(match ue (.i .i64) x0,ue (.i .i64) x1,ue (.i .i64) x2,ue (.i .i64) x3,ue (.i .i64) x4 with | some a0,some a1,some a2,some a3,some a4=>some (a0,a1,a2,a3,a4) | _,_,_,_,_=>none)
 | _=>none
theorem w23uo {r:Res} {d:Int×Int×Int×Int×Int} (h:w23un r=some d):r=w23r0 (d.1) (d.2.1) (d.2.2.1) (d.2.2.2.1) (d.2.2.2.2):=by
 unfold w23un at h;split at h
 ·split at h
  ·rename_i h0 h1 h2 h3 h4;cases h;rw [ue_some h0,ue_some h1,ue_some h2,ue_some h3,ue_some h4];rfl
  ·cases h
 ·cases h
def w23z (N:Nat) (kind0:Int) (a1:Int) (b2:Int):Option (Int×Int×Int×Int×Int):=(w23 N kind0 a1 b2).bind w23un
theorem w23fin {N:Nat} (hc:CxOk (w23c N)) {kind0:Int} {a1:Int} {b2:Int} {d:Int×Int×Int×Int×Int} (hd:w23z N kind0 a1 b2=some d):Does Tryd.prog 23 (([.e (.i .i64) kind0,.e (.i .i64) a1,.e (.i .i64) b2]:List X).map X.D) (HA []) (w23r0 (d.1) (d.2.1) (d.2.2.1) (d.2.2.2.1) (d.2.2.2.2)).1.D (HA (w23r0 (d.1) (d.2.1) (d.2.2.1) (d.2.2.2.1) (d.2.2.2.2)).2):=by
 obtain ⟨r,hr,hu⟩:=Option.bind_eq_some_iff.1 hd;have:=w23does hc hr;rw [w23uo hu] at this;exact this
def w23p (N:Nat) (kind0:Int) (a1:Int) (b2:Int):Bool:=(w23z N kind0 a1 b2).isSome
def w23y0 (N:Nat) (kind0:Int) (a1:Int) (b2:Int):Int:=((w23z N kind0 a1 b2).getD (0,0,0,0,0)).1
def w23y1 (N:Nat) (kind0:Int) (a1:Int) (b2:Int):Int:=((w23z N kind0 a1 b2).getD (0,0,0,0,0)).2.1
def w23y2 (N:Nat) (kind0:Int) (a1:Int) (b2:Int):Int:=((w23z N kind0 a1 b2).getD (0,0,0,0,0)).2.2.1
def w23y3 (N:Nat) (kind0:Int) (a1:Int) (b2:Int):Int:=((w23z N kind0 a1 b2).getD (0,0,0,0,0)).2.2.2.1
def w23y4 (N:Nat) (kind0:Int) (a1:Int) (b2:Int):Int:=((w23z N kind0 a1 b2).getD (0,0,0,0,0)).2.2.2.2
def w23e (N:Nat):Ent':=E3 (.i .i64) (.i .i64) (.i .i64)  (fun x0 x1 x2=>(w23p N x0 x1 x2,w23r0 (w23y0 N x0 x1 x2) (w23y1 N x0 x1 x2) (w23y2 N x0 x1 x2) (w23y3 N x0 x1 x2) (w23y4 N x0 x1 x2)))
theorem w23re {N:Nat} {kind0:Int} {a1:Int} {b2:Int} {d:Int×Int×Int×Int×Int} (hd:w23z N kind0 a1 b2=some d):w23r0 (w23y0 N kind0 a1 b2) (w23y1 N kind0 a1 b2) (w23y2 N kind0 a1 b2) (w23y3 N kind0 a1 b2) (w23y4 N kind0 a1 b2)=w23r0 (d.1) (d.2.1) (d.2.2.1) (d.2.2.2.1) (d.2.2.2.2):=by unfold w23y0 w23y1 w23y2 w23y3 w23y4;rw [hd];rfl
theorem w23ok (N:Nat):EOk Tryd.prog 23 (w23e N):=EOk.e3 (fun x0 x1 x2 h=>by
 have h:(w23z N x0 x1 x2).isSome=true:=h;obtain ⟨d,hd⟩:=Option.isSome_iff_exists.1 h;have f:=w23fin (w23cx N) hd;rw [← w23re hd] at f;exact f)
end
end Go.Proofs
/- What functions do. -/
namespace Go.Proofs
noncomputable section
open Go.Ax Go.Ax.Alg Go.RowKit Go.Ab
open Go
def c93r0 (a0:Bool) (a1:Int) (a2:Int) (a3:YF1):Res:=(.tup [],[(50,.box 82 [.own 100,.e .bo a0,.e (.i .i64) a1,.e (.i .i64) a2]),(100,.row 5 .u8 a3 false)])
def c93L (N:Nat):List (Nat×Ent'):=[(19,w19e N)]
def c93c (N:Nat):Cx:=⟨Tryd.prog,99999,c93L N,[]⟩
def c93b:Code:=Tryd.f93.body.getD .skip
theorem c93cx (N:Nat):CxOk (c93c N):=ctx_ok (by kernel_rfl) (.cons (by kernel_rfl) (w19ok N) .nil) .nil
def c93G [Alg] (N:Nat)  (c1:Int) (h50_0:Bool) (h50_1:Int) (h50_2:Int) (h51_0:YF1):O:=
 ck (w19p N c1) <|
 br (w19y0 N c1&&decide ((↑h51_0.length:Int) < (40:Int)))
  (ck (lim (h51_0++[u8of c1]).length (1:Nat)) <|
  some (c93r0 h50_0 h50_1 h50_2 (h51_0++[u8of c1])))
  (some (c93r0 h50_0 h50_1 h50_2 h51_0))
def c93 [Alg] (N:Nat) (c1:Int) (h50_0:Bool) (h50_1:Int) (h50_2:Int) (h51_0:YF1):O:=c93G N  c1 h50_0 h50_1 h50_2 h51_0
def c93h [Alg] (_:Nat):Hint:=(.seq (.reg [] [.rn 0 0] []) .d)
theorem c93hk (N:Nat):HintOk (c93c N) Tryd.f93.ntmps (c93h N) c93b:=hk_of _ _ (And.intro trivial trivial)
theorem c93q [Alg] (N:Nat) (c1:Int) (h50_0:Bool) (h50_1:Int) (h50_2:Int) (h51_0:YF1):c93G N  c1 h50_0 h50_1 h50_2 h51_0=exec (c93c N) Tryd.f93.ntmps (c93h N) c93b ⟨argT 0 [.ref 50 0,.e (.i .i64) c1],[(50,.box 82 [.own 51,.e .bo h50_0,.e (.i .i64) h50_1,.e (.i .i64) h50_2]),(51,.row 5 .u8 h51_0 false)],100⟩ (finX (c93c N) Tryd.f93 true):=by kernel_rfl
theorem c93does {N:Nat} (hc:CxOk (c93c N)) {c1:Int} {h50_0:Bool} {h50_1:Int} {h50_2:Int} {h51_0:YF1} {r:Res} (h:c93 N c1 h50_0 h50_1 h50_2 h51_0=some r):DoesR Tryd.prog 93 (([.ref 50 0,.e (.i .i64) c1]:List X).map X.D) (HA [(50,.box 82 [.own 51,.e .bo h50_0,.e (.i .i64) h50_1,.e (.i .i64) h50_2]),(51,.row 5 .u8 h51_0 false)]) r:=
 fun_ok hc (f:=93) (fn:=Tryd.f93) (code:=c93b) (by kernel_rfl) (by kernel_rfl) (c93hk N) (Nat.le_of_ble_eq_true (by kernel_rfl)) (ow:=true) ((c93q N c1 h50_0 h50_1 h50_2 h51_0).symm.trans (by exact h))
def c93un (r:Res):Option (Bool×Int×Int×YF1):=match r with
 | (.tup [],[(50,.box 82 [.own 100,x0,x1,x2]),(100,x3)])=>(match ue .bo x0,ue (.i .i64) x1,ue (.i .i64) x2,ur 5 .u8 false x3 with | some a0,some a1,some a2,some a3=>some (a0,a1,a2,a3) | _,_,_,_=>none)
 | _=>none
theorem c93uo {r:Res} {d:Bool×Int×Int×YF1} (h:c93un r=some d):r=c93r0 (d.1) (d.2.1) (d.2.2.1) (d.2.2.2):=by
 unfold c93un at h;split at h
 ·split at h
  ·rename_i h0 h1 h2 h3;cases h;rw [ue_some h0,ue_some h1,ue_some h2,ur_some h3];rfl
  ·cases h
 ·cases h
def c93z (N:Nat) (c1:Int) (h50_0:Bool) (h50_1:Int) (h50_2:Int) (h51_0:YF1):Option (Bool×Int×Int×YF1):=(c93 N c1 h50_0 h50_1 h50_2 h51_0).bind c93un
theorem c93fin {N:Nat} (hc:CxOk (c93c N)) {c1:Int} {h50_0:Bool} {h50_1:Int} {h50_2:Int} {h51_0:YF1} {d:Bool×Int×Int×YF1} (hd:c93z N c1 h50_0 h50_1 h50_2 h51_0=some d):Does Tryd.prog 93 (([.ref 50 0,.e (.i .i64) c1]:List X).map X.D) (HA [(50,.box 82 [.own 51,.e .bo h50_0,.e (.i .i64) h50_1,.e (.i .i64) h50_2]),(51,.row 5 .u8 h51_0 false)]) (c93r0 (d.1) (d.2.1) (d.2.2.1) (d.2.2.2)).1.D (HA (c93r0 (d.1) (d.2.1) (d.2.2.1) (d.2.2.2)).2):=by
 obtain ⟨r,hr,hu⟩:=Option.bind_eq_some_iff.1 hd;have:=c93does hc hr;rw [c93uo hu] at this;exact this
def c93p (N:Nat) (c1:Int) (h50_0:Bool) (h50_1:Int) (h50_2:Int) (h51_0:YF1):Bool:=(c93z N c1 h50_0 h50_1 h50_2 h51_0).isSome
def c93y0 (N:Nat) (c1:Int) (h50_0:Bool) (h50_1:Int) (h50_2:Int) (h51_0:YF1):Bool:=((c93z N c1 h50_0 h50_1 h50_2 h51_0).getD (false,0,0,[])).1
def c93y1 (N:Nat) (c1:Int) (h50_0:Bool) (h50_1:Int) (h50_2:Int) (h51_0:YF1):Int:=((c93z N c1 h50_0 h50_1 h50_2 h51_0).getD (false,0,0,[])).2.1
def c93y2 (N:Nat) (c1:Int) (h50_0:Bool) (h50_1:Int) (h50_2:Int) (h51_0:YF1):Int:=((c93z N c1 h50_0 h50_1 h50_2 h51_0).getD (false,0,0,[])).2.2.1
def c93y3 (N:Nat) (c1:Int) (h50_0:Bool) (h50_1:Int) (h50_2:Int) (h51_0:YF1):YF1:=((c93z N c1 h50_0 h50_1 h50_2 h51_0).getD (false,0,0,[])).2.2.2
def c93in (xs:List X) (H:XH):Option (Int×Bool×Int×Int×YF1):=match xs,H with
 | [.ref 50 0,x0],[(50,.box 82 [.own 51,x1,x2,x3]),(51,x4)]=>(match ue (.i .i64) x0,ue .bo x1,ue (.i .i64) x2,ue (.i .i64) x3,ur 5 .u8 false x4 with | some a0,some a1,some a2,some a3,some a4=>some (a0,a1,a2,a3,a4) | _,_,_,_,_=>none)
 | _,_=>none
theorem c93io {xs:List X} {H:XH} {d:Int×Bool×Int×Int×YF1} (h:c93in xs H=some d):xs=[.ref 50 0,.e (.i .i64) (d.1)]/\H=[(50,.box 82 [.own 51,.e .bo (d.2.1),.e (.i .i64) (d.2.2.1),.e (.i .i64) (d.2.2.2.1)]),(51,.row 5 .u8 (d.2.2.2.2) false)]:=by
 unfold c93in at h;split at h
 ·split at h
  ·rename_i h0 h1 h2 h3 h4;cases h;rw [ue_some h0,ue_some h1,ue_some h2,ue_some h3,ur_some h4];exact ⟨rfl,rfl⟩
  ·cases h
 ·cases h
def c93e (N:Nat):Ent':=fun xs H=>match c93in xs H with | some d=>some (c93p N (d.1) (d.2.1) (d.2.2.1) (d.2.2.2.1) (d.2.2.2.2),c93r0 (c93y0 N (d.1) (d.2.1) (d.2.2.1) (d.2.2.2.1) (d.2.2.2.2)) (c93y1 N (d.1) (d.2.1) (d.2.2.1) (d.2.2.2.1) (d.2.2.2.2)) (c93y2 N (d.1) (d.2.1) (d.2.2.1) (d.2.2.2.1) (d.2.2.2.2)) (c93y3 N (d.1) (d.2.1) (d.2.2.1) (d.2.2.2.1) (d.2.2.2.2))) | none=>none
theorem c93re {N:Nat} {c1:Int} {h50_0:Bool} {h50_1:Int} {h50_2:Int} {h51_0:YF1} {d:Bool×Int×Int×YF1} (hd:c93z N c1 h50_0 h50_1 h50_2 h51_0=some d):c93r0 (c93y0 N c1 h50_0 h50_1 h50_2 h51_0) (c93y1 N c1 h50_0 h50_1 h50_2 h51_0) (c93y2 N c1 h50_0 h50_1 h50_2 h51_0) (c93y3 N c1 h50_0 h50_1 h50_2 h51_0)=c93r0 (d.1) (d.2.1) (d.2.2.1) (d.2.2.2):=by unfold c93y0 c93y1 c93y2 c93y3;rw [hd];rfl
theorem c93ok (N:Nat):EOk Tryd.prog 93 (c93e N):=fun xs H pre r he hp=>by
 unfold c93e at he;split at he
 ·rename_i d hd
  have he:=Option.some.inj he;have h1:=congrArg Prod.fst he;have h2:=congrArg Prod.snd he;simp only at h1 h2;obtain ⟨e1,e2⟩:=c93io hd;rw [e1,e2,← h2];have h:(c93z N (d.1) (d.2.1) (d.2.2.1) (d.2.2.2.1) (d.2.2.2.2)).isSome=true:=h1.trans hp;obtain ⟨d',hd'⟩:=Option.isSome_iff_exists.1 h;have f:=c93fin (c93cx N) hd';rw [← c93re hd'] at f;exact f
 ·cases he
def c88r0 (a0:Bool) (a1:Int) (a2:Int) (a3:YF1):Res:=(.tup [],[(50,.box 82 [.own 100,.e .bo a0,.e (.i .i64) a1,.e (.i .i64) a2]),(100,.row 5 .u8 a3 false)])
def c88L (_:Nat):List (Nat×Ent'):=[]
def c88c (N:Nat):Cx:=⟨Tryd.prog,99999,c88L N,[]⟩
def c88b:Code:=Tryd.f88.body.getD .skip
theorem c88cx (N:Nat):CxOk (c88c N):=ctx_ok (by kernel_rfl) .nil .nil
def c88G [Alg] (_:Nat)  (h50_0:Bool) (h50_1:Int) (h50_2:Int) (h51_0:YF1):O:=
 ck (decide ((0:Int)<=max (0:Int) (IntKind.i64.wrap ((↑h51_0.length:Int) - (1:Int)))/\max (0:Int) (IntKind.i64.wrap ((↑h51_0.length:Int) - (1:Int)))<=(↑h51_0.length:Int))) <|
 some (c88r0 h50_0 h50_1 h50_2 (List.take (max (0:Int) (IntKind.i64.wrap ((↑h51_0.length:Int) - (1:Int)))).toNat h51_0))
def c88 [Alg] (N:Nat) (h50_0:Bool) (h50_1:Int) (h50_2:Int) (h51_0:YF1):O:=c88G N  h50_0 h50_1 h50_2 h51_0
def c88h [Alg] (_:Nat):Hint:=(.reg [12] [] [[],[],[],[],[],[],[],[],[],[],[],[],[196,51],[],[],[50]])
theorem c88hk (N:Nat):HintOk (c88c N) Tryd.f88.ntmps (c88h N) c88b:=hk_of _ _ trivial
theorem c88q [Alg] (N:Nat) (h50_0:Bool) (h50_1:Int) (h50_2:Int) (h51_0:YF1):c88G N  h50_0 h50_1 h50_2 h51_0=exec (c88c N) Tryd.f88.ntmps (c88h N) c88b ⟨argT 0 [.ref 50 0],[(50,.box 82 [.own 51,.e .bo h50_0,.e (.i .i64) h50_1,.e (.i .i64) h50_2]),(51,.row 5 .u8 h51_0 false)],100⟩ (finX (c88c N) Tryd.f88 true):=by kernel_rfl
theorem c88does {N:Nat} (hc:CxOk (c88c N)) {h50_0:Bool} {h50_1:Int} {h50_2:Int} {h51_0:YF1} {r:Res} (h:c88 N h50_0 h50_1 h50_2 h51_0=some r):DoesR Tryd.prog 88 (([.ref 50 0]:List X).map X.D) (HA [(50,.box 82 [.own 51,.e .bo h50_0,.e (.i .i64) h50_1,.e (.i .i64) h50_2]),(51,.row 5 .u8 h51_0 false)]) r:=
 fun_ok hc (f:=88) (fn:=Tryd.f88) (code:=c88b) (by kernel_rfl) (by kernel_rfl) (c88hk N) (Nat.le_of_ble_eq_true (by kernel_rfl)) (ow:=true) ((c88q N h50_0 h50_1 h50_2 h51_0).symm.trans (by exact h))
def c88un (r:Res):Option (Bool×Int×Int×YF1):=match r with
 | (.tup [],[(50,.box 82 [.own 100,x0,x1,x2]),(100,x3)])=>(match ue .bo x0,ue (.i .i64) x1,ue (.i .i64) x2,ur 5 .u8 false x3 with | some a0,some a1,some a2,some a3=>some (a0,a1,a2,a3) | _,_,_,_=>none)
 | _=>none
theorem c88uo {r:Res} {d:Bool×Int×Int×YF1} (h:c88un r=some d):r=c88r0 (d.1) (d.2.1) (d.2.2.1) (d.2.2.2):=by
 unfold c88un at h;split at h
 ·split at h
  ·rename_i h0 h1 h2 h3;cases h;rw [ue_some h0,ue_some h1,ue_some h2,ur_some h3];rfl
  ·cases h
 ·cases h
def c88z (N:Nat) (h50_0:Bool) (h50_1:Int) (h50_2:Int) (h51_0:YF1):Option (Bool×Int×Int×YF1):=(c88 N h50_0 h50_1 h50_2 h51_0).bind c88un
theorem c88fin {N:Nat} (hc:CxOk (c88c N)) {h50_0:Bool} {h50_1:Int} {h50_2:Int} {h51_0:YF1} {d:Bool×Int×Int×YF1} (hd:c88z N h50_0 h50_1 h50_2 h51_0=some d):Does Tryd.prog 88 (([.ref 50 0]:List X).map X.D) (HA [(50,.box 82 [.own 51,.e .bo h50_0,.e (.i .i64) h50_1,.e (.i .i64) h50_2]),(51,.row 5 .u8 h51_0 false)]) (c88r0 (d.1) (d.2.1) (d.2.2.1) (d.2.2.2)).1.D (HA (c88r0 (d.1) (d.2.1) (d.2.2.1) (d.2.2.2)).2):=by
 obtain ⟨r,hr,hu⟩:=Option.bind_eq_some_iff.1 hd;have:=c88does hc hr;rw [c88uo hu] at this;exact this
def c88p (N:Nat) (h50_0:Bool) (h50_1:Int) (h50_2:Int) (h51_0:YF1):Bool:=(c88z N h50_0 h50_1 h50_2 h51_0).isSome
def c88y0 (N:Nat) (h50_0:Bool) (h50_1:Int) (h50_2:Int) (h51_0:YF1):Bool:=((c88z N h50_0 h50_1 h50_2 h51_0).getD (false,0,0,[])).1
def c88y1 (N:Nat) (h50_0:Bool) (h50_1:Int) (h50_2:Int) (h51_0:YF1):Int:=((c88z N h50_0 h50_1 h50_2 h51_0).getD (false,0,0,[])).2.1
def c88y2 (N:Nat) (h50_0:Bool) (h50_1:Int) (h50_2:Int) (h51_0:YF1):Int:=((c88z N h50_0 h50_1 h50_2 h51_0).getD (false,0,0,[])).2.2.1
def c88y3 (N:Nat) (h50_0:Bool) (h50_1:Int) (h50_2:Int) (h51_0:YF1):YF1:=((c88z N h50_0 h50_1 h50_2 h51_0).getD (false,0,0,[])).2.2.2
def c88in (xs:List X) (H:XH):Option (Bool×Int×Int×YF1):=match xs,H with
 | [.ref 50 0],[(50,.box 82 [.own 51,x0,x1,x2]),(51,x3)]=>(match ue .bo x0,ue (.i .i64) x1,ue (.i .i64) x2,ur 5 .u8 false x3 with | some a0,some a1,some a2,some a3=>some (a0,a1,a2,a3) | _,_,_,_=>none)
 | _,_=>none
theorem c88io {xs:List X} {H:XH} {d:Bool×Int×Int×YF1} (h:c88in xs H=some d):xs=[.ref 50 0]/\H=[(50,.box 82 [.own 51,.e .bo (d.1),.e (.i .i64) (d.2.1),.e (.i .i64) (d.2.2.1)]),(51,.row 5 .u8 (d.2.2.2) false)]:=by
 unfold c88in at h;split at h
 ·split at h
  ·rename_i h0 h1 h2 h3;cases h;rw [ue_some h0,ue_some h1,ue_some h2,ur_some h3];exact ⟨rfl,rfl⟩
  ·cases h
 ·cases h
def c88e (N:Nat):Ent':=fun xs H=>match c88in xs H with | some d=>some (c88p N (d.1) (d.2.1) (d.2.2.1) (d.2.2.2),c88r0 (c88y0 N (d.1) (d.2.1) (d.2.2.1) (d.2.2.2)) (c88y1 N (d.1) (d.2.1) (d.2.2.1) (d.2.2.2)) (c88y2 N (d.1) (d.2.1) (d.2.2.1) (d.2.2.2)) (c88y3 N (d.1) (d.2.1) (d.2.2.1) (d.2.2.2))) | none=>none
theorem c88re {N:Nat} {h50_0:Bool} {h50_1:Int} {h50_2:Int} {h51_0:YF1} {d:Bool×Int×Int×YF1} (hd:c88z N h50_0 h50_1 h50_2 h51_0=some d):c88r0 (c88y0 N h50_0 h50_1 h50_2 h51_0) (c88y1 N h50_0 h50_1 h50_2 h51_0) (c88y2 N h50_0 h50_1 h50_2 h51_0) (c88y3 N h50_0 h50_1 h50_2 h51_0)=c88r0 (d.1) (d.2.1) (d.2.2.1) (d.2.2.2):=by unfold c88y0 c88y1 c88y2 c88y3;rw [hd];rfl
theorem c88ok (N:Nat):EOk Tryd.prog 88 (c88e N):=fun xs H pre r he hp=>by
 unfold c88e at he;split at he
 ·rename_i d hd
  have he:=Option.some.inj he;have h1:=congrArg Prod.fst he;have h2:=congrArg Prod.snd he;simp only at h1 h2;obtain ⟨e1,e2⟩:=c88io hd;rw [e1,e2,← h2];have h:(c88z N (d.1) (d.2.1) (d.2.2.1) (d.2.2.2)).isSome=true:=h1.trans hp;obtain ⟨d',hd'⟩:=Option.isSome_iff_exists.1 h;have f:=c88fin (c88cx N) hd';rw [← c88re hd'] at f;exact f
 ·cases he
def c91r0 (a0:YF1) (a1:Int) (a2:Bool) (a3:Int) (a4:Int) (a5:YF1):Res:=(.tup [.e .tx a0,.e (.i .i64) a1],[(50,.box 82 [.own 51,.e .bo a2,.e (.i .i64) a3,.e (.i .i64) a4]),(51,.row 5 .u8 a5 false)])
def c91L (_:Nat):List (Nat×Ent'):=[]
def c91c (N:Nat):Cx:=⟨Tryd.prog,99999,c91L N,[]⟩
def c91b:Code:=Tryd.f91.body.getD .skip
theorem c91cx (N:Nat):CxOk (c91c N):=ctx_ok (by kernel_rfl) .nil .nil
def c91G [Alg] (_:Nat)  (h50_0:Bool) (h50_1:Int) (h50_2:Int) (h51_0:YF1):O:=
 br (!h50_0)
  (some (c91r0 [] ((11:Int)) h50_0 h50_1 h50_2 h51_0))
  (some (c91r0 h51_0 ((0:Int)) h50_0 h50_1 h50_2 h51_0))
def c91 [Alg] (N:Nat) (h50_0:Bool) (h50_1:Int) (h50_2:Int) (h51_0:YF1):O:=c91G N  h50_0 h50_1 h50_2 h51_0
def c91h [Alg] (_:Nat):Hint:=.d
theorem c91hk (N:Nat):HintOk (c91c N) Tryd.f91.ntmps (c91h N) c91b:=hk_of _ _ trivial
theorem c91q [Alg] (N:Nat) (h50_0:Bool) (h50_1:Int) (h50_2:Int) (h51_0:YF1):c91G N  h50_0 h50_1 h50_2 h51_0=exec (c91c N) Tryd.f91.ntmps (c91h N) c91b ⟨argT 0 [.ref 50 0],[(50,.box 82 [.own 51,.e .bo h50_0,.e (.i .i64) h50_1,.e (.i .i64) h50_2]),(51,.row 5 .u8 h51_0 false)],100⟩ (finX (c91c N) Tryd.f91 true):=by kernel_rfl
theorem c91does {N:Nat} (hc:CxOk (c91c N)) {h50_0:Bool} {h50_1:Int} {h50_2:Int} {h51_0:YF1} {r:Res} (h:c91 N h50_0 h50_1 h50_2 h51_0=some r):DoesR Tryd.prog 91 (([.ref 50 0]:List X).map X.D) (HA [(50,.box 82 [.own 51,.e .bo h50_0,.e (.i .i64) h50_1,.e (.i .i64) h50_2]),(51,.row 5 .u8 h51_0 false)]) r:=
 fun_ok hc (f:=91) (fn:=Tryd.f91) (code:=c91b) (by kernel_rfl) (by kernel_rfl) (c91hk N) (Nat.le_of_ble_eq_true (by kernel_rfl)) (ow:=true) ((c91q N h50_0 h50_1 h50_2 h51_0).symm.trans (by exact h))
def c91un (r:Res):Option (YF1×Int×Bool×Int×Int×YF1):=match r with
 | (.tup [x0,x1],[(50,.box 82 [.own 51,x2,x3,x4]),(51,x5)])=>(match ue .tx x0,ue (.i .i64) x1,ue .bo x2,ue (.i .i64) x3,ue (.i .i64) x4,ur 5 .u8 false x5 with | some a0,some a1,some a2,some a3,some a4,some a5=>some (a0,a1,a2,a3,a4,a5) | _,_,_,_,_,_=>none)
 | _=>none
theorem c91uo {r:Res} {d:YF1×Int×Bool×Int×Int×YF1} (h:c91un r=some d):r=c91r0 (d.1) (d.2.1) (d.2.2.1) (d.2.2.2.1) (d.2.2.2.2.1) (d.2.2.2.2.2):=by
 unfold c91un at h;split at h
 ·split at h
  ·rename_i h0 h1 h2 h3 h4 h5;cases h;rw [ue_some h0,ue_some h1,ue_some h2,ue_some h3,ue_some h4,ur_some h5];rfl
  ·cases h
 ·cases h
def c91z (N:Nat) (h50_0:Bool) (h50_1:Int) (h50_2:Int) (h51_0:YF1):Option (YF1×Int×Bool×Int×Int×YF1):=(c91 N h50_0 h50_1 h50_2 h51_0).bind c91un
theorem c91fin {N:Nat} (hc:CxOk (c91c N)) {h50_0:Bool} {h50_1:Int} {h50_2:Int} {h51_0:YF1} {d:YF1×Int×Bool×Int×Int×YF1} (hd:c91z N h50_0 h50_1 h50_2 h51_0=some d):Does Tryd.prog 91 (([.ref 50 0]:List X).map X.D) (HA [(50,.box 82 [.own 51,.e .bo h50_0,.e (.i .i64) h50_1,.e (.i .i64) h50_2]),(51,.row 5 .u8 h51_0 false)]) (c91r0 (d.1) (d.2.1) (d.2.2.1) (d.2.2.2.1) (d.2.2.2.2.1) (d.2.2.2.2.2)).1.D (HA (c91r0 (d.1) (d.2.1) (d.2.2.1) (d.2.2.2.1) (d.2.2.2.2.1) (d.2.2.2.2.2)).2):=by
 obtain ⟨r,hr,hu⟩:=Option.bind_eq_some_iff.1 hd;have:=c91does hc hr;rw [c91uo hu] at this;exact this
def c91p (N:Nat) (h50_0:Bool) (h50_1:Int) (h50_2:Int) (h51_0:YF1):Bool:=(c91z N h50_0 h50_1 h50_2 h51_0).isSome
def c91y0 (N:Nat) (h50_0:Bool) (h50_1:Int) (h50_2:Int) (h51_0:YF1):YF1:=((c91z N h50_0 h50_1 h50_2 h51_0).getD ([],0,false,0,0,[])).1
def c91y1 (N:Nat) (h50_0:Bool) (h50_1:Int) (h50_2:Int) (h51_0:YF1):Int:=((c91z N h50_0 h50_1 h50_2 h51_0).getD ([],0,false,0,0,[])).2.1
def c91y2 (N:Nat) (h50_0:Bool) (h50_1:Int) (h50_2:Int) (h51_0:YF1):Bool:=((c91z N h50_0 h50_1 h50_2 h51_0).getD ([],0,false,0,0,[])).2.2.1
def c91y3 (N:Nat) (h50_0:Bool) (h50_1:Int) (h50_2:Int) (h51_0:YF1):Int:=((c91z N h50_0 h50_1 h50_2 h51_0).getD ([],0,false,0,0,[])).2.2.2.1
def c91y4 (N:Nat) (h50_0:Bool) (h50_1:Int) (h50_2:Int) (h51_0:YF1):Int:=((c91z N h50_0 h50_1 h50_2 h51_0).getD ([],0,false,0,0,[])).2.2.2.2.1
def c91y5 (N:Nat) (h50_0:Bool) (h50_1:Int) (h50_2:Int) (h51_0:YF1):YF1:=((c91z N h50_0 h50_1 h50_2 h51_0).getD ([],0,false,0,0,[])).2.2.2.2.2
def c91in (xs:List X) (H:XH):Option (Bool×Int×Int×YF1):=match xs,H with
 | [.ref 50 0],[(50,.box 82 [.own 51,x0,x1,x2]),(51,x3)]=>(match ue .bo x0,ue (.i .i64) x1,ue (.i .i64) x2,ur 5 .u8 false x3 with | some a0,some a1,some a2,some a3=>some (a0,a1,a2,a3) | _,_,_,_=>none)
 | _,_=>none
theorem c91io {xs:List X} {H:XH} {d:Bool×Int×Int×YF1} (h:c91in xs H=some d):xs=[.ref 50 0]/\H=[(50,.box 82 [.own 51,.e .bo (d.1),.e (.i .i64) (d.2.1),.e (.i .i64) (d.2.2.1)]),(51,.row 5 .u8 (d.2.2.2) false)]:=by
 unfold c91in at h;split at h
 ·split at h
  ·rename_i h0 h1 h2 h3;cases h;rw [ue_some h0,ue_some h1,ue_some h2,ur_some h3];exact ⟨rfl,rfl⟩
  ·cases h
 ·cases h
def c91e (N:Nat):Ent':=fun xs H=>match c91in xs H with | some d=>some (c91p N (d.1) (d.2.1) (d.2.2.1) (d.2.2.2),c91r0 (c91y0 N (d.1) (d.2.1) (d.2.2.1) (d.2.2.2)) (c91y1 N (d.1) (d.2.1) (d.2.2.1) (d.2.2.2)) (c91y2 N (d.1) (d.2.1) (d.2.2.1) (d.2.2.2)) (c91y3 N (d.1) (d.2.1) (d.2.2.1) (d.2.2.2)) (c91y4 N (d.1) (d.2.1) (d.2.2.1) (d.2.2.2)) (c91y5 N (d.1) (d.2.1) (d.2.2.1) (d.2.2.2))) | none=>none
theorem c91re {N:Nat} {h50_0:Bool} {h50_1:Int} {h50_2:Int} {h51_0:YF1} {d:YF1×Int×Bool×Int×Int×YF1} (hd:c91z N h50_0 h50_1 h50_2 h51_0=some d):c91r0 (c91y0 N h50_0 h50_1 h50_2 h51_0) (c91y1 N h50_0 h50_1 h50_2 h51_0) (c91y2 N h50_0 h50_1 h50_2 h51_0) (c91y3 N h50_0 h50_1 h50_2 h51_0) (c91y4 N h50_0 h50_1 h50_2 h51_0) (c91y5 N h50_0 h50_1 h50_2 h51_0)=c91r0 (d.1) (d.2.1) (d.2.2.1) (d.2.2.2.1) (d.2.2.2.2.1) (d.2.2.2.2.2):=by unfold c91y0 c91y1 c91y2 c91y3 c91y4 c91y5;rw [hd];rfl
theorem c91ok (N:Nat):EOk Tryd.prog 91 (c91e N):=fun xs H pre r he hp=>by
 unfold c91e at he;split at he
 ·rename_i d hd
  have he:=Option.some.inj he;have h1:=congrArg Prod.fst he;have h2:=congrArg Prod.snd he;simp only at h1 h2;obtain ⟨e1,e2⟩:=c91io hd;rw [e1,e2,← h2];have h:(c91z N (d.1) (d.2.1) (d.2.2.1) (d.2.2.2)).isSome=true:=h1.trans hp;obtain ⟨d',hd'⟩:=Option.isSome_iff_exists.1 h;have f:=c91fin (c91cx N) hd';rw [← c91re hd'] at f;exact f
 ·cases he
def c86r0 (a0:Bool) (a1:Int) (a2:Int) (a3:YF1):Res:=(.tup [],[(50,.box 82 [.own 100,.e .bo a0,.e (.i .i64) a1,.e (.i .i64) a2]),(100,.row 5 .u8 a3 false)])
def c86L (N:Nat):List (Nat×Ent'):=[(19,w19e N),(93,c93e N),(88,c88e N)]
def c86c (N:Nat):Cx:=⟨Tryd.prog,99999,c86L N,[]⟩
def c86b:Code:=Tryd.f86.body.getD .skip
theorem c86cx (N:Nat):CxOk (c86c N):=ctx_ok (by kernel_rfl) (.cons (by kernel_rfl) (w19ok N) (.cons (by kernel_rfl) (c93ok N) (.cons (by kernel_rfl) (c88ok N) .nil))) .nil
def c86G [Alg] (N:Nat)  (_e1_0:Int) (_e1_1:Int) (e1_2:Int) (e1_3:Int) (e1_4:Int) (h50_0:Bool) (h50_1:Int) (h50_2:Int) (h51_0:YF1):O:=
 br (h50_0||decide (e1_2≠(0:Int))||decide (e1_3 < (1:Int))||decide ((9:Int) < e1_3))
  (some (c86r0 h50_0 h50_1 h50_2 h51_0))
  (ck (decide ((0:Int)<=e1_3)) <|
  br (decide (e1_4=(1:Int)))
   (some (c86r0 h50_0 (orV IntKind.i64 h50_1 (IntKind.i64.wrap ((1:Int) * (2:Int) ^ min e1_3.toNat (64:Nat)))) (orV IntKind.i64 h50_2 (IntKind.i64.wrap ((1:Int) * (2:Int) ^ min e1_3.toNat (64:Nat)))) h51_0))
   (br (decide (e1_4=(0:Int))&&decide (andV IntKind.i64 h50_1 (IntKind.i64.wrap ((1:Int) * (2:Int) ^ min e1_3.toNat (64:Nat)))≠(0:Int)))
    (br (decide (notV IntKind.i64 h50_1 (IntKind.i64.wrap ((1:Int) * (2:Int) ^ min e1_3.toNat (64:Nat)))≠(0:Int)))
     (some (c86r0 h50_0 (notV IntKind.i64 h50_1 (IntKind.i64.wrap ((1:Int) * (2:Int) ^ min e1_3.toNat (64:Nat)))) h50_2 h51_0))
     (br (decide (h50_2=(512:Int)))
      (ck (c93p N (32:Int) h50_0 (notV IntKind.i64 h50_1 (IntKind.i64.wrap ((1:Int) * (2:Int) ^ min e1_3.toNat (64:Nat)))) (0:Int) h51_0) <|
      some (c86r0 (c93y0 N (32:Int) h50_0 (notV IntKind.i64 h50_1 (IntKind.i64.wrap ((1:Int) * (2:Int) ^ min e1_3.toNat (64:Nat)))) (0:Int) h51_0) (c93y1 N (32:Int) h50_0 (notV IntKind.i64 h50_1 (IntKind.i64.wrap ((1:Int) * (2:Int) ^ min e1_3.toNat (64:Nat)))) (0:Int) h51_0) (c93y2 N (32:Int) h50_0 (notV IntKind.i64 h50_1 (IntKind.i64.wrap ((1:Int) * (2:Int) ^ min e1_3.toNat (64:Nat)))) (0:Int) h51_0) (c93y3 N (32:Int) h50_0 (notV IntKind.i64 h50_1 (IntKind.i64.wrap ((1:Int) * (2:Int) ^ min e1_3.toNat (64:Nat)))) (0:Int) h51_0)))
      (br (decide (h50_2=(256:Int)))
       (ck (c88p N h50_0 (notV IntKind.i64 h50_1 (IntKind.i64.wrap ((1:Int) * (2:Int) ^ min e1_3.toNat (64:Nat)))) (0:Int) h51_0) <|
       some (c86r0 (c88y0 N h50_0 (notV IntKind.i64 h50_1 (IntKind.i64.wrap ((1:Int) * (2:Int) ^ min e1_3.toNat (64:Nat)))) (0:Int) h51_0) (c88y1 N h50_0 (notV IntKind.i64 h50_1 (IntKind.i64.wrap ((1:Int) * (2:Int) ^ min e1_3.toNat (64:Nat)))) (0:Int) h51_0) (c88y2 N h50_0 (notV IntKind.i64 h50_1 (IntKind.i64.wrap ((1:Int) * (2:Int) ^ min e1_3.toNat (64:Nat)))) (0:Int) h51_0) (c88y3 N h50_0 (notV IntKind.i64 h50_1 (IntKind.i64.wrap ((1:Int) * (2:Int) ^ min e1_3.toNat (64:Nat)))) (0:Int) h51_0)))
       (br (decide (h50_2=(384:Int)))
        (some (c86r0 true (notV IntKind.i64 h50_1 (IntKind.i64.wrap ((1:Int) * (2:Int) ^ min e1_3.toNat (64:Nat)))) ((0:Int)) h51_0))
        (br (decide (h50_2 < (256:Int)))
         (ck true <|
         ck (c93p N (IntKind.i64.wrap ((32:Int)+IntKind.i64.wrap (h50_2.tdiv (2:Int)))) h50_0 (notV IntKind.i64 h50_1 (IntKind.i64.wrap ((1:Int) * (2:Int) ^ min e1_3.toNat (64:Nat)))) (0:Int) h51_0) <|
         some (c86r0 (c93y0 N (IntKind.i64.wrap ((32:Int)+IntKind.i64.wrap (h50_2.tdiv (2:Int)))) h50_0 (notV IntKind.i64 h50_1 (IntKind.i64.wrap ((1:Int) * (2:Int) ^ min e1_3.toNat (64:Nat)))) (0:Int) h51_0) (c93y1 N (IntKind.i64.wrap ((32:Int)+IntKind.i64.wrap (h50_2.tdiv (2:Int)))) h50_0 (notV IntKind.i64 h50_1 (IntKind.i64.wrap ((1:Int) * (2:Int) ^ min e1_3.toNat (64:Nat)))) (0:Int) h51_0) (c93y2 N (IntKind.i64.wrap ((32:Int)+IntKind.i64.wrap (h50_2.tdiv (2:Int)))) h50_0 (notV IntKind.i64 h50_1 (IntKind.i64.wrap ((1:Int) * (2:Int) ^ min e1_3.toNat (64:Nat)))) (0:Int) h51_0) (c93y3 N (IntKind.i64.wrap ((32:Int)+IntKind.i64.wrap (h50_2.tdiv (2:Int)))) h50_0 (notV IntKind.i64 h50_1 (IntKind.i64.wrap ((1:Int) * (2:Int) ^ min e1_3.toNat (64:Nat)))) (0:Int) h51_0)))
         (some (c86r0 h50_0 (notV IntKind.i64 h50_1 (IntKind.i64.wrap ((1:Int) * (2:Int) ^ min e1_3.toNat (64:Nat)))) ((0:Int)) h51_0)))))))
    (some (c86r0 h50_0 h50_1 h50_2 h51_0))))
def c86 [Alg] (N:Nat) (e1_0:Int) (e1_1:Int) (e1_2:Int) (e1_3:Int) (e1_4:Int) (h50_0:Bool) (h50_1:Int) (h50_2:Int) (h51_0:YF1):O:=c86G N  e1_0 e1_1 e1_2 e1_3 e1_4 h50_0 h50_1 h50_2 h51_0
def c86h [Alg] (_:Nat):Hint:=(.seq (.reg [] [.rn 0 0] []) .d)
theorem c86hk (N:Nat):HintOk (c86c N) Tryd.f86.ntmps (c86h N) c86b:=hk_of _ _ (And.intro trivial trivial)
theorem c86q [Alg] (N:Nat) (e1_0:Int) (e1_1:Int) (e1_2:Int) (e1_3:Int) (e1_4:Int) (h50_0:Bool) (h50_1:Int) (h50_2:Int) (h51_0:YF1):c86G N  e1_0 e1_1 e1_2 e1_3 e1_4 h50_0 h50_1 h50_2 h51_0=exec (c86c N) Tryd.f86.ntmps (c86h N) c86b ⟨argT 0 [.ref 50 0,.agg [.e (.i .i64) e1_0,.e (.i .i64) e1_1,.e (.i .i64) e1_2,.e (.i .i64) e1_3,.e (.i .i64) e1_4]],[(50,.box 82 [.own 51,.e .bo h50_0,.e (.i .i64) h50_1,.e (.i .i64) h50_2]),(51,.row 5 .u8 h51_0 false)],100⟩ (finX (c86c N) Tryd.f86 true):=by kernel_rfl
theorem c86does {N:Nat} (hc:CxOk (c86c N)) {e1_0:Int} {e1_1:Int} {e1_2:Int} {e1_3:Int} {e1_4:Int} {h50_0:Bool} {h50_1:Int} {h50_2:Int} {h51_0:YF1} {r:Res} (h:c86 N e1_0 e1_1 e1_2 e1_3 e1_4 h50_0 h50_1 h50_2 h51_0=some r):DoesR Tryd.prog 86 (([.ref 50 0,.agg [.e (.i .i64) e1_0,.e (.i .i64) e1_1,.e (.i .i64) e1_2,.e (.i .i64) e1_3,.e (.i .i64) e1_4]]:List X).map X.D) (HA [(50,.box 82 [.own 51,.e .bo h50_0,.e (.i .i64) h50_1,.e (.i .i64) h50_2]),(51,.row 5 .u8 h51_0 false)]) r:=
 fun_ok hc (f:=86) (fn:=Tryd.f86) (code:=c86b) (by kernel_rfl) (by kernel_rfl) (c86hk N) (Nat.le_of_ble_eq_true (by kernel_rfl)) (ow:=true) ((c86q N e1_0 e1_1 e1_2 e1_3 e1_4 h50_0 h50_1 h50_2 h51_0).symm.trans (by exact h))
def c86un (r:Res):Option (Bool×Int×Int×YF1):=match r with
 | (.tup [],[(50,.box 82 [.own 100,x0,x1,x2]),(100,x3)])=>(match ue .bo x0,ue (.i .i64) x1,ue (.i .i64) x2,ur 5 .u8 false x3 with | some a0,some a1,some a2,some a3=>some (a0,a1,a2,a3) | _,_,_,_=>none)
 | _=>none
theorem c86uo {r:Res} {d:Bool×Int×Int×YF1} (h:c86un r=some d):r=c86r0 (d.1) (d.2.1) (d.2.2.1) (d.2.2.2):=by
 unfold c86un at h;split at h
 ·split at h
  ·rename_i h0 h1 h2 h3;cases h;rw [ue_some h0,ue_some h1,ue_some h2,ur_some h3];rfl
  ·cases h
 ·cases h
def c86z (N:Nat) (e1_0:Int) (e1_1:Int) (e1_2:Int) (e1_3:Int) (e1_4:Int) (h50_0:Bool) (h50_1:Int) (h50_2:Int) (h51_0:YF1):Option (Bool×Int×Int×YF1):=(c86 N e1_0 e1_1 e1_2 e1_3 e1_4 h50_0 h50_1 h50_2 h51_0).bind c86un
theorem c86fin {N:Nat} (hc:CxOk (c86c N)) {e1_0:Int} {e1_1:Int} {e1_2:Int} {e1_3:Int} {e1_4:Int} {h50_0:Bool} {h50_1:Int} {h50_2:Int} {h51_0:YF1} {d:Bool×Int×Int×YF1} (hd:c86z N e1_0 e1_1 e1_2 e1_3 e1_4 h50_0 h50_1 h50_2 h51_0=some d):Does Tryd.prog 86 (([.ref 50 0,.agg [.e (.i .i64) e1_0,.e (.i .i64) e1_1,.e (.i .i64) e1_2,.e (.i .i64) e1_3,.e (.i .i64) e1_4]]:List X).map X.D) (HA [(50,.box 82 [.own 51,.e .bo h50_0,.e (.i .i64) h50_1,.e (.i .i64) h50_2]),(51,.row 5 .u8 h51_0 false)]) (c86r0 (d.1) (d.2.1) (d.2.2.1) (d.2.2.2)).1.D (HA (c86r0 (d.1) (d.2.1) (d.2.2.1) (d.2.2.2)).2):=by
 obtain ⟨r,hr,hu⟩:=Option.bind_eq_some_iff.1 hd;have:=c86does hc hr;rw [c86uo hu] at this;exact this
def c86p (N:Nat) (e1_0:Int) (e1_1:Int) (e1_2:Int) (e1_3:Int) (e1_4:Int) (h50_0:Bool) (h50_1:Int) (h50_2:Int) (h51_0:YF1):Bool:=(c86z N e1_0 e1_1 e1_2 e1_3 e1_4 h50_0 h50_1 h50_2 h51_0).isSome
def c86y0 (N:Nat) (e1_0:Int) (e1_1:Int) (e1_2:Int) (e1_3:Int) (e1_4:Int) (h50_0:Bool) (h50_1:Int) (h50_2:Int) (h51_0:YF1):Bool:=((c86z N e1_0 e1_1 e1_2 e1_3 e1_4 h50_0 h50_1 h50_2 h51_0).getD (false,0,0,[])).1
def c86y1 (N:Nat) (e1_0:Int) (e1_1:Int) (e1_2:Int) (e1_3:Int) (e1_4:Int) (h50_0:Bool) (h50_1:Int) (h50_2:Int) (h51_0:YF1):Int:=((c86z N e1_0 e1_1 e1_2 e1_3 e1_4 h50_0 h50_1 h50_2 h51_0).getD (false,0,0,[])).2.1
def c86y2 (N:Nat) (e1_0:Int) (e1_1:Int) (e1_2:Int) (e1_3:Int) (e1_4:Int) (h50_0:Bool) (h50_1:Int) (h50_2:Int) (h51_0:YF1):Int:=((c86z N e1_0 e1_1 e1_2 e1_3 e1_4 h50_0 h50_1 h50_2 h51_0).getD (false,0,0,[])).2.2.1
def c86y3 (N:Nat) (e1_0:Int) (e1_1:Int) (e1_2:Int) (e1_3:Int) (e1_4:Int) (h50_0:Bool) (h50_1:Int) (h50_2:Int) (h51_0:YF1):YF1:=((c86z N e1_0 e1_1 e1_2 e1_3 e1_4 h50_0 h50_1 h50_2 h51_0).getD (false,0,0,[])).2.2.2
def c86in (xs:List X) (H:XH):Option (Int×Int×Int×Int×Int×Bool×Int×Int×YF1):=match xs,H with
 | [.ref 50 0,.agg [x0,x1,x2,x3,x4]],[(50,.box 82 [.own 51,x5,x6,x7]),(51,x8)]=>(match ue (.i .i64) x0,ue (.i .i64) x1,ue (.i .i64) x2,ue (.i .i64) x3,ue (.i .i64) x4,ue .bo x5,ue (.i .i64) x6,ue (.i .i64) x7,ur 5 .u8 false x8 with | some a0,some a1,some a2,some a3,some a4,some a5,some a6,some a7,some a8=>some (a0,a1,a2,a3,a4,a5,a6,a7,a8) | _,_,_,_,_,_,_,_,_=>none)
 | _,_=>none
theorem c86io {xs:List X} {H:XH} {d:Int×Int×Int×Int×Int×Bool×Int×Int×YF1} (h:c86in xs H=some d):xs=[.ref 50 0,.agg [.e (.i .i64) (d.1),.e (.i .i64) (d.2.1),.e (.i .i64) (d.2.2.1),.e (.i .i64) (d.2.2.2.1),.e (.i .i64) (d.2.2.2.2.1)]]/\H=[(50,.box 82 [.own 51,.e .bo (d.2.2.2.2.2.1),.e (.i .i64) (d.2.2.2.2.2.2.1),.e (.i .i64) (d.2.2.2.2.2.2.2.1)]),(51,.row 5 .u8 (d.2.2.2.2.2.2.2.2) false)]:=by
 unfold c86in at h;split at h
 ·split at h
  ·rename_i h0 h1 h2 h3 h4 h5 h6 h7 h8;cases h;rw [ue_some h0,ue_some h1,ue_some h2,ue_some h3,ue_some h4,ue_some h5,ue_some h6,ue_some h7,ur_some h8];exact ⟨rfl,rfl⟩
  ·cases h
 ·cases h
def c86e (N:Nat):Ent':=fun xs H=>match c86in xs H with | some d=>some (c86p N (d.1) (d.2.1) (d.2.2.1) (d.2.2.2.1) (d.2.2.2.2.1) (d.2.2.2.2.2.1) (d.2.2.2.2.2.2.1) (d.2.2.2.2.2.2.2.1) (d.2.2.2.2.2.2.2.2),c86r0 (c86y0 N (d.1) (d.2.1) (d.2.2.1) (d.2.2.2.1) (d.2.2.2.2.1) (d.2.2.2.2.2.1) (d.2.2.2.2.2.2.1) (d.2.2.2.2.2.2.2.1) (d.2.2.2.2.2.2.2.2)) (c86y1 N (d.1) (d.2.1) (d.2.2.1) (d.2.2.2.1) (d.2.2.2.2.1) (d.2.2.2.2.2.1) (d.2.2.2.2.2.2.1) (d.2.2.2.2.2.2.2.1) (d.2.2.2.2.2.2.2.2)) (c86y2 N (d.1) (d.2.1) (d.2.2.1) (d.2.2.2.1) (d.2.2.2.2.1) (d.2.2.2.2.2.1) (d.2.2.2.2.2.2.1) (d.2.2.2.2.2.2.2.1) (d.2.2.2.2.2.2.2.2)) (c86y3 N (d.1) (d.2.1) (d.2.2.1) (d.2.2.2.1) (d.2.2.2.2.1) (d.2.2.2.2.2.1) (d.2.2.2.2.2.2.1) (d.2.2.2.2.2.2.2.1) (d.2.2.2.2.2.2.2.2))) | none=>none
theorem c86re {N:Nat} {e1_0:Int} {e1_1:Int} {e1_2:Int} {e1_3:Int} {e1_4:Int} {h50_0:Bool} {h50_1:Int} {h50_2:Int} {h51_0:YF1} {d:Bool×Int×Int×YF1} (hd:c86z N e1_0 e1_1 e1_2 e1_3 e1_4 h50_0 h50_1 h50_2 h51_0=some d):c86r0 (c86y0 N e1_0 e1_1 e1_2 e1_3 e1_4 h50_0 h50_1 h50_2 h51_0) (c86y1 N e1_0 e1_1 e1_2 e1_3 e1_4 h50_0 h50_1 h50_2 h51_0) (c86y2 N e1_0 e1_1 e1_2 e1_3 e1_4 h50_0 h50_1 h50_2 h51_0) (c86y3 N e1_0 e1_1 e1_2 e1_3 e1_4 h50_0 h50_1 h50_2 h51_0)=c86r0 (d.1) (d.2.1) (d.2.2.1) (d.2.2.2):=by unfold c86y0 c86y1 c86y2 c86y3;rw [hd];rfl
theorem c86ok (N:Nat):EOk Tryd.prog 86 (c86e N):=fun xs H pre r he hp=>by
 unfold c86e at he;split at he
 ·rename_i d hd
  have he:=Option.some.inj he;have h1:=congrArg Prod.fst he;have h2:=congrArg Prod.snd he;simp only at h1 h2;obtain ⟨e1,e2⟩:=c86io hd;rw [e1,e2,← h2];have h:(c86z N (d.1) (d.2.1) (d.2.2.1) (d.2.2.2.1) (d.2.2.2.2.1) (d.2.2.2.2.2.1) (d.2.2.2.2.2.2.1) (d.2.2.2.2.2.2.2.1) (d.2.2.2.2.2.2.2.2)).isSome=true:=h1.trans hp;obtain ⟨d',hd'⟩:=Option.isSome_iff_exists.1 h;have f:=c86fin (c86cx N) hd';rw [← c86re hd'] at f;exact f
 ·cases he
end
end Go.Proofs
/- What functions do. -/
namespace Go.Proofs
noncomputable section
open Go.Ax Go.Ax.Alg Go.RowKit Go.Ab
open Go
def o93r0 (a0:Bool) (a1:Int) (a2:YF1):Res:=(.tup [],[(50,.box 85 [.own 100,.e .bo a0,.e (.i .i64) a1]),(100,.row 5 .u8 a2 false)])
def o93L (N:Nat):List (Nat×Ent'):=[(19,w19e N)]
def o93c (N:Nat):Cx:=⟨Tryd.prog,99999,o93L N,[]⟩
def o93b:Code:=Tryd.f93.body.getD .skip
theorem o93cx (N:Nat):CxOk (o93c N):=ctx_ok (by kernel_rfl) (.cons (by kernel_rfl) (w19ok N) .nil) .nil
def o93G [Alg] (N:Nat)  (c1:Int) (h50_0:Bool) (h50_1:Int) (h51_0:YF1):O:=
 ck (w19p N c1) <|
 br (w19y0 N c1&&decide ((↑h51_0.length:Int) < (40:Int)))
  (ck (lim (h51_0++[u8of c1]).length (1:Nat)) <|
  some (o93r0 h50_0 h50_1 (h51_0++[u8of c1])))
  (some (o93r0 h50_0 h50_1 h51_0))
def o93 [Alg] (N:Nat) (c1:Int) (h50_0:Bool) (h50_1:Int) (h51_0:YF1):O:=o93G N  c1 h50_0 h50_1 h51_0
def o93h [Alg] (_:Nat):Hint:=(.seq (.reg [] [.rn 0 0] []) .d)
theorem o93hk (N:Nat):HintOk (o93c N) Tryd.f93.ntmps (o93h N) o93b:=hk_of _ _ (And.intro trivial trivial)
theorem o93q [Alg] (N:Nat) (c1:Int) (h50_0:Bool) (h50_1:Int) (h51_0:YF1):o93G N  c1 h50_0 h50_1 h51_0=exec (o93c N) Tryd.f93.ntmps (o93h N) o93b ⟨argT 0 [.ref 50 0,.e (.i .i64) c1],[(50,.box 85 [.own 51,.e .bo h50_0,.e (.i .i64) h50_1]),(51,.row 5 .u8 h51_0 false)],100⟩ (finX (o93c N) Tryd.f93 true):=by kernel_rfl
theorem o93does {N:Nat} (hc:CxOk (o93c N)) {c1:Int} {h50_0:Bool} {h50_1:Int} {h51_0:YF1} {r:Res} (h:o93 N c1 h50_0 h50_1 h51_0=some r):DoesR Tryd.prog 93 (([.ref 50 0,.e (.i .i64) c1]:List X).map X.D) (HA [(50,.box 85 [.own 51,.e .bo h50_0,.e (.i .i64) h50_1]),(51,.row 5 .u8 h51_0 false)]) r:=
 fun_ok hc (f:=93) (fn:=Tryd.f93) (code:=o93b) (by kernel_rfl) (by kernel_rfl) (o93hk N) (Nat.le_of_ble_eq_true (by kernel_rfl)) (ow:=true) ((o93q N c1 h50_0 h50_1 h51_0).symm.trans (by exact h))
def o93un (r:Res):Option (Bool×Int×YF1):=match r with
 | (.tup [],[(50,.box 85 [.own 100,x0,x1]),(100,x2)])=>(match ue .bo x0,ue (.i .i64) x1,ur 5 .u8 false x2 with | some a0,some a1,some a2=>some (a0,a1,a2) | _,_,_=>none)
 | _=>none
theorem o93uo {r:Res} {d:Bool×Int×YF1} (h:o93un r=some d):r=o93r0 (d.1) (d.2.1) (d.2.2):=by
 unfold o93un at h;split at h
 ·split at h
  ·rename_i h0 h1 h2;cases h;rw [ue_some h0,ue_some h1,ur_some h2];rfl
  ·cases h
 ·cases h
def o93z (N:Nat) (c1:Int) (h50_0:Bool) (h50_1:Int) (h51_0:YF1):Option (Bool×Int×YF1):=(o93 N c1 h50_0 h50_1 h51_0).bind o93un
theorem o93fin {N:Nat} (hc:CxOk (o93c N)) {c1:Int} {h50_0:Bool} {h50_1:Int} {h51_0:YF1} {d:Bool×Int×YF1} (hd:o93z N c1 h50_0 h50_1 h51_0=some d):Does Tryd.prog 93 (([.ref 50 0,.e (.i .i64) c1]:List X).map X.D) (HA [(50,.box 85 [.own 51,.e .bo h50_0,.e (.i .i64) h50_1]),(51,.row 5 .u8 h51_0 false)]) (o93r0 (d.1) (d.2.1) (d.2.2)).1.D (HA (o93r0 (d.1) (d.2.1) (d.2.2)).2):=by
 obtain ⟨r,hr,hu⟩:=Option.bind_eq_some_iff.1 hd;have:=o93does hc hr;rw [o93uo hu] at this;exact this
def o93p (N:Nat) (c1:Int) (h50_0:Bool) (h50_1:Int) (h51_0:YF1):Bool:=(o93z N c1 h50_0 h50_1 h51_0).isSome
def o93y0 (N:Nat) (c1:Int) (h50_0:Bool) (h50_1:Int) (h51_0:YF1):Bool:=((o93z N c1 h50_0 h50_1 h51_0).getD (false,0,[])).1
def o93y1 (N:Nat) (c1:Int) (h50_0:Bool) (h50_1:Int) (h51_0:YF1):Int:=((o93z N c1 h50_0 h50_1 h51_0).getD (false,0,[])).2.1
def o93y2 (N:Nat) (c1:Int) (h50_0:Bool) (h50_1:Int) (h51_0:YF1):YF1:=((o93z N c1 h50_0 h50_1 h51_0).getD (false,0,[])).2.2
def o93in (xs:List X) (H:XH):Option (Int×Bool×Int×YF1):=match xs,H with
 | [.ref 50 0,x0],[(50,.box 85 [.own 51,x1,x2]),(51,x3)]=>(match ue (.i .i64) x0,ue .bo x1,ue (.i .i64) x2,ur 5 .u8 false x3 with | some a0,some a1,some a2,some a3=>some (a0,a1,a2,a3) | _,_,_,_=>none)
 | _,_=>none
theorem o93io {xs:List X} {H:XH} {d:Int×Bool×Int×YF1} (h:o93in xs H=some d):xs=[.ref 50 0,.e (.i .i64) (d.1)]/\H=[(50,.box 85 [.own 51,.e .bo (d.2.1),.e (.i .i64) (d.2.2.1)]),(51,.row 5 .u8 (d.2.2.2) false)]:=by
 unfold o93in at h;split at h
 ·split at h
  ·rename_i h0 h1 h2 h3;cases h;rw [ue_some h0,ue_some h1,ue_some h2,ur_some h3];exact ⟨rfl,rfl⟩
  ·cases h
 ·cases h
def o93e (N:Nat):Ent':=fun xs H=>match o93in xs H with | some d=>some (o93p N (d.1) (d.2.1) (d.2.2.1) (d.2.2.2),o93r0 (o93y0 N (d.1) (d.2.1) (d.2.2.1) (d.2.2.2)) (o93y1 N (d.1) (d.2.1) (d.2.2.1) (d.2.2.2)) (o93y2 N (d.1) (d.2.1) (d.2.2.1) (d.2.2.2))) | none=>none
theorem o93re {N:Nat} {c1:Int} {h50_0:Bool} {h50_1:Int} {h51_0:YF1} {d:Bool×Int×YF1} (hd:o93z N c1 h50_0 h50_1 h51_0=some d):o93r0 (o93y0 N c1 h50_0 h50_1 h51_0) (o93y1 N c1 h50_0 h50_1 h51_0) (o93y2 N c1 h50_0 h50_1 h51_0)=o93r0 (d.1) (d.2.1) (d.2.2):=by unfold o93y0 o93y1 o93y2;rw [hd];rfl
theorem o93ok (N:Nat):EOk Tryd.prog 93 (o93e N):=fun xs H pre r he hp=>by
 unfold o93e at he;split at he
 ·rename_i d hd
  have he:=Option.some.inj he;have h1:=congrArg Prod.fst he;have h2:=congrArg Prod.snd he;simp only at h1 h2;obtain ⟨e1,e2⟩:=o93io hd;rw [e1,e2,← h2];have h:(o93z N (d.1) (d.2.1) (d.2.2.1) (d.2.2.2)).isSome=true:=h1.trans hp;obtain ⟨d',hd'⟩:=Option.isSome_iff_exists.1 h;have f:=o93fin (o93cx N) hd';rw [← o93re hd'] at f;exact f
 ·cases he
def o88r0 (a0:Bool) (a1:Int) (a2:YF1):Res:=(.tup [],[(50,.box 85 [.own 100,.e .bo a0,.e (.i .i64) a1]),(100,.row 5 .u8 a2 false)])
def o88L (_:Nat):List (Nat×Ent'):=[]
def o88c (N:Nat):Cx:=⟨Tryd.prog,99999,o88L N,[]⟩
def o88b:Code:=Tryd.f88.body.getD .skip
theorem o88cx (N:Nat):CxOk (o88c N):=ctx_ok (by kernel_rfl) .nil .nil
def o88G [Alg] (_:Nat)  (h50_0:Bool) (h50_1:Int) (h51_0:YF1):O:=
 ck (decide ((0:Int)<=max (0:Int) (IntKind.i64.wrap ((↑h51_0.length:Int) - (1:Int)))/\max (0:Int) (IntKind.i64.wrap ((↑h51_0.length:Int) - (1:Int)))<=(↑h51_0.length:Int))) <|
 some (o88r0 h50_0 h50_1 (List.take (max (0:Int) (IntKind.i64.wrap ((↑h51_0.length:Int) - (1:Int)))).toNat h51_0))
def o88 [Alg] (N:Nat) (h50_0:Bool) (h50_1:Int) (h51_0:YF1):O:=o88G N  h50_0 h50_1 h51_0
def o88h [Alg] (_:Nat):Hint:=(.reg [12] [] [[],[],[],[],[],[],[],[],[],[],[],[],[196,51],[],[],[50]])
theorem o88hk (N:Nat):HintOk (o88c N) Tryd.f88.ntmps (o88h N) o88b:=hk_of _ _ trivial
theorem o88q [Alg] (N:Nat) (h50_0:Bool) (h50_1:Int) (h51_0:YF1):o88G N  h50_0 h50_1 h51_0=exec (o88c N) Tryd.f88.ntmps (o88h N) o88b ⟨argT 0 [.ref 50 0],[(50,.box 85 [.own 51,.e .bo h50_0,.e (.i .i64) h50_1]),(51,.row 5 .u8 h51_0 false)],100⟩ (finX (o88c N) Tryd.f88 true):=by kernel_rfl
theorem o88does {N:Nat} (hc:CxOk (o88c N)) {h50_0:Bool} {h50_1:Int} {h51_0:YF1} {r:Res} (h:o88 N h50_0 h50_1 h51_0=some r):DoesR Tryd.prog 88 (([.ref 50 0]:List X).map X.D) (HA [(50,.box 85 [.own 51,.e .bo h50_0,.e (.i .i64) h50_1]),(51,.row 5 .u8 h51_0 false)]) r:=
 fun_ok hc (f:=88) (fn:=Tryd.f88) (code:=o88b) (by kernel_rfl) (by kernel_rfl) (o88hk N) (Nat.le_of_ble_eq_true (by kernel_rfl)) (ow:=true) ((o88q N h50_0 h50_1 h51_0).symm.trans (by exact h))
def o88un (r:Res):Option (Bool×Int×YF1):=match r with
 | (.tup [],[(50,.box 85 [.own 100,x0,x1]),(100,x2)])=>(match ue .bo x0,ue (.i .i64) x1,ur 5 .u8 false x2 with | some a0,some a1,some a2=>some (a0,a1,a2) | _,_,_=>none)
 | _=>none
theorem o88uo {r:Res} {d:Bool×Int×YF1} (h:o88un r=some d):r=o88r0 (d.1) (d.2.1) (d.2.2):=by
 unfold o88un at h;split at h
 ·split at h
  ·rename_i h0 h1 h2;cases h;rw [ue_some h0,ue_some h1,ur_some h2];rfl
  ·cases h
 ·cases h
def o88z (N:Nat) (h50_0:Bool) (h50_1:Int) (h51_0:YF1):Option (Bool×Int×YF1):=(o88 N h50_0 h50_1 h51_0).bind o88un
theorem o88fin {N:Nat} (hc:CxOk (o88c N)) {h50_0:Bool} {h50_1:Int} {h51_0:YF1} {d:Bool×Int×YF1} (hd:o88z N h50_0 h50_1 h51_0=some d):Does Tryd.prog 88 (([.ref 50 0]:List X).map X.D) (HA [(50,.box 85 [.own 51,.e .bo h50_0,.e (.i .i64) h50_1]),(51,.row 5 .u8 h51_0 false)]) (o88r0 (d.1) (d.2.1) (d.2.2)).1.D (HA (o88r0 (d.1) (d.2.1) (d.2.2)).2):=by
 obtain ⟨r,hr,hu⟩:=Option.bind_eq_some_iff.1 hd;have:=o88does hc hr;rw [o88uo hu] at this;exact this
def o88p (N:Nat) (h50_0:Bool) (h50_1:Int) (h51_0:YF1):Bool:=(o88z N h50_0 h50_1 h51_0).isSome
def o88y0 (N:Nat) (h50_0:Bool) (h50_1:Int) (h51_0:YF1):Bool:=((o88z N h50_0 h50_1 h51_0).getD (false,0,[])).1
def o88y1 (N:Nat) (h50_0:Bool) (h50_1:Int) (h51_0:YF1):Int:=((o88z N h50_0 h50_1 h51_0).getD (false,0,[])).2.1
def o88y2 (N:Nat) (h50_0:Bool) (h50_1:Int) (h51_0:YF1):YF1:=((o88z N h50_0 h50_1 h51_0).getD (false,0,[])).2.2
def o88in (xs:List X) (H:XH):Option (Bool×Int×YF1):=match xs,H with
 | [.ref 50 0],[(50,.box 85 [.own 51,x0,x1]),(51,x2)]=>(match ue .bo x0,ue (.i .i64) x1,ur 5 .u8 false x2 with | some a0,some a1,some a2=>some (a0,a1,a2) | _,_,_=>none)
 | _,_=>none
theorem o88io {xs:List X} {H:XH} {d:Bool×Int×YF1} (h:o88in xs H=some d):xs=[.ref 50 0]/\H=[(50,.box 85 [.own 51,.e .bo (d.1),.e (.i .i64) (d.2.1)]),(51,.row 5 .u8 (d.2.2) false)]:=by
 unfold o88in at h;split at h
 ·split at h
  ·rename_i h0 h1 h2;cases h;rw [ue_some h0,ue_some h1,ur_some h2];exact ⟨rfl,rfl⟩
  ·cases h
 ·cases h
def o88e (N:Nat):Ent':=fun xs H=>match o88in xs H with | some d=>some (o88p N (d.1) (d.2.1) (d.2.2),o88r0 (o88y0 N (d.1) (d.2.1) (d.2.2)) (o88y1 N (d.1) (d.2.1) (d.2.2)) (o88y2 N (d.1) (d.2.1) (d.2.2))) | none=>none
theorem o88re {N:Nat} {h50_0:Bool} {h50_1:Int} {h51_0:YF1} {d:Bool×Int×YF1} (hd:o88z N h50_0 h50_1 h51_0=some d):o88r0 (o88y0 N h50_0 h50_1 h51_0) (o88y1 N h50_0 h50_1 h51_0) (o88y2 N h50_0 h50_1 h51_0)=o88r0 (d.1) (d.2.1) (d.2.2):=by unfold o88y0 o88y1 o88y2;rw [hd];rfl
theorem o88ok (N:Nat):EOk Tryd.prog 88 (o88e N):=fun xs H pre r he hp=>by
 unfold o88e at he;split at he
 ·rename_i d hd
  have he:=Option.some.inj he;have h1:=congrArg Prod.fst he;have h2:=congrArg Prod.snd he;simp only at h1 h2;obtain ⟨e1,e2⟩:=o88io hd;rw [e1,e2,← h2];have h:(o88z N (d.1) (d.2.1) (d.2.2)).isSome=true:=h1.trans hp;obtain ⟨d',hd'⟩:=Option.isSome_iff_exists.1 h;have f:=o88fin (o88cx N) hd';rw [← o88re hd'] at f;exact f
 ·cases he
def o91r0 (a0:YF1) (a1:Int) (a2:Bool) (a3:Int) (a4:YF1):Res:=(.tup [.e .tx a0,.e (.i .i64) a1],[(50,.box 85 [.own 51,.e .bo a2,.e (.i .i64) a3]),(51,.row 5 .u8 a4 false)])
def o91L (_:Nat):List (Nat×Ent'):=[]
def o91c (N:Nat):Cx:=⟨Tryd.prog,99999,o91L N,[]⟩
def o91b:Code:=Tryd.f91.body.getD .skip
theorem o91cx (N:Nat):CxOk (o91c N):=ctx_ok (by kernel_rfl) .nil .nil
def o91G [Alg] (_:Nat)  (h50_0:Bool) (h50_1:Int) (h51_0:YF1):O:=
 br (!h50_0)
  (some (o91r0 [] ((11:Int)) h50_0 h50_1 h51_0))
  (some (o91r0 h51_0 ((0:Int)) h50_0 h50_1 h51_0))
def o91 [Alg] (N:Nat) (h50_0:Bool) (h50_1:Int) (h51_0:YF1):O:=o91G N  h50_0 h50_1 h51_0
def o91h [Alg] (_:Nat):Hint:=.d
theorem o91hk (N:Nat):HintOk (o91c N) Tryd.f91.ntmps (o91h N) o91b:=hk_of _ _ trivial
theorem o91q [Alg] (N:Nat) (h50_0:Bool) (h50_1:Int) (h51_0:YF1):o91G N  h50_0 h50_1 h51_0=exec (o91c N) Tryd.f91.ntmps (o91h N) o91b ⟨argT 0 [.ref 50 0],[(50,.box 85 [.own 51,.e .bo h50_0,.e (.i .i64) h50_1]),(51,.row 5 .u8 h51_0 false)],100⟩ (finX (o91c N) Tryd.f91 true):=by kernel_rfl
theorem o91does {N:Nat} (hc:CxOk (o91c N)) {h50_0:Bool} {h50_1:Int} {h51_0:YF1} {r:Res} (h:o91 N h50_0 h50_1 h51_0=some r):DoesR Tryd.prog 91 (([.ref 50 0]:List X).map X.D) (HA [(50,.box 85 [.own 51,.e .bo h50_0,.e (.i .i64) h50_1]),(51,.row 5 .u8 h51_0 false)]) r:=
 fun_ok hc (f:=91) (fn:=Tryd.f91) (code:=o91b) (by kernel_rfl) (by kernel_rfl) (o91hk N) (Nat.le_of_ble_eq_true (by kernel_rfl)) (ow:=true) ((o91q N h50_0 h50_1 h51_0).symm.trans (by exact h))
def o91un (r:Res):Option (YF1×Int×Bool×Int×YF1):=match r with
 | (.tup [x0,x1],[(50,.box 85 [.own 51,x2,x3]),(51,x4)])=>(match ue .tx x0,ue (.i .i64) x1,ue .bo x2,ue (.i .i64) x3,ur 5 .u8 false x4 with | some a0,some a1,some a2,some a3,some a4=>some (a0,a1,a2,a3,a4) | _,_,_,_,_=>none)
 | _=>none
theorem o91uo {r:Res} {d:YF1×Int×Bool×Int×YF1} (h:o91un r=some d):r=o91r0 (d.1) (d.2.1) (d.2.2.1) (d.2.2.2.1) (d.2.2.2.2):=by
 unfold o91un at h;split at h
 ·split at h
  ·rename_i h0 h1 h2 h3 h4;cases h;rw [ue_some h0,ue_some h1,ue_some h2,ue_some h3,ur_some h4];rfl
  ·cases h
 ·cases h
def o91z (N:Nat) (h50_0:Bool) (h50_1:Int) (h51_0:YF1):Option (YF1×Int×Bool×Int×YF1):=(o91 N h50_0 h50_1 h51_0).bind o91un
theorem o91fin {N:Nat} (hc:CxOk (o91c N)) {h50_0:Bool} {h50_1:Int} {h51_0:YF1} {d:YF1×Int×Bool×Int×YF1} (hd:o91z N h50_0 h50_1 h51_0=some d):Does Tryd.prog 91 (([.ref 50 0]:List X).map X.D) (HA [(50,.box 85 [.own 51,.e .bo h50_0,.e (.i .i64) h50_1]),(51,.row 5 .u8 h51_0 false)]) (o91r0 (d.1) (d.2.1) (d.2.2.1) (d.2.2.2.1) (d.2.2.2.2)).1.D (HA (o91r0 (d.1) (d.2.1) (d.2.2.1) (d.2.2.2.1) (d.2.2.2.2)).2):=by
 obtain ⟨r,hr,hu⟩:=Option.bind_eq_some_iff.1 hd;have:=o91does hc hr;rw [o91uo hu] at this;exact this
def o91p (N:Nat) (h50_0:Bool) (h50_1:Int) (h51_0:YF1):Bool:=(o91z N h50_0 h50_1 h51_0).isSome
def o91y0 (N:Nat) (h50_0:Bool) (h50_1:Int) (h51_0:YF1):YF1:=((o91z N h50_0 h50_1 h51_0).getD ([],0,false,0,[])).1
def o91y1 (N:Nat) (h50_0:Bool) (h50_1:Int) (h51_0:YF1):Int:=((o91z N h50_0 h50_1 h51_0).getD ([],0,false,0,[])).2.1
def o91y2 (N:Nat) (h50_0:Bool) (h50_1:Int) (h51_0:YF1):Bool:=((o91z N h50_0 h50_1 h51_0).getD ([],0,false,0,[])).2.2.1
def o91y3 (N:Nat) (h50_0:Bool) (h50_1:Int) (h51_0:YF1):Int:=((o91z N h50_0 h50_1 h51_0).getD ([],0,false,0,[])).2.2.2.1
def o91y4 (N:Nat) (h50_0:Bool) (h50_1:Int) (h51_0:YF1):YF1:=((o91z N h50_0 h50_1 h51_0).getD ([],0,false,0,[])).2.2.2.2
def o91in (xs:List X) (H:XH):Option (Bool×Int×YF1):=match xs,H with
 | [.ref 50 0],[(50,.box 85 [.own 51,x0,x1]),(51,x2)]=>(match ue .bo x0,ue (.i .i64) x1,ur 5 .u8 false x2 with | some a0,some a1,some a2=>some (a0,a1,a2) | _,_,_=>none)
 | _,_=>none
theorem o91io {xs:List X} {H:XH} {d:Bool×Int×YF1} (h:o91in xs H=some d):xs=[.ref 50 0]/\H=[(50,.box 85 [.own 51,.e .bo (d.1),.e (.i .i64) (d.2.1)]),(51,.row 5 .u8 (d.2.2) false)]:=by
 unfold o91in at h;split at h
 ·split at h
  ·rename_i h0 h1 h2;cases h;rw [ue_some h0,ue_some h1,ur_some h2];exact ⟨rfl,rfl⟩
  ·cases h
 ·cases h
def o91e (N:Nat):Ent':=fun xs H=>match o91in xs H with | some d=>some (o91p N (d.1) (d.2.1) (d.2.2),o91r0 (o91y0 N (d.1) (d.2.1) (d.2.2)) (o91y1 N (d.1) (d.2.1) (d.2.2)) (o91y2 N (d.1) (d.2.1) (d.2.2)) (o91y3 N (d.1) (d.2.1) (d.2.2)) (o91y4 N (d.1) (d.2.1) (d.2.2))) | none=>none
theorem o91re {N:Nat} {h50_0:Bool} {h50_1:Int} {h51_0:YF1} {d:YF1×Int×Bool×Int×YF1} (hd:o91z N h50_0 h50_1 h51_0=some d):o91r0 (o91y0 N h50_0 h50_1 h51_0) (o91y1 N h50_0 h50_1 h51_0) (o91y2 N h50_0 h50_1 h51_0) (o91y3 N h50_0 h50_1 h51_0) (o91y4 N h50_0 h50_1 h51_0)=o91r0 (d.1) (d.2.1) (d.2.2.1) (d.2.2.2.1) (d.2.2.2.2):=by unfold o91y0 o91y1 o91y2 o91y3 o91y4;rw [hd];rfl
theorem o91ok (N:Nat):EOk Tryd.prog 91 (o91e N):=fun xs H pre r he hp=>by
 unfold o91e at he;split at he
 ·rename_i d hd
  have he:=Option.some.inj he;have h1:=congrArg Prod.fst he;have h2:=congrArg Prod.snd he;simp only at h1 h2;obtain ⟨e1,e2⟩:=o91io hd;rw [e1,e2,← h2];have h:(o91z N (d.1) (d.2.1) (d.2.2)).isSome=true:=h1.trans hp;obtain ⟨d',hd'⟩:=Option.isSome_iff_exists.1 h;have f:=o91fin (o91cx N) hd';rw [← o91re hd'] at f;exact f
 ·cases he
def o94r0 (a0:Bool) (a1:Int) (a2:YF1):Res:=(.tup [],[(50,.box 85 [.own 100,.e .bo a0,.e (.i .i64) a1]),(100,.row 5 .u8 a2 false)])
def o94L (N:Nat):List (Nat×Ent'):=[(19,w19e N),(93,o93e N),(88,o88e N)]
def o94c (N:Nat):Cx:=⟨Tryd.prog,99999,o94L N,[]⟩
def o94b:Code:=Tryd.f94.body.getD .skip
theorem o94cx (N:Nat):CxOk (o94c N):=ctx_ok (by kernel_rfl) (.cons (by kernel_rfl) (w19ok N) (.cons (by kernel_rfl) (o93ok N) (.cons (by kernel_rfl) (o88ok N) .nil))) .nil
def o94G [Alg] (N:Nat)  (_e1_0:Int) (_e1_1:Int) (e1_2:Int) (e1_3:Int) (_e1_4:Int) (h50_0:Bool) (h50_1:Int) (h51_0:YF1):O:=
 br h50_0
  (some (o94r0 h50_0 h50_1 h51_0))
  (ck (!decide (e1_2=(0:Int))||w19p N e1_3) <|
  br (decide (e1_2=(0:Int))&&w19y0 N e1_3)
   (some (o94r0 h50_0 e1_3 h51_0))
   (br (decide (e1_2=(1:Int))&&(decide (e1_3=(0:Int))||decide (e1_3=(1:Int))))
    (br (decide (e1_3=(1:Int))&&decide ((0:Int) < h50_1))
     (ck (o93p N h50_1 h50_0 (0:Int) h51_0) <|
     some (o94r0 (o93y0 N h50_1 h50_0 (0:Int) h51_0) (o93y1 N h50_1 h50_0 (0:Int) h51_0) (o93y2 N h50_1 h50_0 (0:Int) h51_0)))
     (some (o94r0 h50_0 ((0:Int)) h51_0)))
    (br (decide (e1_2=(2:Int)))
     (br (decide (h50_1=(0:Int)))
      (ck (o88p N h50_0 (0:Int) h51_0) <|
      some (o94r0 (o88y0 N h50_0 (0:Int) h51_0) (o88y1 N h50_0 (0:Int) h51_0) (o88y2 N h50_0 (0:Int) h51_0)))
      (some (o94r0 h50_0 ((0:Int)) h51_0)))
     (br (decide (e1_2=(3:Int)))
      (some (o94r0 true ((0:Int)) h51_0))
      (some (o94r0 h50_0 h50_1 h51_0))))))
def o94 [Alg] (N:Nat) (e1_0:Int) (e1_1:Int) (e1_2:Int) (e1_3:Int) (e1_4:Int) (h50_0:Bool) (h50_1:Int) (h51_0:YF1):O:=o94G N  e1_0 e1_1 e1_2 e1_3 e1_4 h50_0 h50_1 h51_0
def o94h [Alg] (_:Nat):Hint:=(.seq (.reg [] [.rn 0 0] []) .d)
theorem o94hk (N:Nat):HintOk (o94c N) Tryd.f94.ntmps (o94h N) o94b:=hk_of _ _ (And.intro trivial trivial)
theorem o94q [Alg] (N:Nat) (e1_0:Int) (e1_1:Int) (e1_2:Int) (e1_3:Int) (e1_4:Int) (h50_0:Bool) (h50_1:Int) (h51_0:YF1):o94G N  e1_0 e1_1 e1_2 e1_3 e1_4 h50_0 h50_1 h51_0=exec (o94c N) Tryd.f94.ntmps (o94h N) o94b ⟨argT 0 [.ref 50 0,.agg [.e (.i .i64) e1_0,.e (.i .i64) e1_1,.e (.i .i64) e1_2,.e (.i .i64) e1_3,.e (.i .i64) e1_4]],[(50,.box 85 [.own 51,.e .bo h50_0,.e (.i .i64) h50_1]),(51,.row 5 .u8 h51_0 false)],100⟩ (finX (o94c N) Tryd.f94 true):=by kernel_rfl
theorem o94does {N:Nat} (hc:CxOk (o94c N)) {e1_0:Int} {e1_1:Int} {e1_2:Int} {e1_3:Int} {e1_4:Int} {h50_0:Bool} {h50_1:Int} {h51_0:YF1} {r:Res} (h:o94 N e1_0 e1_1 e1_2 e1_3 e1_4 h50_0 h50_1 h51_0=some r):DoesR Tryd.prog 94 (([.ref 50 0,.agg [.e (.i .i64) e1_0,.e (.i .i64) e1_1,.e (.i .i64) e1_2,.e (.i .i64) e1_3,.e (.i .i64) e1_4]]:List X).map X.D) (HA [(50,.box 85 [.own 51,.e .bo h50_0,.e (.i .i64) h50_1]),(51,.row 5 .u8 h51_0 false)]) r:=
 fun_ok hc (f:=94) (fn:=Tryd.f94) (code:=o94b) (by kernel_rfl) (by kernel_rfl) (o94hk N) (Nat.le_of_ble_eq_true (by kernel_rfl)) (ow:=true) ((o94q N e1_0 e1_1 e1_2 e1_3 e1_4 h50_0 h50_1 h51_0).symm.trans (by exact h))
def o94un (r:Res):Option (Bool×Int×YF1):=match r with
 | (.tup [],[(50,.box 85 [.own 100,x0,x1]),(100,x2)])=>(match ue .bo x0,ue (.i .i64) x1,ur 5 .u8 false x2 with | some a0,some a1,some a2=>some (a0,a1,a2) | _,_,_=>none)
 | _=>none
theorem o94uo {r:Res} {d:Bool×Int×YF1} (h:o94un r=some d):r=o94r0 (d.1) (d.2.1) (d.2.2):=by
 unfold o94un at h;split at h
 ·split at h
  ·rename_i h0 h1 h2;cases h;rw [ue_some h0,ue_some h1,ur_some h2];rfl
  ·cases h
 ·cases h
def o94z (N:Nat) (e1_0:Int) (e1_1:Int) (e1_2:Int) (e1_3:Int) (e1_4:Int) (h50_0:Bool) (h50_1:Int) (h51_0:YF1):Option (Bool×Int×YF1):=(o94 N e1_0 e1_1 e1_2 e1_3 e1_4 h50_0 h50_1 h51_0).bind o94un
theorem o94fin {N:Nat} (hc:CxOk (o94c N)) {e1_0:Int} {e1_1:Int} {e1_2:Int} {e1_3:Int} {e1_4:Int} {h50_0:Bool} {h50_1:Int} {h51_0:YF1} {d:Bool×Int×YF1} (hd:o94z N e1_0 e1_1 e1_2 e1_3 e1_4 h50_0 h50_1 h51_0=some d):Does Tryd.prog 94 (([.ref 50 0,.agg [.e (.i .i64) e1_0,.e (.i .i64) e1_1,.e (.i .i64) e1_2,.e (.i .i64) e1_3,.e (.i .i64) e1_4]]:List X).map X.D) (HA [(50,.box 85 [.own 51,.e .bo h50_0,.e (.i .i64) h50_1]),(51,.row 5 .u8 h51_0 false)]) (o94r0 (d.1) (d.2.1) (d.2.2)).1.D (HA (o94r0 (d.1) (d.2.1) (d.2.2)).2):=by
 obtain ⟨r,hr,hu⟩:=Option.bind_eq_some_iff.1 hd;have:=o94does hc hr;rw [o94uo hu] at this;exact this
def o94p (N:Nat) (e1_0:Int) (e1_1:Int) (e1_2:Int) (e1_3:Int) (e1_4:Int) (h50_0:Bool) (h50_1:Int) (h51_0:YF1):Bool:=(o94z N e1_0 e1_1 e1_2 e1_3 e1_4 h50_0 h50_1 h51_0).isSome
def o94y0 (N:Nat) (e1_0:Int) (e1_1:Int) (e1_2:Int) (e1_3:Int) (e1_4:Int) (h50_0:Bool) (h50_1:Int) (h51_0:YF1):Bool:=((o94z N e1_0 e1_1 e1_2 e1_3 e1_4 h50_0 h50_1 h51_0).getD (false,0,[])).1
def o94y1 (N:Nat) (e1_0:Int) (e1_1:Int) (e1_2:Int) (e1_3:Int) (e1_4:Int) (h50_0:Bool) (h50_1:Int) (h51_0:YF1):Int:=((o94z N e1_0 e1_1 e1_2 e1_3 e1_4 h50_0 h50_1 h51_0).getD (false,0,[])).2.1
def o94y2 (N:Nat) (e1_0:Int) (e1_1:Int) (e1_2:Int) (e1_3:Int) (e1_4:Int) (h50_0:Bool) (h50_1:Int) (h51_0:YF1):YF1:=((o94z N e1_0 e1_1 e1_2 e1_3 e1_4 h50_0 h50_1 h51_0).getD (false,0,[])).2.2
def o94in (xs:List X) (H:XH):Option (Int×Int×Int×Int×Int×Bool×Int×YF1):=match xs,H with
 | [.ref 50 0,.agg [x0,x1,x2,x3,x4]],[(50,.box 85 [.own 51,x5,x6]),(51,x7)]=>(match ue (.i .i64) x0,ue (.i .i64) x1,ue (.i .i64) x2,ue (.i .i64) x3,ue (.i .i64) x4,ue .bo x5,ue (.i .i64) x6,ur 5 .u8 false x7 with | some a0,some a1,some a2,some a3,some a4,some a5,some a6,some a7=>some (a0,a1,a2,a3,a4,a5,a6,a7) | _,_,_,_,_,_,_,_=>none)
 | _,_=>none
theorem o94io {xs:List X} {H:XH} {d:Int×Int×Int×Int×Int×Bool×Int×YF1} (h:o94in xs H=some d):xs=[.ref 50 0,.agg [.e (.i .i64) (d.1),.e (.i .i64) (d.2.1),.e (.i .i64) (d.2.2.1),.e (.i .i64) (d.2.2.2.1),.e (.i .i64) (d.2.2.2.2.1)]]/\H=[(50,.box 85 [.own 51,.e .bo (d.2.2.2.2.2.1),.e (.i .i64) (d.2.2.2.2.2.2.1)]),(51,.row 5 .u8 (d.2.2.2.2.2.2.2) false)]:=by
 unfold o94in at h;split at h
 ·split at h
  ·rename_i h0 h1 h2 h3 h4 h5 h6 h7;cases h;rw [ue_some h0,ue_some h1,ue_some h2,ue_some h3,ue_some h4,ue_some h5,ue_some h6,ur_some h7];exact ⟨rfl,rfl⟩
  ·cases h
 ·cases h
def o94e (N:Nat):Ent':=fun xs H=>match o94in xs H with | some d=>some (o94p N (d.1) (d.2.1) (d.2.2.1) (d.2.2.2.1) (d.2.2.2.2.1) (d.2.2.2.2.2.1) (d.2.2.2.2.2.2.1) (d.2.2.2.2.2.2.2),o94r0 (o94y0 N (d.1) (d.2.1) (d.2.2.1) (d.2.2.2.1) (d.2.2.2.2.1) (d.2.2.2.2.2.1) (d.2.2.2.2.2.2.1) (d.2.2.2.2.2.2.2)) (o94y1 N (d.1) (d.2.1) (d.2.2.1) (d.2.2.2.1) (d.2.2.2.2.1) (d.2.2.2.2.2.1) (d.2.2.2.2.2.2.1) (d.2.2.2.2.2.2.2)) (o94y2 N (d.1) (d.2.1) (d.2.2.1) (d.2.2.2.1) (d.2.2.2.2.1) (d.2.2.2.2.2.1) (d.2.2.2.2.2.2.1) (d.2.2.2.2.2.2.2))) | none=>none
theorem o94re {N:Nat} {e1_0:Int} {e1_1:Int} {e1_2:Int} {e1_3:Int} {e1_4:Int} {h50_0:Bool} {h50_1:Int} {h51_0:YF1} {d:Bool×Int×YF1} (hd:o94z N e1_0 e1_1 e1_2 e1_3 e1_4 h50_0 h50_1 h51_0=some d):o94r0 (o94y0 N e1_0 e1_1 e1_2 e1_3 e1_4 h50_0 h50_1 h51_0) (o94y1 N e1_0 e1_1 e1_2 e1_3 e1_4 h50_0 h50_1 h51_0) (o94y2 N e1_0 e1_1 e1_2 e1_3 e1_4 h50_0 h50_1 h51_0)=o94r0 (d.1) (d.2.1) (d.2.2):=by unfold o94y0 o94y1 o94y2;rw [hd];rfl
theorem o94ok (N:Nat):EOk Tryd.prog 94 (o94e N):=fun xs H pre r he hp=>by
 unfold o94e at he;split at he
 ·rename_i d hd
  have he:=Option.some.inj he;have h1:=congrArg Prod.fst he;have h2:=congrArg Prod.snd he;simp only at h1 h2;obtain ⟨e1,e2⟩:=o94io hd;rw [e1,e2,← h2];have h:(o94z N (d.1) (d.2.1) (d.2.2.1) (d.2.2.2.1) (d.2.2.2.2.1) (d.2.2.2.2.2.1) (d.2.2.2.2.2.2.1) (d.2.2.2.2.2.2.2)).isSome=true:=h1.trans hp;obtain ⟨d',hd'⟩:=Option.isSome_iff_exists.1 h;have f:=o94fin (o94cx N) hd';rw [← o94re hd'] at f;exact f
 ·cases he
end
end Go.Proofs
/- What functions do. -/
namespace Go.Proofs
noncomputable section
open Go.Ax Go.Ax.Alg Go.RowKit Go.Ab
open Go
def k93r0 (a0:Bool) (a1:YF1):Res:=(.tup [],[(50,.box 88 [.own 100,.e .bo a0]),(100,.row 5 .u8 a1 false)])
def k93L (N:Nat):List (Nat×Ent'):=[(19,w19e N)]
def k93c (N:Nat):Cx:=⟨Tryd.prog,99999,k93L N,[]⟩
def k93b:Code:=Tryd.f93.body.getD .skip
theorem k93cx (N:Nat):CxOk (k93c N):=ctx_ok (by kernel_rfl) (.cons (by kernel_rfl) (w19ok N) .nil) .nil
def k93G [Alg] (N:Nat)  (c1:Int) (h50_0:Bool) (h51_0:YF1):O:=
 ck (w19p N c1) <|
 br (w19y0 N c1&&decide ((↑h51_0.length:Int) < (40:Int)))
  (ck (lim (h51_0++[u8of c1]).length (1:Nat)) <|
  some (k93r0 h50_0 (h51_0++[u8of c1])))
  (some (k93r0 h50_0 h51_0))
def k93 [Alg] (N:Nat) (c1:Int) (h50_0:Bool) (h51_0:YF1):O:=k93G N  c1 h50_0 h51_0
def k93h [Alg] (_:Nat):Hint:=(.seq (.reg [] [.rn 0 0] []) .d)
theorem k93hk (N:Nat):HintOk (k93c N) Tryd.f93.ntmps (k93h N) k93b:=hk_of _ _ (And.intro trivial trivial)
theorem k93q [Alg] (N:Nat) (c1:Int) (h50_0:Bool) (h51_0:YF1):k93G N  c1 h50_0 h51_0=exec (k93c N) Tryd.f93.ntmps (k93h N) k93b ⟨argT 0 [.ref 50 0,.e (.i .i64) c1],[(50,.box 88 [.own 51,.e .bo h50_0]),(51,.row 5 .u8 h51_0 false)],100⟩ (finX (k93c N) Tryd.f93 true):=by kernel_rfl
theorem k93does {N:Nat} (hc:CxOk (k93c N)) {c1:Int} {h50_0:Bool} {h51_0:YF1} {r:Res} (h:k93 N c1 h50_0 h51_0=some r):DoesR Tryd.prog 93 (([.ref 50 0,.e (.i .i64) c1]:List X).map X.D) (HA [(50,.box 88 [.own 51,.e .bo h50_0]),(51,.row 5 .u8 h51_0 false)]) r:=
 fun_ok hc (f:=93) (fn:=Tryd.f93) (code:=k93b) (by kernel_rfl) (by kernel_rfl) (k93hk N) (Nat.le_of_ble_eq_true (by kernel_rfl)) (ow:=true) ((k93q N c1 h50_0 h51_0).symm.trans (by exact h))
def k93un (r:Res):Option (Bool×YF1):=match r with
 | (.tup [],[(50,.box 88 [.own 100,x0]),(100,x1)])=>(match ue .bo x0,ur 5 .u8 false x1 with | some a0,some a1=>some (a0,a1) | _,_=>none)
 | _=>none
theorem k93uo {r:Res} {d:Bool×YF1} (h:k93un r=some d):r=k93r0 (d.1) (d.2):=by
 unfold k93un at h;split at h
 ·split at h
  ·rename_i h0 h1;cases h;rw [ue_some h0,ur_some h1];rfl
  ·cases h
 ·cases h
def k93z (N:Nat) (c1:Int) (h50_0:Bool) (h51_0:YF1):Option (Bool×YF1):=(k93 N c1 h50_0 h51_0).bind k93un
theorem k93fin {N:Nat} (hc:CxOk (k93c N)) {c1:Int} {h50_0:Bool} {h51_0:YF1} {d:Bool×YF1} (hd:k93z N c1 h50_0 h51_0=some d):Does Tryd.prog 93 (([.ref 50 0,.e (.i .i64) c1]:List X).map X.D) (HA [(50,.box 88 [.own 51,.e .bo h50_0]),(51,.row 5 .u8 h51_0 false)]) (k93r0 (d.1) (d.2)).1.D (HA (k93r0 (d.1) (d.2)).2):=by
 obtain ⟨r,hr,hu⟩:=Option.bind_eq_some_iff.1 hd;have:=k93does hc hr;rw [k93uo hu] at this;exact this
def k93p (N:Nat) (c1:Int) (h50_0:Bool) (h51_0:YF1):Bool:=(k93z N c1 h50_0 h51_0).isSome
def k93y0 (N:Nat) (c1:Int) (h50_0:Bool) (h51_0:YF1):Bool:=((k93z N c1 h50_0 h51_0).getD (false,[])).1
def k93y1 (N:Nat) (c1:Int) (h50_0:Bool) (h51_0:YF1):YF1:=((k93z N c1 h50_0 h51_0).getD (false,[])).2
def k93in (xs:List X) (H:XH):Option (Int×Bool×YF1):=match xs,H with
 | [.ref 50 0,x0],[(50,.box 88 [.own 51,x1]),(51,x2)]=>(match ue (.i .i64) x0,ue .bo x1,ur 5 .u8 false x2 with | some a0,some a1,some a2=>some (a0,a1,a2) | _,_,_=>none)
 | _,_=>none
theorem k93io {xs:List X} {H:XH} {d:Int×Bool×YF1} (h:k93in xs H=some d):xs=[.ref 50 0,.e (.i .i64) (d.1)]/\H=[(50,.box 88 [.own 51,.e .bo (d.2.1)]),(51,.row 5 .u8 (d.2.2) false)]:=by
 unfold k93in at h;split at h
 ·split at h
  ·rename_i h0 h1 h2;cases h;rw [ue_some h0,ue_some h1,ur_some h2];exact ⟨rfl,rfl⟩
  ·cases h
 ·cases h
def k93e (N:Nat):Ent':=fun xs H=>match k93in xs H with | some d=>some (k93p N (d.1) (d.2.1) (d.2.2),k93r0 (k93y0 N (d.1) (d.2.1) (d.2.2)) (k93y1 N (d.1) (d.2.1) (d.2.2))) | none=>none
theorem k93re {N:Nat} {c1:Int} {h50_0:Bool} {h51_0:YF1} {d:Bool×YF1} (hd:k93z N c1 h50_0 h51_0=some d):k93r0 (k93y0 N c1 h50_0 h51_0) (k93y1 N c1 h50_0 h51_0)=k93r0 (d.1) (d.2):=by unfold k93y0 k93y1;rw [hd];rfl
theorem k93ok (N:Nat):EOk Tryd.prog 93 (k93e N):=fun xs H pre r he hp=>by
 unfold k93e at he;split at he
 ·rename_i d hd
  have he:=Option.some.inj he;have h1:=congrArg Prod.fst he;have h2:=congrArg Prod.snd he;simp only at h1 h2;obtain ⟨e1,e2⟩:=k93io hd;rw [e1,e2,← h2];have h:(k93z N (d.1) (d.2.1) (d.2.2)).isSome=true:=h1.trans hp;obtain ⟨d',hd'⟩:=Option.isSome_iff_exists.1 h;have f:=k93fin (k93cx N) hd';rw [← k93re hd'] at f;exact f
 ·cases he
def k88r0 (a0:Bool) (a1:YF1):Res:=(.tup [],[(50,.box 88 [.own 100,.e .bo a0]),(100,.row 5 .u8 a1 false)])
def k88L (_:Nat):List (Nat×Ent'):=[]
def k88c (N:Nat):Cx:=⟨Tryd.prog,99999,k88L N,[]⟩
def k88b:Code:=Tryd.f88.body.getD .skip
theorem k88cx (N:Nat):CxOk (k88c N):=ctx_ok (by kernel_rfl) .nil .nil
def k88G [Alg] (_:Nat)  (h50_0:Bool) (h51_0:YF1):O:=
 ck (decide ((0:Int)<=max (0:Int) (IntKind.i64.wrap ((↑h51_0.length:Int) - (1:Int)))/\max (0:Int) (IntKind.i64.wrap ((↑h51_0.length:Int) - (1:Int)))<=(↑h51_0.length:Int))) <|
 some (k88r0 h50_0 (List.take (max (0:Int) (IntKind.i64.wrap ((↑h51_0.length:Int) - (1:Int)))).toNat h51_0))
def k88 [Alg] (N:Nat) (h50_0:Bool) (h51_0:YF1):O:=k88G N  h50_0 h51_0
def k88h [Alg] (_:Nat):Hint:=(.reg [12] [] [[],[],[],[],[],[],[],[],[],[],[],[],[196,51],[],[],[50]])
theorem k88hk (N:Nat):HintOk (k88c N) Tryd.f88.ntmps (k88h N) k88b:=hk_of _ _ trivial
theorem k88q [Alg] (N:Nat) (h50_0:Bool) (h51_0:YF1):k88G N  h50_0 h51_0=exec (k88c N) Tryd.f88.ntmps (k88h N) k88b ⟨argT 0 [.ref 50 0],[(50,.box 88 [.own 51,.e .bo h50_0]),(51,.row 5 .u8 h51_0 false)],100⟩ (finX (k88c N) Tryd.f88 true):=by kernel_rfl
theorem k88does {N:Nat} (hc:CxOk (k88c N)) {h50_0:Bool} {h51_0:YF1} {r:Res} (h:k88 N h50_0 h51_0=some r):DoesR Tryd.prog 88 (([.ref 50 0]:List X).map X.D) (HA [(50,.box 88 [.own 51,.e .bo h50_0]),(51,.row 5 .u8 h51_0 false)]) r:=
 fun_ok hc (f:=88) (fn:=Tryd.f88) (code:=k88b) (by kernel_rfl) (by kernel_rfl) (k88hk N) (Nat.le_of_ble_eq_true (by kernel_rfl)) (ow:=true) ((k88q N h50_0 h51_0).symm.trans (by exact h))
def k88un (r:Res):Option (Bool×YF1):=match r with
 | (.tup [],[(50,.box 88 [.own 100,x0]),(100,x1)])=>(match ue .bo x0,ur 5 .u8 false x1 with | some a0,some a1=>some (a0,a1) | _,_=>none)
 | _=>none
theorem k88uo {r:Res} {d:Bool×YF1} (h:k88un r=some d):r=k88r0 (d.1) (d.2):=by
 unfold k88un at h;split at h
 ·split at h
  ·rename_i h0 h1;cases h;rw [ue_some h0,ur_some h1];rfl
  ·cases h
 ·cases h
def k88z (N:Nat) (h50_0:Bool) (h51_0:YF1):Option (Bool×YF1):=(k88 N h50_0 h51_0).bind k88un
theorem k88fin {N:Nat} (hc:CxOk (k88c N)) {h50_0:Bool} {h51_0:YF1} {d:Bool×YF1} (hd:k88z N h50_0 h51_0=some d):Does Tryd.prog 88 (([.ref 50 0]:List X).map X.D) (HA [(50,.box 88 [.own 51,.e .bo h50_0]),(51,.row 5 .u8 h51_0 false)]) (k88r0 (d.1) (d.2)).1.D (HA (k88r0 (d.1) (d.2)).2):=by
 obtain ⟨r,hr,hu⟩:=Option.bind_eq_some_iff.1 hd;have:=k88does hc hr;rw [k88uo hu] at this;exact this
def k88p (N:Nat) (h50_0:Bool) (h51_0:YF1):Bool:=(k88z N h50_0 h51_0).isSome
def k88y0 (N:Nat) (h50_0:Bool) (h51_0:YF1):Bool:=((k88z N h50_0 h51_0).getD (false,[])).1
def k88y1 (N:Nat) (h50_0:Bool) (h51_0:YF1):YF1:=((k88z N h50_0 h51_0).getD (false,[])).2
def k88in (xs:List X) (H:XH):Option (Bool×YF1):=match xs,H with
 | [.ref 50 0],[(50,.box 88 [.own 51,x0]),(51,x1)]=>(match ue .bo x0,ur 5 .u8 false x1 with | some a0,some a1=>some (a0,a1) | _,_=>none)
 | _,_=>none
theorem k88io {xs:List X} {H:XH} {d:Bool×YF1} (h:k88in xs H=some d):xs=[.ref 50 0]/\H=[(50,.box 88 [.own 51,.e .bo (d.1)]),(51,.row 5 .u8 (d.2) false)]:=by
 unfold k88in at h;split at h
 ·split at h
  ·rename_i h0 h1;cases h;rw [ue_some h0,ur_some h1];exact ⟨rfl,rfl⟩
  ·cases h
 ·cases h
def k88e (N:Nat):Ent':=fun xs H=>match k88in xs H with | some d=>some (k88p N (d.1) (d.2),k88r0 (k88y0 N (d.1) (d.2)) (k88y1 N (d.1) (d.2))) | none=>none
theorem k88re {N:Nat} {h50_0:Bool} {h51_0:YF1} {d:Bool×YF1} (hd:k88z N h50_0 h51_0=some d):k88r0 (k88y0 N h50_0 h51_0) (k88y1 N h50_0 h51_0)=k88r0 (d.1) (d.2):=by unfold k88y0 k88y1;rw [hd];rfl
theorem k88ok (N:Nat):EOk Tryd.prog 88 (k88e N):=fun xs H pre r he hp=>by
 unfold k88e at he;split at he
 ·rename_i d hd
  have he:=Option.some.inj he;have h1:=congrArg Prod.fst he;have h2:=congrArg Prod.snd he;simp only at h1 h2;obtain ⟨e1,e2⟩:=k88io hd;rw [e1,e2,← h2];have h:(k88z N (d.1) (d.2)).isSome=true:=h1.trans hp;obtain ⟨d',hd'⟩:=Option.isSome_iff_exists.1 h;have f:=k88fin (k88cx N) hd';rw [← k88re hd'] at f;exact f
 ·cases he
def k91r0 (a0:YF1) (a1:Int) (a2:Bool) (a3:YF1):Res:=(.tup [.e .tx a0,.e (.i .i64) a1],[(50,.box 88 [.own 51,.e .bo a2]),(51,.row 5 .u8 a3 false)])
def k91L (_:Nat):List (Nat×Ent'):=[]
def k91c (N:Nat):Cx:=⟨Tryd.prog,99999,k91L N,[]⟩
def k91b:Code:=Tryd.f91.body.getD .skip
theorem k91cx (N:Nat):CxOk (k91c N):=ctx_ok (by kernel_rfl) .nil .nil
def k91G [Alg] (_:Nat)  (h50_0:Bool) (h51_0:YF1):O:=
 br (!h50_0)
  (some (k91r0 [] ((11:Int)) h50_0 h51_0))
  (some (k91r0 h51_0 ((0:Int)) h50_0 h51_0))
def k91 [Alg] (N:Nat) (h50_0:Bool) (h51_0:YF1):O:=k91G N  h50_0 h51_0
def k91h [Alg] (_:Nat):Hint:=.d
theorem k91hk (N:Nat):HintOk (k91c N) Tryd.f91.ntmps (k91h N) k91b:=hk_of _ _ trivial
theorem k91q [Alg] (N:Nat) (h50_0:Bool) (h51_0:YF1):k91G N  h50_0 h51_0=exec (k91c N) Tryd.f91.ntmps (k91h N) k91b ⟨argT 0 [.ref 50 0],[(50,.box 88 [.own 51,.e .bo h50_0]),(51,.row 5 .u8 h51_0 false)],100⟩ (finX (k91c N) Tryd.f91 true):=by kernel_rfl
theorem k91does {N:Nat} (hc:CxOk (k91c N)) {h50_0:Bool} {h51_0:YF1} {r:Res} (h:k91 N h50_0 h51_0=some r):DoesR Tryd.prog 91 (([.ref 50 0]:List X).map X.D) (HA [(50,.box 88 [.own 51,.e .bo h50_0]),(51,.row 5 .u8 h51_0 false)]) r:=
 fun_ok hc (f:=91) (fn:=Tryd.f91) (code:=k91b) (by kernel_rfl) (by kernel_rfl) (k91hk N) (Nat.le_of_ble_eq_true (by kernel_rfl)) (ow:=true) ((k91q N h50_0 h51_0).symm.trans (by exact h))
def k91un (r:Res):Option (YF1×Int×Bool×YF1):=match r with
 | (.tup [x0,x1],[(50,.box 88 [.own 51,x2]),(51,x3)])=>(match ue .tx x0,ue (.i .i64) x1,ue .bo x2,ur 5 .u8 false x3 with | some a0,some a1,some a2,some a3=>some (a0,a1,a2,a3) | _,_,_,_=>none)
 | _=>none
theorem k91uo {r:Res} {d:YF1×Int×Bool×YF1} (h:k91un r=some d):r=k91r0 (d.1) (d.2.1) (d.2.2.1) (d.2.2.2):=by
 unfold k91un at h;split at h
 ·split at h
  ·rename_i h0 h1 h2 h3;cases h;rw [ue_some h0,ue_some h1,ue_some h2,ur_some h3];rfl
  ·cases h
 ·cases h
def k91z (N:Nat) (h50_0:Bool) (h51_0:YF1):Option (YF1×Int×Bool×YF1):=(k91 N h50_0 h51_0).bind k91un
theorem k91fin {N:Nat} (hc:CxOk (k91c N)) {h50_0:Bool} {h51_0:YF1} {d:YF1×Int×Bool×YF1} (hd:k91z N h50_0 h51_0=some d):Does Tryd.prog 91 (([.ref 50 0]:List X).map X.D) (HA [(50,.box 88 [.own 51,.e .bo h50_0]),(51,.row 5 .u8 h51_0 false)]) (k91r0 (d.1) (d.2.1) (d.2.2.1) (d.2.2.2)).1.D (HA (k91r0 (d.1) (d.2.1) (d.2.2.1) (d.2.2.2)).2):=by
 obtain ⟨r,hr,hu⟩:=Option.bind_eq_some_iff.1 hd;have:=k91does hc hr;rw [k91uo hu] at this;exact this
def k91p (N:Nat) (h50_0:Bool) (h51_0:YF1):Bool:=(k91z N h50_0 h51_0).isSome
def k91y0 (N:Nat) (h50_0:Bool) (h51_0:YF1):YF1:=((k91z N h50_0 h51_0).getD ([],0,false,[])).1
def k91y1 (N:Nat) (h50_0:Bool) (h51_0:YF1):Int:=((k91z N h50_0 h51_0).getD ([],0,false,[])).2.1
def k91y2 (N:Nat) (h50_0:Bool) (h51_0:YF1):Bool:=((k91z N h50_0 h51_0).getD ([],0,false,[])).2.2.1
def k91y3 (N:Nat) (h50_0:Bool) (h51_0:YF1):YF1:=((k91z N h50_0 h51_0).getD ([],0,false,[])).2.2.2
def k91in (xs:List X) (H:XH):Option (Bool×YF1):=match xs,H with
 | [.ref 50 0],[(50,.box 88 [.own 51,x0]),(51,x1)]=>(match ue .bo x0,ur 5 .u8 false x1 with | some a0,some a1=>some (a0,a1) | _,_=>none)
 | _,_=>none
theorem k91io {xs:List X} {H:XH} {d:Bool×YF1} (h:k91in xs H=some d):xs=[.ref 50 0]/\H=[(50,.box 88 [.own 51,.e .bo (d.1)]),(51,.row 5 .u8 (d.2) false)]:=by
 unfold k91in at h;split at h
 ·split at h
  ·rename_i h0 h1;cases h;rw [ue_some h0,ur_some h1];exact ⟨rfl,rfl⟩
  ·cases h
 ·cases h
def k91e (N:Nat):Ent':=fun xs H=>match k91in xs H with | some d=>some (k91p N (d.1) (d.2),k91r0 (k91y0 N (d.1) (d.2)) (k91y1 N (d.1) (d.2)) (k91y2 N (d.1) (d.2)) (k91y3 N (d.1) (d.2))) | none=>none
theorem k91re {N:Nat} {h50_0:Bool} {h51_0:YF1} {d:YF1×Int×Bool×YF1} (hd:k91z N h50_0 h51_0=some d):k91r0 (k91y0 N h50_0 h51_0) (k91y1 N h50_0 h51_0) (k91y2 N h50_0 h51_0) (k91y3 N h50_0 h51_0)=k91r0 (d.1) (d.2.1) (d.2.2.1) (d.2.2.2):=by unfold k91y0 k91y1 k91y2 k91y3;rw [hd];rfl
theorem k91ok (N:Nat):EOk Tryd.prog 91 (k91e N):=fun xs H pre r he hp=>by
 unfold k91e at he;split at he
 ·rename_i d hd
  have he:=Option.some.inj he;have h1:=congrArg Prod.fst he;have h2:=congrArg Prod.snd he;simp only at h1 h2;obtain ⟨e1,e2⟩:=k91io hd;rw [e1,e2,← h2];have h:(k91z N (d.1) (d.2)).isSome=true:=h1.trans hp;obtain ⟨d',hd'⟩:=Option.isSome_iff_exists.1 h;have f:=k91fin (k91cx N) hd';rw [← k91re hd'] at f;exact f
 ·cases he
def k99r0 (a0:Bool) (a1:YF1):Res:=(.tup [],[(50,.box 88 [.own 100,.e .bo a0]),(100,.row 5 .u8 a1 false)])
def k99L (N:Nat):List (Nat×Ent'):=[(19,w19e N),(93,k93e N),(88,k88e N)]
def k99c (N:Nat):Cx:=⟨Tryd.prog,99999,k99L N,[]⟩
def k99b:Code:=Tryd.f99.body.getD .skip
theorem k99cx (N:Nat):CxOk (k99c N):=ctx_ok (by kernel_rfl) (.cons (by kernel_rfl) (w19ok N) (.cons (by kernel_rfl) (k93ok N) (.cons (by kernel_rfl) (k88ok N) .nil))) .nil
def k99G [Alg] (N:Nat)  (_e1_0:Int) (_e1_1:Int) (e1_2:Int) (e1_3:Int) (e1_4:Int) (h50_0:Bool) (h51_0:YF1):O:=
 br (h50_0||decide (e1_2≠(0:Int))||decide (e1_4≠(1:Int)))
  (some (k99r0 h50_0 h51_0))
  (br (decide (e1_3=(8:Int)))
   (ck (k88p N h50_0 h51_0) <|
   some (k99r0 (k88y0 N h50_0 h51_0) (k88y1 N h50_0 h51_0)))
   (br (decide (e1_3=(13:Int)))
    (some (k99r0 true h51_0))
    (ck (k93p N e1_3 h50_0 h51_0) <|
    some (k99r0 (k93y0 N e1_3 h50_0 h51_0) (k93y1 N e1_3 h50_0 h51_0)))))
def k99 [Alg] (N:Nat) (e1_0:Int) (e1_1:Int) (e1_2:Int) (e1_3:Int) (e1_4:Int) (h50_0:Bool) (h51_0:YF1):O:=k99G N  e1_0 e1_1 e1_2 e1_3 e1_4 h50_0 h51_0
def k99h [Alg] (_:Nat):Hint:=(.seq (.reg [] [.rn 0 0] []) (.seq .d (.seq .d (.block (.seq .d (.cond .d (.seq .d (.cond .d (.reg [] [] [[],[],[],[],[],[50,324,100]])))))))))
theorem k99hk (N:Nat):HintOk (k99c N) Tryd.f99.ntmps (k99h N) k99b:=hk_of _ _ (And.intro trivial (And.intro trivial (And.intro trivial (And.intro trivial (And.intro trivial (And.intro trivial (And.intro trivial trivial)))))))
theorem k99q [Alg] (N:Nat) (e1_0:Int) (e1_1:Int) (e1_2:Int) (e1_3:Int) (e1_4:Int) (h50_0:Bool) (h51_0:YF1):k99G N  e1_0 e1_1 e1_2 e1_3 e1_4 h50_0 h51_0=exec (k99c N) Tryd.f99.ntmps (k99h N) k99b ⟨argT 0 [.ref 50 0,.agg [.e (.i .i64) e1_0,.e (.i .i64) e1_1,.e (.i .i64) e1_2,.e (.i .i64) e1_3,.e (.i .i64) e1_4]],[(50,.box 88 [.own 51,.e .bo h50_0]),(51,.row 5 .u8 h51_0 false)],100⟩ (finX (k99c N) Tryd.f99 true):=by kernel_rfl
theorem k99does {N:Nat} (hc:CxOk (k99c N)) {e1_0:Int} {e1_1:Int} {e1_2:Int} {e1_3:Int} {e1_4:Int} {h50_0:Bool} {h51_0:YF1} {r:Res} (h:k99 N e1_0 e1_1 e1_2 e1_3 e1_4 h50_0 h51_0=some r):DoesR Tryd.prog 99 (([.ref 50 0,.agg [.e (.i .i64) e1_0,.e (.i .i64) e1_1,.e (.i .i64) e1_2,.e (.i .i64) e1_3,.e (.i .i64) e1_4]]:List X).map X.D) (HA [(50,.box 88 [.own 51,.e .bo h50_0]),(51,.row 5 .u8 h51_0 false)]) r:=
 fun_ok hc (f:=99) (fn:=Tryd.f99) (code:=k99b) (by kernel_rfl) (by kernel_rfl) (k99hk N) (Nat.le_of_ble_eq_true (by kernel_rfl)) (ow:=true) ((k99q N e1_0 e1_1 e1_2 e1_3 e1_4 h50_0 h51_0).symm.trans (by exact h))
def k99un (r:Res):Option (Bool×YF1):=match r with
 | (.tup [],[(50,.box 88 [.own 100,x0]),(100,x1)])=>(match ue .bo x0,ur 5 .u8 false x1 with | some a0,some a1=>some (a0,a1) | _,_=>none)
 | _=>none
theorem k99uo {r:Res} {d:Bool×YF1} (h:k99un r=some d):r=k99r0 (d.1) (d.2):=by
 unfold k99un at h;split at h
 ·split at h
  ·rename_i h0 h1;cases h;rw [ue_some h0,ur_some h1];rfl
  ·cases h
 ·cases h
def k99z (N:Nat) (e1_0:Int) (e1_1:Int) (e1_2:Int) (e1_3:Int) (e1_4:Int) (h50_0:Bool) (h51_0:YF1):Option (Bool×YF1):=(k99 N e1_0 e1_1 e1_2 e1_3 e1_4 h50_0 h51_0).bind k99un
theorem k99fin {N:Nat} (hc:CxOk (k99c N)) {e1_0:Int} {e1_1:Int} {e1_2:Int} {e1_3:Int} {e1_4:Int} {h50_0:Bool} {h51_0:YF1} {d:Bool×YF1} (hd:k99z N e1_0 e1_1 e1_2 e1_3 e1_4 h50_0 h51_0=some d):Does Tryd.prog 99 (([.ref 50 0,.agg [.e (.i .i64) e1_0,.e (.i .i64) e1_1,.e (.i .i64) e1_2,.e (.i .i64) e1_3,.e (.i .i64) e1_4]]:List X).map X.D) (HA [(50,.box 88 [.own 51,.e .bo h50_0]),(51,.row 5 .u8 h51_0 false)]) (k99r0 (d.1) (d.2)).1.D (HA (k99r0 (d.1) (d.2)).2):=by
 obtain ⟨r,hr,hu⟩:=Option.bind_eq_some_iff.1 hd;have:=k99does hc hr;rw [k99uo hu] at this;exact this
def k99p (N:Nat) (e1_0:Int) (e1_1:Int) (e1_2:Int) (e1_3:Int) (e1_4:Int) (h50_0:Bool) (h51_0:YF1):Bool:=(k99z N e1_0 e1_1 e1_2 e1_3 e1_4 h50_0 h51_0).isSome
def k99y0 (N:Nat) (e1_0:Int) (e1_1:Int) (e1_2:Int) (e1_3:Int) (e1_4:Int) (h50_0:Bool) (h51_0:YF1):Bool:=((k99z N e1_0 e1_1 e1_2 e1_3 e1_4 h50_0 h51_0).getD (false,[])).1
def k99y1 (N:Nat) (e1_0:Int) (e1_1:Int) (e1_2:Int) (e1_3:Int) (e1_4:Int) (h50_0:Bool) (h51_0:YF1):YF1:=((k99z N e1_0 e1_1 e1_2 e1_3 e1_4 h50_0 h51_0).getD (false,[])).2
def k99in (xs:List X) (H:XH):Option (Int×Int×Int×Int×Int×Bool×YF1):=match xs,H with
 | [.ref 50 0,.agg [x0,x1,x2,x3,x4]],[(50,.box 88 [.own 51,x5]),(51,x6)]=>(match ue (.i .i64) x0,ue (.i .i64) x1,ue (.i .i64) x2,ue (.i .i64) x3,ue (.i .i64) x4,ue .bo x5,ur 5 .u8 false x6 with | some a0,some a1,some a2,some a3,some a4,some a5,some a6=>some (a0,a1,a2,a3,a4,a5,a6) | _,_,_,_,_,_,_=>none)
 | _,_=>none
theorem k99io {xs:List X} {H:XH} {d:Int×Int×Int×Int×Int×Bool×YF1} (h:k99in xs H=some d):xs=[.ref 50 0,.agg [.e (.i .i64) (d.1),.e (.i .i64) (d.2.1),.e (.i .i64) (d.2.2.1),.e (.i .i64) (d.2.2.2.1),.e (.i .i64) (d.2.2.2.2.1)]]/\H=[(50,.box 88 [.own 51,.e .bo (d.2.2.2.2.2.1)]),(51,.row 5 .u8 (d.2.2.2.2.2.2) false)]:=by
 unfold k99in at h;split at h
 ·split at h
  ·rename_i h0 h1 h2 h3 h4 h5 h6;cases h;rw [ue_some h0,ue_some h1,ue_some h2,ue_some h3,ue_some h4,ue_some h5,ur_some h6];exact ⟨rfl,rfl⟩
  ·cases h
 ·cases h
def k99e (N:Nat):Ent':=fun xs H=>match k99in xs H with | some d=>some (k99p N (d.1) (d.2.1) (d.2.2.1) (d.2.2.2.1) (d.2.2.2.2.1) (d.2.2.2.2.2.1) (d.2.2.2.2.2.2),k99r0 (k99y0 N (d.1) (d.2.1) (d.2.2.1) (d.2.2.2.1) (d.2.2.2.2.1) (d.2.2.2.2.2.1) (d.2.2.2.2.2.2)) (k99y1 N (d.1) (d.2.1) (d.2.2.1) (d.2.2.2.1) (d.2.2.2.2.1) (d.2.2.2.2.2.1) (d.2.2.2.2.2.2))) | none=>none
theorem k99re {N:Nat} {e1_0:Int} {e1_1:Int} {e1_2:Int} {e1_3:Int} {e1_4:Int} {h50_0:Bool} {h51_0:YF1} {d:Bool×YF1} (hd:k99z N e1_0 e1_1 e1_2 e1_3 e1_4 h50_0 h51_0=some d):k99r0 (k99y0 N e1_0 e1_1 e1_2 e1_3 e1_4 h50_0 h51_0) (k99y1 N e1_0 e1_1 e1_2 e1_3 e1_4 h50_0 h51_0)=k99r0 (d.1) (d.2):=by unfold k99y0 k99y1;rw [hd];rfl
theorem k99ok (N:Nat):EOk Tryd.prog 99 (k99e N):=fun xs H pre r he hp=>by
 unfold k99e at he;split at he
 ·rename_i d hd
  have he:=Option.some.inj he;have h1:=congrArg Prod.fst he;have h2:=congrArg Prod.snd he;simp only at h1 h2;obtain ⟨e1,e2⟩:=k99io hd;rw [e1,e2,← h2];have h:(k99z N (d.1) (d.2.1) (d.2.2.1) (d.2.2.2.1) (d.2.2.2.2.1) (d.2.2.2.2.2.1) (d.2.2.2.2.2.2)).isSome=true:=h1.trans hp;obtain ⟨d',hd'⟩:=Option.isSome_iff_exists.1 h;have f:=k99fin (k99cx N) hd';rw [← k99re hd'] at f;exact f
 ·cases he
end
end Go.Proofs
/- What functions do. -/
namespace Go.Proofs
noncomputable section
open Go.Ax Go.Ax.Alg Go.RowKit Go.Ab
open Go
def w34r0 (a0:Bool) (a1:Int) (a2:Int):Res:=(.ifc 100 78,[(100,.box 82 [.nilS,.e .bo a0,.e (.i .i64) a1,.e (.i .i64) a2])])
def w34L (_:Nat):List (Nat×Ent'):=[]
def w34c (N:Nat):Cx:=⟨Tryd.prog,99999,w34L N,[]⟩
def w34b:Code:=Tryd.f34.body.getD .skip
theorem w34cx (N:Nat):CxOk (w34c N):=ctx_ok (by kernel_rfl) .nil .nil
def w34G [Alg] (_:Nat)   : O:=
 some (w34r0 false ((0:Int)) ((0:Int)))
def w34 [Alg] (N:Nat)  : O:=w34G N  
def w34h [Alg] (_:Nat):Hint:=.d
theorem w34hk (N:Nat):HintOk (w34c N) Tryd.f34.ntmps (w34h N) w34b:=hk_of _ _ trivial
theorem w34q [Alg] (N:Nat)  : w34G N   = exec (w34c N) Tryd.f34.ntmps (w34h N) w34b ⟨argT 0 [],[],100⟩ (finX (w34c N) Tryd.f34 true):=by kernel_rfl
theorem w34does {N:Nat} (hc:CxOk (w34c N))  {r:Res} (h:w34 N  = some r):DoesR Tryd.prog 34 (([]:List X).map X.D) (HA []) r:=
 fun_ok hc (f:=34) (fn:=Tryd.f34) (code:=w34b) (by kernel_rfl) (by kernel_rfl) (w34hk N) (Nat.le_of_ble_eq_true (by kernel_rfl)) (ow:=true) ((w34q N ).symm.trans (by exact h))
def w34un (r:Res):Option (Bool×Int×Int):=match r with
 | (.ifc 100 78,[(100,.box 82 [.nilS,x0,x1,x2])])=>(match ue .bo x0,ue (.i .i64) x1,ue (.i .i64) x2 with | some a0,some a1,some a2=>some (a0,a1,a2) | _,_,_=>none)
 | _=>none
theorem w34uo {r:Res} {d:Bool×Int×Int} (h:w34un r=some d):r=w34r0 (d.1) (d.2.1) (d.2.2):=by
 unfold w34un at h;split at h
 ·split at h
  ·rename_i h0 h1 h2;cases h;rw [ue_some h0,ue_some h1,ue_some h2];rfl
  ·cases h
 ·cases h
def w34z (N:Nat)  : Option (Bool×Int×Int):=(w34 N ).bind w34un
theorem w34fin {N:Nat} (hc:CxOk (w34c N))  {d:Bool×Int×Int} (hd:w34z N  = some d):Does Tryd.prog 34 (([]:List X).map X.D) (HA []) (w34r0 (d.1) (d.2.1) (d.2.2)).1.D (HA (w34r0 (d.1) (d.2.1) (d.2.2)).2):=by
 obtain ⟨r,hr,hu⟩:=Option.bind_eq_some_iff.1 hd;have:=w34does hc hr;rw [w34uo hu] at this;exact this
def w34p (N:Nat)  : Bool:=(w34z N ).isSome
def w34y0 (N:Nat)  : Bool:=((w34z N ).getD (false,0,0)).1
def w34y1 (N:Nat)  : Int:=((w34z N ).getD (false,0,0)).2.1
def w34y2 (N:Nat)  : Int:=((w34z N ).getD (false,0,0)).2.2
def w34e (N:Nat):Ent':=E0   (w34p N ,w34r0 (w34y0 N ) (w34y1 N ) (w34y2 N ))
theorem w34re {N:Nat}  {d:Bool×Int×Int} (hd:w34z N  = some d):w34r0 (w34y0 N ) (w34y1 N ) (w34y2 N )=w34r0 (d.1) (d.2.1) (d.2.2):=by unfold w34y0 w34y1 w34y2;rw [hd];rfl
theorem w34ok (N:Nat):EOk Tryd.prog 34 (w34e N):=EOk.e0 (fun h=>by
 have h:(w34z N ).isSome=true:=h;obtain ⟨d,hd⟩:=Option.isSome_iff_exists.1 h;have f:=w34fin (w34cx N) hd;rw [← w34re hd] at f;exact f)
def w35r0 (a0:Bool) (a1:Int):Res:=(.ifc 100 83,[(100,.box 85 [.nilS,.e .bo a0,.e (.i .i64) a1])])
def w35L (_:Nat):List (Nat×Ent'):=[]
def w35c (N:Nat):Cx:=⟨Tryd.prog,99999,w35L N,[]⟩
def w35b:Code:=Tryd.f35.body.getD .skip
theorem w35cx (N:Nat):CxOk (w35c N):=ctx_ok (by kernel_rfl) .nil .nil
def w35G [Alg] (_:Nat)   : O:=
 some (w35r0 false ((0:Int)))
def w35 [Alg] (N:Nat)  : O:=w35G N  
def w35h [Alg] (_:Nat):Hint:=.d
theorem w35hk (N:Nat):HintOk (w35c N) Tryd.f35.ntmps (w35h N) w35b:=hk_of _ _ trivial
theorem w35q [Alg] (N:Nat)  : w35G N   = exec (w35c N) Tryd.f35.ntmps (w35h N) w35b ⟨argT 0 [],[],100⟩ (finX (w35c N) Tryd.f35 true):=by kernel_rfl
theorem w35does {N:Nat} (hc:CxOk (w35c N))  {r:Res} (h:w35 N  = some r):DoesR Tryd.prog 35 (([]:List X).map X.D) (HA []) r:=
 fun_ok hc (f:=35) (fn:=Tryd.f35) (code:=w35b) (by kernel_rfl) (by kernel_rfl) (w35hk N) (Nat.le_of_ble_eq_true (by kernel_rfl)) (ow:=true) ((w35q N ).symm.trans (by exact h))
def w35un (r:Res):Option (Bool×Int):=match r with
 | (.ifc 100 83,[(100,.box 85 [.nilS,x0,x1])])=>(match ue .bo x0,ue (.i .i64) x1 with | some a0,some a1=>some (a0,a1) | _,_=>none)
 | _=>none
theorem w35uo {r:Res} {d:Bool×Int} (h:w35un r=some d):r=w35r0 (d.1) (d.2):=by
 unfold w35un at h;split at h
 ·split at h
  ·rename_i h0 h1;cases h;rw [ue_some h0,ue_some h1];rfl
  ·cases h
 ·cases h
def w35z (N:Nat)  : Option (Bool×Int):=(w35 N ).bind w35un
theorem w35fin {N:Nat} (hc:CxOk (w35c N))  {d:Bool×Int} (hd:w35z N  = some d):Does Tryd.prog 35 (([]:List X).map X.D) (HA []) (w35r0 (d.1) (d.2)).1.D (HA (w35r0 (d.1) (d.2)).2):=by
 obtain ⟨r,hr,hu⟩:=Option.bind_eq_some_iff.1 hd;have:=w35does hc hr;rw [w35uo hu] at this;exact this
def w35p (N:Nat)  : Bool:=(w35z N ).isSome
def w35y0 (N:Nat)  : Bool:=((w35z N ).getD (false,0)).1
def w35y1 (N:Nat)  : Int:=((w35z N ).getD (false,0)).2
def w35e (N:Nat):Ent':=E0   (w35p N ,w35r0 (w35y0 N ) (w35y1 N ))
theorem w35re {N:Nat}  {d:Bool×Int} (hd:w35z N  = some d):w35r0 (w35y0 N ) (w35y1 N )=w35r0 (d.1) (d.2):=by unfold w35y0 w35y1;rw [hd];rfl
theorem w35ok (N:Nat):EOk Tryd.prog 35 (w35e N):=EOk.e0 (fun h=>by
 have h:(w35z N ).isSome=true:=h;obtain ⟨d,hd⟩:=Option.isSome_iff_exists.1 h;have f:=w35fin (w35cx N) hd;rw [← w35re hd] at f;exact f)
def w36r0 (a0:Bool):Res:=(.ifc 100 86,[(100,.box 88 [.nilS,.e .bo a0])])
def w36L (_:Nat):List (Nat×Ent'):=[]
def w36c (N:Nat):Cx:=⟨Tryd.prog,99999,w36L N,[]⟩
def w36b:Code:=Tryd.f36.body.getD .skip
theorem w36cx (N:Nat):CxOk (w36c N):=ctx_ok (by kernel_rfl) .nil .nil
def w36G [Alg] (_:Nat)   : O:=
 some (w36r0 false)
def w36 [Alg] (N:Nat)  : O:=w36G N  
def w36h [Alg] (_:Nat):Hint:=.d
theorem w36hk (N:Nat):HintOk (w36c N) Tryd.f36.ntmps (w36h N) w36b:=hk_of _ _ trivial
theorem w36q [Alg] (N:Nat)  : w36G N   = exec (w36c N) Tryd.f36.ntmps (w36h N) w36b ⟨argT 0 [],[],100⟩ (finX (w36c N) Tryd.f36 true):=by kernel_rfl
theorem w36does {N:Nat} (hc:CxOk (w36c N))  {r:Res} (h:w36 N  = some r):DoesR Tryd.prog 36 (([]:List X).map X.D) (HA []) r:=
 fun_ok hc (f:=36) (fn:=Tryd.f36) (code:=w36b) (by kernel_rfl) (by kernel_rfl) (w36hk N) (Nat.le_of_ble_eq_true (by kernel_rfl)) (ow:=true) ((w36q N ).symm.trans (by exact h))
def w36un (r:Res):Option (Bool):=match r with
 | (.ifc 100 86,[(100,.box 88 [.nilS,x0])])=>(match ue .bo x0 with | some a0=>some a0 | _=>none)
 | _=>none
theorem w36uo {r:Res} {d:Bool} (h:w36un r=some d):r=w36r0 (d):=by
 unfold w36un at h;split at h
 ·split at h
  ·rename_i h0;cases h;rw [ue_some h0];rfl
  ·cases h
 ·cases h
def w36z (N:Nat)  : Option (Bool):=(w36 N ).bind w36un
theorem w36fin {N:Nat} (hc:CxOk (w36c N))  {d:Bool} (hd:w36z N  = some d):Does Tryd.prog 36 (([]:List X).map X.D) (HA []) (w36r0 (d)).1.D (HA (w36r0 (d)).2):=by
 obtain ⟨r,hr,hu⟩:=Option.bind_eq_some_iff.1 hd;have:=w36does hc hr;rw [w36uo hu] at this;exact this
def w36p (N:Nat)  : Bool:=(w36z N ).isSome
def w36y0 (N:Nat)  : Bool:=((w36z N ).getD false)
def w36e (N:Nat):Ent':=E0   (w36p N ,w36r0 (w36y0 N ))
theorem w36re {N:Nat}  {d:Bool} (hd:w36z N  = some d):w36r0 (w36y0 N )=w36r0 (d):=by unfold w36y0;rw [hd];rfl
theorem w36ok (N:Nat):EOk Tryd.prog 36 (w36e N):=EOk.e0 (fun h=>by
 have h:(w36z N ).isSome=true:=h;obtain ⟨d,hd⟩:=Option.isSome_iff_exists.1 h;have f:=w36fin (w36cx N) hd;rw [← w36re hd] at f;exact f)
def w25r0  : Res:=(.own 100,[(100,.mp (.i .i64) [((0:Int),.fn 33 []),((1:Int),.fn 34 []),((2:Int),.fn 35 []),((3:Int),.fn 36 [])])])
def w25L (N:Nat):List (Nat×Ent'):=[(34,w34e N),(35,w35e N),(36,w36e N)]
def w25c (N:Nat):Cx:=⟨Tryd.prog,99999,w25L N,[]⟩
def w25b:Code:=Tryd.f25.body.getD .skip
theorem w25cx (N:Nat):CxOk (w25c N):=ctx_ok (by kernel_rfl) (.cons (by kernel_rfl) (w34ok N) (.cons (by kernel_rfl) (w35ok N) (.cons (by kernel_rfl) (w36ok N) .nil))) .nil
def w25G [Alg] (_:Nat)   : O:=
 ck true <|
 ck true <|
 ck true <|
 ck true <|
 some (w25r0 )
def w25 [Alg] (N:Nat)  : O:=w25G N  
def w25h [Alg] (_:Nat):Hint:=.d
theorem w25hk (N:Nat):HintOk (w25c N) Tryd.f25.ntmps (w25h N) w25b:=hk_of _ _ trivial
theorem w25q [Alg] (N:Nat)  : w25G N   = exec (w25c N) Tryd.f25.ntmps (w25h N) w25b ⟨argT 0 [],[],100⟩ (finX (w25c N) Tryd.f25 true):=by kernel_rfl
theorem w25does {N:Nat} (hc:CxOk (w25c N))  {r:Res} (h:w25 N  = some r):DoesR Tryd.prog 25 (([]:List X).map X.D) (HA []) r:=
 fun_ok hc (f:=25) (fn:=Tryd.f25) (code:=w25b) (by kernel_rfl) (by kernel_rfl) (w25hk N) (Nat.le_of_ble_eq_true (by kernel_rfl)) (ow:=true) ((w25q N ).symm.trans (by exact h))
def w25e (_:Nat):Ent':=E0 (true,w25r0 )
theorem w25ok (N:Nat):EOk Tryd.prog 25 (w25e N):=EOk.e0 (fun _=>w25does (w25cx N) (r:=w25r0 ) rfl)
end
end Go.Proofs
/- What functions do. -/
namespace Go.Proofs
noncomputable section
open Go.Ax Go.Ax.Alg Go.RowKit Go.Ab
open Go
def w18r0 (a0:Bool):Res:=(.e .bo a0,[])
def w18L (N:Nat):List (Nat×Ent'):=[(19,w19e N)]
def w18c (N:Nat):Cx:=⟨Tryd.prog,99999,w18L N,[]⟩
def w18b:Code:=Tryd.f18.body.getD .skip
theorem w18cx (N:Nat):CxOk (w18c N):=ctx_ok (by kernel_rfl) (.cons (by kernel_rfl) (w19ok N) .nil) .nil
def w18G [Alg] (N:Nat)  (c0:UInt8):O:=
 ck (w19p N (IntKind.i64.wrap (↑c0.toNat:Int))) <|
 some (w18r0 (!w19y0 N (IntKind.i64.wrap (↑c0.toNat:Int))))
def w18 [Alg] (N:Nat) (c0:UInt8):O:=w18G N  c0
def w18h [Alg] (_:Nat):Hint:=.d
theorem w18hk (N:Nat):HintOk (w18c N) Tryd.f18.ntmps (w18h N) w18b:=hk_of _ _ trivial
theorem w18q [Alg] (N:Nat) (c0:UInt8):w18G N  c0=exec (w18c N) Tryd.f18.ntmps (w18h N) w18b ⟨argT 0 [.e .u8 c0],[],100⟩ (finX (w18c N) Tryd.f18 false):=by kernel_rfl
theorem w18does {N:Nat} (hc:CxOk (w18c N)) {c0:UInt8} {r:Res} (h:w18 N c0=some r):DoesR Tryd.prog 18 (([.e .u8 c0]:List X).map X.D) (HA []) r:=
 fun_ok hc (f:=18) (fn:=Tryd.f18) (code:=w18b) (by kernel_rfl) (by kernel_rfl) (w18hk N) (Nat.le_of_ble_eq_true (by kernel_rfl)) (ow:=false) ((w18q N c0).symm.trans (by exact h))
def w18un (r:Res):Option (Bool):=match r with
 | (x0,[])=>(match ue .bo x0 with | some a0=>some a0 | _=>none)
 | _=>none
theorem w18uo {r:Res} {d:Bool} (h:w18un r=some d):r=w18r0 (d):=by
 unfold w18un at h;split at h
 ·split at h
  ·rename_i h0;cases h;rw [ue_some h0];rfl
  ·cases h
 ·cases h
def w18z (N:Nat) (c0:UInt8):Option (Bool):=(w18 N c0).bind w18un
theorem w18fin {N:Nat} (hc:CxOk (w18c N)) {c0:UInt8} {d:Bool} (hd:w18z N c0=some d):Does Tryd.prog 18 (([.e .u8 c0]:List X).map X.D) (HA []) (w18r0 (d)).1.D (HA (w18r0 (d)).2):=by
 obtain ⟨r,hr,hu⟩:=Option.bind_eq_some_iff.1 hd;have:=w18does hc hr;rw [w18uo hu] at this;exact this
def w18p (N:Nat) (c0:UInt8):Bool:=(w18z N c0).isSome
def w18y0 (N:Nat) (c0:UInt8):Bool:=((w18z N c0).getD false)
def w18e (N:Nat):Ent':=E1 .u8  (fun x0=>(w18p N x0,w18r0 (w18y0 N x0)))
theorem w18re {N:Nat} {c0:UInt8} {d:Bool} (hd:w18z N c0=some d):w18r0 (w18y0 N c0)=w18r0 (d):=by unfold w18y0;rw [hd];rfl
theorem w18ok (N:Nat):EOk Tryd.prog 18 (w18e N):=EOk.e1 (fun x0 h=>by
 have h:(w18z N x0).isSome=true:=h;obtain ⟨d,hd⟩:=Option.isSome_iff_exists.1 h;have f:=w18fin (w18cx N) hd;rw [← w18re hd] at f;exact f)
def w29r0 (a0:Int):Res:=(.e (.i .i64) a0,[])
def w29L (N:Nat):List (Nat×Ent'):=[(18,w18e N)]
def w29c (N:Nat):Cx:=⟨Tryd.prog,99999,w29L N,[]⟩
def w29b:Code:=Tryd.f29.body.getD .skip
theorem w29cx (N:Nat):CxOk (w29c N):=ctx_ok (by kernel_rfl) (.cons (by kernel_rfl) (w18ok N) .nil) .nil
def w29F0 [Alg] (N:Nat)  (self:Int->O) (k0:Int->O) (k1:Unit->O) (x0_0:YF1) (x0_1:Int) (x0_2:Int):O:=
 br (decide (x0_2 < x0_1))
  (gx x0_0 x0_2 fun y3=>
  ck (w18p N y3) <|
  br (w18y0 N y3)
   (k0 x0_2)
   (self (IntKind.i64.wrap (x0_2+(1:Int)))))
  (k1 ())
def w29b0:Code:=atC [1,0,1,0,0] w29b
def w29m0:Nm:=⟨[0,1,7,8],[],[]⟩
def w29I0 (x:YF1×Int×Int):Sg:=⟨[(0,.e (.sl .u8) x.1),(1,.fn 18 []),(7,.e (.i .i64) x.2.1),(8,.e (.i .i64) x.2.2)],[],100⟩
def w29u0 (σ:Sg):YF1×Int×Int:=(lvT (.sl .u8) 0 0 σ,lvT (.i .i64) 7 0 σ,lvT (.i .i64) 8 0 σ)
theorem w29ui0:∀ x,w29u0 (w29I0 x)=x:=fun _=>by kernel_rfl
def w29X0_0 (y:Int):Exit×Sg:=(.ret,⟨[(4,.e (.i .i64) y)],[],100⟩)
def w29v0_0 (_:Exit) (σ:Sg):Int:=lvT (.i .i64) 4 0 σ
def w29X0_1 (_:Unit):Exit×Sg:=((.exit 0),⟨[],[],100⟩)
def w29v0_1 (_:Exit) (_:Sg):Unit:=()
def w29w0:List (Exit×Nm):=[(.ret,⟨[4],[],[]⟩),((.exit 0),⟨[],[],[]⟩)]
theorem w29o0:Outs w29v0_0 w29v0_1 (fun _ _=>()) w29X0_0 w29X0_1 (noX 2) (exC .ret) (exC (.exit 0)) (exC (.goto 2)):=⟨fun _=>by kernel_rfl,fun _=>by kernel_rfl,fun _=>by kernel_rfl,fun _=>by kernel_rfl,fun _=>by kernel_rfl,fun _=>by kernel_rfl,exNe_ok (by kernel_rfl),exNe_ok (by kernel_rfl),exNe_ok (by kernel_rfl)⟩
def w29l0 [Alg] (N:Nat):Nat->(YF1×Int×Int)->((Int)->O)->((Unit)->O)->((Unit)->O)->O
 | 0,_,_,_,_=>none
 | n+1,x,k0,k1,k2=>w29F0 N  (fun v0=>w29l0 N n (x.1,x.2.1,v0) k0 k1 k2) (fun y0=>k0 y0) (fun (_:Unit)=>k1 ()) x.1 x.2.1 x.2.2
def w29n0 [Alg] (N:Nat) (a0:YF1) (a1:Int) (a2:Int) (k0:Int->O) (k1:Unit->O):O:=w29l0 N N (a0,a1,a2) (fun y=>k0 y) (fun y=>k1 y) (fun _=>none)
def w29s0 [Alg] (N:Nat) (a0:YF1) (a1:Int) (a2:Int) (k0:Int->O) (k1:Unit->O):O:=subL w29I0 w29u0 (w29l0 N N) (w29I0 (a0,a1,a2)) (fun y=>k0 y) (fun y=>k1 y) (fun _=>none)
theorem w29e0 [Alg] (N:Nat):w29s0 N=w29n0 N:=funext fun _=>funext fun _=>funext fun _=>funext fun _=>funext fun _=>subL_I w29ui0 _ _ _ _
def w29h0 [Alg] (_:Nat):Hint:=.d
theorem w29hk0 (N:Nat):HintOk (w29c N) Tryd.f29.ntmps (w29h0 N) w29b0:=hk_of _ _ trivial
theorem w29q0 [Alg] (N:Nat) (self:Sg->O) (K:Exit->Sg->O) (x:YF1×Int×Int):w29F0 N  (fun v0=>self (w29I0 (x.1,x.2.1,v0))) (fun y0=>K (w29X0_0 y0).1 (w29X0_0 y0).2) (fun (_:Unit)=>K (w29X0_1 ()).1 (w29X0_1 ()).2) x.1 x.2.1 x.2.2=exec (w29c N) Tryd.f29.ntmps (w29h0 N) w29b0 (w29I0 x) (roundX w29m0 w29w0 self K):=by kernel_rfl
theorem w29S0 (N:Nat) (hc:CxOk (w29c N)):SubOk (w29c N) Tryd.f29.ntmps (.loop w29b0) w29X0_0 w29X0_1 (noX 2) (subL w29I0 w29u0 (w29l0 N N)):=
 sub_loop hc (w29hk0 N) w29o0 (n:=N) (fun x K=>loop_ind (w29l0 N) (fun _ _ _ _=>rfl) (fun n K ih x=>by
  have h:w29F0 N  (fun v0=>w29l0 N n (x.1,x.2.1,v0) (fun y=>K (w29X0_0 y).1 (w29X0_0 y).2) (fun y=>K (w29X0_1 y).1 (w29X0_1 y).2) (fun y=>K ((noX 2) y).1 ((noX 2) y).2)) (fun y0=>K (w29X0_0 y0).1 (w29X0_0 y0).2) (fun (_:Unit)=>K (w29X0_1 ()).1 (w29X0_1 ()).2) x.1 x.2.1 x.2.2=w29F0 N  (fun v0=>loopX (w29c N) Tryd.f29.ntmps (w29h0 N) w29b0 w29m0 w29w0 n (w29I0 (x.1,x.2.1,v0)) K) (fun y0=>K (w29X0_0 y0).1 (w29X0_0 y0).2) (fun (_:Unit)=>K (w29X0_1 ()).1 (w29X0_1 ()).2) x.1 x.2.1 x.2.2:=by rw [ show (fun v0=>w29l0 N n (x.1,x.2.1,v0) (fun y=>K (w29X0_0 y).1 (w29X0_0 y).2) (fun y=>K (w29X0_1 y).1 (w29X0_1 y).2) (fun y=>K ((noX 2) y).1 ((noX 2) y).2))=(fun v0=>loopX (w29c N) Tryd.f29.ntmps (w29h0 N) w29b0 w29m0 w29w0 n (w29I0 (x.1,x.2.1,v0)) K) from funext fun _=>ih _]
  exact h.trans (w29q0 N (fun σ=>loopX (w29c N) Tryd.f29.ntmps (w29h0 N) w29b0 w29m0 w29w0 n σ K) K x)) N x K)
def w29G [Alg] (_:Nat) (in0:YF1->Int->Int->(Int->O)->(Unit->O)->O) (s0:YF1):O:=
 in0 s0 ((↑s0.length:Int)) ((0:Int))
  (fun z4=>
   some (w29r0 z4))
  (fun (_:Unit)=>
   some (w29r0 ((-1:Int))))
def w29 [Alg] (N:Nat) (s0:YF1):O:=w29G N (w29n0 N) s0
def w29h [Alg] (N:Nat):Hint:=(.seq .d (.seq (.seq .d (.block (.sub w29m0 _ _ _ w29X0_0 w29X0_1 (noX 2) (subL w29I0 w29u0 (w29l0 N N))))) .d))
theorem w29hk (N:Nat) (hc:CxOk (w29c N)):HintOk (w29c N) Tryd.f29.ntmps (w29h N) w29b:=hk_of _ _ (And.intro trivial (And.intro (And.intro trivial (w29S0 N hc)) trivial))
theorem w29q [Alg] (N:Nat) (s0:YF1):w29G N (w29s0 N) s0=exec (w29c N) Tryd.f29.ntmps (w29h N) w29b ⟨argT 0 [.e (.sl .u8) s0,.fn 18 []],[],100⟩ (finX (w29c N) Tryd.f29 false):=by kernel_rfl
theorem w29does {N:Nat} (hc:CxOk (w29c N)) {s0:YF1} {r:Res} (h:w29 N s0=some r):DoesR Tryd.prog 29 (([.e (.sl .u8) s0,.fn 18 []]:List X).map X.D) (HA []) r:=
 fun_ok hc (f:=29) (fn:=Tryd.f29) (code:=w29b) (by kernel_rfl) (by kernel_rfl) (w29hk N hc) (Nat.le_of_ble_eq_true (by kernel_rfl)) (ow:=false) ((w29q N s0).symm.trans (by rw [w29e0 N];exact h))
def w29un (r:Res):Option (Int):=match r with
 | (x0,[])=>(match ue (.i .i64) x0 with | some a0=>some a0 | _=>none)
 | _=>none
theorem w29uo {r:Res} {d:Int} (h:w29un r=some d):r=w29r0 (d):=by
 unfold w29un at h;split at h
 ·split at h
  ·rename_i h0;cases h;rw [ue_some h0];rfl
  ·cases h
 ·cases h
def w29z (N:Nat) (s0:YF1):Option (Int):=(w29 N s0).bind w29un
theorem w29fin {N:Nat} (hc:CxOk (w29c N)) {s0:YF1} {d:Int} (hd:w29z N s0=some d):Does Tryd.prog 29 (([.e (.sl .u8) s0,.fn 18 []]:List X).map X.D) (HA []) (w29r0 (d)).1.D (HA (w29r0 (d)).2):=by
 obtain ⟨r,hr,hu⟩:=Option.bind_eq_some_iff.1 hd;have:=w29does hc hr;rw [w29uo hu] at this;exact this
def w29p (N:Nat) (s0:YF1):Bool:=(w29z N s0).isSome
def w29y0 (N:Nat) (s0:YF1):Int:=((w29z N s0).getD 0)
def w29e (N:Nat):Ent':=Ef1 (.sl .u8) 18 (fun x0=>(w29p N x0,w29r0 (w29y0 N x0)))
theorem w29re {N:Nat} {s0:YF1} {d:Int} (hd:w29z N s0=some d):w29r0 (w29y0 N s0)=w29r0 (d):=by unfold w29y0;rw [hd];rfl
theorem w29ok (N:Nat):EOk Tryd.prog 29 (w29e N):=EOk.f1 (fun x0 h=>by
 have h:(w29z N x0).isSome=true:=h;obtain ⟨d,hd⟩:=Option.isSome_iff_exists.1 h;have f:=w29fin (w29cx N) hd;rw [← w29re hd] at f;exact f)
def w17r0 (a0:Bool):Res:=(.e .bo a0,[])
def w17L (N:Nat):List (Nat×Ent'):=[(18,w18e N),(29,w29e N)]
def w17c (N:Nat):Cx:=⟨Tryd.prog,99999,w17L N,[]⟩
def w17b:Code:=Tryd.f17.body.getD .skip
theorem w17cx (N:Nat):CxOk (w17c N):=ctx_ok (by kernel_rfl) (.cons (by kernel_rfl) (w18ok N) (.cons (by kernel_rfl) (w29ok N) .nil)) .nil
def w17G [Alg] (N:Nat)  (s0:YF1):O:=
 ck (w29p N s0) <|
 some (w17r0 (decide ((0:Int)<=w29y0 N s0)))
def w17 [Alg] (N:Nat) (s0:YF1):O:=w17G N  s0
def w17h [Alg] (_:Nat):Hint:=.d
theorem w17hk (N:Nat):HintOk (w17c N) Tryd.f17.ntmps (w17h N) w17b:=hk_of _ _ trivial
theorem w17q [Alg] (N:Nat) (s0:YF1):w17G N  s0=exec (w17c N) Tryd.f17.ntmps (w17h N) w17b ⟨argT 0 [.e (.sl .u8) s0,.fn 18 []],[],100⟩ (finX (w17c N) Tryd.f17 false):=by kernel_rfl
theorem w17does {N:Nat} (hc:CxOk (w17c N)) {s0:YF1} {r:Res} (h:w17 N s0=some r):DoesR Tryd.prog 17 (([.e (.sl .u8) s0,.fn 18 []]:List X).map X.D) (HA []) r:=
 fun_ok hc (f:=17) (fn:=Tryd.f17) (code:=w17b) (by kernel_rfl) (by kernel_rfl) (w17hk N) (Nat.le_of_ble_eq_true (by kernel_rfl)) (ow:=false) ((w17q N s0).symm.trans (by exact h))
def w17un (r:Res):Option (Bool):=match r with
 | (x0,[])=>(match ue .bo x0 with | some a0=>some a0 | _=>none)
 | _=>none
theorem w17uo {r:Res} {d:Bool} (h:w17un r=some d):r=w17r0 (d):=by
 unfold w17un at h;split at h
 ·split at h
  ·rename_i h0;cases h;rw [ue_some h0];rfl
  ·cases h
 ·cases h
def w17z (N:Nat) (s0:YF1):Option (Bool):=(w17 N s0).bind w17un
theorem w17fin {N:Nat} (hc:CxOk (w17c N)) {s0:YF1} {d:Bool} (hd:w17z N s0=some d):Does Tryd.prog 17 (([.e (.sl .u8) s0,.fn 18 []]:List X).map X.D) (HA []) (w17r0 (d)).1.D (HA (w17r0 (d)).2):=by
 obtain ⟨r,hr,hu⟩:=Option.bind_eq_some_iff.1 hd;have:=w17does hc hr;rw [w17uo hu] at this;exact this
def w17p (N:Nat) (s0:YF1):Bool:=(w17z N s0).isSome
def w17y0 (N:Nat) (s0:YF1):Bool:=((w17z N s0).getD false)
def w17e (N:Nat):Ent':=Ef1 (.sl .u8) 18 (fun x0=>(w17p N x0,w17r0 (w17y0 N x0)))
theorem w17re {N:Nat} {s0:YF1} {d:Bool} (hd:w17z N s0=some d):w17r0 (w17y0 N s0)=w17r0 (d):=by unfold w17y0;rw [hd];rfl
theorem w17ok (N:Nat):EOk Tryd.prog 17 (w17e N):=EOk.f1 (fun x0 h=>by
 have h:(w17z N x0).isSome=true:=h;obtain ⟨d,hd⟩:=Option.isSome_iff_exists.1 h;have f:=w17fin (w17cx N) hd;rw [← w17re hd] at f;exact f)
def w8r0 (a0:Bool):Res:=(.e .bo a0,[])
def w8L (N:Nat):List (Nat×Ent'):=[(17,w17e N),(16,w16e N),(18,w18e N),(20,w20e N),(21,w21e N)]
def w8c (N:Nat):Cx:=⟨Tryd.prog,99999,w8L N,[]⟩
def w8b:Code:=Tryd.f8.body.getD .skip
theorem w8cx (N:Nat):CxOk (w8c N):=ctx_ok (by kernel_rfl) (.cons (by kernel_rfl) (w17ok N) (.cons (by kernel_rfl) (w16ok N) (.cons (by kernel_rfl) (w18ok N) (.cons (by kernel_rfl) (w20ok N) (.cons (by kernel_rfl) (w21ok N) .nil))))) .nil
def w8G [Alg] (N:Nat)  (kind0:Int) (options1:Int) (s2:YF1):O:=
 ck (w16p N kind0 options1) <|
 br (!w16y0 N kind0 options1)
  (some (w8r0 false))
  (br (decide (kind0=(2:Int)))
   (ck (!(decide ((1:Int)<=(↑s2.length:Int))&&decide ((↑s2.length:Int)<=(40:Int)))||w17p N s2) <|
   some (w8r0 (decide ((1:Int)<=(↑s2.length:Int))&&decide ((↑s2.length:Int)<=(40:Int))&&!w17y0 N s2)))
   (ck (w20p N s2) <|
   ck (!!(decide (Nat.add._f Nat.zero PUnit.unit (w20y1 N s2)≠(1:Nat))||decide (w20y0 N s2 < (0:Int)))||w21p N (w20y0 N s2)) <|
   br (decide (Nat.add._f Nat.zero PUnit.unit (w20y1 N s2)≠(1:Nat))||decide (w20y0 N s2 < (0:Int))||decide (w21y0 N (w20y0 N s2)≠s2))
    (some (w8r0 false))
    (some (w8r0 (decide (kind0=(0:Int))&&decide (w20y0 N s2 < options1)||decide (kind0=(1:Int))&&decide (w20y0 N s2<=(999:Int)))))))
def w8 [Alg] (N:Nat) (kind0:Int) (options1:Int) (s2:YF1):O:=w8G N  kind0 options1 s2
def w8h [Alg] (_:Nat):Hint:=.d
theorem w8hk (N:Nat):HintOk (w8c N) Tryd.f8.ntmps (w8h N) w8b:=hk_of _ _ trivial
theorem w8q [Alg] (N:Nat) (kind0:Int) (options1:Int) (s2:YF1):w8G N  kind0 options1 s2=exec (w8c N) Tryd.f8.ntmps (w8h N) w8b ⟨argT 0 [.e (.i .i64) kind0,.e (.i .i64) options1,.e .tx s2],[],100⟩ (finX (w8c N) Tryd.f8 false):=by kernel_rfl
theorem w8does {N:Nat} (hc:CxOk (w8c N)) {kind0:Int} {options1:Int} {s2:YF1} {r:Res} (h:w8 N kind0 options1 s2=some r):DoesR Tryd.prog 8 (([.e (.i .i64) kind0,.e (.i .i64) options1,.e .tx s2]:List X).map X.D) (HA []) r:=
 fun_ok hc (f:=8) (fn:=Tryd.f8) (code:=w8b) (by kernel_rfl) (by kernel_rfl) (w8hk N) (Nat.le_of_ble_eq_true (by kernel_rfl)) (ow:=false) ((w8q N kind0 options1 s2).symm.trans (by exact h))
def w8un (r:Res):Option (Bool):=match r with
 | (x0,[])=>(match ue .bo x0 with | some a0=>some a0 | _=>none)
 | _=>none
theorem w8uo {r:Res} {d:Bool} (h:w8un r=some d):r=w8r0 (d):=by
 unfold w8un at h;split at h
 ·split at h
  ·rename_i h0;cases h;rw [ue_some h0];rfl
  ·cases h
 ·cases h
def w8z (N:Nat) (kind0:Int) (options1:Int) (s2:YF1):Option (Bool):=(w8 N kind0 options1 s2).bind w8un
theorem w8fin {N:Nat} (hc:CxOk (w8c N)) {kind0:Int} {options1:Int} {s2:YF1} {d:Bool} (hd:w8z N kind0 options1 s2=some d):Does Tryd.prog 8 (([.e (.i .i64) kind0,.e (.i .i64) options1,.e .tx s2]:List X).map X.D) (HA []) (w8r0 (d)).1.D (HA (w8r0 (d)).2):=by
 obtain ⟨r,hr,hu⟩:=Option.bind_eq_some_iff.1 hd;have:=w8does hc hr;rw [w8uo hu] at this;exact this
def w8p (N:Nat) (kind0:Int) (options1:Int) (s2:YF1):Bool:=(w8z N kind0 options1 s2).isSome
def w8y0 (N:Nat) (kind0:Int) (options1:Int) (s2:YF1):Bool:=((w8z N kind0 options1 s2).getD false)
def w8e (N:Nat):Ent':=E3 (.i .i64) (.i .i64) .tx  (fun x0 x1 x2=>(w8p N x0 x1 x2,w8r0 (w8y0 N x0 x1 x2)))
theorem w8re {N:Nat} {kind0:Int} {options1:Int} {s2:YF1} {d:Bool} (hd:w8z N kind0 options1 s2=some d):w8r0 (w8y0 N kind0 options1 s2)=w8r0 (d):=by unfold w8y0;rw [hd];rfl
theorem w8ok (N:Nat):EOk Tryd.prog 8 (w8e N):=EOk.e3 (fun x0 x1 x2 h=>by
 have h:(w8z N x0 x1 x2).isSome=true:=h;obtain ⟨d,hd⟩:=Option.isSome_iff_exists.1 h;have f:=w8fin (w8cx N) hd;rw [← w8re hd] at f;exact f)
end
end Go.Proofs
/- What functions do. -/
namespace Go.Proofs
noncomputable section
open Go.Ax Go.Ax.Alg Go.RowKit Go.Ab
open Go
def c13r0 (a0:YF1) (a1:Int):Res:=(.tup [.e .tx a0,.e (.i .i64) a1],[])
def c13L (N:Nat):List (Nat×Ent'):=[(25,w25e N),(16,w16e N),(8,w8e N),(34,w34e N),(86,c86e N),(91,c91e N)]
def c13c (N:Nat):Cx:=⟨Tryd.prog,99999,c13L N,[]⟩
def c13b:Code:=Tryd.f13.body.getD .skip
theorem c13cx (N:Nat):CxOk (c13c N):=ctx_ok (by kernel_rfl) (.cons (by kernel_rfl) (w25ok N) (.cons (by kernel_rfl) (w16ok N) (.cons (by kernel_rfl) (w8ok N) (.cons (by kernel_rfl) (w34ok N) (.cons (by kernel_rfl) (c86ok N) (.cons (by kernel_rfl) (c91ok N) .nil)))))) .nil
def c13F0 [Alg] (N:Nat)  (self:Int->Bool->Int->Int->YF1->O) (k0:Int->Int->Bool->Int->Int->YF1->O) (x0_0:Int) (x0_1:Int) (x0_2:(List (Int×(Int×(Int×(Int×Int)))))) (x0_3:Int) (x0_4:Int) (x0_5:Bool) (x0_6:Int) (x0_7:Int) (x0_8:YF1):O:=
 br (decide (x0_4 < x0_3))
  (gx x0_2 x0_4 fun y3=>
  ck (c86p N y3.1 y3.2.1 y3.2.2.1 y3.2.2.2.1 y3.2.2.2.2 x0_5 x0_6 x0_7 x0_8) <|
  self (IntKind.i64.wrap (x0_4+(1:Int))) (c86y0 N y3.1 y3.2.1 y3.2.2.1 y3.2.2.2.1 y3.2.2.2.2 x0_5 x0_6 x0_7 x0_8) (c86y1 N y3.1 y3.2.1 y3.2.2.1 y3.2.2.2.1 y3.2.2.2.2 x0_5 x0_6 x0_7 x0_8) (c86y2 N y3.1 y3.2.1 y3.2.2.1 y3.2.2.2.1 y3.2.2.2.2 x0_5 x0_6 x0_7 x0_8) (c86y3 N y3.1 y3.2.1 y3.2.2.1 y3.2.2.2.1 y3.2.2.2.2 x0_5 x0_6 x0_7 x0_8))
  (k0 x0_0 x0_1 x0_5 x0_6 x0_7 x0_8)
def c13b0:Code:=atC [1,1,1,1,0,1,0,0] c13b
def c13m0:Nm:=⟨[1,2,12,33,34,35],[],[]⟩
def c13I0 (x:Int×Int×(List (Int×(Int×(Int×(Int×Int)))))×Int×Int×Bool×Int×Int×YF1):Sg:=⟨[(1,.e (.i .i64) x.1),(2,.e (.i .i64) x.2.1),(12,.ifc 0 78),(33,.e (.sl (.pr (.i .i64) (.pr (.i .i64) (.pr (.i .i64) (.pr (.i .i64) (.i .i64)))))) x.2.2.1),(34,.e (.i .i64) x.2.2.2.1),(35,.e (.i .i64) x.2.2.2.2.1)],[(0,.box 82 [.own 1,.e .bo x.2.2.2.2.2.1,.e (.i .i64) x.2.2.2.2.2.2.1,.e (.i .i64) x.2.2.2.2.2.2.2.1]),(1,.row 5 .u8 x.2.2.2.2.2.2.2.2 false)],100⟩
def c13u0 (σ:Sg):Int×Int×(List (Int×(Int×(Int×(Int×Int)))))×Int×Int×Bool×Int×Int×YF1:=(lvT (.i .i64) 1 0 σ,lvT (.i .i64) 2 0 σ,lvT (.sl (.pr (.i .i64) (.pr (.i .i64) (.pr (.i .i64) (.pr (.i .i64) (.i .i64)))))) 33 0 σ,lvT (.i .i64) 34 0 σ,lvT (.i .i64) 35 0 σ,lvH .bo 0 1 σ,lvH (.i .i64) 0 2 σ,lvH (.i .i64) 0 3 σ,lvR .u8 1 σ)
theorem c13ui0:∀ x,c13u0 (c13I0 x)=x:=fun _=>by kernel_rfl
def c13X0_0 (y:Int×Int×Bool×Int×Int×YF1):Exit×Sg:=((.exit 0),⟨[(1,.e (.i .i64) y.1),(2,.e (.i .i64) y.2.1),(12,.ifc 0 78)],[(0,.box 82 [.own 1,.e .bo y.2.2.1,.e (.i .i64) y.2.2.2.1,.e (.i .i64) y.2.2.2.2.1]),(1,.row 5 .u8 y.2.2.2.2.2 false)],100⟩)
def c13v0_0 (_:Exit) (σ:Sg):Int×Int×Bool×Int×Int×YF1:=(lvT (.i .i64) 1 0 σ,lvT (.i .i64) 2 0 σ,lvH .bo 0 1 σ,lvH (.i .i64) 0 2 σ,lvH (.i .i64) 0 3 σ,lvR .u8 1 σ)
def c13w0:List (Exit×Nm):=[((.exit 0),⟨[1,2,12],[],[]⟩)]
theorem c13o0:Outs c13v0_0 (fun _ _=>()) (fun _ _=>()) c13X0_0 (noX 1) (noX 2) (exC (.exit 0)) (exC (.goto 1)) (exC (.goto 2)):=⟨fun _=>by kernel_rfl,fun _=>by kernel_rfl,fun _=>by kernel_rfl,fun _=>by kernel_rfl,fun _=>by kernel_rfl,fun _=>by kernel_rfl,exNe_ok (by kernel_rfl),exNe_ok (by kernel_rfl),exNe_ok (by kernel_rfl)⟩
def c13l0 [Alg] (N:Nat):Nat->(Int×Int×(List (Int×(Int×(Int×(Int×Int)))))×Int×Int×Bool×Int×Int×YF1)->((Int×Int×Bool×Int×Int×YF1)->O)->((Unit)->O)->((Unit)->O)->O
 | 0,_,_,_,_=>none
 | n+1,x,k0,k1,k2=>c13F0 N  (fun v0 v1 v2 v3 v4=>c13l0 N n (x.1,x.2.1,x.2.2.1,x.2.2.2.1,v0,v1,v2,v3,v4) k0 k1 k2) (fun y0 y1 y2 y3 y4 y5=>k0 (y0,y1,y2,y3,y4,y5)) x.1 x.2.1 x.2.2.1 x.2.2.2.1 x.2.2.2.2.1 x.2.2.2.2.2.1 x.2.2.2.2.2.2.1 x.2.2.2.2.2.2.2.1 x.2.2.2.2.2.2.2.2
def c13n0 [Alg] (N:Nat) (a0:Int) (a1:Int) (a2:(List (Int×(Int×(Int×(Int×Int)))))) (a3:Int) (a4:Int) (a5:Bool) (a6:Int) (a7:Int) (a8:YF1) (k0:Int->Int->Bool->Int->Int->YF1->O):O:=c13l0 N N (a0,a1,a2,a3,a4,a5,a6,a7,a8) (fun y=>k0 y.1 y.2.1 y.2.2.1 y.2.2.2.1 y.2.2.2.2.1 y.2.2.2.2.2) (fun _=>none) (fun _=>none)
def c13s0 [Alg] (N:Nat) (a0:Int) (a1:Int) (a2:(List (Int×(Int×(Int×(Int×Int)))))) (a3:Int) (a4:Int) (a5:Bool) (a6:Int) (a7:Int) (a8:YF1) (k0:Int->Int->Bool->Int->Int->YF1->O):O:=subL c13I0 c13u0 (c13l0 N N) (c13I0 (a0,a1,a2,a3,a4,a5,a6,a7,a8)) (fun y=>k0 y.1 y.2.1 y.2.2.1 y.2.2.2.1 y.2.2.2.2.1 y.2.2.2.2.2) (fun _=>none) (fun _=>none)
theorem c13e0 [Alg] (N:Nat):c13s0 N=c13n0 N:=funext fun _=>funext fun _=>funext fun _=>funext fun _=>funext fun _=>funext fun _=>funext fun _=>funext fun _=>funext fun _=>funext fun _=>subL_I c13ui0 _ _ _ _
def c13h0 [Alg] (_:Nat):Hint:=.d
theorem c13hk0 (N:Nat):HintOk (c13c N) Tryd.f13.ntmps (c13h0 N) c13b0:=hk_of _ _ trivial
theorem c13q0 [Alg] (N:Nat) (self:Sg->O) (K:Exit->Sg->O) (x:Int×Int×(List (Int×(Int×(Int×(Int×Int)))))×Int×Int×Bool×Int×Int×YF1):c13F0 N  (fun v0 v1 v2 v3 v4=>self (c13I0 (x.1,x.2.1,x.2.2.1,x.2.2.2.1,v0,v1,v2,v3,v4))) (fun y0 y1 y2 y3 y4 y5=>K (c13X0_0 (y0,y1,y2,y3,y4,y5)).1 (c13X0_0 (y0,y1,y2,y3,y4,y5)).2) x.1 x.2.1 x.2.2.1 x.2.2.2.1 x.2.2.2.2.1 x.2.2.2.2.2.1 x.2.2.2.2.2.2.1 x.2.2.2.2.2.2.2.1 x.2.2.2.2.2.2.2.2=exec (c13c N) Tryd.f13.ntmps (c13h0 N) c13b0 (c13I0 x) (roundX c13m0 c13w0 self K):=by kernel_rfl
theorem c13S0 (N:Nat) (hc:CxOk (c13c N)):SubOk (c13c N) Tryd.f13.ntmps (.loop c13b0) c13X0_0 (noX 1) (noX 2) (subL c13I0 c13u0 (c13l0 N N)):=
 sub_loop hc (c13hk0 N) c13o0 (n:=N) (fun x K=>loop_ind (c13l0 N) (fun _ _ _ _=>rfl) (fun n K ih x=>by
  have h:c13F0 N  (fun v0 v1 v2 v3 v4=>c13l0 N n (x.1,x.2.1,x.2.2.1,x.2.2.2.1,v0,v1,v2,v3,v4) (fun y=>K (c13X0_0 y).1 (c13X0_0 y).2) (fun y=>K ((noX 1) y).1 ((noX 1) y).2) (fun y=>K ((noX 2) y).1 ((noX 2) y).2)) (fun y0 y1 y2 y3 y4 y5=>K (c13X0_0 (y0,y1,y2,y3,y4,y5)).1 (c13X0_0 (y0,y1,y2,y3,y4,y5)).2) x.1 x.2.1 x.2.2.1 x.2.2.2.1 x.2.2.2.2.1 x.2.2.2.2.2.1 x.2.2.2.2.2.2.1 x.2.2.2.2.2.2.2.1 x.2.2.2.2.2.2.2.2=c13F0 N  (fun v0 v1 v2 v3 v4=>loopX (c13c N) Tryd.f13.ntmps (c13h0 N) c13b0 c13m0 c13w0 n (c13I0 (x.1,x.2.1,x.2.2.1,x.2.2.2.1,v0,v1,v2,v3,v4)) K) (fun y0 y1 y2 y3 y4 y5=>K (c13X0_0 (y0,y1,y2,y3,y4,y5)).1 (c13X0_0 (y0,y1,y2,y3,y4,y5)).2) x.1 x.2.1 x.2.2.1 x.2.2.2.1 x.2.2.2.2.1 x.2.2.2.2.2.1 x.2.2.2.2.2.2.1 x.2.2.2.2.2.2.2.1 x.2.2.2.2.2.2.2.2:=by rw [ show (fun v0 v1 v2 v3 v4=>c13l0 N n (x.1,x.2.1,x.2.2.1,x.2.2.2.1,v0,v1,v2,v3,v4) (fun y=>K (c13X0_0 y).1 (c13X0_0 y).2) (fun y=>K ((noX 1) y).1 ((noX 1) y).2) (fun y=>K ((noX 2) y).1 ((noX 2) y).2))=(fun v0 v1 v2 v3 v4=>loopX (c13c N) Tryd.f13.ntmps (c13h0 N) c13b0 c13m0 c13w0 n (c13I0 (x.1,x.2.1,x.2.2.1,x.2.2.2.1,v0,v1,v2,v3,v4)) K) from funext fun _=>funext fun _=>funext fun _=>funext fun _=>funext fun _=>ih _]
  exact h.trans (c13q0 N (fun σ=>loopX (c13c N) Tryd.f13.ntmps (c13h0 N) c13b0 c13m0 c13w0 n σ K) K x)) N x K)
def c13G [Alg] (N:Nat) (in0:Int->Int->(List (Int×(Int×(Int×(Int×Int)))))->Int->Int->Bool->Int->Int->YF1->(Int->Int->Bool->Int->Int->YF1->O)->O) (way0:Int) (kind1:Int) (options2:Int) (l3:(List (Int×(Int×(Int×(Int×Int)))))):O:=
 ck true <|
 br (decide ((0:Int)=way0))
  (ck (false||w16p N kind1 options2) <|
  br (false||!w16y0 N kind1 options2)
   (some (c13r0 [] ((1:Int))))
   (none))
  (br (decide ((1:Int)=way0))
   (ck (false||w16p N kind1 options2) <|
   br (false||!w16y0 N kind1 options2)
    (some (c13r0 [] ((1:Int))))
    (ck (w34p N) <|
    in0 kind1 options2 l3 ((↑l3.length:Int)) ((0:Int)) (w34y0 N) (w34y1 N) (w34y2 N) []
     (fun z4 z5 z6 z7 z8 z9=>
      ck (c91p N z6 z7 z8 z9) <|
      ck (!decide (c91y1 N z6 z7 z8 z9=(0:Int))||w8p N z4 z5 (c91y0 N z6 z7 z8 z9)) <|
      br (decide (c91y1 N z6 z7 z8 z9=(0:Int))&&!w8y0 N z4 z5 (c91y0 N z6 z7 z8 z9))
       (br true
        (some (c13r0 [] ((2:Int))))
        (some (c13r0 (c91y0 N z6 z7 z8 z9) ((0:Int)))))
       (br (decide (c91y1 N z6 z7 z8 z9≠(0:Int)))
        (some (c13r0 [] (c91y1 N z6 z7 z8 z9)))
        (some (c13r0 (c91y0 N z6 z7 z8 z9) ((0:Int))))))))
   (br (decide ((2:Int)=way0))
    (ck (false||w16p N kind1 options2) <|
    br (false||!w16y0 N kind1 options2)
     (some (c13r0 [] ((1:Int))))
     (none))
    (br (decide ((3:Int)=way0))
     (ck (false||w16p N kind1 options2) <|
     br (false||!w16y0 N kind1 options2)
      (some (c13r0 [] ((1:Int))))
      (none))
     (ck (true||w16p N kind1 options2) <|
     br (true||!w16y0 N kind1 options2)
      (some (c13r0 [] ((1:Int))))
      (none)))))
def c13 [Alg] (N:Nat) (way0:Int) (kind1:Int) (options2:Int) (l3:(List (Int×(Int×(Int×(Int×Int)))))):O:=c13G N (c13n0 N) way0 kind1 options2 l3
def c13h [Alg] (N:Nat):Hint:=(.seq .d (.seq .d (.seq .d (.seq .d (.seq (.seq (.reg [] [.nilC 12 0 (.row 5 .u8 [] false)] []) (.block (.sub c13m0 _ _ _ c13X0_0 (noX 1) (noX 2) (subL c13I0 c13u0 (c13l0 N N))))) .d)))))
theorem c13hk (N:Nat) (hc:CxOk (c13c N)):HintOk (c13c N) Tryd.f13.ntmps (c13h N) c13b:=hk_of _ _ (And.intro trivial (And.intro trivial (And.intro trivial (And.intro trivial (And.intro (And.intro trivial (c13S0 N hc)) trivial)))))
theorem c13q [Alg] (N:Nat) (way0:Int) (kind1:Int) (options2:Int) (l3:(List (Int×(Int×(Int×(Int×Int)))))):c13G N (c13s0 N) way0 kind1 options2 l3=exec (c13c N) Tryd.f13.ntmps (c13h N) c13b ⟨argT 0 [.e (.i .i64) way0,.e (.i .i64) kind1,.e (.i .i64) options2,.e (.sl (.pr (.i .i64) (.pr (.i .i64) (.pr (.i .i64) (.pr (.i .i64) (.i .i64)))))) l3],[],100⟩ (finX (c13c N) Tryd.f13 false):=by kernel_rfl
theorem c13does {N:Nat} (hc:CxOk (c13c N)) {way0:Int} {kind1:Int} {options2:Int} {l3:(List (Int×(Int×(Int×(Int×Int)))))} {r:Res} (h:c13 N way0 kind1 options2 l3=some r):DoesR Tryd.prog 13 (([.e (.i .i64) way0,.e (.i .i64) kind1,.e (.i .i64) options2,.e (.sl (.pr (.i .i64) (.pr (.i .i64) (.pr (.i .i64) (.pr (.i .i64) (.i .i64)))))) l3]:List X).map X.D) (HA []) r:=
 fun_ok hc (f:=13) (fn:=Tryd.f13) (code:=c13b) (by kernel_rfl) (by kernel_rfl) (c13hk N hc) (Nat.le_of_ble_eq_true (by kernel_rfl)) (ow:=false) ((c13q N way0 kind1 options2 l3).symm.trans (by rw [c13e0 N];exact h))
def c13un (r:Res):Option (YF1×Int):=match r with
 | (.tup [x0,x1],[])=>(match ue .tx x0,ue (.i .i64) x1 with | some a0,some a1=>some (a0,a1) | _,_=>none)
 | _=>none
theorem c13uo {r:Res} {d:YF1×Int} (h:c13un r=some d):r=c13r0 (d.1) (d.2):=by
 unfold c13un at h;split at h
 ·split at h
  ·rename_i h0 h1;cases h;rw [ue_some h0,ue_some h1];rfl
  ·cases h
 ·cases h
def c13z (N:Nat) (way0:Int) (kind1:Int) (options2:Int) (l3:(List (Int×(Int×(Int×(Int×Int)))))):Option (YF1×Int):=(c13 N way0 kind1 options2 l3).bind c13un
theorem c13fin {N:Nat} (hc:CxOk (c13c N)) {way0:Int} {kind1:Int} {options2:Int} {l3:(List (Int×(Int×(Int×(Int×Int)))))} {d:YF1×Int} (hd:c13z N way0 kind1 options2 l3=some d):Does Tryd.prog 13 (([.e (.i .i64) way0,.e (.i .i64) kind1,.e (.i .i64) options2,.e (.sl (.pr (.i .i64) (.pr (.i .i64) (.pr (.i .i64) (.pr (.i .i64) (.i .i64)))))) l3]:List X).map X.D) (HA []) (c13r0 (d.1) (d.2)).1.D (HA (c13r0 (d.1) (d.2)).2):=by
 obtain ⟨r,hr,hu⟩:=Option.bind_eq_some_iff.1 hd;have:=c13does hc hr;rw [c13uo hu] at this;exact this
end
end Go.Proofs
/- What functions do. -/
namespace Go.Proofs
noncomputable section
open Go.Ax Go.Ax.Alg Go.RowKit Go.Ab
open Go
def o13r0 (a0:YF1) (a1:Int):Res:=(.tup [.e .tx a0,.e (.i .i64) a1],[])
def o13L (N:Nat):List (Nat×Ent'):=[(25,w25e N),(16,w16e N),(8,w8e N),(35,w35e N),(94,o94e N),(91,o91e N)]
def o13c (N:Nat):Cx:=⟨Tryd.prog,99999,o13L N,[]⟩
def o13b:Code:=Tryd.f13.body.getD .skip
theorem o13cx (N:Nat):CxOk (o13c N):=ctx_ok (by kernel_rfl) (.cons (by kernel_rfl) (w25ok N) (.cons (by kernel_rfl) (w16ok N) (.cons (by kernel_rfl) (w8ok N) (.cons (by kernel_rfl) (w35ok N) (.cons (by kernel_rfl) (o94ok N) (.cons (by kernel_rfl) (o91ok N) .nil)))))) .nil
def o13F0 [Alg] (N:Nat)  (self:Int->Bool->Int->YF1->O) (k0:Int->Int->Bool->Int->YF1->O) (x0_0:Int) (x0_1:Int) (x0_2:(List (Int×(Int×(Int×(Int×Int)))))) (x0_3:Int) (x0_4:Int) (x0_5:Bool) (x0_6:Int) (x0_7:YF1):O:=
 br (decide (x0_4 < x0_3))
  (gx x0_2 x0_4 fun y3=>
  ck (o94p N y3.1 y3.2.1 y3.2.2.1 y3.2.2.2.1 y3.2.2.2.2 x0_5 x0_6 x0_7) <|
  self (IntKind.i64.wrap (x0_4+(1:Int))) (o94y0 N y3.1 y3.2.1 y3.2.2.1 y3.2.2.2.1 y3.2.2.2.2 x0_5 x0_6 x0_7) (o94y1 N y3.1 y3.2.1 y3.2.2.1 y3.2.2.2.1 y3.2.2.2.2 x0_5 x0_6 x0_7) (o94y2 N y3.1 y3.2.1 y3.2.2.1 y3.2.2.2.1 y3.2.2.2.2 x0_5 x0_6 x0_7))
  (k0 x0_0 x0_1 x0_5 x0_6 x0_7)
def o13b0:Code:=atC [1,1,1,1,0,1,0,0] o13b
def o13m0:Nm:=⟨[1,2,12,33,34,35],[],[]⟩
def o13I0 (x:Int×Int×(List (Int×(Int×(Int×(Int×Int)))))×Int×Int×Bool×Int×YF1):Sg:=⟨[(1,.e (.i .i64) x.1),(2,.e (.i .i64) x.2.1),(12,.ifc 0 83),(33,.e (.sl (.pr (.i .i64) (.pr (.i .i64) (.pr (.i .i64) (.pr (.i .i64) (.i .i64)))))) x.2.2.1),(34,.e (.i .i64) x.2.2.2.1),(35,.e (.i .i64) x.2.2.2.2.1)],[(0,.box 85 [.own 1,.e .bo x.2.2.2.2.2.1,.e (.i .i64) x.2.2.2.2.2.2.1]),(1,.row 5 .u8 x.2.2.2.2.2.2.2 false)],100⟩
def o13u0 (σ:Sg):Int×Int×(List (Int×(Int×(Int×(Int×Int)))))×Int×Int×Bool×Int×YF1:=(lvT (.i .i64) 1 0 σ,lvT (.i .i64) 2 0 σ,lvT (.sl (.pr (.i .i64) (.pr (.i .i64) (.pr (.i .i64) (.pr (.i .i64) (.i .i64)))))) 33 0 σ,lvT (.i .i64) 34 0 σ,lvT (.i .i64) 35 0 σ,lvH .bo 0 1 σ,lvH (.i .i64) 0 2 σ,lvR .u8 1 σ)
theorem o13ui0:∀ x,o13u0 (o13I0 x)=x:=fun _=>by kernel_rfl
def o13X0_0 (y:Int×Int×Bool×Int×YF1):Exit×Sg:=((.exit 0),⟨[(1,.e (.i .i64) y.1),(2,.e (.i .i64) y.2.1),(12,.ifc 0 83)],[(0,.box 85 [.own 1,.e .bo y.2.2.1,.e (.i .i64) y.2.2.2.1]),(1,.row 5 .u8 y.2.2.2.2 false)],100⟩)
def o13v0_0 (_:Exit) (σ:Sg):Int×Int×Bool×Int×YF1:=(lvT (.i .i64) 1 0 σ,lvT (.i .i64) 2 0 σ,lvH .bo 0 1 σ,lvH (.i .i64) 0 2 σ,lvR .u8 1 σ)
def o13w0:List (Exit×Nm):=[((.exit 0),⟨[1,2,12],[],[]⟩)]
theorem o13o0:Outs o13v0_0 (fun _ _=>()) (fun _ _=>()) o13X0_0 (noX 1) (noX 2) (exC (.exit 0)) (exC (.goto 1)) (exC (.goto 2)):=⟨fun _=>by kernel_rfl,fun _=>by kernel_rfl,fun _=>by kernel_rfl,fun _=>by kernel_rfl,fun _=>by kernel_rfl,fun _=>by kernel_rfl,exNe_ok (by kernel_rfl),exNe_ok (by kernel_rfl),exNe_ok (by kernel_rfl)⟩
def o13l0 [Alg] (N:Nat):Nat->(Int×Int×(List (Int×(Int×(Int×(Int×Int)))))×Int×Int×Bool×Int×YF1)->((Int×Int×Bool×Int×YF1)->O)->((Unit)->O)->((Unit)->O)->O
 | 0,_,_,_,_=>none
 | n+1,x,k0,k1,k2=>o13F0 N  (fun v0 v1 v2 v3=>o13l0 N n (x.1,x.2.1,x.2.2.1,x.2.2.2.1,v0,v1,v2,v3) k0 k1 k2) (fun y0 y1 y2 y3 y4=>k0 (y0,y1,y2,y3,y4)) x.1 x.2.1 x.2.2.1 x.2.2.2.1 x.2.2.2.2.1 x.2.2.2.2.2.1 x.2.2.2.2.2.2.1 x.2.2.2.2.2.2.2
def o13n0 [Alg] (N:Nat) (a0:Int) (a1:Int) (a2:(List (Int×(Int×(Int×(Int×Int)))))) (a3:Int) (a4:Int) (a5:Bool) (a6:Int) (a7:YF1) (k0:Int->Int->Bool->Int->YF1->O):O:=o13l0 N N (a0,a1,a2,a3,a4,a5,a6,a7) (fun y=>k0 y.1 y.2.1 y.2.2.1 y.2.2.2.1 y.2.2.2.2) (fun _=>none) (fun _=>none)
def o13s0 [Alg] (N:Nat) (a0:Int) (a1:Int) (a2:(List (Int×(Int×(Int×(Int×Int)))))) (a3:Int) (a4:Int) (a5:Bool) (a6:Int) (a7:YF1) (k0:Int->Int->Bool->Int->YF1->O):O:=subL o13I0 o13u0 (o13l0 N N) (o13I0 (a0,a1,a2,a3,a4,a5,a6,a7)) (fun y=>k0 y.1 y.2.1 y.2.2.1 y.2.2.2.1 y.2.2.2.2) (fun _=>none) (fun _=>none)
theorem o13e0 [Alg] (N:Nat):o13s0 N=o13n0 N:=funext fun _=>funext fun _=>funext fun _=>funext fun _=>funext fun _=>funext fun _=>funext fun _=>funext fun _=>funext fun _=>subL_I o13ui0 _ _ _ _
def o13h0 [Alg] (_:Nat):Hint:=.d
theorem o13hk0 (N:Nat):HintOk (o13c N) Tryd.f13.ntmps (o13h0 N) o13b0:=hk_of _ _ trivial
theorem o13q0 [Alg] (N:Nat) (self:Sg->O) (K:Exit->Sg->O) (x:Int×Int×(List (Int×(Int×(Int×(Int×Int)))))×Int×Int×Bool×Int×YF1):o13F0 N  (fun v0 v1 v2 v3=>self (o13I0 (x.1,x.2.1,x.2.2.1,x.2.2.2.1,v0,v1,v2,v3))) (fun y0 y1 y2 y3 y4=>K (o13X0_0 (y0,y1,y2,y3,y4)).1 (o13X0_0 (y0,y1,y2,y3,y4)).2) x.1 x.2.1 x.2.2.1 x.2.2.2.1 x.2.2.2.2.1 x.2.2.2.2.2.1 x.2.2.2.2.2.2.1 x.2.2.2.2.2.2.2=exec (o13c N) Tryd.f13.ntmps (o13h0 N) o13b0 (o13I0 x) (roundX o13m0 o13w0 self K):=by kernel_rfl
theorem o13S0 (N:Nat) (hc:CxOk (o13c N)):SubOk (o13c N) Tryd.f13.ntmps (.loop o13b0) o13X0_0 (noX 1) (noX 2) (subL o13I0 o13u0 (o13l0 N N)):=
 sub_loop hc (o13hk0 N) o13o0 (n:=N) (fun x K=>loop_ind (o13l0 N) (fun _ _ _ _=>rfl) (fun n K ih x=>by
  have h:o13F0 N  (fun v0 v1 v2 v3=>o13l0 N n (x.1,x.2.1,x.2.2.1,x.2.2.2.1,v0,v1,v2,v3) (fun y=>K (o13X0_0 y).1 (o13X0_0 y).2) (fun y=>K ((noX 1) y).1 ((noX 1) y).2) (fun y=>K ((noX 2) y).1 ((noX 2) y).2)) (fun y0 y1 y2 y3 y4=>K (o13X0_0 (y0,y1,y2,y3,y4)).1 (o13X0_0 (y0,y1,y2,y3,y4)).2) x.1 x.2.1 x.2.2.1 x.2.2.2.1 x.2.2.2.2.1 x.2.2.2.2.2.1 x.2.2.2.2.2.2.1 x.2.2.2.2.2.2.2=o13F0 N  (fun v0 v1 v2 v3=>loopX (o13c N) Tryd.f13.ntmps (o13h0 N) o13b0 o13m0 o13w0 n (o13I0 (x.1,x.2.1,x.2.2.1,x.2.2.2.1,v0,v1,v2,v3)) K) (fun y0 y1 y2 y3 y4=>K (o13X0_0 (y0,y1,y2,y3,y4)).1 (o13X0_0 (y0,y1,y2,y3,y4)).2) x.1 x.2.1 x.2.2.1 x.2.2.2.1 x.2.2.2.2.1 x.2.2.2.2.2.1 x.2.2.2.2.2.2.1 x.2.2.2.2.2.2.2:=by rw [ show (fun v0 v1 v2 v3=>o13l0 N n (x.1,x.2.1,x.2.2.1,x.2.2.2.1,v0,v1,v2,v3) (fun y=>K (o13X0_0 y).1 (o13X0_0 y).2) (fun y=>K ((noX 1) y).1 ((noX 1) y).2) (fun y=>K ((noX 2) y).1 ((noX 2) y).2))=(fun v0 v1 v2 v3=>loopX (o13c N) Tryd.f13.ntmps (o13h0 N) o13b0 o13m0 o13w0 n (o13I0 (x.1,x.2.1,x.2.2.1,x.2.2.2.1,v0,v1,v2,v3)) K) from funext fun _=>funext fun _=>funext fun _=>funext fun _=>ih _]
  exact h.trans (o13q0 N (fun σ=>loopX (o13c N) Tryd.f13.ntmps (o13h0 N) o13b0 o13m0 o13w0 n σ K) K x)) N x K)
def o13G [Alg] (N:Nat) (in0:Int->Int->(List (Int×(Int×(Int×(Int×Int)))))->Int->Int->Bool->Int->YF1->(Int->Int->Bool->Int->YF1->O)->O) (way0:Int) (kind1:Int) (options2:Int) (l3:(List (Int×(Int×(Int×(Int×Int)))))):O:=
 ck true <|
 br (decide ((0:Int)=way0))
  (ck (false||w16p N kind1 options2) <|
  br (false||!w16y0 N kind1 options2)
   (some (o13r0 [] ((1:Int))))
   (none))
  (br (decide ((1:Int)=way0))
   (ck (false||w16p N kind1 options2) <|
   br (false||!w16y0 N kind1 options2)
    (some (o13r0 [] ((1:Int))))
    (none))
   (br (decide ((2:Int)=way0))
    (ck (false||w16p N kind1 options2) <|
    br (false||!w16y0 N kind1 options2)
     (some (o13r0 [] ((1:Int))))
     (ck (w35p N) <|
     in0 kind1 options2 l3 ((↑l3.length:Int)) ((0:Int)) (w35y0 N) (w35y1 N) []
      (fun z4 z5 z6 z7 z8=>
       ck (o91p N z6 z7 z8) <|
       ck (!decide (o91y1 N z6 z7 z8=(0:Int))||w8p N z4 z5 (o91y0 N z6 z7 z8)) <|
       br (decide (o91y1 N z6 z7 z8=(0:Int))&&!w8y0 N z4 z5 (o91y0 N z6 z7 z8))
        (br true
         (some (o13r0 [] ((2:Int))))
         (some (o13r0 (o91y0 N z6 z7 z8) ((0:Int)))))
        (br (decide (o91y1 N z6 z7 z8≠(0:Int)))
         (some (o13r0 [] (o91y1 N z6 z7 z8)))
         (some (o13r0 (o91y0 N z6 z7 z8) ((0:Int))))))))
    (br (decide ((3:Int)=way0))
     (ck (false||w16p N kind1 options2) <|
     br (false||!w16y0 N kind1 options2)
      (some (o13r0 [] ((1:Int))))
      (none))
     (ck (true||w16p N kind1 options2) <|
     br (true||!w16y0 N kind1 options2)
      (some (o13r0 [] ((1:Int))))
      (none)))))
def o13 [Alg] (N:Nat) (way0:Int) (kind1:Int) (options2:Int) (l3:(List (Int×(Int×(Int×(Int×Int)))))):O:=o13G N (o13n0 N) way0 kind1 options2 l3
def o13h [Alg] (N:Nat):Hint:=(.seq .d (.seq .d (.seq .d (.seq .d (.seq (.seq (.reg [] [.nilC 12 0 (.row 5 .u8 [] false)] []) (.block (.sub o13m0 _ _ _ o13X0_0 (noX 1) (noX 2) (subL o13I0 o13u0 (o13l0 N N))))) .d)))))
theorem o13hk (N:Nat) (hc:CxOk (o13c N)):HintOk (o13c N) Tryd.f13.ntmps (o13h N) o13b:=hk_of _ _ (And.intro trivial (And.intro trivial (And.intro trivial (And.intro trivial (And.intro (And.intro trivial (o13S0 N hc)) trivial)))))
theorem o13q [Alg] (N:Nat) (way0:Int) (kind1:Int) (options2:Int) (l3:(List (Int×(Int×(Int×(Int×Int)))))):o13G N (o13s0 N) way0 kind1 options2 l3=exec (o13c N) Tryd.f13.ntmps (o13h N) o13b ⟨argT 0 [.e (.i .i64) way0,.e (.i .i64) kind1,.e (.i .i64) options2,.e (.sl (.pr (.i .i64) (.pr (.i .i64) (.pr (.i .i64) (.pr (.i .i64) (.i .i64)))))) l3],[],100⟩ (finX (o13c N) Tryd.f13 false):=by kernel_rfl
theorem o13does {N:Nat} (hc:CxOk (o13c N)) {way0:Int} {kind1:Int} {options2:Int} {l3:(List (Int×(Int×(Int×(Int×Int)))))} {r:Res} (h:o13 N way0 kind1 options2 l3=some r):DoesR Tryd.prog 13 (([.e (.i .i64) way0,.e (.i .i64) kind1,.e (.i .i64) options2,.e (.sl (.pr (.i .i64) (.pr (.i .i64) (.pr (.i .i64) (.pr (.i .i64) (.i .i64)))))) l3]:List X).map X.D) (HA []) r:=
 fun_ok hc (f:=13) (fn:=Tryd.f13) (code:=o13b) (by kernel_rfl) (by kernel_rfl) (o13hk N hc) (Nat.le_of_ble_eq_true (by kernel_rfl)) (ow:=false) ((o13q N way0 kind1 options2 l3).symm.trans (by rw [o13e0 N];exact h))
def o13un (r:Res):Option (YF1×Int):=match r with
 | (.tup [x0,x1],[])=>(match ue .tx x0,ue (.i .i64) x1 with | some a0,some a1=>some (a0,a1) | _,_=>none)
 | _=>none
theorem o13uo {r:Res} {d:YF1×Int} (h:o13un r=some d):r=o13r0 (d.1) (d.2):=by
 unfold o13un at h;split at h
 ·split at h
  ·rename_i h0 h1;cases h;rw [ue_some h0,ue_some h1];rfl
  ·cases h
 ·cases h
def o13z (N:Nat) (way0:Int) (kind1:Int) (options2:Int) (l3:(List (Int×(Int×(Int×(Int×Int)))))):Option (YF1×Int):=(o13 N way0 kind1 options2 l3).bind o13un
theorem o13fin {N:Nat} (hc:CxOk (o13c N)) {way0:Int} {kind1:Int} {options2:Int} {l3:(List (Int×(Int×(Int×(Int×Int)))))} {d:YF1×Int} (hd:o13z N way0 kind1 options2 l3=some d):Does Tryd.prog 13 (([.e (.i .i64) way0,.e (.i .i64) kind1,.e (.i .i64) options2,.e (.sl (.pr (.i .i64) (.pr (.i .i64) (.pr (.i .i64) (.pr (.i .i64) (.i .i64)))))) l3]:List X).map X.D) (HA []) (o13r0 (d.1) (d.2)).1.D (HA (o13r0 (d.1) (d.2)).2):=by
 obtain ⟨r,hr,hu⟩:=Option.bind_eq_some_iff.1 hd;have:=o13does hc hr;rw [o13uo hu] at this;exact this
end
end Go.Proofs
/- What functions do. -/
namespace Go.Proofs
noncomputable section
open Go.Ax Go.Ax.Alg Go.RowKit Go.Ab
open Go
def k13r0 (a0:YF1) (a1:Int):Res:=(.tup [.e .tx a0,.e (.i .i64) a1],[])
def k13L (N:Nat):List (Nat×Ent'):=[(25,w25e N),(16,w16e N),(8,w8e N),(36,w36e N),(99,k99e N),(91,k91e N)]
def k13c (N:Nat):Cx:=⟨Tryd.prog,99999,k13L N,[]⟩
def k13b:Code:=Tryd.f13.body.getD .skip
theorem k13cx (N:Nat):CxOk (k13c N):=ctx_ok (by kernel_rfl) (.cons (by kernel_rfl) (w25ok N) (.cons (by kernel_rfl) (w16ok N) (.cons (by kernel_rfl) (w8ok N) (.cons (by kernel_rfl) (w36ok N) (.cons (by kernel_rfl) (k99ok N) (.cons (by kernel_rfl) (k91ok N) .nil)))))) .nil
def k13F0 [Alg] (N:Nat)  (self:Int->Bool->YF1->O) (k0:Int->Int->Bool->YF1->O) (x0_0:Int) (x0_1:Int) (x0_2:(List (Int×(Int×(Int×(Int×Int)))))) (x0_3:Int) (x0_4:Int) (x0_5:Bool) (x0_6:YF1):O:=
 br (decide (x0_4 < x0_3))
  (gx x0_2 x0_4 fun y3=>
  ck (k99p N y3.1 y3.2.1 y3.2.2.1 y3.2.2.2.1 y3.2.2.2.2 x0_5 x0_6) <|
  self (IntKind.i64.wrap (x0_4+(1:Int))) (k99y0 N y3.1 y3.2.1 y3.2.2.1 y3.2.2.2.1 y3.2.2.2.2 x0_5 x0_6) (k99y1 N y3.1 y3.2.1 y3.2.2.1 y3.2.2.2.1 y3.2.2.2.2 x0_5 x0_6))
  (k0 x0_0 x0_1 x0_5 x0_6)
def k13b0:Code:=atC [1,1,1,1,0,1,0,0] k13b
def k13m0:Nm:=⟨[1,2,12,33,34,35],[],[]⟩
def k13I0 (x:Int×Int×(List (Int×(Int×(Int×(Int×Int)))))×Int×Int×Bool×YF1):Sg:=⟨[(1,.e (.i .i64) x.1),(2,.e (.i .i64) x.2.1),(12,.ifc 0 86),(33,.e (.sl (.pr (.i .i64) (.pr (.i .i64) (.pr (.i .i64) (.pr (.i .i64) (.i .i64)))))) x.2.2.1),(34,.e (.i .i64) x.2.2.2.1),(35,.e (.i .i64) x.2.2.2.2.1)],[(0,.box 88 [.own 1,.e .bo x.2.2.2.2.2.1]),(1,.row 5 .u8 x.2.2.2.2.2.2 false)],100⟩
def k13u0 (σ:Sg):Int×Int×(List (Int×(Int×(Int×(Int×Int)))))×Int×Int×Bool×YF1:=(lvT (.i .i64) 1 0 σ,lvT (.i .i64) 2 0 σ,lvT (.sl (.pr (.i .i64) (.pr (.i .i64) (.pr (.i .i64) (.pr (.i .i64) (.i .i64)))))) 33 0 σ,lvT (.i .i64) 34 0 σ,lvT (.i .i64) 35 0 σ,lvH .bo 0 1 σ,lvR .u8 1 σ)
theorem k13ui0:∀ x,k13u0 (k13I0 x)=x:=fun _=>by kernel_rfl
def k13X0_0 (y:Int×Int×Bool×YF1):Exit×Sg:=((.exit 0),⟨[(1,.e (.i .i64) y.1),(2,.e (.i .i64) y.2.1),(12,.ifc 0 86)],[(0,.box 88 [.own 1,.e .bo y.2.2.1]),(1,.row 5 .u8 y.2.2.2 false)],100⟩)
def k13v0_0 (_:Exit) (σ:Sg):Int×Int×Bool×YF1:=(lvT (.i .i64) 1 0 σ,lvT (.i .i64) 2 0 σ,lvH .bo 0 1 σ,lvR .u8 1 σ)
def k13w0:List (Exit×Nm):=[((.exit 0),⟨[1,2,12],[],[]⟩)]
theorem k13o0:Outs k13v0_0 (fun _ _=>()) (fun _ _=>()) k13X0_0 (noX 1) (noX 2) (exC (.exit 0)) (exC (.goto 1)) (exC (.goto 2)):=⟨fun _=>by kernel_rfl,fun _=>by kernel_rfl,fun _=>by kernel_rfl,fun _=>by kernel_rfl,fun _=>by kernel_rfl,fun _=>by kernel_rfl,exNe_ok (by kernel_rfl),exNe_ok (by kernel_rfl),exNe_ok (by kernel_rfl)⟩
def k13l0 [Alg] (N:Nat):Nat->(Int×Int×(List (Int×(Int×(Int×(Int×Int)))))×Int×Int×Bool×YF1)->((Int×Int×Bool×YF1)->O)->((Unit)->O)->((Unit)->O)->O
 | 0,_,_,_,_=>none
 | n+1,x,k0,k1,k2=>k13F0 N  (fun v0 v1 v2=>k13l0 N n (x.1,x.2.1,x.2.2.1,x.2.2.2.1,v0,v1,v2) k0 k1 k2) (fun y0 y1 y2 y3=>k0 (y0,y1,y2,y3)) x.1 x.2.1 x.2.2.1 x.2.2.2.1 x.2.2.2.2.1 x.2.2.2.2.2.1 x.2.2.2.2.2.2
def k13n0 [Alg] (N:Nat) (a0:Int) (a1:Int) (a2:(List (Int×(Int×(Int×(Int×Int)))))) (a3:Int) (a4:Int) (a5:Bool) (a6:YF1) (k0:Int->Int->Bool->YF1->O):O:=k13l0 N N (a0,a1,a2,a3,a4,a5,a6) (fun y=>k0 y.1 y.2.1 y.2.2.1 y.2.2.2) (fun _=>none) (fun _=>none)
def k13s0 [Alg] (N:Nat) (a0:Int) (a1:Int) (a2:(List (Int×(Int×(Int×(Int×Int)))))) (a3:Int) (a4:Int) (a5:Bool) (a6:YF1) (k0:Int->Int->Bool->YF1->O):O:=subL k13I0 k13u0 (k13l0 N N) (k13I0 (a0,a1,a2,a3,a4,a5,a6)) (fun y=>k0 y.1 y.2.1 y.2.2.1 y.2.2.2) (fun _=>none) (fun _=>none)
theorem k13e0 [Alg] (N:Nat):k13s0 N=k13n0 N:=funext fun _=>funext fun _=>funext fun _=>funext fun _=>funext fun _=>funext fun _=>funext fun _=>funext fun _=>subL_I k13ui0 _ _ _ _
def k13h0 [Alg] (_:Nat):Hint:=.d
theorem k13hk0 (N:Nat):HintOk (k13c N) Tryd.f13.ntmps (k13h0 N) k13b0:=hk_of _ _ trivial
theorem k13q0 [Alg] (N:Nat) (self:Sg->O) (K:Exit->Sg->O) (x:Int×Int×(List (Int×(Int×(Int×(Int×Int)))))×Int×Int×Bool×YF1):k13F0 N  (fun v0 v1 v2=>self (k13I0 (x.1,x.2.1,x.2.2.1,x.2.2.2.1,v0,v1,v2))) (fun y0 y1 y2 y3=>K (k13X0_0 (y0,y1,y2,y3)).1 (k13X0_0 (y0,y1,y2,y3)).2) x.1 x.2.1 x.2.2.1 x.2.2.2.1 x.2.2.2.2.1 x.2.2.2.2.2.1 x.2.2.2.2.2.2=exec (k13c N) Tryd.f13.ntmps (k13h0 N) k13b0 (k13I0 x) (roundX k13m0 k13w0 self K):=by kernel_rfl
theorem k13S0 (N:Nat) (hc:CxOk (k13c N)):SubOk (k13c N) Tryd.f13.ntmps (.loop k13b0) k13X0_0 (noX 1) (noX 2) (subL k13I0 k13u0 (k13l0 N N)):=
 sub_loop hc (k13hk0 N) k13o0 (n:=N) (fun x K=>loop_ind (k13l0 N) (fun _ _ _ _=>rfl) (fun n K ih x=>by
  have h:k13F0 N  (fun v0 v1 v2=>k13l0 N n (x.1,x.2.1,x.2.2.1,x.2.2.2.1,v0,v1,v2) (fun y=>K (k13X0_0 y).1 (k13X0_0 y).2) (fun y=>K ((noX 1) y).1 ((noX 1) y).2) (fun y=>K ((noX 2) y).1 ((noX 2) y).2)) (fun y0 y1 y2 y3=>K (k13X0_0 (y0,y1,y2,y3)).1 (k13X0_0 (y0,y1,y2,y3)).2) x.1 x.2.1 x.2.2.1 x.2.2.2.1 x.2.2.2.2.1 x.2.2.2.2.2.1 x.2.2.2.2.2.2=k13F0 N  (fun v0 v1 v2=>loopX (k13c N) Tryd.f13.ntmps (k13h0 N) k13b0 k13m0 k13w0 n (k13I0 (x.1,x.2.1,x.2.2.1,x.2.2.2.1,v0,v1,v2)) K) (fun y0 y1 y2 y3=>K (k13X0_0 (y0,y1,y2,y3)).1 (k13X0_0 (y0,y1,y2,y3)).2) x.1 x.2.1 x.2.2.1 x.2.2.2.1 x.2.2.2.2.1 x.2.2.2.2.2.1 x.2.2.2.2.2.2:=by rw [ show (fun v0 v1 v2=>k13l0 N n (x.1,x.2.1,x.2.2.1,x.2.2.2.1,v0,v1,v2) (fun y=>K (k13X0_0 y).1 (k13X0_0 y).2) (fun y=>K ((noX 1) y).1 ((noX 1) y).2) (fun y=>K ((noX 2) y).1 ((noX 2) y).2))=(fun v0 v1 v2=>loopX (k13c N) Tryd.f13.ntmps (k13h0 N) k13b0 k13m0 k13w0 n (k13I0 (x.1,x.2.1,x.2.2.1,x.2.2.2.1,v0,v1,v2)) K) from funext fun _=>funext fun _=>funext fun _=>ih _]
  exact h.trans (k13q0 N (fun σ=>loopX (k13c N) Tryd.f13.ntmps (k13h0 N) k13b0 k13m0 k13w0 n σ K) K x)) N x K)
def k13G [Alg] (N:Nat) (in0:Int->Int->(List (Int×(Int×(Int×(Int×Int)))))->Int->Int->Bool->YF1->(Int->Int->Bool->YF1->O)->O) (way0:Int) (kind1:Int) (options2:Int) (l3:(List (Int×(Int×(Int×(Int×Int)))))):O:=
 ck true <|
 br (decide ((0:Int)=way0))
  (ck (false||w16p N kind1 options2) <|
  br (false||!w16y0 N kind1 options2)
   (some (k13r0 [] ((1:Int))))
   (none))
  (br (decide ((1:Int)=way0))
   (ck (false||w16p N kind1 options2) <|
   br (false||!w16y0 N kind1 options2)
    (some (k13r0 [] ((1:Int))))
    (none))
   (br (decide ((2:Int)=way0))
    (ck (false||w16p N kind1 options2) <|
    br (false||!w16y0 N kind1 options2)
     (some (k13r0 [] ((1:Int))))
     (none))
    (br (decide ((3:Int)=way0))
     (ck (false||w16p N kind1 options2) <|
     br (false||!w16y0 N kind1 options2)
      (some (k13r0 [] ((1:Int))))
      (ck (w36p N) <|
      in0 kind1 options2 l3 ((↑l3.length:Int)) ((0:Int)) (w36y0 N) []
       (fun z4 z5 z6 z7=>
        ck (k91p N z6 z7) <|
        ck (!decide (k91y1 N z6 z7=(0:Int))||w8p N z4 z5 (k91y0 N z6 z7)) <|
        br (decide (k91y1 N z6 z7=(0:Int))&&!w8y0 N z4 z5 (k91y0 N z6 z7))
         (br true
          (some (k13r0 [] ((2:Int))))
          (some (k13r0 (k91y0 N z6 z7) ((0:Int)))))
         (br (decide (k91y1 N z6 z7≠(0:Int)))
          (some (k13r0 [] (k91y1 N z6 z7)))
          (some (k13r0 (k91y0 N z6 z7) ((0:Int))))))))
     (ck (true||w16p N kind1 options2) <|
     br (true||!w16y0 N kind1 options2)
      (some (k13r0 [] ((1:Int))))
      (none)))))
def k13 [Alg] (N:Nat) (way0:Int) (kind1:Int) (options2:Int) (l3:(List (Int×(Int×(Int×(Int×Int)))))):O:=k13G N (k13n0 N) way0 kind1 options2 l3
def k13h [Alg] (N:Nat):Hint:=(.seq .d (.seq .d (.seq .d (.seq .d (.seq (.seq (.reg [] [.nilC 12 0 (.row 5 .u8 [] false)] []) (.block (.sub k13m0 _ _ _ k13X0_0 (noX 1) (noX 2) (subL k13I0 k13u0 (k13l0 N N))))) .d)))))
theorem k13hk (N:Nat) (hc:CxOk (k13c N)):HintOk (k13c N) Tryd.f13.ntmps (k13h N) k13b:=hk_of _ _ (And.intro trivial (And.intro trivial (And.intro trivial (And.intro trivial (And.intro (And.intro trivial (k13S0 N hc)) trivial)))))
theorem k13q [Alg] (N:Nat) (way0:Int) (kind1:Int) (options2:Int) (l3:(List (Int×(Int×(Int×(Int×Int)))))):k13G N (k13s0 N) way0 kind1 options2 l3=exec (k13c N) Tryd.f13.ntmps (k13h N) k13b ⟨argT 0 [.e (.i .i64) way0,.e (.i .i64) kind1,.e (.i .i64) options2,.e (.sl (.pr (.i .i64) (.pr (.i .i64) (.pr (.i .i64) (.pr (.i .i64) (.i .i64)))))) l3],[],100⟩ (finX (k13c N) Tryd.f13 false):=by kernel_rfl
theorem k13does {N:Nat} (hc:CxOk (k13c N)) {way0:Int} {kind1:Int} {options2:Int} {l3:(List (Int×(Int×(Int×(Int×Int)))))} {r:Res} (h:k13 N way0 kind1 options2 l3=some r):DoesR Tryd.prog 13 (([.e (.i .i64) way0,.e (.i .i64) kind1,.e (.i .i64) options2,.e (.sl (.pr (.i .i64) (.pr (.i .i64) (.pr (.i .i64) (.pr (.i .i64) (.i .i64)))))) l3]:List X).map X.D) (HA []) r:=
 fun_ok hc (f:=13) (fn:=Tryd.f13) (code:=k13b) (by kernel_rfl) (by kernel_rfl) (k13hk N hc) (Nat.le_of_ble_eq_true (by kernel_rfl)) (ow:=false) ((k13q N way0 kind1 options2 l3).symm.trans (by rw [k13e0 N];exact h))
def k13un (r:Res):Option (YF1×Int):=match r with
 | (.tup [x0,x1],[])=>(match ue .tx x0,ue (.i .i64) x1 with | some a0,some a1=>some (a0,a1) | _,_=>none)
 | _=>none
theorem k13uo {r:Res} {d:YF1×Int} (h:k13un r=some d):r=k13r0 (d.1) (d.2):=by
 unfold k13un at h;split at h
 ·split at h
  ·rename_i h0 h1;cases h;rw [ue_some h0,ue_some h1];rfl
  ·cases h
 ·cases h
def k13z (N:Nat) (way0:Int) (kind1:Int) (options2:Int) (l3:(List (Int×(Int×(Int×(Int×Int)))))):Option (YF1×Int):=(k13 N way0 kind1 options2 l3).bind k13un
theorem k13fin {N:Nat} (hc:CxOk (k13c N)) {way0:Int} {kind1:Int} {options2:Int} {l3:(List (Int×(Int×(Int×(Int×Int)))))} {d:YF1×Int} (hd:k13z N way0 kind1 options2 l3=some d):Does Tryd.prog 13 (([.e (.i .i64) way0,.e (.i .i64) kind1,.e (.i .i64) options2,.e (.sl (.pr (.i .i64) (.pr (.i .i64) (.pr (.i .i64) (.pr (.i .i64) (.i .i64)))))) l3]:List X).map X.D) (HA []) (k13r0 (d.1) (d.2)).1.D (HA (k13r0 (d.1) (d.2)).2):=by
 obtain ⟨r,hr,hu⟩:=Option.bind_eq_some_iff.1 hd;have:=k13does hc hr;rw [k13uo hu] at this;exact this
end
end Go.Proofs
