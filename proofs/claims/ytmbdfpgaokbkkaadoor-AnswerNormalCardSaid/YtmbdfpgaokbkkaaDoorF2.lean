/- What functions do: the reference. Conditions are in the theorems. -/
import Derived.Test.YtmbdfpgaokbkkaaDoorE7
import Derived.Test.YtmbdfpgaokbkkaaDoorProg
import Derived.KernelRfl
import Derived.Test.YtmbdfpgaokbkkaaDoorF1
/- What functions do. -/
namespace Go.Proofs
noncomputable section
open Go.Ax Go.Ax.Alg Go.RowKit Go.Ab
abbrev YF2:=List UInt8
open Go
def w47r0 (a0:YF2) (a1:Bool) (a2:Int) (a3:Int) (a4:Int):Res:=(.agg [.e .tx a0,.e .bo a1,.e (.i .i64) a2,.e (.i .i64) a3,.e (.i .i64) a4],[])
def w47L (_:Nat):List (Nat×Ent'):=[]
def w47c (N:Nat):Cx:=⟨Tryd.prog,99999,w47L N,[]⟩
def w47b:Code:=Tryd.f47.body.getD .skip
theorem w47cx (N:Nat):CxOk (w47c N):=ctx_ok (by kernel_rfl) .nil .nil
def w47G [Alg] (_:Nat)  (s0_0:YF2) (s0_1:Bool) (s0_2:Int) (s0_3:Int) (s0_4:Int) (c1:Int):O:=
 br (decide ((↑s0_0.length:Int) < (40:Int))&&decide ((32:Int)<=c1)&&decide (c1<=(126:Int)))
  (ck (decide ((↑s0_0.length:Int)+(↑[u8of c1].length:Int)<=(9223372036854775807:Int))) <|
  some (w47r0 (s0_0++[u8of c1]) s0_1 s0_2 s0_3 s0_4))
  (some (w47r0 s0_0 s0_1 s0_2 s0_3 s0_4))
def w47 [Alg] (N:Nat) (s0_0:YF2) (s0_1:Bool) (s0_2:Int) (s0_3:Int) (s0_4:Int) (c1:Int):O:=w47G N  s0_0 s0_1 s0_2 s0_3 s0_4 c1
def w47h [Alg] (_:Nat):Hint:=.d
theorem w47hk (N:Nat):HintOk (w47c N) Tryd.f47.ntmps (w47h N) w47b:=hk_of _ _ trivial
theorem w47q [Alg] (N:Nat) (s0_0:YF2) (s0_1:Bool) (s0_2:Int) (s0_3:Int) (s0_4:Int) (c1:Int):w47G N  s0_0 s0_1 s0_2 s0_3 s0_4 c1=exec (w47c N) Tryd.f47.ntmps (w47h N) w47b ⟨argT 0 [.agg [.e .tx s0_0,.e .bo s0_1,.e (.i .i64) s0_2,.e (.i .i64) s0_3,.e (.i .i64) s0_4],.e (.i .i64) c1],[],100⟩ (finX (w47c N) Tryd.f47 false):=by kernel_rfl
theorem w47does {N:Nat} (hc:CxOk (w47c N)) {s0_0:YF2} {s0_1:Bool} {s0_2:Int} {s0_3:Int} {s0_4:Int} {c1:Int} {r:Res} (h:w47 N s0_0 s0_1 s0_2 s0_3 s0_4 c1=some r):DoesR Tryd.prog 47 (([.agg [.e .tx s0_0,.e .bo s0_1,.e (.i .i64) s0_2,.e (.i .i64) s0_3,.e (.i .i64) s0_4],.e (.i .i64) c1]:List X).map X.D) (HA []) r:=
 fun_ok hc (f:=47) (fn:=Tryd.f47) (code:=w47b) (by kernel_rfl) (by kernel_rfl) (w47hk N) (Nat.le_of_ble_eq_true (by kernel_rfl)) (ow:=false) ((w47q N s0_0 s0_1 s0_2 s0_3 s0_4 c1).symm.trans (by exact h))
def w47un (r:Res):Option (YF2×Bool×Int×Int×Int):=match r with
 | (.agg [x0,x1,x2,x3,x4],[])=>(match ue .tx x0,ue .bo x1,ue (.i .i64) x2,ue (.i .i64) x3,ue (.i .i64) x4 with | some a0,some a1,some a2,some a3,some a4=>some (a0,a1,a2,a3,a4) | _,_,_,_,_=>none)
 | _=>none
theorem w47uo {r:Res} {d:YF2×Bool×Int×Int×Int} (h:w47un r=some d):r=w47r0 (d.1) (d.2.1) (d.2.2.1) (d.2.2.2.1) (d.2.2.2.2):=by
 unfold w47un at h;split at h
 ·split at h
  ·rename_i h0 h1 h2 h3 h4;cases h;rw [ue_some h0,ue_some h1,ue_some h2,ue_some h3,ue_some h4];rfl
  ·cases h
 ·cases h
def w47z (N:Nat) (s0_0:YF2) (s0_1:Bool) (s0_2:Int) (s0_3:Int) (s0_4:Int) (c1:Int):Option (YF2×Bool×Int×Int×Int):=(w47 N s0_0 s0_1 s0_2 s0_3 s0_4 c1).bind w47un
theorem w47fin {N:Nat} (hc:CxOk (w47c N)) {s0_0:YF2} {s0_1:Bool} {s0_2:Int} {s0_3:Int} {s0_4:Int} {c1:Int} {d:YF2×Bool×Int×Int×Int} (hd:w47z N s0_0 s0_1 s0_2 s0_3 s0_4 c1=some d):Does Tryd.prog 47 (([.agg [.e .tx s0_0,.e .bo s0_1,.e (.i .i64) s0_2,.e (.i .i64) s0_3,.e (.i .i64) s0_4],.e (.i .i64) c1]:List X).map X.D) (HA []) (w47r0 (d.1) (d.2.1) (d.2.2.1) (d.2.2.2.1) (d.2.2.2.2)).1.D (HA (w47r0 (d.1) (d.2.1) (d.2.2.1) (d.2.2.2.1) (d.2.2.2.2)).2):=by
 obtain ⟨r,hr,hu⟩:=Option.bind_eq_some_iff.1 hd;have:=w47does hc hr;rw [w47uo hu] at this;exact this
def w47p (N:Nat) (s0_0:YF2) (s0_1:Bool) (s0_2:Int) (s0_3:Int) (s0_4:Int) (c1:Int):Bool:=(w47z N s0_0 s0_1 s0_2 s0_3 s0_4 c1).isSome
def w47y0 (N:Nat) (s0_0:YF2) (s0_1:Bool) (s0_2:Int) (s0_3:Int) (s0_4:Int) (c1:Int):YF2:=((w47z N s0_0 s0_1 s0_2 s0_3 s0_4 c1).getD ([],false,0,0,0)).1
def w47y1 (N:Nat) (s0_0:YF2) (s0_1:Bool) (s0_2:Int) (s0_3:Int) (s0_4:Int) (c1:Int):Bool:=((w47z N s0_0 s0_1 s0_2 s0_3 s0_4 c1).getD ([],false,0,0,0)).2.1
def w47y2 (N:Nat) (s0_0:YF2) (s0_1:Bool) (s0_2:Int) (s0_3:Int) (s0_4:Int) (c1:Int):Int:=((w47z N s0_0 s0_1 s0_2 s0_3 s0_4 c1).getD ([],false,0,0,0)).2.2.1
def w47y3 (N:Nat) (s0_0:YF2) (s0_1:Bool) (s0_2:Int) (s0_3:Int) (s0_4:Int) (c1:Int):Int:=((w47z N s0_0 s0_1 s0_2 s0_3 s0_4 c1).getD ([],false,0,0,0)).2.2.2.1
def w47y4 (N:Nat) (s0_0:YF2) (s0_1:Bool) (s0_2:Int) (s0_3:Int) (s0_4:Int) (c1:Int):Int:=((w47z N s0_0 s0_1 s0_2 s0_3 s0_4 c1).getD ([],false,0,0,0)).2.2.2.2
def w47e (N:Nat):Ent':=E2 (.pr .tx (.pr .bo (.pr (.i .i64) (.pr (.i .i64) (.i .i64))))) (.i .i64)  (fun x0 x1=>(w47p N x0.1 x0.2.1 x0.2.2.1 x0.2.2.2.1 x0.2.2.2.2 x1,w47r0 (w47y0 N x0.1 x0.2.1 x0.2.2.1 x0.2.2.2.1 x0.2.2.2.2 x1) (w47y1 N x0.1 x0.2.1 x0.2.2.1 x0.2.2.2.1 x0.2.2.2.2 x1) (w47y2 N x0.1 x0.2.1 x0.2.2.1 x0.2.2.2.1 x0.2.2.2.2 x1) (w47y3 N x0.1 x0.2.1 x0.2.2.1 x0.2.2.2.1 x0.2.2.2.2 x1) (w47y4 N x0.1 x0.2.1 x0.2.2.1 x0.2.2.2.1 x0.2.2.2.2 x1)))
theorem w47re {N:Nat} {s0_0:YF2} {s0_1:Bool} {s0_2:Int} {s0_3:Int} {s0_4:Int} {c1:Int} {d:YF2×Bool×Int×Int×Int} (hd:w47z N s0_0 s0_1 s0_2 s0_3 s0_4 c1=some d):w47r0 (w47y0 N s0_0 s0_1 s0_2 s0_3 s0_4 c1) (w47y1 N s0_0 s0_1 s0_2 s0_3 s0_4 c1) (w47y2 N s0_0 s0_1 s0_2 s0_3 s0_4 c1) (w47y3 N s0_0 s0_1 s0_2 s0_3 s0_4 c1) (w47y4 N s0_0 s0_1 s0_2 s0_3 s0_4 c1)=w47r0 (d.1) (d.2.1) (d.2.2.1) (d.2.2.2.1) (d.2.2.2.2):=by unfold w47y0 w47y1 w47y2 w47y3 w47y4;rw [hd];rfl
theorem w47ok (N:Nat):EOk Tryd.prog 47 (w47e N):=EOk.e2 (fun x0 x1 h=>by
 have h:(w47z N x0.1 x0.2.1 x0.2.2.1 x0.2.2.2.1 x0.2.2.2.2 x1).isSome=true:=h;obtain ⟨d,hd⟩:=Option.isSome_iff_exists.1 h;have f:=w47fin (w47cx N) hd;rw [← w47re hd] at f;exact f)
def w48r0 (a0:YF2) (a1:Bool) (a2:Int) (a3:Int) (a4:Int):Res:=(.agg [.e .tx a0,.e .bo a1,.e (.i .i64) a2,.e (.i .i64) a3,.e (.i .i64) a4],[])
def w48L (_:Nat):List (Nat×Ent'):=[]
def w48c (N:Nat):Cx:=⟨Tryd.prog,99999,w48L N,[]⟩
def w48b:Code:=Tryd.f48.body.getD .skip
theorem w48cx (N:Nat):CxOk (w48c N):=ctx_ok (by kernel_rfl) .nil .nil
def w48G [Alg] (_:Nat)  (s0_0:YF2) (s0_1:Bool) (s0_2:Int) (s0_3:Int) (s0_4:Int):O:=
 ck (slcOk s0_0.length none (some (max (0:Int) (IntKind.i64.wrap ((↑s0_0.length:Int) - (1:Int)))))) <|
 some (w48r0 (slc s0_0 none (some (max (0:Int) (IntKind.i64.wrap ((↑s0_0.length:Int) - (1:Int)))))) s0_1 s0_2 s0_3 s0_4)
def w48 [Alg] (N:Nat) (s0_0:YF2) (s0_1:Bool) (s0_2:Int) (s0_3:Int) (s0_4:Int):O:=w48G N  s0_0 s0_1 s0_2 s0_3 s0_4
def w48h [Alg] (_:Nat):Hint:=.d
theorem w48hk (N:Nat):HintOk (w48c N) Tryd.f48.ntmps (w48h N) w48b:=hk_of _ _ trivial
theorem w48q [Alg] (N:Nat) (s0_0:YF2) (s0_1:Bool) (s0_2:Int) (s0_3:Int) (s0_4:Int):w48G N  s0_0 s0_1 s0_2 s0_3 s0_4=exec (w48c N) Tryd.f48.ntmps (w48h N) w48b ⟨argT 0 [.agg [.e .tx s0_0,.e .bo s0_1,.e (.i .i64) s0_2,.e (.i .i64) s0_3,.e (.i .i64) s0_4]],[],100⟩ (finX (w48c N) Tryd.f48 false):=by kernel_rfl
theorem w48does {N:Nat} (hc:CxOk (w48c N)) {s0_0:YF2} {s0_1:Bool} {s0_2:Int} {s0_3:Int} {s0_4:Int} {r:Res} (h:w48 N s0_0 s0_1 s0_2 s0_3 s0_4=some r):DoesR Tryd.prog 48 (([.agg [.e .tx s0_0,.e .bo s0_1,.e (.i .i64) s0_2,.e (.i .i64) s0_3,.e (.i .i64) s0_4]]:List X).map X.D) (HA []) r:=
 fun_ok hc (f:=48) (fn:=Tryd.f48) (code:=w48b) (by kernel_rfl) (by kernel_rfl) (w48hk N) (Nat.le_of_ble_eq_true (by kernel_rfl)) (ow:=false) ((w48q N s0_0 s0_1 s0_2 s0_3 s0_4).symm.trans (by exact h))
def w48un (r:Res):Option (YF2×Bool×Int×Int×Int):=match r with
 | (.agg [x0,x1,x2,x3,x4],[])=>(match ue .tx x0,ue .bo x1,ue (.i .i64) x2,ue (.i .i64) x3,ue (.i .i64) x4 with | some a0,some a1,some a2,some a3,some a4=>some (a0,a1,a2,a3,a4) | _,_,_,_,_=>none)
 | _=>none
theorem w48uo {r:Res} {d:YF2×Bool×Int×Int×Int} (h:w48un r=some d):r=w48r0 (d.1) (d.2.1) (d.2.2.1) (d.2.2.2.1) (d.2.2.2.2):=by
 unfold w48un at h;split at h
 ·split at h
  ·rename_i h0 h1 h2 h3 h4;cases h;rw [ue_some h0,ue_some h1,ue_some h2,ue_some h3,ue_some h4];rfl
  ·cases h
 ·cases h
def w48z (N:Nat) (s0_0:YF2) (s0_1:Bool) (s0_2:Int) (s0_3:Int) (s0_4:Int):Option (YF2×Bool×Int×Int×Int):=(w48 N s0_0 s0_1 s0_2 s0_3 s0_4).bind w48un
theorem w48fin {N:Nat} (hc:CxOk (w48c N)) {s0_0:YF2} {s0_1:Bool} {s0_2:Int} {s0_3:Int} {s0_4:Int} {d:YF2×Bool×Int×Int×Int} (hd:w48z N s0_0 s0_1 s0_2 s0_3 s0_4=some d):Does Tryd.prog 48 (([.agg [.e .tx s0_0,.e .bo s0_1,.e (.i .i64) s0_2,.e (.i .i64) s0_3,.e (.i .i64) s0_4]]:List X).map X.D) (HA []) (w48r0 (d.1) (d.2.1) (d.2.2.1) (d.2.2.2.1) (d.2.2.2.2)).1.D (HA (w48r0 (d.1) (d.2.1) (d.2.2.1) (d.2.2.2.1) (d.2.2.2.2)).2):=by
 obtain ⟨r,hr,hu⟩:=Option.bind_eq_some_iff.1 hd;have:=w48does hc hr;rw [w48uo hu] at this;exact this
def w48p (N:Nat) (s0_0:YF2) (s0_1:Bool) (s0_2:Int) (s0_3:Int) (s0_4:Int):Bool:=(w48z N s0_0 s0_1 s0_2 s0_3 s0_4).isSome
def w48y0 (N:Nat) (s0_0:YF2) (s0_1:Bool) (s0_2:Int) (s0_3:Int) (s0_4:Int):YF2:=((w48z N s0_0 s0_1 s0_2 s0_3 s0_4).getD ([],false,0,0,0)).1
def w48y1 (N:Nat) (s0_0:YF2) (s0_1:Bool) (s0_2:Int) (s0_3:Int) (s0_4:Int):Bool:=((w48z N s0_0 s0_1 s0_2 s0_3 s0_4).getD ([],false,0,0,0)).2.1
def w48y2 (N:Nat) (s0_0:YF2) (s0_1:Bool) (s0_2:Int) (s0_3:Int) (s0_4:Int):Int:=((w48z N s0_0 s0_1 s0_2 s0_3 s0_4).getD ([],false,0,0,0)).2.2.1
def w48y3 (N:Nat) (s0_0:YF2) (s0_1:Bool) (s0_2:Int) (s0_3:Int) (s0_4:Int):Int:=((w48z N s0_0 s0_1 s0_2 s0_3 s0_4).getD ([],false,0,0,0)).2.2.2.1
def w48y4 (N:Nat) (s0_0:YF2) (s0_1:Bool) (s0_2:Int) (s0_3:Int) (s0_4:Int):Int:=((w48z N s0_0 s0_1 s0_2 s0_3 s0_4).getD ([],false,0,0,0)).2.2.2.2
def w48e (N:Nat):Ent':=E1 (.pr .tx (.pr .bo (.pr (.i .i64) (.pr (.i .i64) (.i .i64)))))  (fun x0=>(w48p N x0.1 x0.2.1 x0.2.2.1 x0.2.2.2.1 x0.2.2.2.2,w48r0 (w48y0 N x0.1 x0.2.1 x0.2.2.1 x0.2.2.2.1 x0.2.2.2.2) (w48y1 N x0.1 x0.2.1 x0.2.2.1 x0.2.2.2.1 x0.2.2.2.2) (w48y2 N x0.1 x0.2.1 x0.2.2.1 x0.2.2.2.1 x0.2.2.2.2) (w48y3 N x0.1 x0.2.1 x0.2.2.1 x0.2.2.2.1 x0.2.2.2.2) (w48y4 N x0.1 x0.2.1 x0.2.2.1 x0.2.2.2.1 x0.2.2.2.2)))
theorem w48re {N:Nat} {s0_0:YF2} {s0_1:Bool} {s0_2:Int} {s0_3:Int} {s0_4:Int} {d:YF2×Bool×Int×Int×Int} (hd:w48z N s0_0 s0_1 s0_2 s0_3 s0_4=some d):w48r0 (w48y0 N s0_0 s0_1 s0_2 s0_3 s0_4) (w48y1 N s0_0 s0_1 s0_2 s0_3 s0_4) (w48y2 N s0_0 s0_1 s0_2 s0_3 s0_4) (w48y3 N s0_0 s0_1 s0_2 s0_3 s0_4) (w48y4 N s0_0 s0_1 s0_2 s0_3 s0_4)=w48r0 (d.1) (d.2.1) (d.2.2.1) (d.2.2.2.1) (d.2.2.2.2):=by unfold w48y0 w48y1 w48y2 w48y3 w48y4;rw [hd];rfl
theorem w48ok (N:Nat):EOk Tryd.prog 48 (w48e N):=EOk.e1 (fun x0 h=>by
 have h:(w48z N x0.1 x0.2.1 x0.2.2.1 x0.2.2.2.1 x0.2.2.2.2).isSome=true:=h;obtain ⟨d,hd⟩:=Option.isSome_iff_exists.1 h;have f:=w48fin (w48cx N) hd;rw [← w48re hd] at f;exact f)
def w46r0 (a0:YF2) (a1:Bool) (a2:Int) (a3:Int) (a4:Int):Res:=(.agg [.e .tx a0,.e .bo a1,.e (.i .i64) a2,.e (.i .i64) a3,.e (.i .i64) a4],[])
def w46L (N:Nat):List (Nat×Ent'):=[(47,w47e N),(48,w48e N)]
def w46c (N:Nat):Cx:=⟨Tryd.prog,99999,w46L N,[]⟩
def w46b:Code:=Tryd.f46.body.getD .skip
theorem w46cx (N:Nat):CxOk (w46c N):=ctx_ok (by kernel_rfl) (.cons (by kernel_rfl) (w47ok N) (.cons (by kernel_rfl) (w48ok N) .nil)) .nil
def w46G [Alg] (N:Nat)  (s0_0:YF2) (s0_1:Bool) (s0_2:Int) (s0_3:Int) (s0_4:Int) (keys1:Int):O:=
 br (decide (keys1=(512:Int)))
  (ck (w47p N s0_0 s0_1 s0_2 s0_3 s0_4 (32:Int)) <|
  some (w46r0 (w47y0 N s0_0 s0_1 s0_2 s0_3 s0_4 (32:Int)) (w47y1 N s0_0 s0_1 s0_2 s0_3 s0_4 (32:Int)) (w47y2 N s0_0 s0_1 s0_2 s0_3 s0_4 (32:Int)) (w47y3 N s0_0 s0_1 s0_2 s0_3 s0_4 (32:Int)) (w47y4 N s0_0 s0_1 s0_2 s0_3 s0_4 (32:Int))))
  (br (decide (keys1=(256:Int)))
   (ck (w48p N s0_0 s0_1 s0_2 s0_3 s0_4) <|
   some (w46r0 (w48y0 N s0_0 s0_1 s0_2 s0_3 s0_4) (w48y1 N s0_0 s0_1 s0_2 s0_3 s0_4) (w48y2 N s0_0 s0_1 s0_2 s0_3 s0_4) (w48y3 N s0_0 s0_1 s0_2 s0_3 s0_4) (w48y4 N s0_0 s0_1 s0_2 s0_3 s0_4)))
   (br (decide (keys1=(384:Int)))
    (some (w46r0 s0_0 true s0_2 s0_3 s0_4))
    (ck true <|
    br (decide (IntKind.i64.wrap (keys1.tdiv (2:Int))<=(94:Int)))
     (ck true <|
     ck (w47p N s0_0 s0_1 s0_2 s0_3 s0_4 (IntKind.i64.wrap ((32:Int)+IntKind.i64.wrap (keys1.tdiv (2:Int))))) <|
     some (w46r0 (w47y0 N s0_0 s0_1 s0_2 s0_3 s0_4 (IntKind.i64.wrap ((32:Int)+IntKind.i64.wrap (keys1.tdiv (2:Int))))) (w47y1 N s0_0 s0_1 s0_2 s0_3 s0_4 (IntKind.i64.wrap ((32:Int)+IntKind.i64.wrap (keys1.tdiv (2:Int))))) (w47y2 N s0_0 s0_1 s0_2 s0_3 s0_4 (IntKind.i64.wrap ((32:Int)+IntKind.i64.wrap (keys1.tdiv (2:Int))))) (w47y3 N s0_0 s0_1 s0_2 s0_3 s0_4 (IntKind.i64.wrap ((32:Int)+IntKind.i64.wrap (keys1.tdiv (2:Int))))) (w47y4 N s0_0 s0_1 s0_2 s0_3 s0_4 (IntKind.i64.wrap ((32:Int)+IntKind.i64.wrap (keys1.tdiv (2:Int)))))))
     (some (w46r0 s0_0 s0_1 s0_2 s0_3 s0_4)))))
def w46 [Alg] (N:Nat) (s0_0:YF2) (s0_1:Bool) (s0_2:Int) (s0_3:Int) (s0_4:Int) (keys1:Int):O:=w46G N  s0_0 s0_1 s0_2 s0_3 s0_4 keys1
def w46h [Alg] (_:Nat):Hint:=.d
theorem w46hk (N:Nat):HintOk (w46c N) Tryd.f46.ntmps (w46h N) w46b:=hk_of _ _ trivial
theorem w46q [Alg] (N:Nat) (s0_0:YF2) (s0_1:Bool) (s0_2:Int) (s0_3:Int) (s0_4:Int) (keys1:Int):w46G N  s0_0 s0_1 s0_2 s0_3 s0_4 keys1=exec (w46c N) Tryd.f46.ntmps (w46h N) w46b ⟨argT 0 [.agg [.e .tx s0_0,.e .bo s0_1,.e (.i .i64) s0_2,.e (.i .i64) s0_3,.e (.i .i64) s0_4],.e (.i .i64) keys1],[],100⟩ (finX (w46c N) Tryd.f46 false):=by kernel_rfl
theorem w46does {N:Nat} (hc:CxOk (w46c N)) {s0_0:YF2} {s0_1:Bool} {s0_2:Int} {s0_3:Int} {s0_4:Int} {keys1:Int} {r:Res} (h:w46 N s0_0 s0_1 s0_2 s0_3 s0_4 keys1=some r):DoesR Tryd.prog 46 (([.agg [.e .tx s0_0,.e .bo s0_1,.e (.i .i64) s0_2,.e (.i .i64) s0_3,.e (.i .i64) s0_4],.e (.i .i64) keys1]:List X).map X.D) (HA []) r:=
 fun_ok hc (f:=46) (fn:=Tryd.f46) (code:=w46b) (by kernel_rfl) (by kernel_rfl) (w46hk N) (Nat.le_of_ble_eq_true (by kernel_rfl)) (ow:=false) ((w46q N s0_0 s0_1 s0_2 s0_3 s0_4 keys1).symm.trans (by exact h))
def w46un (r:Res):Option (YF2×Bool×Int×Int×Int):=match r with
 | (.agg [x0,x1,x2,x3,x4],[])=>(match ue .tx x0,ue .bo x1,ue (.i .i64) x2,ue (.i .i64) x3,ue (.i .i64) x4 with | some a0,some a1,some a2,some a3,some a4=>some (a0,a1,a2,a3,a4) | _,_,_,_,_=>none)
 | _=>none
theorem w46uo {r:Res} {d:YF2×Bool×Int×Int×Int} (h:w46un r=some d):r=w46r0 (d.1) (d.2.1) (d.2.2.1) (d.2.2.2.1) (d.2.2.2.2):=by
 unfold w46un at h;split at h
 ·split at h
  ·rename_i h0 h1 h2 h3 h4;cases h;rw [ue_some h0,ue_some h1,ue_some h2,ue_some h3,ue_some h4];rfl
  ·cases h
 ·cases h
def w46z (N:Nat) (s0_0:YF2) (s0_1:Bool) (s0_2:Int) (s0_3:Int) (s0_4:Int) (keys1:Int):Option (YF2×Bool×Int×Int×Int):=(w46 N s0_0 s0_1 s0_2 s0_3 s0_4 keys1).bind w46un
theorem w46fin {N:Nat} (hc:CxOk (w46c N)) {s0_0:YF2} {s0_1:Bool} {s0_2:Int} {s0_3:Int} {s0_4:Int} {keys1:Int} {d:YF2×Bool×Int×Int×Int} (hd:w46z N s0_0 s0_1 s0_2 s0_3 s0_4 keys1=some d):Does Tryd.prog 46 (([.agg [.e .tx s0_0,.e .bo s0_1,.e (.i .i64) s0_2,.e (.i .i64) s0_3,.e (.i .i64) s0_4],.e (.i .i64) keys1]:List X).map X.D) (HA []) (w46r0 (d.1) (d.2.1) (d.2.2.1) (d.2.2.2.1) (d.2.2.2.2)).1.D (HA (w46r0 (d.1) (d.2.1) (d.2.2.1) (d.2.2.2.1) (d.2.2.2.2)).2):=by
 obtain ⟨r,hr,hu⟩:=Option.bind_eq_some_iff.1 hd;have:=w46does hc hr;rw [w46uo hu] at this;exact this
def w46p (N:Nat) (s0_0:YF2) (s0_1:Bool) (s0_2:Int) (s0_3:Int) (s0_4:Int) (keys1:Int):Bool:=(w46z N s0_0 s0_1 s0_2 s0_3 s0_4 keys1).isSome
def w46y0 (N:Nat) (s0_0:YF2) (s0_1:Bool) (s0_2:Int) (s0_3:Int) (s0_4:Int) (keys1:Int):YF2:=((w46z N s0_0 s0_1 s0_2 s0_3 s0_4 keys1).getD ([],false,0,0,0)).1
def w46y1 (N:Nat) (s0_0:YF2) (s0_1:Bool) (s0_2:Int) (s0_3:Int) (s0_4:Int) (keys1:Int):Bool:=((w46z N s0_0 s0_1 s0_2 s0_3 s0_4 keys1).getD ([],false,0,0,0)).2.1
def w46y2 (N:Nat) (s0_0:YF2) (s0_1:Bool) (s0_2:Int) (s0_3:Int) (s0_4:Int) (keys1:Int):Int:=((w46z N s0_0 s0_1 s0_2 s0_3 s0_4 keys1).getD ([],false,0,0,0)).2.2.1
def w46y3 (N:Nat) (s0_0:YF2) (s0_1:Bool) (s0_2:Int) (s0_3:Int) (s0_4:Int) (keys1:Int):Int:=((w46z N s0_0 s0_1 s0_2 s0_3 s0_4 keys1).getD ([],false,0,0,0)).2.2.2.1
def w46y4 (N:Nat) (s0_0:YF2) (s0_1:Bool) (s0_2:Int) (s0_3:Int) (s0_4:Int) (keys1:Int):Int:=((w46z N s0_0 s0_1 s0_2 s0_3 s0_4 keys1).getD ([],false,0,0,0)).2.2.2.2
def w46e (N:Nat):Ent':=E2 (.pr .tx (.pr .bo (.pr (.i .i64) (.pr (.i .i64) (.i .i64))))) (.i .i64)  (fun x0 x1=>(w46p N x0.1 x0.2.1 x0.2.2.1 x0.2.2.2.1 x0.2.2.2.2 x1,w46r0 (w46y0 N x0.1 x0.2.1 x0.2.2.1 x0.2.2.2.1 x0.2.2.2.2 x1) (w46y1 N x0.1 x0.2.1 x0.2.2.1 x0.2.2.2.1 x0.2.2.2.2 x1) (w46y2 N x0.1 x0.2.1 x0.2.2.1 x0.2.2.2.1 x0.2.2.2.2 x1) (w46y3 N x0.1 x0.2.1 x0.2.2.1 x0.2.2.2.1 x0.2.2.2.2 x1) (w46y4 N x0.1 x0.2.1 x0.2.2.1 x0.2.2.2.1 x0.2.2.2.2 x1)))
theorem w46re {N:Nat} {s0_0:YF2} {s0_1:Bool} {s0_2:Int} {s0_3:Int} {s0_4:Int} {keys1:Int} {d:YF2×Bool×Int×Int×Int} (hd:w46z N s0_0 s0_1 s0_2 s0_3 s0_4 keys1=some d):w46r0 (w46y0 N s0_0 s0_1 s0_2 s0_3 s0_4 keys1) (w46y1 N s0_0 s0_1 s0_2 s0_3 s0_4 keys1) (w46y2 N s0_0 s0_1 s0_2 s0_3 s0_4 keys1) (w46y3 N s0_0 s0_1 s0_2 s0_3 s0_4 keys1) (w46y4 N s0_0 s0_1 s0_2 s0_3 s0_4 keys1)=w46r0 (d.1) (d.2.1) (d.2.2.1) (d.2.2.2.1) (d.2.2.2.2):=by unfold w46y0 w46y1 w46y2 w46y3 w46y4;rw [hd];rfl
theorem w46ok (N:Nat):EOk Tryd.prog 46 (w46e N):=EOk.e2 (fun x0 x1 h=>by
 have h:(w46z N x0.1 x0.2.1 x0.2.2.1 x0.2.2.2.1 x0.2.2.2.2 x1).isSome=true:=h;obtain ⟨d,hd⟩:=Option.isSome_iff_exists.1 h;have f:=w46fin (w46cx N) hd;rw [← w46re hd] at f;exact f)
def w37r0 (a0:YF2) (a1:Bool) (a2:Int) (a3:Int) (a4:Int):Res:=(.agg [.e .tx a0,.e .bo a1,.e (.i .i64) a2,.e (.i .i64) a3,.e (.i .i64) a4],[])
def w37L (N:Nat):List (Nat×Ent'):=[(46,w46e N)]
def w37c (N:Nat):Cx:=⟨Tryd.prog,99999,w37L N,[]⟩
def w37b:Code:=Tryd.f37.body.getD .skip
theorem w37cx (N:Nat):CxOk (w37c N):=ctx_ok (by kernel_rfl) (.cons (by kernel_rfl) (w46ok N) .nil) .nil
def w37F0 [Alg] (_:Nat)   (k0:Int->Bool->YF2->Bool->Int->Int->Int->Int->Int->Int->Int->Int->YF2->Bool->Int->Int->Int->O) (x0_0:Int) (x0_1:Bool) (x0_2:YF2) (x0_3:Bool) (x0_4:Int) (x0_5:Int) (x0_6:Int) (x0_7:Int) (x0_8:Int) (x0_9:Int) (x0_10:Int) (x0_11:Int) (x0_12:YF2) (x0_13:Bool) (x0_14:Int) (x0_15:Int) (x0_16:Int):O:=
 br (decide (x0_11=(1:Int))&&!x0_1)
  (ck (decide (x0_0≠(0:Int))) <|
  ck true <|
  br (decide ((IntKind.i64.wrap (x0_5.tdiv x0_0)).tmod (2:Int)=(0:Int)))
   (k0 x0_0 x0_1 x0_2 x0_3 (IntKind.i64.wrap (x0_4+x0_0)) (IntKind.i64.wrap (x0_5+x0_0)) x0_6 x0_7 x0_8 x0_9 x0_10 x0_11 x0_12 x0_13 x0_14 x0_15 x0_16)
   (k0 x0_0 x0_1 x0_2 x0_3 (IntKind.i64.wrap (x0_4+x0_0)) x0_5 x0_6 x0_7 x0_8 x0_9 x0_10 x0_11 x0_12 x0_13 x0_14 x0_15 x0_16))
  (k0 x0_0 x0_1 x0_2 x0_3 x0_4 x0_5 x0_6 x0_7 x0_8 x0_9 x0_10 x0_11 x0_12 x0_13 x0_14 x0_15 x0_16)
def w37b0:Code:=atC [1,1,1,1,0] w37b
def w37m0:Nm:=⟨[2,3,4,5,6],[],[]⟩
def w37I0 (x:Int×Bool×YF2×Bool×Int×Int×Int×Int×Int×Int×Int×Int×YF2×Bool×Int×Int×Int):Sg:=⟨[(2,.ref 0 0),(3,.ref 1 0),(4,.ref 2 0),(5,.e (.i .i64) x.1),(6,.e .bo x.2.1)],[(0,.box 69 [.e .tx x.2.2.1,.e .bo x.2.2.2.1,.e (.i .i64) x.2.2.2.2.1,.e (.i .i64) x.2.2.2.2.2.1,.e (.i .i64) x.2.2.2.2.2.2.1]),(1,.box 41 [.e (.i .i64) x.2.2.2.2.2.2.2.1,.e (.i .i64) x.2.2.2.2.2.2.2.2.1,.e (.i .i64) x.2.2.2.2.2.2.2.2.2.1,.e (.i .i64) x.2.2.2.2.2.2.2.2.2.2.1,.e (.i .i64) x.2.2.2.2.2.2.2.2.2.2.2.1]),(2,.box 69 [.e .tx x.2.2.2.2.2.2.2.2.2.2.2.2.1,.e .bo x.2.2.2.2.2.2.2.2.2.2.2.2.2.1,.e (.i .i64) x.2.2.2.2.2.2.2.2.2.2.2.2.2.2.1,.e (.i .i64) x.2.2.2.2.2.2.2.2.2.2.2.2.2.2.2.1,.e (.i .i64) x.2.2.2.2.2.2.2.2.2.2.2.2.2.2.2.2])],100⟩
def w37u0 (σ:Sg):Int×Bool×YF2×Bool×Int×Int×Int×Int×Int×Int×Int×Int×YF2×Bool×Int×Int×Int:=(lvT (.i .i64) 5 0 σ,lvT .bo 6 0 σ,lvH .tx 0 0 σ,lvH .bo 0 1 σ,lvH (.i .i64) 0 2 σ,lvH (.i .i64) 0 3 σ,lvH (.i .i64) 0 4 σ,lvH (.i .i64) 1 0 σ,lvH (.i .i64) 1 1 σ,lvH (.i .i64) 1 2 σ,lvH (.i .i64) 1 3 σ,lvH (.i .i64) 1 4 σ,lvH .tx 2 0 σ,lvH .bo 2 1 σ,lvH (.i .i64) 2 2 σ,lvH (.i .i64) 2 3 σ,lvH (.i .i64) 2 4 σ)
theorem w37ui0:∀ x,w37u0 (w37I0 x)=x:=fun _=>by kernel_rfl
def w37X0_0 (y:Int×Bool×YF2×Bool×Int×Int×Int×Int×Int×Int×Int×Int×YF2×Bool×Int×Int×Int):Exit×Sg:=(.normal,⟨[(2,.ref 0 0),(3,.ref 1 0),(4,.ref 2 0),(5,.e (.i .i64) y.1),(6,.e .bo y.2.1)],[(0,.box 69 [.e .tx y.2.2.1,.e .bo y.2.2.2.1,.e (.i .i64) y.2.2.2.2.1,.e (.i .i64) y.2.2.2.2.2.1,.e (.i .i64) y.2.2.2.2.2.2.1]),(1,.box 41 [.e (.i .i64) y.2.2.2.2.2.2.2.1,.e (.i .i64) y.2.2.2.2.2.2.2.2.1,.e (.i .i64) y.2.2.2.2.2.2.2.2.2.1,.e (.i .i64) y.2.2.2.2.2.2.2.2.2.2.1,.e (.i .i64) y.2.2.2.2.2.2.2.2.2.2.2.1]),(2,.box 69 [.e .tx y.2.2.2.2.2.2.2.2.2.2.2.2.1,.e .bo y.2.2.2.2.2.2.2.2.2.2.2.2.2.1,.e (.i .i64) y.2.2.2.2.2.2.2.2.2.2.2.2.2.2.1,.e (.i .i64) y.2.2.2.2.2.2.2.2.2.2.2.2.2.2.2.1,.e (.i .i64) y.2.2.2.2.2.2.2.2.2.2.2.2.2.2.2.2])],100⟩)
def w37v0_0 (_:Exit) (σ:Sg):Int×Bool×YF2×Bool×Int×Int×Int×Int×Int×Int×Int×Int×YF2×Bool×Int×Int×Int:=(lvT (.i .i64) 5 0 σ,lvT .bo 6 0 σ,lvH .tx 0 0 σ,lvH .bo 0 1 σ,lvH (.i .i64) 0 2 σ,lvH (.i .i64) 0 3 σ,lvH (.i .i64) 0 4 σ,lvH (.i .i64) 1 0 σ,lvH (.i .i64) 1 1 σ,lvH (.i .i64) 1 2 σ,lvH (.i .i64) 1 3 σ,lvH (.i .i64) 1 4 σ,lvH .tx 2 0 σ,lvH .bo 2 1 σ,lvH (.i .i64) 2 2 σ,lvH (.i .i64) 2 3 σ,lvH (.i .i64) 2 4 σ)
def w37w0:List (Exit×Nm):=[(.normal,⟨[2,3,4,5,6],[],[]⟩)]
theorem w37o0:Outs w37v0_0 (fun _ _=>()) (fun _ _=>()) w37X0_0 (noX 1) (noX 2) (exC .normal) (exC (.goto 1)) (exC (.goto 2)):=⟨fun _=>by kernel_rfl,fun _=>by kernel_rfl,fun _=>by kernel_rfl,fun _=>by kernel_rfl,fun _=>by kernel_rfl,fun _=>by kernel_rfl,exNe_ok (by kernel_rfl),exNe_ok (by kernel_rfl),exNe_ok (by kernel_rfl)⟩
def w37l0 [Alg] (N:Nat) (_:Nat) (x:Int×Bool×YF2×Bool×Int×Int×Int×Int×Int×Int×Int×Int×YF2×Bool×Int×Int×Int) (k0:(Int×Bool×YF2×Bool×Int×Int×Int×Int×Int×Int×Int×Int×YF2×Bool×Int×Int×Int)->O) (_:(Unit)->O) (_:(Unit)->O):O:=w37F0 N   (fun y0 y1 y2 y3 y4 y5 y6 y7 y8 y9 y10 y11 y12 y13 y14 y15 y16=>k0 (y0,y1,y2,y3,y4,y5,y6,y7,y8,y9,y10,y11,y12,y13,y14,y15,y16)) x.1 x.2.1 x.2.2.1 x.2.2.2.1 x.2.2.2.2.1 x.2.2.2.2.2.1 x.2.2.2.2.2.2.1 x.2.2.2.2.2.2.2.1 x.2.2.2.2.2.2.2.2.1 x.2.2.2.2.2.2.2.2.2.1 x.2.2.2.2.2.2.2.2.2.2.1 x.2.2.2.2.2.2.2.2.2.2.2.1 x.2.2.2.2.2.2.2.2.2.2.2.2.1 x.2.2.2.2.2.2.2.2.2.2.2.2.2.1 x.2.2.2.2.2.2.2.2.2.2.2.2.2.2.1 x.2.2.2.2.2.2.2.2.2.2.2.2.2.2.2.1 x.2.2.2.2.2.2.2.2.2.2.2.2.2.2.2.2
def w37n0 [Alg] (N:Nat) (a0:Int) (a1:Bool) (a2:YF2) (a3:Bool) (a4:Int) (a5:Int) (a6:Int) (a7:Int) (a8:Int) (a9:Int) (a10:Int) (a11:Int) (a12:YF2) (a13:Bool) (a14:Int) (a15:Int) (a16:Int) (k0:Int->Bool->YF2->Bool->Int->Int->Int->Int->Int->Int->Int->Int->YF2->Bool->Int->Int->Int->O):O:=w37l0 N N (a0,a1,a2,a3,a4,a5,a6,a7,a8,a9,a10,a11,a12,a13,a14,a15,a16) (fun y=>k0 y.1 y.2.1 y.2.2.1 y.2.2.2.1 y.2.2.2.2.1 y.2.2.2.2.2.1 y.2.2.2.2.2.2.1 y.2.2.2.2.2.2.2.1 y.2.2.2.2.2.2.2.2.1 y.2.2.2.2.2.2.2.2.2.1 y.2.2.2.2.2.2.2.2.2.2.1 y.2.2.2.2.2.2.2.2.2.2.2.1 y.2.2.2.2.2.2.2.2.2.2.2.2.1 y.2.2.2.2.2.2.2.2.2.2.2.2.2.1 y.2.2.2.2.2.2.2.2.2.2.2.2.2.2.1 y.2.2.2.2.2.2.2.2.2.2.2.2.2.2.2.1 y.2.2.2.2.2.2.2.2.2.2.2.2.2.2.2.2) (fun _=>none) (fun _=>none)
def w37s0 [Alg] (N:Nat) (a0:Int) (a1:Bool) (a2:YF2) (a3:Bool) (a4:Int) (a5:Int) (a6:Int) (a7:Int) (a8:Int) (a9:Int) (a10:Int) (a11:Int) (a12:YF2) (a13:Bool) (a14:Int) (a15:Int) (a16:Int) (k0:Int->Bool->YF2->Bool->Int->Int->Int->Int->Int->Int->Int->Int->YF2->Bool->Int->Int->Int->O):O:=subL w37I0 w37u0 (w37l0 N N) (w37I0 (a0,a1,a2,a3,a4,a5,a6,a7,a8,a9,a10,a11,a12,a13,a14,a15,a16)) (fun y=>k0 y.1 y.2.1 y.2.2.1 y.2.2.2.1 y.2.2.2.2.1 y.2.2.2.2.2.1 y.2.2.2.2.2.2.1 y.2.2.2.2.2.2.2.1 y.2.2.2.2.2.2.2.2.1 y.2.2.2.2.2.2.2.2.2.1 y.2.2.2.2.2.2.2.2.2.2.1 y.2.2.2.2.2.2.2.2.2.2.2.1 y.2.2.2.2.2.2.2.2.2.2.2.2.1 y.2.2.2.2.2.2.2.2.2.2.2.2.2.1 y.2.2.2.2.2.2.2.2.2.2.2.2.2.2.1 y.2.2.2.2.2.2.2.2.2.2.2.2.2.2.2.1 y.2.2.2.2.2.2.2.2.2.2.2.2.2.2.2.2) (fun _=>none) (fun _=>none)
theorem w37e0 [Alg] (N:Nat):w37s0 N=w37n0 N:=funext fun _=>funext fun _=>funext fun _=>funext fun _=>funext fun _=>funext fun _=>funext fun _=>funext fun _=>funext fun _=>funext fun _=>funext fun _=>funext fun _=>funext fun _=>funext fun _=>funext fun _=>funext fun _=>funext fun _=>funext fun _=>subL_I w37ui0 _ _ _ _
def w37h0 [Alg] (_:Nat):Hint:=.d
theorem w37hk0 (N:Nat):HintOk (w37c N) Tryd.f37.ntmps (w37h0 N) w37b0:=hk_of _ _ trivial
theorem w37q0 [Alg] (N:Nat) (K:Exit->Sg->O) (x:Int×Bool×YF2×Bool×Int×Int×Int×Int×Int×Int×Int×Int×YF2×Bool×Int×Int×Int):w37F0 N   (fun y0 y1 y2 y3 y4 y5 y6 y7 y8 y9 y10 y11 y12 y13 y14 y15 y16=>K (w37X0_0 (y0,y1,y2,y3,y4,y5,y6,y7,y8,y9,y10,y11,y12,y13,y14,y15,y16)).1 (w37X0_0 (y0,y1,y2,y3,y4,y5,y6,y7,y8,y9,y10,y11,y12,y13,y14,y15,y16)).2) x.1 x.2.1 x.2.2.1 x.2.2.2.1 x.2.2.2.2.1 x.2.2.2.2.2.1 x.2.2.2.2.2.2.1 x.2.2.2.2.2.2.2.1 x.2.2.2.2.2.2.2.2.1 x.2.2.2.2.2.2.2.2.2.1 x.2.2.2.2.2.2.2.2.2.2.1 x.2.2.2.2.2.2.2.2.2.2.2.1 x.2.2.2.2.2.2.2.2.2.2.2.2.1 x.2.2.2.2.2.2.2.2.2.2.2.2.2.1 x.2.2.2.2.2.2.2.2.2.2.2.2.2.2.1 x.2.2.2.2.2.2.2.2.2.2.2.2.2.2.2.1 x.2.2.2.2.2.2.2.2.2.2.2.2.2.2.2.2=exec (w37c N) Tryd.f37.ntmps (w37h0 N) w37b0 (w37I0 x) (partX w37w0 K):=by kernel_rfl
theorem w37S0 (N:Nat) (hc:CxOk (w37c N)):SubOk (w37c N) Tryd.f37.ntmps w37b0 w37X0_0 (noX 1) (noX 2) (subL w37I0 w37u0 (w37l0 N N)):=
 sub_part hc (w37hk0 N) w37o0 (fun x K=>by
  have h:w37F0 N   (fun y0 y1 y2 y3 y4 y5 y6 y7 y8 y9 y10 y11 y12 y13 y14 y15 y16=>K (w37X0_0 (y0,y1,y2,y3,y4,y5,y6,y7,y8,y9,y10,y11,y12,y13,y14,y15,y16)).1 (w37X0_0 (y0,y1,y2,y3,y4,y5,y6,y7,y8,y9,y10,y11,y12,y13,y14,y15,y16)).2) x.1 x.2.1 x.2.2.1 x.2.2.2.1 x.2.2.2.2.1 x.2.2.2.2.2.1 x.2.2.2.2.2.2.1 x.2.2.2.2.2.2.2.1 x.2.2.2.2.2.2.2.2.1 x.2.2.2.2.2.2.2.2.2.1 x.2.2.2.2.2.2.2.2.2.2.1 x.2.2.2.2.2.2.2.2.2.2.2.1 x.2.2.2.2.2.2.2.2.2.2.2.2.1 x.2.2.2.2.2.2.2.2.2.2.2.2.2.1 x.2.2.2.2.2.2.2.2.2.2.2.2.2.2.1 x.2.2.2.2.2.2.2.2.2.2.2.2.2.2.2.1 x.2.2.2.2.2.2.2.2.2.2.2.2.2.2.2.2=w37F0 N   (fun y0 y1 y2 y3 y4 y5 y6 y7 y8 y9 y10 y11 y12 y13 y14 y15 y16=>K (w37X0_0 (y0,y1,y2,y3,y4,y5,y6,y7,y8,y9,y10,y11,y12,y13,y14,y15,y16)).1 (w37X0_0 (y0,y1,y2,y3,y4,y5,y6,y7,y8,y9,y10,y11,y12,y13,y14,y15,y16)).2) x.1 x.2.1 x.2.2.1 x.2.2.2.1 x.2.2.2.2.1 x.2.2.2.2.2.1 x.2.2.2.2.2.2.1 x.2.2.2.2.2.2.2.1 x.2.2.2.2.2.2.2.2.1 x.2.2.2.2.2.2.2.2.2.1 x.2.2.2.2.2.2.2.2.2.2.1 x.2.2.2.2.2.2.2.2.2.2.2.1 x.2.2.2.2.2.2.2.2.2.2.2.2.1 x.2.2.2.2.2.2.2.2.2.2.2.2.2.1 x.2.2.2.2.2.2.2.2.2.2.2.2.2.2.1 x.2.2.2.2.2.2.2.2.2.2.2.2.2.2.2.1 x.2.2.2.2.2.2.2.2.2.2.2.2.2.2.2.2:=by rfl
  exact h.trans (w37q0 N K x))
def w37G [Alg] (N:Nat) (in0:Int->Bool->YF2->Bool->Int->Int->Int->Int->Int->Int->Int->Int->YF2->Bool->Int->Int->Int->(Int->Bool->YF2->Bool->Int->Int->Int->Int->Int->Int->Int->Int->YF2->Bool->Int->Int->Int->O)->O) (s0_0:YF2) (s0_1:Bool) (s0_2:Int) (s0_3:Int) (s0_4:Int) (e1_0:Int) (e1_1:Int) (e1_2:Int) (e1_3:Int) (e1_4:Int):O:=
 br (decide (e1_2≠(0:Int))||decide (e1_3 < (1:Int))||decide ((9:Int) < e1_3))
  (some (w37r0 s0_0 s0_1 s0_2 s0_3 s0_4))
  (ck (decide ((0:Int)<=IntKind.u64.wrap e1_3)) <|
  ck (decide (IntKind.i64.wrap ((1:Int) * (2:Int) ^ min (IntKind.u64.wrap e1_3).toNat (64:Nat))≠(0:Int))) <|
  ck true <|
  in0 (IntKind.i64.wrap ((1:Int) * (2:Int) ^ min (IntKind.u64.wrap e1_3).toNat (64:Nat))) (decide ((IntKind.i64.wrap (s0_2.tdiv (IntKind.i64.wrap ((1:Int) * (2:Int) ^ min (IntKind.u64.wrap e1_3).toNat (64:Nat))))).tmod (2:Int)=(1:Int))) s0_0 s0_1 s0_2 s0_3 s0_4 e1_0 e1_1 e1_2 e1_3 e1_4 [] false ((0:Int)) ((0:Int)) ((0:Int))
   (fun z1 z2 z3 z4 z5 z6 z7 _ _ _ _ z12 _ _ _ _ _=>
    br (decide (z12=(0:Int))&&z2)
     (br (decide (IntKind.i64.wrap (z5 - z1)=(0:Int)))
      (ck (w46p N z3 z4 (IntKind.i64.wrap (z5 - z1)) (0:Int) z7 z6) <|
      some (w37r0 (w46y0 N z3 z4 (IntKind.i64.wrap (z5 - z1)) (0:Int) z7 z6) (w46y1 N z3 z4 (IntKind.i64.wrap (z5 - z1)) (0:Int) z7 z6) (w46y2 N z3 z4 (IntKind.i64.wrap (z5 - z1)) (0:Int) z7 z6) (w46y3 N z3 z4 (IntKind.i64.wrap (z5 - z1)) (0:Int) z7 z6) (w46y4 N z3 z4 (IntKind.i64.wrap (z5 - z1)) (0:Int) z7 z6)))
      (some (w37r0 z3 z4 (IntKind.i64.wrap (z5 - z1)) z6 z7)))
     (some (w37r0 z3 z4 z5 z6 z7))))
def w37 [Alg] (N:Nat) (s0_0:YF2) (s0_1:Bool) (s0_2:Int) (s0_3:Int) (s0_4:Int) (e1_0:Int) (e1_1:Int) (e1_2:Int) (e1_3:Int) (e1_4:Int):O:=w37G N (w37n0 N) s0_0 s0_1 s0_2 s0_3 s0_4 e1_0 e1_1 e1_2 e1_3 e1_4
def w37h [Alg] (N:Nat):Hint:=(.seq .d (.seq .d (.seq .d (.seq .d (.seq (.sub w37m0 _ _ _ w37X0_0 (noX 1) (noX 2) (subL w37I0 w37u0 (w37l0 N N))) .d)))))
theorem w37hk (N:Nat) (hc:CxOk (w37c N)):HintOk (w37c N) Tryd.f37.ntmps (w37h N) w37b:=hk_of _ _ (And.intro trivial (And.intro trivial (And.intro trivial (And.intro trivial (And.intro (w37S0 N hc) trivial)))))
theorem w37q [Alg] (N:Nat) (s0_0:YF2) (s0_1:Bool) (s0_2:Int) (s0_3:Int) (s0_4:Int) (e1_0:Int) (e1_1:Int) (e1_2:Int) (e1_3:Int) (e1_4:Int):w37G N (w37s0 N) s0_0 s0_1 s0_2 s0_3 s0_4 e1_0 e1_1 e1_2 e1_3 e1_4=exec (w37c N) Tryd.f37.ntmps (w37h N) w37b ⟨argT 0 [.agg [.e .tx s0_0,.e .bo s0_1,.e (.i .i64) s0_2,.e (.i .i64) s0_3,.e (.i .i64) s0_4],.agg [.e (.i .i64) e1_0,.e (.i .i64) e1_1,.e (.i .i64) e1_2,.e (.i .i64) e1_3,.e (.i .i64) e1_4]],[],100⟩ (finX (w37c N) Tryd.f37 false):=by kernel_rfl
theorem w37does {N:Nat} (hc:CxOk (w37c N)) {s0_0:YF2} {s0_1:Bool} {s0_2:Int} {s0_3:Int} {s0_4:Int} {e1_0:Int} {e1_1:Int} {e1_2:Int} {e1_3:Int} {e1_4:Int} {r:Res} (h:w37 N s0_0 s0_1 s0_2 s0_3 s0_4 e1_0 e1_1 e1_2 e1_3 e1_4=some r):DoesR Tryd.prog 37 (([.agg [.e .tx s0_0,.e .bo s0_1,.e (.i .i64) s0_2,.e (.i .i64) s0_3,.e (.i .i64) s0_4],.agg [.e (.i .i64) e1_0,.e (.i .i64) e1_1,.e (.i .i64) e1_2,.e (.i .i64) e1_3,.e (.i .i64) e1_4]]:List X).map X.D) (HA []) r:=
 fun_ok hc (f:=37) (fn:=Tryd.f37) (code:=w37b) (by kernel_rfl) (by kernel_rfl) (w37hk N hc) (Nat.le_of_ble_eq_true (by kernel_rfl)) (ow:=false) ((w37q N s0_0 s0_1 s0_2 s0_3 s0_4 e1_0 e1_1 e1_2 e1_3 e1_4).symm.trans (by rw [w37e0 N];exact h))
def w37un (r:Res):Option (YF2×Bool×Int×Int×Int):=match r with
 | (.agg [x0,x1,x2,x3,x4],[])=>(match ue .tx x0,ue .bo x1,ue (.i .i64) x2,ue (.i .i64) x3,ue (.i .i64) x4 with | some a0,some a1,some a2,some a3,some a4=>some (a0,a1,a2,a3,a4) | _,_,_,_,_=>none)
 | _=>none
theorem w37uo {r:Res} {d:YF2×Bool×Int×Int×Int} (h:w37un r=some d):r=w37r0 (d.1) (d.2.1) (d.2.2.1) (d.2.2.2.1) (d.2.2.2.2):=by
 unfold w37un at h;split at h
 ·split at h
  ·rename_i h0 h1 h2 h3 h4;cases h;rw [ue_some h0,ue_some h1,ue_some h2,ue_some h3,ue_some h4];rfl
  ·cases h
 ·cases h
def w37z (N:Nat) (s0_0:YF2) (s0_1:Bool) (s0_2:Int) (s0_3:Int) (s0_4:Int) (e1_0:Int) (e1_1:Int) (e1_2:Int) (e1_3:Int) (e1_4:Int):Option (YF2×Bool×Int×Int×Int):=(w37 N s0_0 s0_1 s0_2 s0_3 s0_4 e1_0 e1_1 e1_2 e1_3 e1_4).bind w37un
theorem w37fin {N:Nat} (hc:CxOk (w37c N)) {s0_0:YF2} {s0_1:Bool} {s0_2:Int} {s0_3:Int} {s0_4:Int} {e1_0:Int} {e1_1:Int} {e1_2:Int} {e1_3:Int} {e1_4:Int} {d:YF2×Bool×Int×Int×Int} (hd:w37z N s0_0 s0_1 s0_2 s0_3 s0_4 e1_0 e1_1 e1_2 e1_3 e1_4=some d):Does Tryd.prog 37 (([.agg [.e .tx s0_0,.e .bo s0_1,.e (.i .i64) s0_2,.e (.i .i64) s0_3,.e (.i .i64) s0_4],.agg [.e (.i .i64) e1_0,.e (.i .i64) e1_1,.e (.i .i64) e1_2,.e (.i .i64) e1_3,.e (.i .i64) e1_4]]:List X).map X.D) (HA []) (w37r0 (d.1) (d.2.1) (d.2.2.1) (d.2.2.2.1) (d.2.2.2.2)).1.D (HA (w37r0 (d.1) (d.2.1) (d.2.2.1) (d.2.2.2.1) (d.2.2.2.2)).2):=by
 obtain ⟨r,hr,hu⟩:=Option.bind_eq_some_iff.1 hd;have:=w37does hc hr;rw [w37uo hu] at this;exact this
def w37p (N:Nat) (s0_0:YF2) (s0_1:Bool) (s0_2:Int) (s0_3:Int) (s0_4:Int) (e1_0:Int) (e1_1:Int) (e1_2:Int) (e1_3:Int) (e1_4:Int):Bool:=(w37z N s0_0 s0_1 s0_2 s0_3 s0_4 e1_0 e1_1 e1_2 e1_3 e1_4).isSome
def w37y0 (N:Nat) (s0_0:YF2) (s0_1:Bool) (s0_2:Int) (s0_3:Int) (s0_4:Int) (e1_0:Int) (e1_1:Int) (e1_2:Int) (e1_3:Int) (e1_4:Int):YF2:=((w37z N s0_0 s0_1 s0_2 s0_3 s0_4 e1_0 e1_1 e1_2 e1_3 e1_4).getD ([],false,0,0,0)).1
def w37y1 (N:Nat) (s0_0:YF2) (s0_1:Bool) (s0_2:Int) (s0_3:Int) (s0_4:Int) (e1_0:Int) (e1_1:Int) (e1_2:Int) (e1_3:Int) (e1_4:Int):Bool:=((w37z N s0_0 s0_1 s0_2 s0_3 s0_4 e1_0 e1_1 e1_2 e1_3 e1_4).getD ([],false,0,0,0)).2.1
def w37y2 (N:Nat) (s0_0:YF2) (s0_1:Bool) (s0_2:Int) (s0_3:Int) (s0_4:Int) (e1_0:Int) (e1_1:Int) (e1_2:Int) (e1_3:Int) (e1_4:Int):Int:=((w37z N s0_0 s0_1 s0_2 s0_3 s0_4 e1_0 e1_1 e1_2 e1_3 e1_4).getD ([],false,0,0,0)).2.2.1
def w37y3 (N:Nat) (s0_0:YF2) (s0_1:Bool) (s0_2:Int) (s0_3:Int) (s0_4:Int) (e1_0:Int) (e1_1:Int) (e1_2:Int) (e1_3:Int) (e1_4:Int):Int:=((w37z N s0_0 s0_1 s0_2 s0_3 s0_4 e1_0 e1_1 e1_2 e1_3 e1_4).getD ([],false,0,0,0)).2.2.2.1
def w37y4 (N:Nat) (s0_0:YF2) (s0_1:Bool) (s0_2:Int) (s0_3:Int) (s0_4:Int) (e1_0:Int) (e1_1:Int) (e1_2:Int) (e1_3:Int) (e1_4:Int):Int:=((w37z N s0_0 s0_1 s0_2 s0_3 s0_4 e1_0 e1_1 e1_2 e1_3 e1_4).getD ([],false,0,0,0)).2.2.2.2
def w37e (N:Nat):Ent':=E2 (.pr .tx (.pr .bo (.pr (.i .i64) (.pr (.i .i64) (.i .i64))))) (.pr (.i .i64) (.pr (.i .i64) (.pr (.i .i64) (.pr (.i .i64) (.i .i64)))))  (fun x0 x1=>(w37p N x0.1 x0.2.1 x0.2.2.1 x0.2.2.2.1 x0.2.2.2.2 x1.1 x1.2.1 x1.2.2.1 x1.2.2.2.1 x1.2.2.2.2,w37r0 (w37y0 N x0.1 x0.2.1 x0.2.2.1 x0.2.2.2.1 x0.2.2.2.2 x1.1 x1.2.1 x1.2.2.1 x1.2.2.2.1 x1.2.2.2.2) (w37y1 N x0.1 x0.2.1 x0.2.2.1 x0.2.2.2.1 x0.2.2.2.2 x1.1 x1.2.1 x1.2.2.1 x1.2.2.2.1 x1.2.2.2.2) (w37y2 N x0.1 x0.2.1 x0.2.2.1 x0.2.2.2.1 x0.2.2.2.2 x1.1 x1.2.1 x1.2.2.1 x1.2.2.2.1 x1.2.2.2.2) (w37y3 N x0.1 x0.2.1 x0.2.2.1 x0.2.2.2.1 x0.2.2.2.2 x1.1 x1.2.1 x1.2.2.1 x1.2.2.2.1 x1.2.2.2.2) (w37y4 N x0.1 x0.2.1 x0.2.2.1 x0.2.2.2.1 x0.2.2.2.2 x1.1 x1.2.1 x1.2.2.1 x1.2.2.2.1 x1.2.2.2.2)))
theorem w37re {N:Nat} {s0_0:YF2} {s0_1:Bool} {s0_2:Int} {s0_3:Int} {s0_4:Int} {e1_0:Int} {e1_1:Int} {e1_2:Int} {e1_3:Int} {e1_4:Int} {d:YF2×Bool×Int×Int×Int} (hd:w37z N s0_0 s0_1 s0_2 s0_3 s0_4 e1_0 e1_1 e1_2 e1_3 e1_4=some d):w37r0 (w37y0 N s0_0 s0_1 s0_2 s0_3 s0_4 e1_0 e1_1 e1_2 e1_3 e1_4) (w37y1 N s0_0 s0_1 s0_2 s0_3 s0_4 e1_0 e1_1 e1_2 e1_3 e1_4) (w37y2 N s0_0 s0_1 s0_2 s0_3 s0_4 e1_0 e1_1 e1_2 e1_3 e1_4) (w37y3 N s0_0 s0_1 s0_2 s0_3 s0_4 e1_0 e1_1 e1_2 e1_3 e1_4) (w37y4 N s0_0 s0_1 s0_2 s0_3 s0_4 e1_0 e1_1 e1_2 e1_3 e1_4)=w37r0 (d.1) (d.2.1) (d.2.2.1) (d.2.2.2.1) (d.2.2.2.2):=by unfold w37y0 w37y1 w37y2 w37y3 w37y4;rw [hd];rfl
theorem w37ok (N:Nat):EOk Tryd.prog 37 (w37e N):=EOk.e2 (fun x0 x1 h=>by
 have h:(w37z N x0.1 x0.2.1 x0.2.2.1 x0.2.2.2.1 x0.2.2.2.2 x1.1 x1.2.1 x1.2.2.1 x1.2.2.2.1 x1.2.2.2.2).isSome=true:=h;obtain ⟨d,hd⟩:=Option.isSome_iff_exists.1 h;have f:=w37fin (w37cx N) hd;rw [← w37re hd] at f;exact f)
def w38r0 (a0:YF2) (a1:Bool) (a2:Int) (a3:Int) (a4:Int):Res:=(.agg [.e .tx a0,.e .bo a1,.e (.i .i64) a2,.e (.i .i64) a3,.e (.i .i64) a4],[])
def w38L (N:Nat):List (Nat×Ent'):=[(47,w47e N),(48,w48e N)]
def w38c (N:Nat):Cx:=⟨Tryd.prog,99999,w38L N,[]⟩
def w38b:Code:=Tryd.f38.body.getD .skip
theorem w38cx (N:Nat):CxOk (w38c N):=ctx_ok (by kernel_rfl) (.cons (by kernel_rfl) (w47ok N) (.cons (by kernel_rfl) (w48ok N) .nil)) .nil
def w38G [Alg] (N:Nat)  (s0_0:YF2) (s0_1:Bool) (s0_2:Int) (s0_3:Int) (s0_4:Int) (_e1_0:Int) (_e1_1:Int) (e1_2:Int) (e1_3:Int) (_e1_4:Int):O:=
 br (decide (e1_2=(0:Int)))
  (br (decide ((32:Int)<=e1_3)&&decide (e1_3<=(126:Int)))
   (some (w38r0 s0_0 s0_1 s0_2 s0_3 e1_3))
   (some (w38r0 s0_0 s0_1 s0_2 s0_3 s0_4)))
  (br (decide (e1_2=(1:Int)))
   (br (decide (e1_3=(1:Int))&&decide ((0:Int)<=s0_4))
    (ck (w47p N s0_0 s0_1 s0_2 s0_3 (-1:Int) s0_4) <|
    some (w38r0 (w47y0 N s0_0 s0_1 s0_2 s0_3 (-1:Int) s0_4) (w47y1 N s0_0 s0_1 s0_2 s0_3 (-1:Int) s0_4) (w47y2 N s0_0 s0_1 s0_2 s0_3 (-1:Int) s0_4) (w47y3 N s0_0 s0_1 s0_2 s0_3 (-1:Int) s0_4) (w47y4 N s0_0 s0_1 s0_2 s0_3 (-1:Int) s0_4)))
    (br (decide (e1_3=(0:Int)))
     (some (w38r0 s0_0 s0_1 s0_2 s0_3 ((-1:Int))))
     (some (w38r0 s0_0 s0_1 s0_2 s0_3 s0_4))))
   (br (decide (e1_2=(2:Int)))
    (br (decide (s0_4 < (0:Int)))
     (ck (w48p N s0_0 s0_1 s0_2 s0_3 (-1:Int)) <|
     some (w38r0 (w48y0 N s0_0 s0_1 s0_2 s0_3 (-1:Int)) (w48y1 N s0_0 s0_1 s0_2 s0_3 (-1:Int)) (w48y2 N s0_0 s0_1 s0_2 s0_3 (-1:Int)) (w48y3 N s0_0 s0_1 s0_2 s0_3 (-1:Int)) (w48y4 N s0_0 s0_1 s0_2 s0_3 (-1:Int))))
     (some (w38r0 s0_0 s0_1 s0_2 s0_3 ((-1:Int)))))
    (br (decide (e1_2=(3:Int)))
     (some (w38r0 s0_0 true s0_2 s0_3 ((-1:Int))))
     (some (w38r0 s0_0 s0_1 s0_2 s0_3 s0_4)))))
def w38 [Alg] (N:Nat) (s0_0:YF2) (s0_1:Bool) (s0_2:Int) (s0_3:Int) (s0_4:Int) (e1_0:Int) (e1_1:Int) (e1_2:Int) (e1_3:Int) (e1_4:Int):O:=w38G N  s0_0 s0_1 s0_2 s0_3 s0_4 e1_0 e1_1 e1_2 e1_3 e1_4
def w38h [Alg] (_:Nat):Hint:=.d
theorem w38hk (N:Nat):HintOk (w38c N) Tryd.f38.ntmps (w38h N) w38b:=hk_of _ _ trivial
theorem w38q [Alg] (N:Nat) (s0_0:YF2) (s0_1:Bool) (s0_2:Int) (s0_3:Int) (s0_4:Int) (e1_0:Int) (e1_1:Int) (e1_2:Int) (e1_3:Int) (e1_4:Int):w38G N  s0_0 s0_1 s0_2 s0_3 s0_4 e1_0 e1_1 e1_2 e1_3 e1_4=exec (w38c N) Tryd.f38.ntmps (w38h N) w38b ⟨argT 0 [.agg [.e .tx s0_0,.e .bo s0_1,.e (.i .i64) s0_2,.e (.i .i64) s0_3,.e (.i .i64) s0_4],.agg [.e (.i .i64) e1_0,.e (.i .i64) e1_1,.e (.i .i64) e1_2,.e (.i .i64) e1_3,.e (.i .i64) e1_4]],[],100⟩ (finX (w38c N) Tryd.f38 false):=by kernel_rfl
theorem w38does {N:Nat} (hc:CxOk (w38c N)) {s0_0:YF2} {s0_1:Bool} {s0_2:Int} {s0_3:Int} {s0_4:Int} {e1_0:Int} {e1_1:Int} {e1_2:Int} {e1_3:Int} {e1_4:Int} {r:Res} (h:w38 N s0_0 s0_1 s0_2 s0_3 s0_4 e1_0 e1_1 e1_2 e1_3 e1_4=some r):DoesR Tryd.prog 38 (([.agg [.e .tx s0_0,.e .bo s0_1,.e (.i .i64) s0_2,.e (.i .i64) s0_3,.e (.i .i64) s0_4],.agg [.e (.i .i64) e1_0,.e (.i .i64) e1_1,.e (.i .i64) e1_2,.e (.i .i64) e1_3,.e (.i .i64) e1_4]]:List X).map X.D) (HA []) r:=
 fun_ok hc (f:=38) (fn:=Tryd.f38) (code:=w38b) (by kernel_rfl) (by kernel_rfl) (w38hk N) (Nat.le_of_ble_eq_true (by kernel_rfl)) (ow:=false) ((w38q N s0_0 s0_1 s0_2 s0_3 s0_4 e1_0 e1_1 e1_2 e1_3 e1_4).symm.trans (by exact h))
def w38un (r:Res):Option (YF2×Bool×Int×Int×Int):=match r with
 | (.agg [x0,x1,x2,x3,x4],[])=>(match ue .tx x0,ue .bo x1,ue (.i .i64) x2,ue (.i .i64) x3,ue (.i .i64) x4 with | some a0,some a1,some a2,some a3,some a4=>some (a0,a1,a2,a3,a4) | _,_,_,_,_=>none)
 | _=>none
theorem w38uo {r:Res} {d:YF2×Bool×Int×Int×Int} (h:w38un r=some d):r=w38r0 (d.1) (d.2.1) (d.2.2.1) (d.2.2.2.1) (d.2.2.2.2):=by
 unfold w38un at h;split at h
 ·split at h
  ·rename_i h0 h1 h2 h3 h4;cases h;rw [ue_some h0,ue_some h1,ue_some h2,ue_some h3,ue_some h4];rfl
  ·cases h
 ·cases h
def w38z (N:Nat) (s0_0:YF2) (s0_1:Bool) (s0_2:Int) (s0_3:Int) (s0_4:Int) (e1_0:Int) (e1_1:Int) (e1_2:Int) (e1_3:Int) (e1_4:Int):Option (YF2×Bool×Int×Int×Int):=(w38 N s0_0 s0_1 s0_2 s0_3 s0_4 e1_0 e1_1 e1_2 e1_3 e1_4).bind w38un
theorem w38fin {N:Nat} (hc:CxOk (w38c N)) {s0_0:YF2} {s0_1:Bool} {s0_2:Int} {s0_3:Int} {s0_4:Int} {e1_0:Int} {e1_1:Int} {e1_2:Int} {e1_3:Int} {e1_4:Int} {d:YF2×Bool×Int×Int×Int} (hd:w38z N s0_0 s0_1 s0_2 s0_3 s0_4 e1_0 e1_1 e1_2 e1_3 e1_4=some d):Does Tryd.prog 38 (([.agg [.e .tx s0_0,.e .bo s0_1,.e (.i .i64) s0_2,.e (.i .i64) s0_3,.e (.i .i64) s0_4],.agg [.e (.i .i64) e1_0,.e (.i .i64) e1_1,.e (.i .i64) e1_2,.e (.i .i64) e1_3,.e (.i .i64) e1_4]]:List X).map X.D) (HA []) (w38r0 (d.1) (d.2.1) (d.2.2.1) (d.2.2.2.1) (d.2.2.2.2)).1.D (HA (w38r0 (d.1) (d.2.1) (d.2.2.1) (d.2.2.2.1) (d.2.2.2.2)).2):=by
 obtain ⟨r,hr,hu⟩:=Option.bind_eq_some_iff.1 hd;have:=w38does hc hr;rw [w38uo hu] at this;exact this
def w38p (N:Nat) (s0_0:YF2) (s0_1:Bool) (s0_2:Int) (s0_3:Int) (s0_4:Int) (e1_0:Int) (e1_1:Int) (e1_2:Int) (e1_3:Int) (e1_4:Int):Bool:=(w38z N s0_0 s0_1 s0_2 s0_3 s0_4 e1_0 e1_1 e1_2 e1_3 e1_4).isSome
def w38y0 (N:Nat) (s0_0:YF2) (s0_1:Bool) (s0_2:Int) (s0_3:Int) (s0_4:Int) (e1_0:Int) (e1_1:Int) (e1_2:Int) (e1_3:Int) (e1_4:Int):YF2:=((w38z N s0_0 s0_1 s0_2 s0_3 s0_4 e1_0 e1_1 e1_2 e1_3 e1_4).getD ([],false,0,0,0)).1
def w38y1 (N:Nat) (s0_0:YF2) (s0_1:Bool) (s0_2:Int) (s0_3:Int) (s0_4:Int) (e1_0:Int) (e1_1:Int) (e1_2:Int) (e1_3:Int) (e1_4:Int):Bool:=((w38z N s0_0 s0_1 s0_2 s0_3 s0_4 e1_0 e1_1 e1_2 e1_3 e1_4).getD ([],false,0,0,0)).2.1
def w38y2 (N:Nat) (s0_0:YF2) (s0_1:Bool) (s0_2:Int) (s0_3:Int) (s0_4:Int) (e1_0:Int) (e1_1:Int) (e1_2:Int) (e1_3:Int) (e1_4:Int):Int:=((w38z N s0_0 s0_1 s0_2 s0_3 s0_4 e1_0 e1_1 e1_2 e1_3 e1_4).getD ([],false,0,0,0)).2.2.1
def w38y3 (N:Nat) (s0_0:YF2) (s0_1:Bool) (s0_2:Int) (s0_3:Int) (s0_4:Int) (e1_0:Int) (e1_1:Int) (e1_2:Int) (e1_3:Int) (e1_4:Int):Int:=((w38z N s0_0 s0_1 s0_2 s0_3 s0_4 e1_0 e1_1 e1_2 e1_3 e1_4).getD ([],false,0,0,0)).2.2.2.1
def w38y4 (N:Nat) (s0_0:YF2) (s0_1:Bool) (s0_2:Int) (s0_3:Int) (s0_4:Int) (e1_0:Int) (e1_1:Int) (e1_2:Int) (e1_3:Int) (e1_4:Int):Int:=((w38z N s0_0 s0_1 s0_2 s0_3 s0_4 e1_0 e1_1 e1_2 e1_3 e1_4).getD ([],false,0,0,0)).2.2.2.2
def w38e (N:Nat):Ent':=E2 (.pr .tx (.pr .bo (.pr (.i .i64) (.pr (.i .i64) (.i .i64))))) (.pr (.i .i64) (.pr (.i .i64) (.pr (.i .i64) (.pr (.i .i64) (.i .i64)))))  (fun x0 x1=>(w38p N x0.1 x0.2.1 x0.2.2.1 x0.2.2.2.1 x0.2.2.2.2 x1.1 x1.2.1 x1.2.2.1 x1.2.2.2.1 x1.2.2.2.2,w38r0 (w38y0 N x0.1 x0.2.1 x0.2.2.1 x0.2.2.2.1 x0.2.2.2.2 x1.1 x1.2.1 x1.2.2.1 x1.2.2.2.1 x1.2.2.2.2) (w38y1 N x0.1 x0.2.1 x0.2.2.1 x0.2.2.2.1 x0.2.2.2.2 x1.1 x1.2.1 x1.2.2.1 x1.2.2.2.1 x1.2.2.2.2) (w38y2 N x0.1 x0.2.1 x0.2.2.1 x0.2.2.2.1 x0.2.2.2.2 x1.1 x1.2.1 x1.2.2.1 x1.2.2.2.1 x1.2.2.2.2) (w38y3 N x0.1 x0.2.1 x0.2.2.1 x0.2.2.2.1 x0.2.2.2.2 x1.1 x1.2.1 x1.2.2.1 x1.2.2.2.1 x1.2.2.2.2) (w38y4 N x0.1 x0.2.1 x0.2.2.1 x0.2.2.2.1 x0.2.2.2.2 x1.1 x1.2.1 x1.2.2.1 x1.2.2.2.1 x1.2.2.2.2)))
theorem w38re {N:Nat} {s0_0:YF2} {s0_1:Bool} {s0_2:Int} {s0_3:Int} {s0_4:Int} {e1_0:Int} {e1_1:Int} {e1_2:Int} {e1_3:Int} {e1_4:Int} {d:YF2×Bool×Int×Int×Int} (hd:w38z N s0_0 s0_1 s0_2 s0_3 s0_4 e1_0 e1_1 e1_2 e1_3 e1_4=some d):w38r0 (w38y0 N s0_0 s0_1 s0_2 s0_3 s0_4 e1_0 e1_1 e1_2 e1_3 e1_4) (w38y1 N s0_0 s0_1 s0_2 s0_3 s0_4 e1_0 e1_1 e1_2 e1_3 e1_4) (w38y2 N s0_0 s0_1 s0_2 s0_3 s0_4 e1_0 e1_1 e1_2 e1_3 e1_4) (w38y3 N s0_0 s0_1 s0_2 s0_3 s0_4 e1_0 e1_1 e1_2 e1_3 e1_4) (w38y4 N s0_0 s0_1 s0_2 s0_3 s0_4 e1_0 e1_1 e1_2 e1_3 e1_4)=w38r0 (d.1) (d.2.1) (d.2.2.1) (d.2.2.2.1) (d.2.2.2.2):=by unfold w38y0 w38y1 w38y2 w38y3 w38y4;rw [hd];rfl
theorem w38ok (N:Nat):EOk Tryd.prog 38 (w38e N):=EOk.e2 (fun x0 x1 h=>by
 have h:(w38z N x0.1 x0.2.1 x0.2.2.1 x0.2.2.2.1 x0.2.2.2.2 x1.1 x1.2.1 x1.2.2.1 x1.2.2.2.1 x1.2.2.2.2).isSome=true:=h;obtain ⟨d,hd⟩:=Option.isSome_iff_exists.1 h;have f:=w38fin (w38cx N) hd;rw [← w38re hd] at f;exact f)
def w39r0 (a0:YF2) (a1:Bool) (a2:Int) (a3:Int) (a4:Int):Res:=(.agg [.e .tx a0,.e .bo a1,.e (.i .i64) a2,.e (.i .i64) a3,.e (.i .i64) a4],[])
def w39L (N:Nat):List (Nat×Ent'):=[(48,w48e N),(47,w47e N)]
def w39c (N:Nat):Cx:=⟨Tryd.prog,99999,w39L N,[]⟩
def w39b:Code:=Tryd.f39.body.getD .skip
theorem w39cx (N:Nat):CxOk (w39c N):=ctx_ok (by kernel_rfl) (.cons (by kernel_rfl) (w48ok N) (.cons (by kernel_rfl) (w47ok N) .nil)) .nil
def w39G [Alg] (N:Nat)  (s0_0:YF2) (s0_1:Bool) (s0_2:Int) (s0_3:Int) (s0_4:Int) (_e1_0:Int) (_e1_1:Int) (e1_2:Int) (e1_3:Int) (e1_4:Int):O:=
 br (decide (e1_2≠(0:Int))||decide (e1_4≠(1:Int)))
  (some (w39r0 s0_0 s0_1 s0_2 s0_3 s0_4))
  (br (decide (e1_3=(8:Int)))
   (ck (w48p N s0_0 s0_1 s0_2 s0_3 s0_4) <|
   some (w39r0 (w48y0 N s0_0 s0_1 s0_2 s0_3 s0_4) (w48y1 N s0_0 s0_1 s0_2 s0_3 s0_4) (w48y2 N s0_0 s0_1 s0_2 s0_3 s0_4) (w48y3 N s0_0 s0_1 s0_2 s0_3 s0_4) (w48y4 N s0_0 s0_1 s0_2 s0_3 s0_4)))
   (br (decide (e1_3=(13:Int)))
    (ck (w47p N s0_0 true s0_2 s0_3 s0_4 e1_3) <|
    some (w39r0 (w47y0 N s0_0 true s0_2 s0_3 s0_4 e1_3) (w47y1 N s0_0 true s0_2 s0_3 s0_4 e1_3) (w47y2 N s0_0 true s0_2 s0_3 s0_4 e1_3) (w47y3 N s0_0 true s0_2 s0_3 s0_4 e1_3) (w47y4 N s0_0 true s0_2 s0_3 s0_4 e1_3)))
    (ck (w47p N s0_0 s0_1 s0_2 s0_3 s0_4 e1_3) <|
    some (w39r0 (w47y0 N s0_0 s0_1 s0_2 s0_3 s0_4 e1_3) (w47y1 N s0_0 s0_1 s0_2 s0_3 s0_4 e1_3) (w47y2 N s0_0 s0_1 s0_2 s0_3 s0_4 e1_3) (w47y3 N s0_0 s0_1 s0_2 s0_3 s0_4 e1_3) (w47y4 N s0_0 s0_1 s0_2 s0_3 s0_4 e1_3)))))
def w39 [Alg] (N:Nat) (s0_0:YF2) (s0_1:Bool) (s0_2:Int) (s0_3:Int) (s0_4:Int) (e1_0:Int) (e1_1:Int) (e1_2:Int) (e1_3:Int) (e1_4:Int):O:=w39G N  s0_0 s0_1 s0_2 s0_3 s0_4 e1_0 e1_1 e1_2 e1_3 e1_4
def w39h [Alg] (_:Nat):Hint:=.d
theorem w39hk (N:Nat):HintOk (w39c N) Tryd.f39.ntmps (w39h N) w39b:=hk_of _ _ trivial
theorem w39q [Alg] (N:Nat) (s0_0:YF2) (s0_1:Bool) (s0_2:Int) (s0_3:Int) (s0_4:Int) (e1_0:Int) (e1_1:Int) (e1_2:Int) (e1_3:Int) (e1_4:Int):w39G N  s0_0 s0_1 s0_2 s0_3 s0_4 e1_0 e1_1 e1_2 e1_3 e1_4=exec (w39c N) Tryd.f39.ntmps (w39h N) w39b ⟨argT 0 [.agg [.e .tx s0_0,.e .bo s0_1,.e (.i .i64) s0_2,.e (.i .i64) s0_3,.e (.i .i64) s0_4],.agg [.e (.i .i64) e1_0,.e (.i .i64) e1_1,.e (.i .i64) e1_2,.e (.i .i64) e1_3,.e (.i .i64) e1_4]],[],100⟩ (finX (w39c N) Tryd.f39 false):=by kernel_rfl
theorem w39does {N:Nat} (hc:CxOk (w39c N)) {s0_0:YF2} {s0_1:Bool} {s0_2:Int} {s0_3:Int} {s0_4:Int} {e1_0:Int} {e1_1:Int} {e1_2:Int} {e1_3:Int} {e1_4:Int} {r:Res} (h:w39 N s0_0 s0_1 s0_2 s0_3 s0_4 e1_0 e1_1 e1_2 e1_3 e1_4=some r):DoesR Tryd.prog 39 (([.agg [.e .tx s0_0,.e .bo s0_1,.e (.i .i64) s0_2,.e (.i .i64) s0_3,.e (.i .i64) s0_4],.agg [.e (.i .i64) e1_0,.e (.i .i64) e1_1,.e (.i .i64) e1_2,.e (.i .i64) e1_3,.e (.i .i64) e1_4]]:List X).map X.D) (HA []) r:=
 fun_ok hc (f:=39) (fn:=Tryd.f39) (code:=w39b) (by kernel_rfl) (by kernel_rfl) (w39hk N) (Nat.le_of_ble_eq_true (by kernel_rfl)) (ow:=false) ((w39q N s0_0 s0_1 s0_2 s0_3 s0_4 e1_0 e1_1 e1_2 e1_3 e1_4).symm.trans (by exact h))
def w39un (r:Res):Option (YF2×Bool×Int×Int×Int):=match r with
 | (.agg [x0,x1,x2,x3,x4],[])=>(match ue .tx x0,ue .bo x1,ue (.i .i64) x2,ue (.i .i64) x3,ue (.i .i64) x4 with | some a0,some a1,some a2,some a3,some a4=>some (a0,a1,a2,a3,a4) | _,_,_,_,_=>none)
 | _=>none
theorem w39uo {r:Res} {d:YF2×Bool×Int×Int×Int} (h:w39un r=some d):r=w39r0 (d.1) (d.2.1) (d.2.2.1) (d.2.2.2.1) (d.2.2.2.2):=by
 unfold w39un at h;split at h
 ·split at h
  ·rename_i h0 h1 h2 h3 h4;cases h;rw [ue_some h0,ue_some h1,ue_some h2,ue_some h3,ue_some h4];rfl
  ·cases h
 ·cases h
def w39z (N:Nat) (s0_0:YF2) (s0_1:Bool) (s0_2:Int) (s0_3:Int) (s0_4:Int) (e1_0:Int) (e1_1:Int) (e1_2:Int) (e1_3:Int) (e1_4:Int):Option (YF2×Bool×Int×Int×Int):=(w39 N s0_0 s0_1 s0_2 s0_3 s0_4 e1_0 e1_1 e1_2 e1_3 e1_4).bind w39un
theorem w39fin {N:Nat} (hc:CxOk (w39c N)) {s0_0:YF2} {s0_1:Bool} {s0_2:Int} {s0_3:Int} {s0_4:Int} {e1_0:Int} {e1_1:Int} {e1_2:Int} {e1_3:Int} {e1_4:Int} {d:YF2×Bool×Int×Int×Int} (hd:w39z N s0_0 s0_1 s0_2 s0_3 s0_4 e1_0 e1_1 e1_2 e1_3 e1_4=some d):Does Tryd.prog 39 (([.agg [.e .tx s0_0,.e .bo s0_1,.e (.i .i64) s0_2,.e (.i .i64) s0_3,.e (.i .i64) s0_4],.agg [.e (.i .i64) e1_0,.e (.i .i64) e1_1,.e (.i .i64) e1_2,.e (.i .i64) e1_3,.e (.i .i64) e1_4]]:List X).map X.D) (HA []) (w39r0 (d.1) (d.2.1) (d.2.2.1) (d.2.2.2.1) (d.2.2.2.2)).1.D (HA (w39r0 (d.1) (d.2.1) (d.2.2.1) (d.2.2.2.1) (d.2.2.2.2)).2):=by
 obtain ⟨r,hr,hu⟩:=Option.bind_eq_some_iff.1 hd;have:=w39does hc hr;rw [w39uo hu] at this;exact this
def w39p (N:Nat) (s0_0:YF2) (s0_1:Bool) (s0_2:Int) (s0_3:Int) (s0_4:Int) (e1_0:Int) (e1_1:Int) (e1_2:Int) (e1_3:Int) (e1_4:Int):Bool:=(w39z N s0_0 s0_1 s0_2 s0_3 s0_4 e1_0 e1_1 e1_2 e1_3 e1_4).isSome
def w39y0 (N:Nat) (s0_0:YF2) (s0_1:Bool) (s0_2:Int) (s0_3:Int) (s0_4:Int) (e1_0:Int) (e1_1:Int) (e1_2:Int) (e1_3:Int) (e1_4:Int):YF2:=((w39z N s0_0 s0_1 s0_2 s0_3 s0_4 e1_0 e1_1 e1_2 e1_3 e1_4).getD ([],false,0,0,0)).1
def w39y1 (N:Nat) (s0_0:YF2) (s0_1:Bool) (s0_2:Int) (s0_3:Int) (s0_4:Int) (e1_0:Int) (e1_1:Int) (e1_2:Int) (e1_3:Int) (e1_4:Int):Bool:=((w39z N s0_0 s0_1 s0_2 s0_3 s0_4 e1_0 e1_1 e1_2 e1_3 e1_4).getD ([],false,0,0,0)).2.1
def w39y2 (N:Nat) (s0_0:YF2) (s0_1:Bool) (s0_2:Int) (s0_3:Int) (s0_4:Int) (e1_0:Int) (e1_1:Int) (e1_2:Int) (e1_3:Int) (e1_4:Int):Int:=((w39z N s0_0 s0_1 s0_2 s0_3 s0_4 e1_0 e1_1 e1_2 e1_3 e1_4).getD ([],false,0,0,0)).2.2.1
def w39y3 (N:Nat) (s0_0:YF2) (s0_1:Bool) (s0_2:Int) (s0_3:Int) (s0_4:Int) (e1_0:Int) (e1_1:Int) (e1_2:Int) (e1_3:Int) (e1_4:Int):Int:=((w39z N s0_0 s0_1 s0_2 s0_3 s0_4 e1_0 e1_1 e1_2 e1_3 e1_4).getD ([],false,0,0,0)).2.2.2.1
def w39y4 (N:Nat) (s0_0:YF2) (s0_1:Bool) (s0_2:Int) (s0_3:Int) (s0_4:Int) (e1_0:Int) (e1_1:Int) (e1_2:Int) (e1_3:Int) (e1_4:Int):Int:=((w39z N s0_0 s0_1 s0_2 s0_3 s0_4 e1_0 e1_1 e1_2 e1_3 e1_4).getD ([],false,0,0,0)).2.2.2.2
def w39e (N:Nat):Ent':=E2 (.pr .tx (.pr .bo (.pr (.i .i64) (.pr (.i .i64) (.i .i64))))) (.pr (.i .i64) (.pr (.i .i64) (.pr (.i .i64) (.pr (.i .i64) (.i .i64)))))  (fun x0 x1=>(w39p N x0.1 x0.2.1 x0.2.2.1 x0.2.2.2.1 x0.2.2.2.2 x1.1 x1.2.1 x1.2.2.1 x1.2.2.2.1 x1.2.2.2.2,w39r0 (w39y0 N x0.1 x0.2.1 x0.2.2.1 x0.2.2.2.1 x0.2.2.2.2 x1.1 x1.2.1 x1.2.2.1 x1.2.2.2.1 x1.2.2.2.2) (w39y1 N x0.1 x0.2.1 x0.2.2.1 x0.2.2.2.1 x0.2.2.2.2 x1.1 x1.2.1 x1.2.2.1 x1.2.2.2.1 x1.2.2.2.2) (w39y2 N x0.1 x0.2.1 x0.2.2.1 x0.2.2.2.1 x0.2.2.2.2 x1.1 x1.2.1 x1.2.2.1 x1.2.2.2.1 x1.2.2.2.2) (w39y3 N x0.1 x0.2.1 x0.2.2.1 x0.2.2.2.1 x0.2.2.2.2 x1.1 x1.2.1 x1.2.2.1 x1.2.2.2.1 x1.2.2.2.2) (w39y4 N x0.1 x0.2.1 x0.2.2.1 x0.2.2.2.1 x0.2.2.2.2 x1.1 x1.2.1 x1.2.2.1 x1.2.2.2.1 x1.2.2.2.2)))
theorem w39re {N:Nat} {s0_0:YF2} {s0_1:Bool} {s0_2:Int} {s0_3:Int} {s0_4:Int} {e1_0:Int} {e1_1:Int} {e1_2:Int} {e1_3:Int} {e1_4:Int} {d:YF2×Bool×Int×Int×Int} (hd:w39z N s0_0 s0_1 s0_2 s0_3 s0_4 e1_0 e1_1 e1_2 e1_3 e1_4=some d):w39r0 (w39y0 N s0_0 s0_1 s0_2 s0_3 s0_4 e1_0 e1_1 e1_2 e1_3 e1_4) (w39y1 N s0_0 s0_1 s0_2 s0_3 s0_4 e1_0 e1_1 e1_2 e1_3 e1_4) (w39y2 N s0_0 s0_1 s0_2 s0_3 s0_4 e1_0 e1_1 e1_2 e1_3 e1_4) (w39y3 N s0_0 s0_1 s0_2 s0_3 s0_4 e1_0 e1_1 e1_2 e1_3 e1_4) (w39y4 N s0_0 s0_1 s0_2 s0_3 s0_4 e1_0 e1_1 e1_2 e1_3 e1_4)=w39r0 (d.1) (d.2.1) (d.2.2.1) (d.2.2.2.1) (d.2.2.2.2):=by unfold w39y0 w39y1 w39y2 w39y3 w39y4;rw [hd];rfl
theorem w39ok (N:Nat):EOk Tryd.prog 39 (w39e N):=EOk.e2 (fun x0 x1 h=>by
 have h:(w39z N x0.1 x0.2.1 x0.2.2.1 x0.2.2.2.1 x0.2.2.2.2 x1.1 x1.2.1 x1.2.2.1 x1.2.2.2.1 x1.2.2.2.2).isSome=true:=h;obtain ⟨d,hd⟩:=Option.isSome_iff_exists.1 h;have f:=w39fin (w39cx N) hd;rw [← w39re hd] at f;exact f)
def w28r0 (a0:YF2) (a1:Bool) (a2:Int) (a3:Int) (a4:Int):Res:=(.agg [.e .tx a0,.e .bo a1,.e (.i .i64) a2,.e (.i .i64) a3,.e (.i .i64) a4],[])
def w28L (N:Nat):List (Nat×Ent'):=[(37,w37e N),(38,w38e N),(39,w39e N)]
def w28c (N:Nat):Cx:=⟨Tryd.prog,99999,w28L N,[]⟩
def w28b:Code:=Tryd.f28.body.getD .skip
theorem w28cx (N:Nat):CxOk (w28c N):=ctx_ok (by kernel_rfl) (.cons (by kernel_rfl) (w37ok N) (.cons (by kernel_rfl) (w38ok N) (.cons (by kernel_rfl) (w39ok N) .nil))) .nil
def w28G [Alg] (N:Nat)  (way0:Int) (s1_0:YF2) (s1_1:Bool) (s1_2:Int) (s1_3:Int) (s1_4:Int) (e2_0:Int) (e2_1:Int) (e2_2:Int) (e2_3:Int) (e2_4:Int):O:=
 br s1_1
  (some (w28r0 s1_0 s1_1 s1_2 s1_3 s1_4))
  (br (decide (way0=(1:Int)))
   (ck (w37p N s1_0 s1_1 s1_2 s1_3 s1_4 e2_0 e2_1 e2_2 e2_3 e2_4) <|
   some (w28r0 (w37y0 N s1_0 s1_1 s1_2 s1_3 s1_4 e2_0 e2_1 e2_2 e2_3 e2_4) (w37y1 N s1_0 s1_1 s1_2 s1_3 s1_4 e2_0 e2_1 e2_2 e2_3 e2_4) (w37y2 N s1_0 s1_1 s1_2 s1_3 s1_4 e2_0 e2_1 e2_2 e2_3 e2_4) (w37y3 N s1_0 s1_1 s1_2 s1_3 s1_4 e2_0 e2_1 e2_2 e2_3 e2_4) (w37y4 N s1_0 s1_1 s1_2 s1_3 s1_4 e2_0 e2_1 e2_2 e2_3 e2_4)))
   (br (decide (way0=(2:Int)))
    (ck (w38p N s1_0 s1_1 s1_2 s1_3 s1_4 e2_0 e2_1 e2_2 e2_3 e2_4) <|
    some (w28r0 (w38y0 N s1_0 s1_1 s1_2 s1_3 s1_4 e2_0 e2_1 e2_2 e2_3 e2_4) (w38y1 N s1_0 s1_1 s1_2 s1_3 s1_4 e2_0 e2_1 e2_2 e2_3 e2_4) (w38y2 N s1_0 s1_1 s1_2 s1_3 s1_4 e2_0 e2_1 e2_2 e2_3 e2_4) (w38y3 N s1_0 s1_1 s1_2 s1_3 s1_4 e2_0 e2_1 e2_2 e2_3 e2_4) (w38y4 N s1_0 s1_1 s1_2 s1_3 s1_4 e2_0 e2_1 e2_2 e2_3 e2_4)))
    (ck (w39p N s1_0 s1_1 s1_2 s1_3 s1_4 e2_0 e2_1 e2_2 e2_3 e2_4) <|
    some (w28r0 (w39y0 N s1_0 s1_1 s1_2 s1_3 s1_4 e2_0 e2_1 e2_2 e2_3 e2_4) (w39y1 N s1_0 s1_1 s1_2 s1_3 s1_4 e2_0 e2_1 e2_2 e2_3 e2_4) (w39y2 N s1_0 s1_1 s1_2 s1_3 s1_4 e2_0 e2_1 e2_2 e2_3 e2_4) (w39y3 N s1_0 s1_1 s1_2 s1_3 s1_4 e2_0 e2_1 e2_2 e2_3 e2_4) (w39y4 N s1_0 s1_1 s1_2 s1_3 s1_4 e2_0 e2_1 e2_2 e2_3 e2_4)))))
def w28 [Alg] (N:Nat) (way0:Int) (s1_0:YF2) (s1_1:Bool) (s1_2:Int) (s1_3:Int) (s1_4:Int) (e2_0:Int) (e2_1:Int) (e2_2:Int) (e2_3:Int) (e2_4:Int):O:=w28G N  way0 s1_0 s1_1 s1_2 s1_3 s1_4 e2_0 e2_1 e2_2 e2_3 e2_4
def w28h [Alg] (_:Nat):Hint:=.d
theorem w28hk (N:Nat):HintOk (w28c N) Tryd.f28.ntmps (w28h N) w28b:=hk_of _ _ trivial
theorem w28q [Alg] (N:Nat) (way0:Int) (s1_0:YF2) (s1_1:Bool) (s1_2:Int) (s1_3:Int) (s1_4:Int) (e2_0:Int) (e2_1:Int) (e2_2:Int) (e2_3:Int) (e2_4:Int):w28G N  way0 s1_0 s1_1 s1_2 s1_3 s1_4 e2_0 e2_1 e2_2 e2_3 e2_4=exec (w28c N) Tryd.f28.ntmps (w28h N) w28b ⟨argT 0 [.e (.i .i64) way0,.agg [.e .tx s1_0,.e .bo s1_1,.e (.i .i64) s1_2,.e (.i .i64) s1_3,.e (.i .i64) s1_4],.agg [.e (.i .i64) e2_0,.e (.i .i64) e2_1,.e (.i .i64) e2_2,.e (.i .i64) e2_3,.e (.i .i64) e2_4]],[],100⟩ (finX (w28c N) Tryd.f28 false):=by kernel_rfl
theorem w28does {N:Nat} (hc:CxOk (w28c N)) {way0:Int} {s1_0:YF2} {s1_1:Bool} {s1_2:Int} {s1_3:Int} {s1_4:Int} {e2_0:Int} {e2_1:Int} {e2_2:Int} {e2_3:Int} {e2_4:Int} {r:Res} (h:w28 N way0 s1_0 s1_1 s1_2 s1_3 s1_4 e2_0 e2_1 e2_2 e2_3 e2_4=some r):DoesR Tryd.prog 28 (([.e (.i .i64) way0,.agg [.e .tx s1_0,.e .bo s1_1,.e (.i .i64) s1_2,.e (.i .i64) s1_3,.e (.i .i64) s1_4],.agg [.e (.i .i64) e2_0,.e (.i .i64) e2_1,.e (.i .i64) e2_2,.e (.i .i64) e2_3,.e (.i .i64) e2_4]]:List X).map X.D) (HA []) r:=
 fun_ok hc (f:=28) (fn:=Tryd.f28) (code:=w28b) (by kernel_rfl) (by kernel_rfl) (w28hk N) (Nat.le_of_ble_eq_true (by kernel_rfl)) (ow:=false) ((w28q N way0 s1_0 s1_1 s1_2 s1_3 s1_4 e2_0 e2_1 e2_2 e2_3 e2_4).symm.trans (by exact h))
def w28un (r:Res):Option (YF2×Bool×Int×Int×Int):=match r with
 | (.agg [x0,x1,x2,x3,x4],[])=>(match ue .tx x0,ue .bo x1,ue (.i .i64) x2,ue (.i .i64) x3,ue (.i .i64) x4 with | some a0,some a1,some a2,some a3,some a4=>some (a0,a1,a2,a3,a4) | _,_,_,_,_=>none)
 | _=>none
theorem w28uo {r:Res} {d:YF2×Bool×Int×Int×Int} (h:w28un r=some d):r=w28r0 (d.1) (d.2.1) (d.2.2.1) (d.2.2.2.1) (d.2.2.2.2):=by
 unfold w28un at h;split at h
 ·split at h
  ·rename_i h0 h1 h2 h3 h4;cases h;rw [ue_some h0,ue_some h1,ue_some h2,ue_some h3,ue_some h4];rfl
  ·cases h
 ·cases h
def w28z (N:Nat) (way0:Int) (s1_0:YF2) (s1_1:Bool) (s1_2:Int) (s1_3:Int) (s1_4:Int) (e2_0:Int) (e2_1:Int) (e2_2:Int) (e2_3:Int) (e2_4:Int):Option (YF2×Bool×Int×Int×Int):=(w28 N way0 s1_0 s1_1 s1_2 s1_3 s1_4 e2_0 e2_1 e2_2 e2_3 e2_4).bind w28un
theorem w28fin {N:Nat} (hc:CxOk (w28c N)) {way0:Int} {s1_0:YF2} {s1_1:Bool} {s1_2:Int} {s1_3:Int} {s1_4:Int} {e2_0:Int} {e2_1:Int} {e2_2:Int} {e2_3:Int} {e2_4:Int} {d:YF2×Bool×Int×Int×Int} (hd:w28z N way0 s1_0 s1_1 s1_2 s1_3 s1_4 e2_0 e2_1 e2_2 e2_3 e2_4=some d):Does Tryd.prog 28 (([.e (.i .i64) way0,.agg [.e .tx s1_0,.e .bo s1_1,.e (.i .i64) s1_2,.e (.i .i64) s1_3,.e (.i .i64) s1_4],.agg [.e (.i .i64) e2_0,.e (.i .i64) e2_1,.e (.i .i64) e2_2,.e (.i .i64) e2_3,.e (.i .i64) e2_4]]:List X).map X.D) (HA []) (w28r0 (d.1) (d.2.1) (d.2.2.1) (d.2.2.2.1) (d.2.2.2.2)).1.D (HA (w28r0 (d.1) (d.2.1) (d.2.2.1) (d.2.2.2.1) (d.2.2.2.2)).2):=by
 obtain ⟨r,hr,hu⟩:=Option.bind_eq_some_iff.1 hd;have:=w28does hc hr;rw [w28uo hu] at this;exact this
def w28p (N:Nat) (way0:Int) (s1_0:YF2) (s1_1:Bool) (s1_2:Int) (s1_3:Int) (s1_4:Int) (e2_0:Int) (e2_1:Int) (e2_2:Int) (e2_3:Int) (e2_4:Int):Bool:=(w28z N way0 s1_0 s1_1 s1_2 s1_3 s1_4 e2_0 e2_1 e2_2 e2_3 e2_4).isSome
def w28y0 (N:Nat) (way0:Int) (s1_0:YF2) (s1_1:Bool) (s1_2:Int) (s1_3:Int) (s1_4:Int) (e2_0:Int) (e2_1:Int) (e2_2:Int) (e2_3:Int) (e2_4:Int):YF2:=((w28z N way0 s1_0 s1_1 s1_2 s1_3 s1_4 e2_0 e2_1 e2_2 e2_3 e2_4).getD ([],false,0,0,0)).1
def w28y1 (N:Nat) (way0:Int) (s1_0:YF2) (s1_1:Bool) (s1_2:Int) (s1_3:Int) (s1_4:Int) (e2_0:Int) (e2_1:Int) (e2_2:Int) (e2_3:Int) (e2_4:Int):Bool:=((w28z N way0 s1_0 s1_1 s1_2 s1_3 s1_4 e2_0 e2_1 e2_2 e2_3 e2_4).getD ([],false,0,0,0)).2.1
def w28y2 (N:Nat) (way0:Int) (s1_0:YF2) (s1_1:Bool) (s1_2:Int) (s1_3:Int) (s1_4:Int) (e2_0:Int) (e2_1:Int) (e2_2:Int) (e2_3:Int) (e2_4:Int):Int:=((w28z N way0 s1_0 s1_1 s1_2 s1_3 s1_4 e2_0 e2_1 e2_2 e2_3 e2_4).getD ([],false,0,0,0)).2.2.1
def w28y3 (N:Nat) (way0:Int) (s1_0:YF2) (s1_1:Bool) (s1_2:Int) (s1_3:Int) (s1_4:Int) (e2_0:Int) (e2_1:Int) (e2_2:Int) (e2_3:Int) (e2_4:Int):Int:=((w28z N way0 s1_0 s1_1 s1_2 s1_3 s1_4 e2_0 e2_1 e2_2 e2_3 e2_4).getD ([],false,0,0,0)).2.2.2.1
def w28y4 (N:Nat) (way0:Int) (s1_0:YF2) (s1_1:Bool) (s1_2:Int) (s1_3:Int) (s1_4:Int) (e2_0:Int) (e2_1:Int) (e2_2:Int) (e2_3:Int) (e2_4:Int):Int:=((w28z N way0 s1_0 s1_1 s1_2 s1_3 s1_4 e2_0 e2_1 e2_2 e2_3 e2_4).getD ([],false,0,0,0)).2.2.2.2
def w28e (N:Nat):Ent':=E3 (.i .i64) (.pr .tx (.pr .bo (.pr (.i .i64) (.pr (.i .i64) (.i .i64))))) (.pr (.i .i64) (.pr (.i .i64) (.pr (.i .i64) (.pr (.i .i64) (.i .i64)))))  (fun x0 x1 x2=>(w28p N x0 x1.1 x1.2.1 x1.2.2.1 x1.2.2.2.1 x1.2.2.2.2 x2.1 x2.2.1 x2.2.2.1 x2.2.2.2.1 x2.2.2.2.2,w28r0 (w28y0 N x0 x1.1 x1.2.1 x1.2.2.1 x1.2.2.2.1 x1.2.2.2.2 x2.1 x2.2.1 x2.2.2.1 x2.2.2.2.1 x2.2.2.2.2) (w28y1 N x0 x1.1 x1.2.1 x1.2.2.1 x1.2.2.2.1 x1.2.2.2.2 x2.1 x2.2.1 x2.2.2.1 x2.2.2.2.1 x2.2.2.2.2) (w28y2 N x0 x1.1 x1.2.1 x1.2.2.1 x1.2.2.2.1 x1.2.2.2.2 x2.1 x2.2.1 x2.2.2.1 x2.2.2.2.1 x2.2.2.2.2) (w28y3 N x0 x1.1 x1.2.1 x1.2.2.1 x1.2.2.2.1 x1.2.2.2.2 x2.1 x2.2.1 x2.2.2.1 x2.2.2.2.1 x2.2.2.2.2) (w28y4 N x0 x1.1 x1.2.1 x1.2.2.1 x1.2.2.2.1 x1.2.2.2.2 x2.1 x2.2.1 x2.2.2.1 x2.2.2.2.1 x2.2.2.2.2)))
theorem w28re {N:Nat} {way0:Int} {s1_0:YF2} {s1_1:Bool} {s1_2:Int} {s1_3:Int} {s1_4:Int} {e2_0:Int} {e2_1:Int} {e2_2:Int} {e2_3:Int} {e2_4:Int} {d:YF2×Bool×Int×Int×Int} (hd:w28z N way0 s1_0 s1_1 s1_2 s1_3 s1_4 e2_0 e2_1 e2_2 e2_3 e2_4=some d):w28r0 (w28y0 N way0 s1_0 s1_1 s1_2 s1_3 s1_4 e2_0 e2_1 e2_2 e2_3 e2_4) (w28y1 N way0 s1_0 s1_1 s1_2 s1_3 s1_4 e2_0 e2_1 e2_2 e2_3 e2_4) (w28y2 N way0 s1_0 s1_1 s1_2 s1_3 s1_4 e2_0 e2_1 e2_2 e2_3 e2_4) (w28y3 N way0 s1_0 s1_1 s1_2 s1_3 s1_4 e2_0 e2_1 e2_2 e2_3 e2_4) (w28y4 N way0 s1_0 s1_1 s1_2 s1_3 s1_4 e2_0 e2_1 e2_2 e2_3 e2_4)=w28r0 (d.1) (d.2.1) (d.2.2.1) (d.2.2.2.1) (d.2.2.2.2):=by unfold w28y0 w28y1 w28y2 w28y3 w28y4;rw [hd];rfl
theorem w28ok (N:Nat):EOk Tryd.prog 28 (w28e N):=EOk.e3 (fun x0 x1 x2 h=>by
 have h:(w28z N x0 x1.1 x1.2.1 x1.2.2.1 x1.2.2.2.1 x1.2.2.2.2 x2.1 x2.2.1 x2.2.2.1 x2.2.2.2.1 x2.2.2.2.2).isSome=true:=h;obtain ⟨d,hd⟩:=Option.isSome_iff_exists.1 h;have f:=w28fin (w28cx N) hd;rw [← w28re hd] at f;exact f)
def w9r0 (a0:Bool):Res:=(.e .bo a0,[])
def w9L (N:Nat):List (Nat×Ent'):=[(22,w22e N)]
def w9c (N:Nat):Cx:=⟨Tryd.prog,99999,w9L N,[]⟩
def w9b:Code:=Tryd.f9.body.getD .skip
theorem w9cx (N:Nat):CxOk (w9c N):=ctx_ok (by kernel_rfl) (.cons (by kernel_rfl) (w22ok N) .nil) .nil
def w9F0 [Alg] (_:Nat)  (self:Int->O) (k0:Bool->O) (k1:Int->Int->YF2->Bool->Bool->O) (x0_0:Int) (x0_1:Int) (x0_2:YF2) (x0_3:Bool) (x0_4:Bool) (x0_5:Int):O:=
 br (decide (x0_5 < (↑x0_2.length:Int)))
  (gx x0_2 x0_5 fun y9=>
  gc (!decide (y9 < (32:UInt8))) ((0:UInt8)) x0_2 x0_5 fun y10=>
  gc (!(decide (y9 < (32:UInt8))||decide ((126:UInt8) < y10))&&decide (x0_0≠(2:Int))) ((0:UInt8)) x0_2 x0_5 fun y11=>
  gc (!(decide (y9 < (32:UInt8))||decide ((126:UInt8) < y10))&&decide (x0_0≠(2:Int))&&!decide (y11 < (48:UInt8))) ((0:UInt8)) x0_2 x0_5 fun y12=>
  br (decide (y9 < (32:UInt8))||decide ((126:UInt8) < y10)||decide (x0_0≠(2:Int))&&(decide (y11 < (48:UInt8))||decide ((57:UInt8) < y12)))
   (k0 false)
   (self (IntKind.i64.wrap (x0_5+(1:Int)))))
  (k1 x0_0 x0_1 x0_2 x0_3 x0_4)
def w9b0:Code:=atC [1,1,0,1,0,0] w9b
def w9m0:Nm:=⟨[0,1,2,6,10,7],[],[]⟩
def w9I0 (x:Int×Int×YF2×Bool×Bool×Int):Sg:=⟨[(0,.e (.i .i64) x.1),(1,.e (.i .i64) x.2.1),(2,.e .tx x.2.2.1),(6,.e .bo x.2.2.2.1),(10,.e .bo x.2.2.2.2.1),(7,.e (.i .i64) x.2.2.2.2.2)],[],100⟩
def w9u0 (σ:Sg):Int×Int×YF2×Bool×Bool×Int:=(lvT (.i .i64) 0 0 σ,lvT (.i .i64) 1 0 σ,lvT .tx 2 0 σ,lvT .bo 6 0 σ,lvT .bo 10 0 σ,lvT (.i .i64) 7 0 σ)
theorem w9ui0:∀ x,w9u0 (w9I0 x)=x:=fun _=>by kernel_rfl
def w9X0_0 (y:Bool):Exit×Sg:=(.ret,⟨[(6,.e .bo y)],[],100⟩)
def w9v0_0 (_:Exit) (σ:Sg):Bool:=lvT .bo 6 0 σ
def w9X0_1 (y:Int×Int×YF2×Bool×Bool):Exit×Sg:=((.exit 0),⟨[(0,.e (.i .i64) y.1),(1,.e (.i .i64) y.2.1),(2,.e .tx y.2.2.1),(6,.e .bo y.2.2.2.1),(10,.e .bo y.2.2.2.2)],[],100⟩)
def w9v0_1 (_:Exit) (σ:Sg):Int×Int×YF2×Bool×Bool:=(lvT (.i .i64) 0 0 σ,lvT (.i .i64) 1 0 σ,lvT .tx 2 0 σ,lvT .bo 6 0 σ,lvT .bo 10 0 σ)
def w9w0:List (Exit×Nm):=[(.ret,⟨[6],[],[]⟩),((.exit 0),⟨[0,1,2,6,10],[],[]⟩)]
theorem w9o0:Outs w9v0_0 w9v0_1 (fun _ _=>()) w9X0_0 w9X0_1 (noX 2) (exC .ret) (exC (.exit 0)) (exC (.goto 2)):=⟨fun _=>by kernel_rfl,fun _=>by kernel_rfl,fun _=>by kernel_rfl,fun _=>by kernel_rfl,fun _=>by kernel_rfl,fun _=>by kernel_rfl,exNe_ok (by kernel_rfl),exNe_ok (by kernel_rfl),exNe_ok (by kernel_rfl)⟩
def w9l0 [Alg] (N:Nat):Nat->(Int×Int×YF2×Bool×Bool×Int)->((Bool)->O)->((Int×Int×YF2×Bool×Bool)->O)->((Unit)->O)->O
 | 0,_,_,_,_=>none
 | n+1,x,k0,k1,k2=>w9F0 N  (fun v0=>w9l0 N n (x.1,x.2.1,x.2.2.1,x.2.2.2.1,x.2.2.2.2.1,v0) k0 k1 k2) (fun y0=>k0 y0) (fun y0 y1 y2 y3 y4=>k1 (y0,y1,y2,y3,y4)) x.1 x.2.1 x.2.2.1 x.2.2.2.1 x.2.2.2.2.1 x.2.2.2.2.2
def w9n0 [Alg] (N:Nat) (a0:Int) (a1:Int) (a2:YF2) (a3:Bool) (a4:Bool) (a5:Int) (k0:Bool->O) (k1:Int->Int->YF2->Bool->Bool->O):O:=w9l0 N N (a0,a1,a2,a3,a4,a5) (fun y=>k0 y) (fun y=>k1 y.1 y.2.1 y.2.2.1 y.2.2.2.1 y.2.2.2.2) (fun _=>none)
def w9s0 [Alg] (N:Nat) (a0:Int) (a1:Int) (a2:YF2) (a3:Bool) (a4:Bool) (a5:Int) (k0:Bool->O) (k1:Int->Int->YF2->Bool->Bool->O):O:=subL w9I0 w9u0 (w9l0 N N) (w9I0 (a0,a1,a2,a3,a4,a5)) (fun y=>k0 y) (fun y=>k1 y.1 y.2.1 y.2.2.1 y.2.2.2.1 y.2.2.2.2) (fun _=>none)
theorem w9e0 [Alg] (N:Nat):w9s0 N=w9n0 N:=funext fun _=>funext fun _=>funext fun _=>funext fun _=>funext fun _=>funext fun _=>funext fun _=>funext fun _=>subL_I w9ui0 _ _ _ _
def w9h0 [Alg] (_:Nat):Hint:=.d
theorem w9hk0 (N:Nat):HintOk (w9c N) Tryd.f9.ntmps (w9h0 N) w9b0:=hk_of _ _ trivial
theorem w9q0 [Alg] (N:Nat) (self:Sg->O) (K:Exit->Sg->O) (x:Int×Int×YF2×Bool×Bool×Int):w9F0 N  (fun v0=>self (w9I0 (x.1,x.2.1,x.2.2.1,x.2.2.2.1,x.2.2.2.2.1,v0))) (fun y0=>K (w9X0_0 y0).1 (w9X0_0 y0).2) (fun y0 y1 y2 y3 y4=>K (w9X0_1 (y0,y1,y2,y3,y4)).1 (w9X0_1 (y0,y1,y2,y3,y4)).2) x.1 x.2.1 x.2.2.1 x.2.2.2.1 x.2.2.2.2.1 x.2.2.2.2.2=exec (w9c N) Tryd.f9.ntmps (w9h0 N) w9b0 (w9I0 x) (roundX w9m0 w9w0 self K):=by kernel_rfl
theorem w9S0 (N:Nat) (hc:CxOk (w9c N)):SubOk (w9c N) Tryd.f9.ntmps (.loop w9b0) w9X0_0 w9X0_1 (noX 2) (subL w9I0 w9u0 (w9l0 N N)):=
 sub_loop hc (w9hk0 N) w9o0 (n:=N) (fun x K=>loop_ind (w9l0 N) (fun _ _ _ _=>rfl) (fun n K ih x=>by
  have h:w9F0 N  (fun v0=>w9l0 N n (x.1,x.2.1,x.2.2.1,x.2.2.2.1,x.2.2.2.2.1,v0) (fun y=>K (w9X0_0 y).1 (w9X0_0 y).2) (fun y=>K (w9X0_1 y).1 (w9X0_1 y).2) (fun y=>K ((noX 2) y).1 ((noX 2) y).2)) (fun y0=>K (w9X0_0 y0).1 (w9X0_0 y0).2) (fun y0 y1 y2 y3 y4=>K (w9X0_1 (y0,y1,y2,y3,y4)).1 (w9X0_1 (y0,y1,y2,y3,y4)).2) x.1 x.2.1 x.2.2.1 x.2.2.2.1 x.2.2.2.2.1 x.2.2.2.2.2=w9F0 N  (fun v0=>loopX (w9c N) Tryd.f9.ntmps (w9h0 N) w9b0 w9m0 w9w0 n (w9I0 (x.1,x.2.1,x.2.2.1,x.2.2.2.1,x.2.2.2.2.1,v0)) K) (fun y0=>K (w9X0_0 y0).1 (w9X0_0 y0).2) (fun y0 y1 y2 y3 y4=>K (w9X0_1 (y0,y1,y2,y3,y4)).1 (w9X0_1 (y0,y1,y2,y3,y4)).2) x.1 x.2.1 x.2.2.1 x.2.2.2.1 x.2.2.2.2.1 x.2.2.2.2.2:=by rw [ show (fun v0=>w9l0 N n (x.1,x.2.1,x.2.2.1,x.2.2.2.1,x.2.2.2.2.1,v0) (fun y=>K (w9X0_0 y).1 (w9X0_0 y).2) (fun y=>K (w9X0_1 y).1 (w9X0_1 y).2) (fun y=>K ((noX 2) y).1 ((noX 2) y).2))=(fun v0=>loopX (w9c N) Tryd.f9.ntmps (w9h0 N) w9b0 w9m0 w9w0 n (w9I0 (x.1,x.2.1,x.2.2.1,x.2.2.2.1,x.2.2.2.2.1,v0)) K) from funext fun _=>ih _]
  exact h.trans (w9q0 N (fun σ=>loopX (w9c N) Tryd.f9.ntmps (w9h0 N) w9b0 w9m0 w9w0 n σ K) K x)) N x K)
def w9G [Alg] (N:Nat) (in0:Int->Int->YF2->Bool->Bool->Int->(Bool->O)->(Int->Int->YF2->Bool->Bool->O)->O) (kind0:Int) (options1:Int) (s2:YF2):O:=
 ck (w22p N kind0 options1) <|
 br (!w22y0 N kind0 options1||decide ((↑s2.length:Int)=(0:Int))||decide ((40:Int) < (↑s2.length:Int)))
  (some (w9r0 false))
  (in0 kind0 options1 s2 false (w22y0 N kind0 options1) ((0:Int))
   (fun z13=>
    some (w9r0 z13))
   (fun z14 z15 z16 _ _=>
    br (decide (z14=(0:Int)))
     (gc (decide ((↑z16.length:Int)=(1:Int))) ((0:UInt8)) z16 ((0:Int)) fun y19=>
     some (w9r0 (decide ((↑z16.length:Int)=(1:Int))&&decide (IntKind.i64.wrap (↑(y19 - (48:UInt8)).toNat:Int) < z15))))
     (gc (!decide (z14=(2:Int))&&decide ((↑z16.length:Int)<=(3:Int))&&!decide ((↑z16.length:Int)=(1:Int))) ((0:UInt8)) z16 ((0:Int)) fun y20=>
     some (w9r0 (decide (z14=(2:Int))||decide ((↑z16.length:Int)<=(3:Int))&&(decide ((↑z16.length:Int)=(1:Int))||decide (y20≠(48:UInt8))))))))
def w9 [Alg] (N:Nat) (kind0:Int) (options1:Int) (s2:YF2):O:=w9G N (w9n0 N) kind0 options1 s2
def w9h [Alg] (N:Nat):Hint:=(.seq .d (.seq .d (.seq (.seq .d (.block (.sub w9m0 _ _ _ w9X0_0 w9X0_1 (noX 2) (subL w9I0 w9u0 (w9l0 N N))))) .d)))
theorem w9hk (N:Nat) (hc:CxOk (w9c N)):HintOk (w9c N) Tryd.f9.ntmps (w9h N) w9b:=hk_of _ _ (And.intro trivial (And.intro trivial (And.intro (And.intro trivial (w9S0 N hc)) trivial)))
theorem w9q [Alg] (N:Nat) (kind0:Int) (options1:Int) (s2:YF2):w9G N (w9s0 N) kind0 options1 s2=exec (w9c N) Tryd.f9.ntmps (w9h N) w9b ⟨argT 0 [.e (.i .i64) kind0,.e (.i .i64) options1,.e .tx s2],[],100⟩ (finX (w9c N) Tryd.f9 false):=by kernel_rfl
theorem w9does {N:Nat} (hc:CxOk (w9c N)) {kind0:Int} {options1:Int} {s2:YF2} {r:Res} (h:w9 N kind0 options1 s2=some r):DoesR Tryd.prog 9 (([.e (.i .i64) kind0,.e (.i .i64) options1,.e .tx s2]:List X).map X.D) (HA []) r:=
 fun_ok hc (f:=9) (fn:=Tryd.f9) (code:=w9b) (by kernel_rfl) (by kernel_rfl) (w9hk N hc) (Nat.le_of_ble_eq_true (by kernel_rfl)) (ow:=false) ((w9q N kind0 options1 s2).symm.trans (by rw [w9e0 N];exact h))
def w9un (r:Res):Option (Bool):=match r with
 | (x0,[])=>(match ue .bo x0 with | some a0=>some a0 | _=>none)
 | _=>none
theorem w9uo {r:Res} {d:Bool} (h:w9un r=some d):r=w9r0 (d):=by
 unfold w9un at h;split at h
 ·split at h
  ·rename_i h0;cases h;rw [ue_some h0];rfl
  ·cases h
 ·cases h
def w9z (N:Nat) (kind0:Int) (options1:Int) (s2:YF2):Option (Bool):=(w9 N kind0 options1 s2).bind w9un
theorem w9fin {N:Nat} (hc:CxOk (w9c N)) {kind0:Int} {options1:Int} {s2:YF2} {d:Bool} (hd:w9z N kind0 options1 s2=some d):Does Tryd.prog 9 (([.e (.i .i64) kind0,.e (.i .i64) options1,.e .tx s2]:List X).map X.D) (HA []) (w9r0 (d)).1.D (HA (w9r0 (d)).2):=by
 obtain ⟨r,hr,hu⟩:=Option.bind_eq_some_iff.1 hd;have:=w9does hc hr;rw [w9uo hu] at this;exact this
def w9p (N:Nat) (kind0:Int) (options1:Int) (s2:YF2):Bool:=(w9z N kind0 options1 s2).isSome
def w9y0 (N:Nat) (kind0:Int) (options1:Int) (s2:YF2):Bool:=((w9z N kind0 options1 s2).getD false)
def w9e (N:Nat):Ent':=E3 (.i .i64) (.i .i64) .tx  (fun x0 x1 x2=>(w9p N x0 x1 x2,w9r0 (w9y0 N x0 x1 x2)))
theorem w9re {N:Nat} {kind0:Int} {options1:Int} {s2:YF2} {d:Bool} (hd:w9z N kind0 options1 s2=some d):w9r0 (w9y0 N kind0 options1 s2)=w9r0 (d):=by unfold w9y0;rw [hd];rfl
theorem w9ok (N:Nat):EOk Tryd.prog 9 (w9e N):=EOk.e3 (fun x0 x1 x2 h=>by
 have h:(w9z N x0 x1 x2).isSome=true:=h;obtain ⟨d,hd⟩:=Option.isSome_iff_exists.1 h;have f:=w9fin (w9cx N) hd;rw [← w9re hd] at f;exact f)
def w12r0 (a0:Int) (a1:Int):Res:=(.tup [.e (.i .i64) a0,.e (.i .i64) a1],[])
def w12L (N:Nat):List (Nat×Ent'):=[(6,w6e N)]
def w12c (N:Nat):Cx:=⟨Tryd.prog,99999,w12L N,[]⟩
def w12b:Code:=Tryd.f12.body.getD .skip
theorem w12cx (N:Nat):CxOk (w12c N):=ctx_ok (by kernel_rfl) (.cons (by kernel_rfl) (w6ok N) .nil) .nil
def w12G [Alg] (N:Nat)  (kind0:Int) (options1:Int):O:=
 ck (w6p N kind0 (3:Int)) <|
 br (decide (w6y0 N kind0 (3:Int)=(0:Int)))
  (ck (w6p N options1 (5:Int)) <|
  some (w12r0 (w6y0 N kind0 (3:Int)) (IntKind.i64.wrap ((2:Int)+w6y0 N options1 (5:Int)))))
  (some (w12r0 (w6y0 N kind0 (3:Int)) ((0:Int))))
def w12 [Alg] (N:Nat) (kind0:Int) (options1:Int):O:=w12G N  kind0 options1
def w12h [Alg] (_:Nat):Hint:=.d
theorem w12hk (N:Nat):HintOk (w12c N) Tryd.f12.ntmps (w12h N) w12b:=hk_of _ _ trivial
theorem w12q [Alg] (N:Nat) (kind0:Int) (options1:Int):w12G N  kind0 options1=exec (w12c N) Tryd.f12.ntmps (w12h N) w12b ⟨argT 0 [.e (.i .i64) kind0,.e (.i .i64) options1],[],100⟩ (finX (w12c N) Tryd.f12 false):=by kernel_rfl
theorem w12does {N:Nat} (hc:CxOk (w12c N)) {kind0:Int} {options1:Int} {r:Res} (h:w12 N kind0 options1=some r):DoesR Tryd.prog 12 (([.e (.i .i64) kind0,.e (.i .i64) options1]:List X).map X.D) (HA []) r:=
 fun_ok hc (f:=12) (fn:=Tryd.f12) (code:=w12b) (by kernel_rfl) (by kernel_rfl) (w12hk N) (Nat.le_of_ble_eq_true (by kernel_rfl)) (ow:=false) ((w12q N kind0 options1).symm.trans (by exact h))
def w12un (r:Res):Option (Int×Int):=match r with
 | (.tup [x0,x1],[])=>(match ue (.i .i64) x0,ue (.i .i64) x1 with | some a0,some a1=>some (a0,a1) | _,_=>none)
 | _=>none
theorem w12uo {r:Res} {d:Int×Int} (h:w12un r=some d):r=w12r0 (d.1) (d.2):=by
 unfold w12un at h;split at h
 ·split at h
  ·rename_i h0 h1;cases h;rw [ue_some h0,ue_some h1];rfl
  ·cases h
 ·cases h
def w12z (N:Nat) (kind0:Int) (options1:Int):Option (Int×Int):=(w12 N kind0 options1).bind w12un
theorem w12fin {N:Nat} (hc:CxOk (w12c N)) {kind0:Int} {options1:Int} {d:Int×Int} (hd:w12z N kind0 options1=some d):Does Tryd.prog 12 (([.e (.i .i64) kind0,.e (.i .i64) options1]:List X).map X.D) (HA []) (w12r0 (d.1) (d.2)).1.D (HA (w12r0 (d.1) (d.2)).2):=by
 obtain ⟨r,hr,hu⟩:=Option.bind_eq_some_iff.1 hd;have:=w12does hc hr;rw [w12uo hu] at this;exact this
def w12p (N:Nat) (kind0:Int) (options1:Int):Bool:=(w12z N kind0 options1).isSome
def w12y0 (N:Nat) (kind0:Int) (options1:Int):Int:=((w12z N kind0 options1).getD (0,0)).1
def w12y1 (N:Nat) (kind0:Int) (options1:Int):Int:=((w12z N kind0 options1).getD (0,0)).2
def w12e (N:Nat):Ent':=E2 (.i .i64) (.i .i64)  (fun x0 x1=>(w12p N x0 x1,w12r0 (w12y0 N x0 x1) (w12y1 N x0 x1)))
theorem w12re {N:Nat} {kind0:Int} {options1:Int} {d:Int×Int} (hd:w12z N kind0 options1=some d):w12r0 (w12y0 N kind0 options1) (w12y1 N kind0 options1)=w12r0 (d.1) (d.2):=by unfold w12y0 w12y1;rw [hd];rfl
theorem w12ok (N:Nat):EOk Tryd.prog 12 (w12e N):=EOk.e2 (fun x0 x1 h=>by
 have h:(w12z N x0 x1).isSome=true:=h;obtain ⟨d,hd⟩:=Option.isSome_iff_exists.1 h;have f:=w12fin (w12cx N) hd;rw [← w12re hd] at f;exact f)
def w27r0 (a0:(List (List Bool))):Res:=(.e (.sl (.sl .bo)) a0,[])
def w27L (N:Nat):List (Nat×Ent'):=[(999999,lue N)]
def w27c (N:Nat):Cx:=⟨Tryd.prog,99999,w27L N,[]⟩
def w27b:Code:=Tryd.f27.body.getD .skip
theorem w27cx (N:Nat):CxOk (w27c N):=ctx_ok (by kernel_rfl) (.cons (by kernel_rfl) (luok N) .nil) .nil
def w27F0 [Alg] (_:Nat)  (self:Int->(List ((List Bool)×Unit))->O) (k0:(List (Int×(Int×(Int×(Int×Int)))))->Int->(List ((List Bool)×Unit))->O) (x0_0:(List (Int×(Int×(Int×(Int×Int)))))) (x0_1:Int) (x0_2:(List ((List Bool)×Unit))):O:=
 br (decide (x0_1 < (40:Int)))
  (gx x0_2 (lendI (4:Nat) x0_1) fun _=>
  ck true <|
  ck true <|
  ck (decide ((0:Int)<=x0_1/\x0_1 < (↑x0_2.length:Int))) <|
  ck (decide (x0_1.toNat=(lendI (4:Nat) x0_1).toNat)) <|
  gn x0_2 x0_1.toNat fun _=>
  gx x0_2 (lendI (4:Nat) x0_1) fun y9=>
  self (IntKind.i64.wrap (x0_1+(1:Int))) (x0_2.set (lendI (4:Nat) x0_1).toNat ([false,false,false,false,false,false,false,false,false,false,false,false,false,false,false,false,false,false,false,false,false,false,false,false,false,false,false,false,false,false,false,false,false,false,false,false,false,false,false,false,false,false,false,false,false,false,false,false,false,false,false,false,false,false,false,false,false,false,false,false,false,false,false,false,false,false,false,false,false,false,false,false,false,false,false,false,false,false,false,false,false,false,false,false,false,false,false,false,false,false,false,false,false,false,false,false,false,false,false,false,false,false,false,false,false,false,false,false,false,false,false,false,false,false,false,false,false,false,false,false,false,false,false,false,false,false,false],y9.2)))
  (k0 x0_0 x0_1 x0_2)
def w27b0:Code:=atC [1,1,0,1,0,0] w27b
def w27m0:Nm:=⟨[0,3,4],[],[]⟩
def w27I0 (x:(List (Int×(Int×(Int×(Int×Int)))))×Int×(List ((List Bool)×Unit))):Sg:=⟨[(0,.e (.sl (.pr (.i .i64) (.pr (.i .i64) (.pr (.i .i64) (.pr (.i .i64) (.i .i64)))))) x.1),(3,.own 0),(4,.e (.i .i64) x.2.1)],[(0,.nst 89 4 .bo .un x.2.2 none)],100⟩
def w27u0 (σ:Sg):(List (Int×(Int×(Int×(Int×Int)))))×Int×(List ((List Bool)×Unit)):=(lvT (.sl (.pr (.i .i64) (.pr (.i .i64) (.pr (.i .i64) (.pr (.i .i64) (.i .i64)))))) 0 0 σ,lvT (.i .i64) 4 0 σ,lvS .bo .un 0 σ)
theorem w27ui0:∀ x,w27u0 (w27I0 x)=x:=fun _=>by kernel_rfl
def w27X0_0 (y:(List (Int×(Int×(Int×(Int×Int)))))×Int×(List ((List Bool)×Unit))):Exit×Sg:=((.exit 0),⟨[(0,.e (.sl (.pr (.i .i64) (.pr (.i .i64) (.pr (.i .i64) (.pr (.i .i64) (.i .i64)))))) y.1),(3,.own 0),(8,.e (.i .i64) y.2.1)],[(0,.nst 89 4 .bo .un y.2.2 none)],100⟩)
def w27v0_0 (_:Exit) (σ:Sg):(List (Int×(Int×(Int×(Int×Int)))))×Int×(List ((List Bool)×Unit)):=(lvT (.sl (.pr (.i .i64) (.pr (.i .i64) (.pr (.i .i64) (.pr (.i .i64) (.i .i64)))))) 0 0 σ,lvT (.i .i64) 8 0 σ,lvS .bo .un 0 σ)
def w27w0:List (Exit×Nm):=[((.exit 0),⟨[0,3,8],[],[]⟩)]
theorem w27o0:Outs w27v0_0 (fun _ _=>()) (fun _ _=>()) w27X0_0 (noX 1) (noX 2) (exC (.exit 0)) (exC (.goto 1)) (exC (.goto 2)):=⟨fun _=>by kernel_rfl,fun _=>by kernel_rfl,fun _=>by kernel_rfl,fun _=>by kernel_rfl,fun _=>by kernel_rfl,fun _=>by kernel_rfl,exNe_ok (by kernel_rfl),exNe_ok (by kernel_rfl),exNe_ok (by kernel_rfl)⟩
def w27l0 [Alg] (N:Nat):Nat->((List (Int×(Int×(Int×(Int×Int)))))×Int×(List ((List Bool)×Unit)))->(((List (Int×(Int×(Int×(Int×Int)))))×Int×(List ((List Bool)×Unit)))->O)->((Unit)->O)->((Unit)->O)->O
 | 0,_,_,_,_=>none
 | n+1,x,k0,k1,k2=>w27F0 N  (fun v0 v1=>w27l0 N n (x.1,v0,v1) k0 k1 k2) (fun y0 y1 y2=>k0 (y0,y1,y2)) x.1 x.2.1 x.2.2
def w27n0 [Alg] (N:Nat) (a0:(List (Int×(Int×(Int×(Int×Int)))))) (a1:Int) (a2:(List ((List Bool)×Unit))) (k0:(List (Int×(Int×(Int×(Int×Int)))))->Int->(List ((List Bool)×Unit))->O):O:=w27l0 N N (a0,a1,a2) (fun y=>k0 y.1 y.2.1 y.2.2) (fun _=>none) (fun _=>none)
def w27s0 [Alg] (N:Nat) (a0:(List (Int×(Int×(Int×(Int×Int)))))) (a1:Int) (a2:(List ((List Bool)×Unit))) (k0:(List (Int×(Int×(Int×(Int×Int)))))->Int->(List ((List Bool)×Unit))->O):O:=subL w27I0 w27u0 (w27l0 N N) (w27I0 (a0,a1,a2)) (fun y=>k0 y.1 y.2.1 y.2.2) (fun _=>none) (fun _=>none)
theorem w27e0 [Alg] (N:Nat):w27s0 N=w27n0 N:=funext fun _=>funext fun _=>funext fun _=>funext fun _=>subL_I w27ui0 _ _ _ _
def w27h0 [Alg] (_:Nat):Hint:=(.seq .d (.seq (.block (.reg [] [.lend 3 4] [])) (.reg [] [.bk 3] [])))
theorem w27hk0 (N:Nat):HintOk (w27c N) Tryd.f27.ntmps (w27h0 N) w27b0:=hk_of _ _ (And.intro trivial (And.intro trivial trivial))
theorem w27q0 [Alg] (N:Nat) (self:Sg->O) (K:Exit->Sg->O) (x:(List (Int×(Int×(Int×(Int×Int)))))×Int×(List ((List Bool)×Unit))):w27F0 N  (fun v0 v1=>self (w27I0 (x.1,v0,v1))) (fun y0 y1 y2=>K (w27X0_0 (y0,y1,y2)).1 (w27X0_0 (y0,y1,y2)).2) x.1 x.2.1 x.2.2=exec (w27c N) Tryd.f27.ntmps (w27h0 N) w27b0 (w27I0 x) (roundX w27m0 w27w0 self K):=by kernel_rfl
theorem w27S0 (N:Nat) (hc:CxOk (w27c N)):SubOk (w27c N) Tryd.f27.ntmps (.loop w27b0) w27X0_0 (noX 1) (noX 2) (subL w27I0 w27u0 (w27l0 N N)):=
 sub_loop hc (w27hk0 N) w27o0 (n:=N) (fun x K=>loop_ind (w27l0 N) (fun _ _ _ _=>rfl) (fun n K ih x=>by
  have h:w27F0 N  (fun v0 v1=>w27l0 N n (x.1,v0,v1) (fun y=>K (w27X0_0 y).1 (w27X0_0 y).2) (fun y=>K ((noX 1) y).1 ((noX 1) y).2) (fun y=>K ((noX 2) y).1 ((noX 2) y).2)) (fun y0 y1 y2=>K (w27X0_0 (y0,y1,y2)).1 (w27X0_0 (y0,y1,y2)).2) x.1 x.2.1 x.2.2=w27F0 N  (fun v0 v1=>loopX (w27c N) Tryd.f27.ntmps (w27h0 N) w27b0 w27m0 w27w0 n (w27I0 (x.1,v0,v1)) K) (fun y0 y1 y2=>K (w27X0_0 (y0,y1,y2)).1 (w27X0_0 (y0,y1,y2)).2) x.1 x.2.1 x.2.2:=by rw [ show (fun v0 v1=>w27l0 N n (x.1,v0,v1) (fun y=>K (w27X0_0 y).1 (w27X0_0 y).2) (fun y=>K ((noX 1) y).1 ((noX 1) y).2) (fun y=>K ((noX 2) y).1 ((noX 2) y).2))=(fun v0 v1=>loopX (w27c N) Tryd.f27.ntmps (w27h0 N) w27b0 w27m0 w27w0 n (w27I0 (x.1,v0,v1)) K) from funext fun _=>funext fun _=>ih _]
  exact h.trans (w27q0 N (fun σ=>loopX (w27c N) Tryd.f27.ntmps (w27h0 N) w27b0 w27m0 w27w0 n σ K) K x)) N x K)
def w27F1 [Alg] (_:Nat)  (self:Int->(List ((List Bool)×Unit))->O) (k0:(List ((List Bool)×Unit))->O) (x13_0:(List (Int×(Int×(Int×(Int×Int)))))) (_x13_1:Int) (x13_2:Int) (x13_3:(List ((List Bool)×Unit))):O:=
 br (decide (x13_2 < (↑x13_0.length:Int)))
  (gx x13_0 x13_2 fun y24=>
  br (decide ((0:Int)<=y24.2.2.1)&&decide (y24.2.2.1 < (40:Int))&&decide ((32:Int)<=y24.2.2.2.1)&&decide (y24.2.2.2.1<=(126:Int))&&(decide (y24.2.2.2.2=(0:Int))||decide (y24.2.2.2.2=(1:Int))))
   (gx x13_3 (lendI (27:Nat) y24.2.2.1) fun y25=>
   ck (decide ((0:Int)<=y24.2.2.1/\y24.2.2.1 < (↑x13_3.length:Int))) <|
   ck (decide (y24.2.2.1.toNat=(lendI (27:Nat) y24.2.2.1).toNat)) <|
   gn x13_3 y24.2.2.1.toNat fun _=>
   ck (decide ((0:Int)<=y24.2.2.2.1/\y24.2.2.2.1 < (↑y25.1.length:Int))) <|
   gn y25.1 y24.2.2.2.1.toNat fun _=>
   gx x13_3 (lendI (27:Nat) y24.2.2.1) fun y28=>
   self (IntKind.i64.wrap (x13_2+(1:Int))) (x13_3.set (lendI (27:Nat) y24.2.2.1).toNat (y25.1.set y24.2.2.2.1.toNat (decide (y24.2.2.2.2=(1:Int))),y28.2)))
   (self (IntKind.i64.wrap (x13_2+(1:Int))) x13_3))
  (k0 x13_3)
def w27b1:Code:=atC [1,1,1,0,1,0,0] w27b
def w27m1:Nm:=⟨[0,3,8,5],[],[]⟩
def w27I1 (x:(List (Int×(Int×(Int×(Int×Int)))))×Int×Int×(List ((List Bool)×Unit))):Sg:=⟨[(0,.e (.sl (.pr (.i .i64) (.pr (.i .i64) (.pr (.i .i64) (.pr (.i .i64) (.i .i64)))))) x.1),(3,.own 0),(8,.e (.i .i64) x.2.1),(5,.e (.i .i64) x.2.2.1)],[(0,.nst 89 4 .bo .un x.2.2.2 none)],100⟩
def w27u1 (σ:Sg):(List (Int×(Int×(Int×(Int×Int)))))×Int×Int×(List ((List Bool)×Unit)):=(lvT (.sl (.pr (.i .i64) (.pr (.i .i64) (.pr (.i .i64) (.pr (.i .i64) (.i .i64)))))) 0 0 σ,lvT (.i .i64) 8 0 σ,lvT (.i .i64) 5 0 σ,lvS .bo .un 0 σ)
theorem w27ui1:∀ x,w27u1 (w27I1 x)=x:=fun _=>by kernel_rfl
def w27X1_0 (y:(List ((List Bool)×Unit))):Exit×Sg:=((.exit 2),⟨[(3,.own 0)],[(0,.nst 89 4 .bo .un y none)],100⟩)
def w27v1_0 (_:Exit) (σ:Sg):(List ((List Bool)×Unit)):=lvS .bo .un 0 σ
def w27w1:List (Exit×Nm):=[((.exit 2),⟨[3],[],[]⟩)]
theorem w27o1:Outs w27v1_0 (fun _ _=>()) (fun _ _=>()) w27X1_0 (noX 1) (noX 2) (exC (.exit 2)) (exC (.goto 1)) (exC (.goto 2)):=⟨fun _=>by kernel_rfl,fun _=>by kernel_rfl,fun _=>by kernel_rfl,fun _=>by kernel_rfl,fun _=>by kernel_rfl,fun _=>by kernel_rfl,exNe_ok (by kernel_rfl),exNe_ok (by kernel_rfl),exNe_ok (by kernel_rfl)⟩
def w27l1 [Alg] (N:Nat):Nat->((List (Int×(Int×(Int×(Int×Int)))))×Int×Int×(List ((List Bool)×Unit)))->(((List ((List Bool)×Unit)))->O)->((Unit)->O)->((Unit)->O)->O
 | 0,_,_,_,_=>none
 | n+1,x,k0,k1,k2=>w27F1 N  (fun v0 v1=>w27l1 N n (x.1,x.2.1,v0,v1) k0 k1 k2) (fun y0=>k0 y0) x.1 x.2.1 x.2.2.1 x.2.2.2
def w27n1 [Alg] (N:Nat) (a0:(List (Int×(Int×(Int×(Int×Int)))))) (a1:Int) (a2:Int) (a3:(List ((List Bool)×Unit))) (k0:(List ((List Bool)×Unit))->O):O:=w27l1 N N (a0,a1,a2,a3) (fun y=>k0 y) (fun _=>none) (fun _=>none)
def w27s1 [Alg] (N:Nat) (a0:(List (Int×(Int×(Int×(Int×Int)))))) (a1:Int) (a2:Int) (a3:(List ((List Bool)×Unit))) (k0:(List ((List Bool)×Unit))->O):O:=subL w27I1 w27u1 (w27l1 N N) (w27I1 (a0,a1,a2,a3)) (fun y=>k0 y) (fun _=>none) (fun _=>none)
theorem w27e1 [Alg] (N:Nat):w27s1 N=w27n1 N:=funext fun _=>funext fun _=>funext fun _=>funext fun _=>funext fun _=>subL_I w27ui1 _ _ _ _
def w27h1 [Alg] (_:Nat):Hint:=(.seq .d (.seq (.block (.seq .d (.seq .d (.cond (.reg [] [.lend 3 27] [[],[],[],[],[],[],[],[],[],[],[],[404]]) .d)))) (.reg [] [.bk 3] [])))
theorem w27hk1 (N:Nat):HintOk (w27c N) Tryd.f27.ntmps (w27h1 N) w27b1:=hk_of _ _ (And.intro trivial (And.intro (And.intro trivial (And.intro trivial (And.intro trivial trivial))) trivial))
theorem w27q1 [Alg] (N:Nat) (self:Sg->O) (K:Exit->Sg->O) (x:(List (Int×(Int×(Int×(Int×Int)))))×Int×Int×(List ((List Bool)×Unit))):w27F1 N  (fun v0 v1=>self (w27I1 (x.1,x.2.1,v0,v1))) (fun y0=>K (w27X1_0 y0).1 (w27X1_0 y0).2) x.1 x.2.1 x.2.2.1 x.2.2.2=exec (w27c N) Tryd.f27.ntmps (w27h1 N) w27b1 (w27I1 x) (roundX w27m1 w27w1 self K):=by kernel_rfl
theorem w27S1 (N:Nat) (hc:CxOk (w27c N)):SubOk (w27c N) Tryd.f27.ntmps (.loop w27b1) w27X1_0 (noX 1) (noX 2) (subL w27I1 w27u1 (w27l1 N N)):=
 sub_loop hc (w27hk1 N) w27o1 (n:=N) (fun x K=>loop_ind (w27l1 N) (fun _ _ _ _=>rfl) (fun n K ih x=>by
  have h:w27F1 N  (fun v0 v1=>w27l1 N n (x.1,x.2.1,v0,v1) (fun y=>K (w27X1_0 y).1 (w27X1_0 y).2) (fun y=>K ((noX 1) y).1 ((noX 1) y).2) (fun y=>K ((noX 2) y).1 ((noX 2) y).2)) (fun y0=>K (w27X1_0 y0).1 (w27X1_0 y0).2) x.1 x.2.1 x.2.2.1 x.2.2.2=w27F1 N  (fun v0 v1=>loopX (w27c N) Tryd.f27.ntmps (w27h1 N) w27b1 w27m1 w27w1 n (w27I1 (x.1,x.2.1,v0,v1)) K) (fun y0=>K (w27X1_0 y0).1 (w27X1_0 y0).2) x.1 x.2.1 x.2.2.1 x.2.2.2:=by rw [ show (fun v0 v1=>w27l1 N n (x.1,x.2.1,v0,v1) (fun y=>K (w27X1_0 y).1 (w27X1_0 y).2) (fun y=>K ((noX 1) y).1 ((noX 1) y).2) (fun y=>K ((noX 2) y).1 ((noX 2) y).2))=(fun v0 v1=>loopX (w27c N) Tryd.f27.ntmps (w27h1 N) w27b1 w27m1 w27w1 n (w27I1 (x.1,x.2.1,v0,v1)) K) from funext fun _=>funext fun _=>ih _]
  exact h.trans (w27q1 N (fun σ=>loopX (w27c N) Tryd.f27.ntmps (w27h1 N) w27b1 w27m1 w27w1 n σ K) K x)) N x K)
def w27G [Alg] (_:Nat) (in0:(List (Int×(Int×(Int×(Int×Int)))))->Int->(List ((List Bool)×Unit))->((List (Int×(Int×(Int×(Int×Int)))))->Int->(List ((List Bool)×Unit))->O)->O) (in1:(List (Int×(Int×(Int×(Int×Int)))))->Int->Int->(List ((List Bool)×Unit))->((List ((List Bool)×Unit))->O)->O) (l0:(List (Int×(Int×(Int×(Int×Int)))))):O:=
 ck true <|
 ck true <|
 in0 l0 ((0:Int)) [([],()),([],()),([],()),([],()),([],()),([],()),([],()),([],()),([],()),([],()),([],()),([],()),([],()),([],()),([],()),([],()),([],()),([],()),([],()),([],()),([],()),([],()),([],()),([],()),([],()),([],()),([],()),([],()),([],()),([],()),([],()),([],()),([],()),([],()),([],()),([],()),([],()),([],()),([],()),([],())]
  (fun z10 z11 z12=>
   in1 z10 z11 ((0:Int)) z12
    (fun z29=>
     some (w27r0 (List.map (fun x=>x.fst) z29))))
def w27 [Alg] (N:Nat) (l0:(List (Int×(Int×(Int×(Int×Int)))))):O:=w27G N (w27n0 N) (w27n1 N) l0
def w27h [Alg] (N:Nat):Hint:=(.seq .d (.seq .d (.seq (.seq .d (.block (.sub w27m0 _ _ _ w27X0_0 (noX 1) (noX 2) (subL w27I0 w27u0 (w27l0 N N))))) (.seq (.seq .d (.block (.sub w27m1 _ _ _ w27X1_0 (noX 1) (noX 2) (subL w27I1 w27u1 (w27l1 N N))))) .d))))
theorem w27hk (N:Nat) (hc:CxOk (w27c N)):HintOk (w27c N) Tryd.f27.ntmps (w27h N) w27b:=hk_of _ _ (And.intro trivial (And.intro trivial (And.intro (And.intro trivial (w27S0 N hc)) (And.intro (And.intro trivial (w27S1 N hc)) trivial))))
theorem w27q [Alg] (N:Nat) (l0:(List (Int×(Int×(Int×(Int×Int)))))):w27G N (w27s0 N) (w27s1 N) l0=exec (w27c N) Tryd.f27.ntmps (w27h N) w27b ⟨argT 0 [.e (.sl (.pr (.i .i64) (.pr (.i .i64) (.pr (.i .i64) (.pr (.i .i64) (.i .i64)))))) l0],[],100⟩ (finX (w27c N) Tryd.f27 false):=by kernel_rfl
theorem w27does {N:Nat} (hc:CxOk (w27c N)) {l0:(List (Int×(Int×(Int×(Int×Int)))))} {r:Res} (h:w27 N l0=some r):DoesR Tryd.prog 27 (([.e (.sl (.pr (.i .i64) (.pr (.i .i64) (.pr (.i .i64) (.pr (.i .i64) (.i .i64)))))) l0]:List X).map X.D) (HA []) r:=
 fun_ok hc (f:=27) (fn:=Tryd.f27) (code:=w27b) (by kernel_rfl) (by kernel_rfl) (w27hk N hc) (Nat.le_of_ble_eq_true (by kernel_rfl)) (ow:=false) ((w27q N l0).symm.trans (by rw [w27e0 N,w27e1 N];exact h))
def w27un (r:Res):Option ((List (List Bool))):=match r with
 | (x0,[])=>(match ue (.sl (.sl .bo)) x0 with | some a0=>some a0 | _=>none)
 | _=>none
theorem w27uo {r:Res} {d:(List (List Bool))} (h:w27un r=some d):r=w27r0 (d):=by
 unfold w27un at h;split at h
 ·split at h
  ·rename_i h0;cases h;rw [ue_some h0];rfl
  ·cases h
 ·cases h
def w27z (N:Nat) (l0:(List (Int×(Int×(Int×(Int×Int)))))):Option ((List (List Bool))):=(w27 N l0).bind w27un
theorem w27fin {N:Nat} (hc:CxOk (w27c N)) {l0:(List (Int×(Int×(Int×(Int×Int)))))} {d:(List (List Bool))} (hd:w27z N l0=some d):Does Tryd.prog 27 (([.e (.sl (.pr (.i .i64) (.pr (.i .i64) (.pr (.i .i64) (.pr (.i .i64) (.i .i64)))))) l0]:List X).map X.D) (HA []) (w27r0 (d)).1.D (HA (w27r0 (d)).2):=by
 obtain ⟨r,hr,hu⟩:=Option.bind_eq_some_iff.1 hd;have:=w27does hc hr;rw [w27uo hu] at this;exact this
def w27p (N:Nat) (l0:(List (Int×(Int×(Int×(Int×Int)))))):Bool:=(w27z N l0).isSome
def w27y0 (N:Nat) (l0:(List (Int×(Int×(Int×(Int×Int)))))):(List (List Bool)):=((w27z N l0).getD [])
def w27e (N:Nat):Ent':=E1 (.sl (.pr (.i .i64) (.pr (.i .i64) (.pr (.i .i64) (.pr (.i .i64) (.i .i64))))))  (fun x0=>(w27p N x0,w27r0 (w27y0 N x0)))
theorem w27re {N:Nat} {l0:(List (Int×(Int×(Int×(Int×Int)))))} {d:(List (List Bool))} (hd:w27z N l0=some d):w27r0 (w27y0 N l0)=w27r0 (d):=by unfold w27y0;rw [hd];rfl
theorem w27ok (N:Nat):EOk Tryd.prog 27 (w27e N):=EOk.e1 (fun x0 h=>by
 have h:(w27z N x0).isSome=true:=h;obtain ⟨d,hd⟩:=Option.isSome_iff_exists.1 h;have f:=w27fin (w27cx N) hd;rw [← w27re hd] at f;exact f)
def w26r0 (a0:YF2) (a1:Bool) (a2:Bool):Res:=(.tup [.e .tx a0,.e .bo a1,.e .bo a2],[])
def w26L (_:Nat):List (Nat×Ent'):=[]
def w26c (N:Nat):Cx:=⟨Tryd.prog,99999,w26L N,[]⟩
def w26b:Code:=Tryd.f26.body.getD .skip
theorem w26cx (N:Nat):CxOk (w26c N):=ctx_ok (by kernel_rfl) .nil .nil
def w26F0 [Alg] (_:Nat)  (self:Int->Int->Int->O) (k0:(List (List Bool))->Bool->YF2->Bool->Bool->Bool->Int->Int->Int->O) (x39_0:(List (List Bool))) (x39_1:Bool) (x39_2:YF2) (x39_3:Bool) (x39_4:Bool) (x39_5:Bool) (x39_6:Int) (x39_7:Int) (x39_8:Int) (x39_9:Int):O:=
 gx x39_0 x39_6 fun y46=>
 br (decide (x39_9 < (↑y46.length:Int)))
  (gx x39_0 x39_6 fun y47=>
  gx y47 x39_9 fun y48=>
  br y48
   (self (IntKind.i64.wrap (x39_7+(1:Int))) x39_9 (IntKind.i64.wrap (x39_9+(1:Int))))
   (self x39_7 x39_8 (IntKind.i64.wrap (x39_9+(1:Int)))))
  (k0 x39_0 x39_1 x39_2 x39_3 x39_4 x39_5 x39_6 x39_7 x39_8)
def w26b0:Code:=atC [1,1,1,1,1,0,1,0,0,1,0,0,1,1,0,1,0,0] w26b
def w26m0:Nm:=⟨[0,3,5,6,7,8,9,10,11,12],[],[]⟩
def w26I0 (x:(List (List Bool))×Bool×YF2×Bool×Bool×Bool×Int×Int×Int×Int):Sg:=⟨[(0,.e (.sl (.sl .bo)) x.1),(3,.e .bo x.2.1),(5,.e .tx x.2.2.1),(6,.e .bo x.2.2.2.1),(7,.e .bo x.2.2.2.2.1),(8,.e .bo x.2.2.2.2.2.1),(9,.e (.i .i64) x.2.2.2.2.2.2.1),(10,.e (.i .i64) x.2.2.2.2.2.2.2.1),(11,.e (.i .i64) x.2.2.2.2.2.2.2.2.1),(12,.e (.i .i64) x.2.2.2.2.2.2.2.2.2)],[],100⟩
def w26u0 (σ:Sg):(List (List Bool))×Bool×YF2×Bool×Bool×Bool×Int×Int×Int×Int:=(lvT (.sl (.sl .bo)) 0 0 σ,lvT .bo 3 0 σ,lvT .tx 5 0 σ,lvT .bo 6 0 σ,lvT .bo 7 0 σ,lvT .bo 8 0 σ,lvT (.i .i64) 9 0 σ,lvT (.i .i64) 10 0 σ,lvT (.i .i64) 11 0 σ,lvT (.i .i64) 12 0 σ)
theorem w26ui0:∀ x,w26u0 (w26I0 x)=x:=fun _=>by kernel_rfl
def w26X0_0 (y:(List (List Bool))×Bool×YF2×Bool×Bool×Bool×Int×Int×Int):Exit×Sg:=((.exit 2),⟨[(0,.e (.sl (.sl .bo)) y.1),(3,.e .bo y.2.1),(5,.e .tx y.2.2.1),(6,.e .bo y.2.2.2.1),(7,.e .bo y.2.2.2.2.1),(8,.e .bo y.2.2.2.2.2.1),(9,.e (.i .i64) y.2.2.2.2.2.2.1),(10,.e (.i .i64) y.2.2.2.2.2.2.2.1),(11,.e (.i .i64) y.2.2.2.2.2.2.2.2)],[],100⟩)
def w26v0_0 (_:Exit) (σ:Sg):(List (List Bool))×Bool×YF2×Bool×Bool×Bool×Int×Int×Int:=(lvT (.sl (.sl .bo)) 0 0 σ,lvT .bo 3 0 σ,lvT .tx 5 0 σ,lvT .bo 6 0 σ,lvT .bo 7 0 σ,lvT .bo 8 0 σ,lvT (.i .i64) 9 0 σ,lvT (.i .i64) 10 0 σ,lvT (.i .i64) 11 0 σ)
def w26w0:List (Exit×Nm):=[((.exit 2),⟨[0,3,5,6,7,8,9,10,11],[],[]⟩)]
theorem w26o0:Outs w26v0_0 (fun _ _=>()) (fun _ _=>()) w26X0_0 (noX 1) (noX 2) (exC (.exit 2)) (exC (.goto 1)) (exC (.goto 2)):=⟨fun _=>by kernel_rfl,fun _=>by kernel_rfl,fun _=>by kernel_rfl,fun _=>by kernel_rfl,fun _=>by kernel_rfl,fun _=>by kernel_rfl,exNe_ok (by kernel_rfl),exNe_ok (by kernel_rfl),exNe_ok (by kernel_rfl)⟩
def w26l0 [Alg] (N:Nat):Nat->((List (List Bool))×Bool×YF2×Bool×Bool×Bool×Int×Int×Int×Int)->(((List (List Bool))×Bool×YF2×Bool×Bool×Bool×Int×Int×Int)->O)->((Unit)->O)->((Unit)->O)->O
 | 0,_,_,_,_=>none
 | n+1,x,k0,k1,k2=>w26F0 N  (fun v0 v1 v2=>w26l0 N n (x.1,x.2.1,x.2.2.1,x.2.2.2.1,x.2.2.2.2.1,x.2.2.2.2.2.1,x.2.2.2.2.2.2.1,v0,v1,v2) k0 k1 k2) (fun y0 y1 y2 y3 y4 y5 y6 y7 y8=>k0 (y0,y1,y2,y3,y4,y5,y6,y7,y8)) x.1 x.2.1 x.2.2.1 x.2.2.2.1 x.2.2.2.2.1 x.2.2.2.2.2.1 x.2.2.2.2.2.2.1 x.2.2.2.2.2.2.2.1 x.2.2.2.2.2.2.2.2.1 x.2.2.2.2.2.2.2.2.2
def w26n0 [Alg] (N:Nat) (a0:(List (List Bool))) (a1:Bool) (a2:YF2) (a3:Bool) (a4:Bool) (a5:Bool) (a6:Int) (a7:Int) (a8:Int) (a9:Int) (k0:(List (List Bool))->Bool->YF2->Bool->Bool->Bool->Int->Int->Int->O):O:=w26l0 N N (a0,a1,a2,a3,a4,a5,a6,a7,a8,a9) (fun y=>k0 y.1 y.2.1 y.2.2.1 y.2.2.2.1 y.2.2.2.2.1 y.2.2.2.2.2.1 y.2.2.2.2.2.2.1 y.2.2.2.2.2.2.2.1 y.2.2.2.2.2.2.2.2) (fun _=>none) (fun _=>none)
def w26s0 [Alg] (N:Nat) (a0:(List (List Bool))) (a1:Bool) (a2:YF2) (a3:Bool) (a4:Bool) (a5:Bool) (a6:Int) (a7:Int) (a8:Int) (a9:Int) (k0:(List (List Bool))->Bool->YF2->Bool->Bool->Bool->Int->Int->Int->O):O:=subL w26I0 w26u0 (w26l0 N N) (w26I0 (a0,a1,a2,a3,a4,a5,a6,a7,a8,a9)) (fun y=>k0 y.1 y.2.1 y.2.2.1 y.2.2.2.1 y.2.2.2.2.1 y.2.2.2.2.2.1 y.2.2.2.2.2.2.1 y.2.2.2.2.2.2.2.1 y.2.2.2.2.2.2.2.2) (fun _=>none) (fun _=>none)
theorem w26e0 [Alg] (N:Nat):w26s0 N=w26n0 N:=funext fun _=>funext fun _=>funext fun _=>funext fun _=>funext fun _=>funext fun _=>funext fun _=>funext fun _=>funext fun _=>funext fun _=>funext fun _=>subL_I w26ui0 _ _ _ _
def w26h0 [Alg] (_:Nat):Hint:=.d
theorem w26hk0 (N:Nat):HintOk (w26c N) Tryd.f26.ntmps (w26h0 N) w26b0:=hk_of _ _ trivial
theorem w26q0 [Alg] (N:Nat) (self:Sg->O) (K:Exit->Sg->O) (x:(List (List Bool))×Bool×YF2×Bool×Bool×Bool×Int×Int×Int×Int):w26F0 N  (fun v0 v1 v2=>self (w26I0 (x.1,x.2.1,x.2.2.1,x.2.2.2.1,x.2.2.2.2.1,x.2.2.2.2.2.1,x.2.2.2.2.2.2.1,v0,v1,v2))) (fun y0 y1 y2 y3 y4 y5 y6 y7 y8=>K (w26X0_0 (y0,y1,y2,y3,y4,y5,y6,y7,y8)).1 (w26X0_0 (y0,y1,y2,y3,y4,y5,y6,y7,y8)).2) x.1 x.2.1 x.2.2.1 x.2.2.2.1 x.2.2.2.2.1 x.2.2.2.2.2.1 x.2.2.2.2.2.2.1 x.2.2.2.2.2.2.2.1 x.2.2.2.2.2.2.2.2.1 x.2.2.2.2.2.2.2.2.2=exec (w26c N) Tryd.f26.ntmps (w26h0 N) w26b0 (w26I0 x) (roundX w26m0 w26w0 self K):=by kernel_rfl
theorem w26S0 (N:Nat) (hc:CxOk (w26c N)):SubOk (w26c N) Tryd.f26.ntmps (.loop w26b0) w26X0_0 (noX 1) (noX 2) (subL w26I0 w26u0 (w26l0 N N)):=
 sub_loop hc (w26hk0 N) w26o0 (n:=N) (fun x K=>loop_ind (w26l0 N) (fun _ _ _ _=>rfl) (fun n K ih x=>by
  have h:w26F0 N  (fun v0 v1 v2=>w26l0 N n (x.1,x.2.1,x.2.2.1,x.2.2.2.1,x.2.2.2.2.1,x.2.2.2.2.2.1,x.2.2.2.2.2.2.1,v0,v1,v2) (fun y=>K (w26X0_0 y).1 (w26X0_0 y).2) (fun y=>K ((noX 1) y).1 ((noX 1) y).2) (fun y=>K ((noX 2) y).1 ((noX 2) y).2)) (fun y0 y1 y2 y3 y4 y5 y6 y7 y8=>K (w26X0_0 (y0,y1,y2,y3,y4,y5,y6,y7,y8)).1 (w26X0_0 (y0,y1,y2,y3,y4,y5,y6,y7,y8)).2) x.1 x.2.1 x.2.2.1 x.2.2.2.1 x.2.2.2.2.1 x.2.2.2.2.2.1 x.2.2.2.2.2.2.1 x.2.2.2.2.2.2.2.1 x.2.2.2.2.2.2.2.2.1 x.2.2.2.2.2.2.2.2.2=w26F0 N  (fun v0 v1 v2=>loopX (w26c N) Tryd.f26.ntmps (w26h0 N) w26b0 w26m0 w26w0 n (w26I0 (x.1,x.2.1,x.2.2.1,x.2.2.2.1,x.2.2.2.2.1,x.2.2.2.2.2.1,x.2.2.2.2.2.2.1,v0,v1,v2)) K) (fun y0 y1 y2 y3 y4 y5 y6 y7 y8=>K (w26X0_0 (y0,y1,y2,y3,y4,y5,y6,y7,y8)).1 (w26X0_0 (y0,y1,y2,y3,y4,y5,y6,y7,y8)).2) x.1 x.2.1 x.2.2.1 x.2.2.2.1 x.2.2.2.2.1 x.2.2.2.2.2.1 x.2.2.2.2.2.2.1 x.2.2.2.2.2.2.2.1 x.2.2.2.2.2.2.2.2.1 x.2.2.2.2.2.2.2.2.2:=by rw [ show (fun v0 v1 v2=>w26l0 N n (x.1,x.2.1,x.2.2.1,x.2.2.2.1,x.2.2.2.2.1,x.2.2.2.2.2.1,x.2.2.2.2.2.2.1,v0,v1,v2) (fun y=>K (w26X0_0 y).1 (w26X0_0 y).2) (fun y=>K ((noX 1) y).1 ((noX 1) y).2) (fun y=>K ((noX 2) y).1 ((noX 2) y).2))=(fun v0 v1 v2=>loopX (w26c N) Tryd.f26.ntmps (w26h0 N) w26b0 w26m0 w26w0 n (w26I0 (x.1,x.2.1,x.2.2.1,x.2.2.2.1,x.2.2.2.2.1,x.2.2.2.2.2.1,x.2.2.2.2.2.2.1,v0,v1,v2)) K) from funext fun _=>funext fun _=>funext fun _=>ih _]
  exact h.trans (w26q0 N (fun σ=>loopX (w26c N) Tryd.f26.ntmps (w26h0 N) w26b0 w26m0 w26w0 n σ K) K x)) N x K)
def w26F1 [Alg] (_:Nat) (in0:(List (List Bool))->Bool->YF2->Bool->Bool->Bool->Int->Int->Int->Int->((List (List Bool))->Bool->YF2->Bool->Bool->Bool->Int->Int->Int->O)->O) (self:(List (List Bool))->Bool->YF2->Bool->Bool->Bool->Int->O) (k0:YF2->Bool->Bool->O) (x0_0:(List (List Bool))) (x0_1:Bool) (x0_2:YF2) (x0_3:Bool) (x0_4:Bool) (x0_5:Bool) (x0_6:Int):O:=
 br (decide (x0_6 < (↑x0_0.length:Int)))
  (in0 x0_0 x0_1 x0_2 x0_3 x0_4 x0_5 x0_6 ((0:Int)) ((0:Int)) ((0:Int))
   (fun z49 z50 z51 z52 z53 z54 z55 z56 z57=>
    br (!(z54||decide (z56=(0:Int))))
     (ck (decide ((↑z51.length:Int)+(↑[u8of z57].length:Int)<=(9223372036854775807:Int))) <|
     self z49 z50 (z51++[u8of z57]) (z52||decide ((1:Int) < z56)) (z53||z54&&decide ((0:Int) < z56)) (z54||decide (z56=(0:Int))) (IntKind.i64.wrap (z55+(1:Int))))
     (self z49 z50 z51 (z52||decide ((1:Int) < z56)) (z53||z54&&decide ((0:Int) < z56)) (z54||decide (z56=(0:Int))) (IntKind.i64.wrap (z55+(1:Int))))))
  (k0 x0_2 x0_3 x0_4)
def w26b1:Code:=atC [1,1,1,1,1,0,1,0,0] w26b
def w26m1:Nm:=⟨[0,3,5,6,7,8,9],[],[]⟩
def w26I1 (x:(List (List Bool))×Bool×YF2×Bool×Bool×Bool×Int):Sg:=⟨[(0,.e (.sl (.sl .bo)) x.1),(3,.e .bo x.2.1),(5,.e .tx x.2.2.1),(6,.e .bo x.2.2.2.1),(7,.e .bo x.2.2.2.2.1),(8,.e .bo x.2.2.2.2.2.1),(9,.e (.i .i64) x.2.2.2.2.2.2)],[],100⟩
def w26u1 (σ:Sg):(List (List Bool))×Bool×YF2×Bool×Bool×Bool×Int:=(lvT (.sl (.sl .bo)) 0 0 σ,lvT .bo 3 0 σ,lvT .tx 5 0 σ,lvT .bo 6 0 σ,lvT .bo 7 0 σ,lvT .bo 8 0 σ,lvT (.i .i64) 9 0 σ)
theorem w26ui1:∀ x,w26u1 (w26I1 x)=x:=fun _=>by kernel_rfl
def w26X1_0 (y:YF2×Bool×Bool):Exit×Sg:=((.exit 0),⟨[(5,.e .tx y.1),(6,.e .bo y.2.1),(7,.e .bo y.2.2)],[],100⟩)
def w26v1_0 (_:Exit) (σ:Sg):YF2×Bool×Bool:=(lvT .tx 5 0 σ,lvT .bo 6 0 σ,lvT .bo 7 0 σ)
def w26w1:List (Exit×Nm):=[((.exit 0),⟨[5,6,7],[],[]⟩)]
theorem w26o1:Outs w26v1_0 (fun _ _=>()) (fun _ _=>()) w26X1_0 (noX 1) (noX 2) (exC (.exit 0)) (exC (.goto 1)) (exC (.goto 2)):=⟨fun _=>by kernel_rfl,fun _=>by kernel_rfl,fun _=>by kernel_rfl,fun _=>by kernel_rfl,fun _=>by kernel_rfl,fun _=>by kernel_rfl,exNe_ok (by kernel_rfl),exNe_ok (by kernel_rfl),exNe_ok (by kernel_rfl)⟩
def w26l1 [Alg] (N:Nat):Nat->((List (List Bool))×Bool×YF2×Bool×Bool×Bool×Int)->((YF2×Bool×Bool)->O)->((Unit)->O)->((Unit)->O)->O
 | 0,_,_,_,_=>none
 | n+1,x,k0,k1,k2=>w26F1 N (w26n0 N) (fun v0 v1 v2 v3 v4 v5 v6=>w26l1 N n (v0,v1,v2,v3,v4,v5,v6) k0 k1 k2) (fun y0 y1 y2=>k0 (y0,y1,y2)) x.1 x.2.1 x.2.2.1 x.2.2.2.1 x.2.2.2.2.1 x.2.2.2.2.2.1 x.2.2.2.2.2.2
def w26n1 [Alg] (N:Nat) (a0:(List (List Bool))) (a1:Bool) (a2:YF2) (a3:Bool) (a4:Bool) (a5:Bool) (a6:Int) (k0:YF2->Bool->Bool->O):O:=w26l1 N N (a0,a1,a2,a3,a4,a5,a6) (fun y=>k0 y.1 y.2.1 y.2.2) (fun _=>none) (fun _=>none)
def w26s1 [Alg] (N:Nat) (a0:(List (List Bool))) (a1:Bool) (a2:YF2) (a3:Bool) (a4:Bool) (a5:Bool) (a6:Int) (k0:YF2->Bool->Bool->O):O:=subL w26I1 w26u1 (w26l1 N N) (w26I1 (a0,a1,a2,a3,a4,a5,a6)) (fun y=>k0 y.1 y.2.1 y.2.2) (fun _=>none) (fun _=>none)
theorem w26e1 [Alg] (N:Nat):w26s1 N=w26n1 N:=funext fun _=>funext fun _=>funext fun _=>funext fun _=>funext fun _=>funext fun _=>funext fun _=>funext fun _=>subL_I w26ui1 _ _ _ _
def w26h1 [Alg] (N:Nat):Hint:=(.seq .d (.seq (.block (.seq .d (.seq .d (.seq (.seq .d (.block (.sub w26m0 _ _ _ w26X0_0 (noX 1) (noX 2) (subL w26I0 w26u0 (w26l0 N N))))) .d)))) .d))
theorem w26hk1 (N:Nat) (hc:CxOk (w26c N)):HintOk (w26c N) Tryd.f26.ntmps (w26h1 N) w26b1:=hk_of _ _ (And.intro trivial (And.intro (And.intro trivial (And.intro trivial (And.intro (And.intro trivial (w26S0 N hc)) trivial))) trivial))
theorem w26q1 [Alg] (N:Nat) (self:Sg->O) (K:Exit->Sg->O) (x:(List (List Bool))×Bool×YF2×Bool×Bool×Bool×Int):w26F1 N (w26s0 N) (fun v0 v1 v2 v3 v4 v5 v6=>self (w26I1 (v0,v1,v2,v3,v4,v5,v6))) (fun y0 y1 y2=>K (w26X1_0 (y0,y1,y2)).1 (w26X1_0 (y0,y1,y2)).2) x.1 x.2.1 x.2.2.1 x.2.2.2.1 x.2.2.2.2.1 x.2.2.2.2.2.1 x.2.2.2.2.2.2=exec (w26c N) Tryd.f26.ntmps (w26h1 N) w26b1 (w26I1 x) (roundX w26m1 w26w1 self K):=by kernel_rfl
theorem w26S1 (N:Nat) (hc:CxOk (w26c N)):SubOk (w26c N) Tryd.f26.ntmps (.loop w26b1) w26X1_0 (noX 1) (noX 2) (subL w26I1 w26u1 (w26l1 N N)):=
 sub_loop hc (w26hk1 N hc) w26o1 (n:=N) (fun x K=>loop_ind (w26l1 N) (fun _ _ _ _=>rfl) (fun n K ih x=>by
  have h:w26F1 N (w26n0 N) (fun v0 v1 v2 v3 v4 v5 v6=>w26l1 N n (v0,v1,v2,v3,v4,v5,v6) (fun y=>K (w26X1_0 y).1 (w26X1_0 y).2) (fun y=>K ((noX 1) y).1 ((noX 1) y).2) (fun y=>K ((noX 2) y).1 ((noX 2) y).2)) (fun y0 y1 y2=>K (w26X1_0 (y0,y1,y2)).1 (w26X1_0 (y0,y1,y2)).2) x.1 x.2.1 x.2.2.1 x.2.2.2.1 x.2.2.2.2.1 x.2.2.2.2.2.1 x.2.2.2.2.2.2=w26F1 N (w26s0 N) (fun v0 v1 v2 v3 v4 v5 v6=>loopX (w26c N) Tryd.f26.ntmps (w26h1 N) w26b1 w26m1 w26w1 n (w26I1 (v0,v1,v2,v3,v4,v5,v6)) K) (fun y0 y1 y2=>K (w26X1_0 (y0,y1,y2)).1 (w26X1_0 (y0,y1,y2)).2) x.1 x.2.1 x.2.2.1 x.2.2.2.1 x.2.2.2.2.1 x.2.2.2.2.2.1 x.2.2.2.2.2.2:=by rw [w26e0 N,show (fun v0 v1 v2 v3 v4 v5 v6=>w26l1 N n (v0,v1,v2,v3,v4,v5,v6) (fun y=>K (w26X1_0 y).1 (w26X1_0 y).2) (fun y=>K ((noX 1) y).1 ((noX 1) y).2) (fun y=>K ((noX 2) y).1 ((noX 2) y).2))=(fun v0 v1 v2 v3 v4 v5 v6=>loopX (w26c N) Tryd.f26.ntmps (w26h1 N) w26b1 w26m1 w26w1 n (w26I1 (v0,v1,v2,v3,v4,v5,v6)) K) from funext fun _=>funext fun _=>funext fun _=>funext fun _=>funext fun _=>funext fun _=>funext fun _=>ih _]
  exact h.trans (w26q1 N (fun σ=>loopX (w26c N) Tryd.f26.ntmps (w26h1 N) w26b1 w26m1 w26w1 n σ K) K x)) N x K)
def w26G [Alg] (_:Nat) (_in0:(List (List Bool))->Bool->YF2->Bool->Bool->Bool->Int->Int->Int->Int->((List (List Bool))->Bool->YF2->Bool->Bool->Bool->Int->Int->Int->O)->O) (in1:(List (List Bool))->Bool->YF2->Bool->Bool->Bool->Int->(YF2->Bool->Bool->O)->O) (p0:(List (List Bool))):O:=
 in1 p0 false [] false false false ((0:Int))
  (fun z58 z59 z60=>
   some (w26r0 z58 z59 z60))
def w26 [Alg] (N:Nat) (p0:(List (List Bool))):O:=w26G N (w26n0 N) (w26n1 N) p0
def w26h [Alg] (N:Nat):Hint:=(.seq .d (.seq .d (.seq .d (.seq .d (.seq .d (.seq (.seq .d (.block (.sub w26m1 _ _ _ w26X1_0 (noX 1) (noX 2) (subL w26I1 w26u1 (w26l1 N N))))) .d))))))
theorem w26hk (N:Nat) (hc:CxOk (w26c N)):HintOk (w26c N) Tryd.f26.ntmps (w26h N) w26b:=hk_of _ _ (And.intro trivial (And.intro trivial (And.intro trivial (And.intro trivial (And.intro trivial (And.intro (And.intro trivial (w26S1 N hc)) trivial))))))
theorem w26q [Alg] (N:Nat) (p0:(List (List Bool))):w26G N (w26s0 N) (w26s1 N) p0=exec (w26c N) Tryd.f26.ntmps (w26h N) w26b ⟨argT 0 [.e (.sl (.sl .bo)) p0],[],100⟩ (finX (w26c N) Tryd.f26 false):=by kernel_rfl
theorem w26does {N:Nat} (hc:CxOk (w26c N)) {p0:(List (List Bool))} {r:Res} (h:w26 N p0=some r):DoesR Tryd.prog 26 (([.e (.sl (.sl .bo)) p0]:List X).map X.D) (HA []) r:=
 fun_ok hc (f:=26) (fn:=Tryd.f26) (code:=w26b) (by kernel_rfl) (by kernel_rfl) (w26hk N hc) (Nat.le_of_ble_eq_true (by kernel_rfl)) (ow:=false) ((w26q N p0).symm.trans (by rw [w26e0 N,w26e1 N];exact h))
def w26un (r:Res):Option (YF2×Bool×Bool):=match r with
 | (.tup [x0,x1,x2],[])=>(match ue .tx x0,ue .bo x1,ue .bo x2 with | some a0,some a1,some a2=>some (a0,a1,a2) | _,_,_=>none)
 | _=>none
theorem w26uo {r:Res} {d:YF2×Bool×Bool} (h:w26un r=some d):r=w26r0 (d.1) (d.2.1) (d.2.2):=by
 unfold w26un at h;split at h
 ·split at h
  ·rename_i h0 h1 h2;cases h;rw [ue_some h0,ue_some h1,ue_some h2];rfl
  ·cases h
 ·cases h
def w26z (N:Nat) (p0:(List (List Bool))):Option (YF2×Bool×Bool):=(w26 N p0).bind w26un
theorem w26fin {N:Nat} (hc:CxOk (w26c N)) {p0:(List (List Bool))} {d:YF2×Bool×Bool} (hd:w26z N p0=some d):Does Tryd.prog 26 (([.e (.sl (.sl .bo)) p0]:List X).map X.D) (HA []) (w26r0 (d.1) (d.2.1) (d.2.2)).1.D (HA (w26r0 (d.1) (d.2.1) (d.2.2)).2):=by
 obtain ⟨r,hr,hu⟩:=Option.bind_eq_some_iff.1 hd;have:=w26does hc hr;rw [w26uo hu] at this;exact this
def w26p (N:Nat) (p0:(List (List Bool))):Bool:=(w26z N p0).isSome
def w26y0 (N:Nat) (p0:(List (List Bool))):YF2:=((w26z N p0).getD ([],false,false)).1
def w26y1 (N:Nat) (p0:(List (List Bool))):Bool:=((w26z N p0).getD ([],false,false)).2.1
def w26y2 (N:Nat) (p0:(List (List Bool))):Bool:=((w26z N p0).getD ([],false,false)).2.2
def w26e (N:Nat):Ent':=E1 (.sl (.sl .bo))  (fun x0=>(w26p N x0,w26r0 (w26y0 N x0) (w26y1 N x0) (w26y2 N x0)))
theorem w26re {N:Nat} {p0:(List (List Bool))} {d:YF2×Bool×Bool} (hd:w26z N p0=some d):w26r0 (w26y0 N p0) (w26y1 N p0) (w26y2 N p0)=w26r0 (d.1) (d.2.1) (d.2.2):=by unfold w26y0 w26y1 w26y2;rw [hd];rfl
theorem w26ok (N:Nat):EOk Tryd.prog 26 (w26e N):=EOk.e1 (fun x0 h=>by
 have h:(w26z N x0).isSome=true:=h;obtain ⟨d,hd⟩:=Option.isSome_iff_exists.1 h;have f:=w26fin (w26cx N) hd;rw [← w26re hd] at f;exact f)
def w14r0 (a0:YF2) (a1:Int):Res:=(.tup [.e .tx a0,.e (.i .i64) a1],[])
def w14L (N:Nat):List (Nat×Ent'):=[(22,w22e N),(27,w27e N),(26,w26e N),(9,w9e N),(28,w28e N)]
def w14c (N:Nat):Cx:=⟨Tryd.prog,99999,w14L N,[]⟩
def w14b:Code:=Tryd.f14.body.getD .skip
theorem w14cx (N:Nat):CxOk (w14c N):=ctx_ok (by kernel_rfl) (.cons (by kernel_rfl) (w22ok N) (.cons (by kernel_rfl) (w27ok N) (.cons (by kernel_rfl) (w26ok N) (.cons (by kernel_rfl) (w9ok N) (.cons (by kernel_rfl) (w28ok N) .nil))))) .nil
def w14F0 [Alg] (N:Nat)  (self:Int->YF2->Bool->Int->Int->Int->O) (k0:Int->Int->YF2->Bool->Int->Int->Int->O) (x0_0:Int) (x0_1:Int) (x0_2:Int) (x0_3:(List (Int×(Int×(Int×(Int×Int)))))) (x0_4:Int) (x0_5:YF2) (x0_6:Bool) (x0_7:Int) (x0_8:Int) (x0_9:Int):O:=
 br (decide (x0_4 < (↑x0_3.length:Int)))
  (gx x0_3 x0_4 fun y3=>
  ck (w28p N x0_0 x0_5 x0_6 x0_7 x0_8 x0_9 y3.1 y3.2.1 y3.2.2.1 y3.2.2.2.1 y3.2.2.2.2) <|
  self (IntKind.i64.wrap (x0_4+(1:Int))) (w28y0 N x0_0 x0_5 x0_6 x0_7 x0_8 x0_9 y3.1 y3.2.1 y3.2.2.1 y3.2.2.2.1 y3.2.2.2.2) (w28y1 N x0_0 x0_5 x0_6 x0_7 x0_8 x0_9 y3.1 y3.2.1 y3.2.2.1 y3.2.2.2.1 y3.2.2.2.2) (w28y2 N x0_0 x0_5 x0_6 x0_7 x0_8 x0_9 y3.1 y3.2.1 y3.2.2.1 y3.2.2.2.1 y3.2.2.2.2) (w28y3 N x0_0 x0_5 x0_6 x0_7 x0_8 x0_9 y3.1 y3.2.1 y3.2.2.1 y3.2.2.2.1 y3.2.2.2.2) (w28y4 N x0_0 x0_5 x0_6 x0_7 x0_8 x0_9 y3.1 y3.2.1 y3.2.2.1 y3.2.2.2.1 y3.2.2.2.2))
  (k0 x0_1 x0_2 x0_5 x0_6 x0_7 x0_8 x0_9)
def w14b0:Code:=atC [1,1,1,1,0,1,0,0] w14b
def w14m0:Nm:=⟨[0,1,2,3,13,14],[],[]⟩
def w14I0 (x:Int×Int×Int×(List (Int×(Int×(Int×(Int×Int)))))×Int×YF2×Bool×Int×Int×Int):Sg:=⟨[(0,.e (.i .i64) x.1),(1,.e (.i .i64) x.2.1),(2,.e (.i .i64) x.2.2.1),(3,.e (.sl (.pr (.i .i64) (.pr (.i .i64) (.pr (.i .i64) (.pr (.i .i64) (.i .i64)))))) x.2.2.2.1),(13,.ref 0 0),(14,.e (.i .i64) x.2.2.2.2.1)],[(0,.box 69 [.e .tx x.2.2.2.2.2.1,.e .bo x.2.2.2.2.2.2.1,.e (.i .i64) x.2.2.2.2.2.2.2.1,.e (.i .i64) x.2.2.2.2.2.2.2.2.1,.e (.i .i64) x.2.2.2.2.2.2.2.2.2])],100⟩
def w14u0 (σ:Sg):Int×Int×Int×(List (Int×(Int×(Int×(Int×Int)))))×Int×YF2×Bool×Int×Int×Int:=(lvT (.i .i64) 0 0 σ,lvT (.i .i64) 1 0 σ,lvT (.i .i64) 2 0 σ,lvT (.sl (.pr (.i .i64) (.pr (.i .i64) (.pr (.i .i64) (.pr (.i .i64) (.i .i64)))))) 3 0 σ,lvT (.i .i64) 14 0 σ,lvH .tx 0 0 σ,lvH .bo 0 1 σ,lvH (.i .i64) 0 2 σ,lvH (.i .i64) 0 3 σ,lvH (.i .i64) 0 4 σ)
theorem w14ui0:∀ x,w14u0 (w14I0 x)=x:=fun _=>by kernel_rfl
def w14X0_0 (y:Int×Int×YF2×Bool×Int×Int×Int):Exit×Sg:=((.exit 0),⟨[(1,.e (.i .i64) y.1),(2,.e (.i .i64) y.2.1),(13,.ref 0 0)],[(0,.box 69 [.e .tx y.2.2.1,.e .bo y.2.2.2.1,.e (.i .i64) y.2.2.2.2.1,.e (.i .i64) y.2.2.2.2.2.1,.e (.i .i64) y.2.2.2.2.2.2])],100⟩)
def w14v0_0 (_:Exit) (σ:Sg):Int×Int×YF2×Bool×Int×Int×Int:=(lvT (.i .i64) 1 0 σ,lvT (.i .i64) 2 0 σ,lvH .tx 0 0 σ,lvH .bo 0 1 σ,lvH (.i .i64) 0 2 σ,lvH (.i .i64) 0 3 σ,lvH (.i .i64) 0 4 σ)
def w14w0:List (Exit×Nm):=[((.exit 0),⟨[1,2,13],[],[]⟩)]
theorem w14o0:Outs w14v0_0 (fun _ _=>()) (fun _ _=>()) w14X0_0 (noX 1) (noX 2) (exC (.exit 0)) (exC (.goto 1)) (exC (.goto 2)):=⟨fun _=>by kernel_rfl,fun _=>by kernel_rfl,fun _=>by kernel_rfl,fun _=>by kernel_rfl,fun _=>by kernel_rfl,fun _=>by kernel_rfl,exNe_ok (by kernel_rfl),exNe_ok (by kernel_rfl),exNe_ok (by kernel_rfl)⟩
def w14l0 [Alg] (N:Nat):Nat->(Int×Int×Int×(List (Int×(Int×(Int×(Int×Int)))))×Int×YF2×Bool×Int×Int×Int)->((Int×Int×YF2×Bool×Int×Int×Int)->O)->((Unit)->O)->((Unit)->O)->O
 | 0,_,_,_,_=>none
 | n+1,x,k0,k1,k2=>w14F0 N  (fun v0 v1 v2 v3 v4 v5=>w14l0 N n (x.1,x.2.1,x.2.2.1,x.2.2.2.1,v0,v1,v2,v3,v4,v5) k0 k1 k2) (fun y0 y1 y2 y3 y4 y5 y6=>k0 (y0,y1,y2,y3,y4,y5,y6)) x.1 x.2.1 x.2.2.1 x.2.2.2.1 x.2.2.2.2.1 x.2.2.2.2.2.1 x.2.2.2.2.2.2.1 x.2.2.2.2.2.2.2.1 x.2.2.2.2.2.2.2.2.1 x.2.2.2.2.2.2.2.2.2
def w14n0 [Alg] (N:Nat) (a0:Int) (a1:Int) (a2:Int) (a3:(List (Int×(Int×(Int×(Int×Int)))))) (a4:Int) (a5:YF2) (a6:Bool) (a7:Int) (a8:Int) (a9:Int) (k0:Int->Int->YF2->Bool->Int->Int->Int->O):O:=w14l0 N N (a0,a1,a2,a3,a4,a5,a6,a7,a8,a9) (fun y=>k0 y.1 y.2.1 y.2.2.1 y.2.2.2.1 y.2.2.2.2.1 y.2.2.2.2.2.1 y.2.2.2.2.2.2) (fun _=>none) (fun _=>none)
def w14s0 [Alg] (N:Nat) (a0:Int) (a1:Int) (a2:Int) (a3:(List (Int×(Int×(Int×(Int×Int)))))) (a4:Int) (a5:YF2) (a6:Bool) (a7:Int) (a8:Int) (a9:Int) (k0:Int->Int->YF2->Bool->Int->Int->Int->O):O:=subL w14I0 w14u0 (w14l0 N N) (w14I0 (a0,a1,a2,a3,a4,a5,a6,a7,a8,a9)) (fun y=>k0 y.1 y.2.1 y.2.2.1 y.2.2.2.1 y.2.2.2.2.1 y.2.2.2.2.2.1 y.2.2.2.2.2.2) (fun _=>none) (fun _=>none)
theorem w14e0 [Alg] (N:Nat):w14s0 N=w14n0 N:=funext fun _=>funext fun _=>funext fun _=>funext fun _=>funext fun _=>funext fun _=>funext fun _=>funext fun _=>funext fun _=>funext fun _=>funext fun _=>subL_I w14ui0 _ _ _ _
def w14h0 [Alg] (_:Nat):Hint:=(.seq .d (.seq (.block (.reg [] [] [[],[],[],[],[],[],[],[0]])) .d))
theorem w14hk0 (N:Nat):HintOk (w14c N) Tryd.f14.ntmps (w14h0 N) w14b0:=hk_of _ _ (And.intro trivial (And.intro trivial trivial))
theorem w14q0 [Alg] (N:Nat) (self:Sg->O) (K:Exit->Sg->O) (x:Int×Int×Int×(List (Int×(Int×(Int×(Int×Int)))))×Int×YF2×Bool×Int×Int×Int):w14F0 N  (fun v0 v1 v2 v3 v4 v5=>self (w14I0 (x.1,x.2.1,x.2.2.1,x.2.2.2.1,v0,v1,v2,v3,v4,v5))) (fun y0 y1 y2 y3 y4 y5 y6=>K (w14X0_0 (y0,y1,y2,y3,y4,y5,y6)).1 (w14X0_0 (y0,y1,y2,y3,y4,y5,y6)).2) x.1 x.2.1 x.2.2.1 x.2.2.2.1 x.2.2.2.2.1 x.2.2.2.2.2.1 x.2.2.2.2.2.2.1 x.2.2.2.2.2.2.2.1 x.2.2.2.2.2.2.2.2.1 x.2.2.2.2.2.2.2.2.2=exec (w14c N) Tryd.f14.ntmps (w14h0 N) w14b0 (w14I0 x) (roundX w14m0 w14w0 self K):=by kernel_rfl
theorem w14S0 (N:Nat) (hc:CxOk (w14c N)):SubOk (w14c N) Tryd.f14.ntmps (.loop w14b0) w14X0_0 (noX 1) (noX 2) (subL w14I0 w14u0 (w14l0 N N)):=
 sub_loop hc (w14hk0 N) w14o0 (n:=N) (fun x K=>loop_ind (w14l0 N) (fun _ _ _ _=>rfl) (fun n K ih x=>by
  have h:w14F0 N  (fun v0 v1 v2 v3 v4 v5=>w14l0 N n (x.1,x.2.1,x.2.2.1,x.2.2.2.1,v0,v1,v2,v3,v4,v5) (fun y=>K (w14X0_0 y).1 (w14X0_0 y).2) (fun y=>K ((noX 1) y).1 ((noX 1) y).2) (fun y=>K ((noX 2) y).1 ((noX 2) y).2)) (fun y0 y1 y2 y3 y4 y5 y6=>K (w14X0_0 (y0,y1,y2,y3,y4,y5,y6)).1 (w14X0_0 (y0,y1,y2,y3,y4,y5,y6)).2) x.1 x.2.1 x.2.2.1 x.2.2.2.1 x.2.2.2.2.1 x.2.2.2.2.2.1 x.2.2.2.2.2.2.1 x.2.2.2.2.2.2.2.1 x.2.2.2.2.2.2.2.2.1 x.2.2.2.2.2.2.2.2.2=w14F0 N  (fun v0 v1 v2 v3 v4 v5=>loopX (w14c N) Tryd.f14.ntmps (w14h0 N) w14b0 w14m0 w14w0 n (w14I0 (x.1,x.2.1,x.2.2.1,x.2.2.2.1,v0,v1,v2,v3,v4,v5)) K) (fun y0 y1 y2 y3 y4 y5 y6=>K (w14X0_0 (y0,y1,y2,y3,y4,y5,y6)).1 (w14X0_0 (y0,y1,y2,y3,y4,y5,y6)).2) x.1 x.2.1 x.2.2.1 x.2.2.2.1 x.2.2.2.2.1 x.2.2.2.2.2.1 x.2.2.2.2.2.2.1 x.2.2.2.2.2.2.2.1 x.2.2.2.2.2.2.2.2.1 x.2.2.2.2.2.2.2.2.2:=by rw [ show (fun v0 v1 v2 v3 v4 v5=>w14l0 N n (x.1,x.2.1,x.2.2.1,x.2.2.2.1,v0,v1,v2,v3,v4,v5) (fun y=>K (w14X0_0 y).1 (w14X0_0 y).2) (fun y=>K ((noX 1) y).1 ((noX 1) y).2) (fun y=>K ((noX 2) y).1 ((noX 2) y).2))=(fun v0 v1 v2 v3 v4 v5=>loopX (w14c N) Tryd.f14.ntmps (w14h0 N) w14b0 w14m0 w14w0 n (w14I0 (x.1,x.2.1,x.2.2.1,x.2.2.2.1,v0,v1,v2,v3,v4,v5)) K) from funext fun _=>funext fun _=>funext fun _=>funext fun _=>funext fun _=>funext fun _=>ih _]
  exact h.trans (w14q0 N (fun σ=>loopX (w14c N) Tryd.f14.ntmps (w14h0 N) w14b0 w14m0 w14w0 n σ K) K x)) N x K)
def w14G [Alg] (N:Nat) (in0:Int->Int->Int->(List (Int×(Int×(Int×(Int×Int)))))->Int->YF2->Bool->Int->Int->Int->(Int->Int->YF2->Bool->Int->Int->Int->O)->O) (way0:Int) (kind1:Int) (options2:Int) (l3:(List (Int×(Int×(Int×(Int×Int)))))):O:=
 ck (!!(decide (way0 < (0:Int))||decide ((3:Int) < way0))||w22p N kind1 options2) <|
 br (decide (way0 < (0:Int))||decide ((3:Int) < way0)||!w22y0 N kind1 options2)
  (some (w14r0 [] ((1:Int))))
  (br (decide (way0=(0:Int)))
   (ck (w27p N l3) <|
   ck (w26p N (w27y0 N l3)) <|
   br (w26y1 N (w27y0 N l3))
    (some (w14r0 [] ((17:Int))))
    (ck (!!w26y2 N (w27y0 N l3)||w9p N kind1 options2 (w26y0 N (w27y0 N l3))) <|
    br (w26y2 N (w27y0 N l3)||!w9y0 N kind1 options2 (w26y0 N (w27y0 N l3)))
     (some (w14r0 [] ((2:Int))))
     (some (w14r0 (w26y0 N (w27y0 N l3)) ((0:Int))))))
   (in0 way0 kind1 options2 l3 ((0:Int)) [] false ((0:Int)) ((0:Int)) ((-1:Int))
    (fun z4 z5 z6 z7 _ _ _=>
     br (!z7)
      (some (w14r0 [] ((11:Int))))
      (ck (w9p N z4 z5 z6) <|
      br (!w9y0 N z4 z5 z6)
       (some (w14r0 [] ((2:Int))))
       (some (w14r0 z6 ((0:Int))))))))
def w14 [Alg] (N:Nat) (way0:Int) (kind1:Int) (options2:Int) (l3:(List (Int×(Int×(Int×(Int×Int)))))):O:=w14G N (w14n0 N) way0 kind1 options2 l3
def w14h [Alg] (N:Nat):Hint:=(.seq .d (.seq .d (.seq .d (.seq .d (.seq (.seq .d (.block (.sub w14m0 _ _ _ w14X0_0 (noX 1) (noX 2) (subL w14I0 w14u0 (w14l0 N N))))) .d)))))
theorem w14hk (N:Nat) (hc:CxOk (w14c N)):HintOk (w14c N) Tryd.f14.ntmps (w14h N) w14b:=hk_of _ _ (And.intro trivial (And.intro trivial (And.intro trivial (And.intro trivial (And.intro (And.intro trivial (w14S0 N hc)) trivial)))))
theorem w14q [Alg] (N:Nat) (way0:Int) (kind1:Int) (options2:Int) (l3:(List (Int×(Int×(Int×(Int×Int)))))):w14G N (w14s0 N) way0 kind1 options2 l3=exec (w14c N) Tryd.f14.ntmps (w14h N) w14b ⟨argT 0 [.e (.i .i64) way0,.e (.i .i64) kind1,.e (.i .i64) options2,.e (.sl (.pr (.i .i64) (.pr (.i .i64) (.pr (.i .i64) (.pr (.i .i64) (.i .i64)))))) l3],[],100⟩ (finX (w14c N) Tryd.f14 false):=by kernel_rfl
theorem w14does {N:Nat} (hc:CxOk (w14c N)) {way0:Int} {kind1:Int} {options2:Int} {l3:(List (Int×(Int×(Int×(Int×Int)))))} {r:Res} (h:w14 N way0 kind1 options2 l3=some r):DoesR Tryd.prog 14 (([.e (.i .i64) way0,.e (.i .i64) kind1,.e (.i .i64) options2,.e (.sl (.pr (.i .i64) (.pr (.i .i64) (.pr (.i .i64) (.pr (.i .i64) (.i .i64)))))) l3]:List X).map X.D) (HA []) r:=
 fun_ok hc (f:=14) (fn:=Tryd.f14) (code:=w14b) (by kernel_rfl) (by kernel_rfl) (w14hk N hc) (Nat.le_of_ble_eq_true (by kernel_rfl)) (ow:=false) ((w14q N way0 kind1 options2 l3).symm.trans (by rw [w14e0 N];exact h))
def w14un (r:Res):Option (YF2×Int):=match r with
 | (.tup [x0,x1],[])=>(match ue .tx x0,ue (.i .i64) x1 with | some a0,some a1=>some (a0,a1) | _,_=>none)
 | _=>none
theorem w14uo {r:Res} {d:YF2×Int} (h:w14un r=some d):r=w14r0 (d.1) (d.2):=by
 unfold w14un at h;split at h
 ·split at h
  ·rename_i h0 h1;cases h;rw [ue_some h0,ue_some h1];rfl
  ·cases h
 ·cases h
def w14z (N:Nat) (way0:Int) (kind1:Int) (options2:Int) (l3:(List (Int×(Int×(Int×(Int×Int)))))):Option (YF2×Int):=(w14 N way0 kind1 options2 l3).bind w14un
theorem w14fin {N:Nat} (hc:CxOk (w14c N)) {way0:Int} {kind1:Int} {options2:Int} {l3:(List (Int×(Int×(Int×(Int×Int)))))} {d:YF2×Int} (hd:w14z N way0 kind1 options2 l3=some d):Does Tryd.prog 14 (([.e (.i .i64) way0,.e (.i .i64) kind1,.e (.i .i64) options2,.e (.sl (.pr (.i .i64) (.pr (.i .i64) (.pr (.i .i64) (.pr (.i .i64) (.i .i64)))))) l3]:List X).map X.D) (HA []) (w14r0 (d.1) (d.2)).1.D (HA (w14r0 (d.1) (d.2)).2):=by
 obtain ⟨r,hr,hu⟩:=Option.bind_eq_some_iff.1 hd;have:=w14does hc hr;rw [w14uo hu] at this;exact this
def w14p (N:Nat) (way0:Int) (kind1:Int) (options2:Int) (l3:(List (Int×(Int×(Int×(Int×Int)))))):Bool:=(w14z N way0 kind1 options2 l3).isSome
def w14y0 (N:Nat) (way0:Int) (kind1:Int) (options2:Int) (l3:(List (Int×(Int×(Int×(Int×Int)))))):YF2:=((w14z N way0 kind1 options2 l3).getD ([],0)).1
def w14y1 (N:Nat) (way0:Int) (kind1:Int) (options2:Int) (l3:(List (Int×(Int×(Int×(Int×Int)))))):Int:=((w14z N way0 kind1 options2 l3).getD ([],0)).2
def w14e (N:Nat):Ent':=E4 (.i .i64) (.i .i64) (.i .i64) (.sl (.pr (.i .i64) (.pr (.i .i64) (.pr (.i .i64) (.pr (.i .i64) (.i .i64))))))  (fun x0 x1 x2 x3=>(w14p N x0 x1 x2 x3,w14r0 (w14y0 N x0 x1 x2 x3) (w14y1 N x0 x1 x2 x3)))
theorem w14re {N:Nat} {way0:Int} {kind1:Int} {options2:Int} {l3:(List (Int×(Int×(Int×(Int×Int)))))} {d:YF2×Int} (hd:w14z N way0 kind1 options2 l3=some d):w14r0 (w14y0 N way0 kind1 options2 l3) (w14y1 N way0 kind1 options2 l3)=w14r0 (d.1) (d.2):=by unfold w14y0 w14y1;rw [hd];rfl
theorem w14ok (N:Nat):EOk Tryd.prog 14 (w14e N):=EOk.e4 (fun x0 x1 x2 x3 h=>by
 have h:(w14z N x0 x1 x2 x3).isSome=true:=h;obtain ⟨d,hd⟩:=Option.isSome_iff_exists.1 h;have f:=w14fin (w14cx N) hd;rw [← w14re hd] at f;exact f)
end
end Go.Proofs
