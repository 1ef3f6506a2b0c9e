/- What functions do: values, texts. Conditions are in the theorems. -/
import Derived.Test.YtlhdefefoaldfaaGreatDoorE7
import Derived.Test.YtlhdefefoaldfaaGreatDoorProg
import Derived.KernelRfl
import Derived.Test.YtlhdefefoaldfaaGreatDoorF0
import Derived.Test.YtlhdefefoaldfaaGreatDoorF1
/- What functions do. -/
namespace Go.Proofs
noncomputable section
open Go.Ax Go.Ax.Alg Go.RowKit Go.Ab
open Go
abbrev lF2x0:List UInt8:=[(82:UInt8),(40:UInt8)]
def w61r0 (a0:(List UInt8)):Res:=(.own 100,[(100,.row 5 .u8 a0 true)])
def w61in (xs:List X) (H:XH):Option (Int×Int×(List Ex)×Int×(List UInt8)):=match xs,H with
 | [.own 50,.agg [x0,x1,x2],x3],[(50,x4)]=>(match ue (.i .i64) x0,ue (.i .i64) x1,ue (.sl .ex) x2,ue (.i .i64) x3,ur 5 .u8 true x4 with | some a0,some a1,some a2,some a3,some a4=>some (a0,a1,a2,a3,a4) | _,_,_,_,_=>none)
 | _,_=>none
theorem w61io {xs:List X} {H:XH} {d:Int×Int×(List Ex)×Int×(List UInt8)} (h:w61in xs H=some d):xs=[.own 50,.agg [.e (.i .i64) (d.1),.e (.i .i64) (d.2.1),.e (.sl .ex) (d.2.2.1)],.e (.i .i64) (d.2.2.2.1)]∧H=[(50,.row 5 .u8 (d.2.2.2.2) true)]:=by
 unfold w61in at h
 split at h
 ·split at h
  ·rename_i h0 h1 h2 h3 h4;cases h;rw [ue_some h0,ue_some h1,ue_some h2,ue_some h3,ur_some h4];exact ⟨rfl,rfl⟩
  ·cases h
 ·cases h
abbrev w61T:=Nat×((Int→Int→(List Ex)→Int→(List UInt8)→Option ((List UInt8))))
def w61E (N:w61T):Ent':=withNil 5 .u8 <| entR w61in (fun d=>(N.2 (d.1) (d.2.1) (d.2.2.1) (d.2.2.2.1) (d.2.2.2.2)).isSome) (fun d=>w61r0 (((N.2 (d.1) (d.2.1) (d.2.2.1) (d.2.2.2.1) (d.2.2.2.2)).getD [])))
noncomputable def w61L (N:w61T):List (Nat×Ent'):=[(61,w61E N),(90,w90e N.1)]
noncomputable def w61c (N:w61T):Cx:=⟨Tryz.prog,25,w61L N,[]⟩
noncomputable def w61b:Code:=Tryz.f61.body.getD .skip
theorem w61cx (N:w61T) (hw50:EOk Tryz.prog 61 (w61E N)):CxOk (w61c N):=ctx_ok (by kernel_rfl) (.cons (by kernel_rfl) hw50 (.cons (by kernel_rfl) (w90ok N.1) .nil)) .nil
def w61G [Alg] (N:w61T)  (e1_0 e1_1:Int) (e1_2:(List Ex)) (level2:Int) (g0:(List UInt8)):O:=
 gx [((0:Int),(999999:Int),(4:Int),(0:UInt8)),((0:Int),(25:Int),(4:Int),(0:UInt8)),((1:Int),(0:Int),(3:Int),(45:UInt8)),((2:Int),(0:Int),(1:Int),(43:UInt8)),((2:Int),(0:Int),(1:Int),(45:UInt8)),((2:Int),(0:Int),(2:Int),(42:UInt8)),((2:Int),(0:Int),(2:Int),(47:UInt8)),((2:Int),(0:Int),(3:Int),(94:UInt8)),((1:Int),(0:Int),(4:Int),(82:UInt8)),((2:Int),(0:Int),(0:Int),(61:UInt8)),((2:Int),(0:Int),(0:Int),(60:UInt8))] e1_0 fun y0=>
 br (decide (y0.2.2.1 < level2))
  (ck (lim (g0++[(40:UInt8)]).length (1:Nat)) <|
  ck ((N.2 e1_0 e1_1 e1_2 (0:Int) (g0++[(40:UInt8)])).isSome) <|
  ck (lim ((N.2 e1_0 e1_1 e1_2 (0:Int) (g0++[(40:UInt8)])).getD []++[(41:UInt8)]).length (1:Nat)) <|
  some (w61r0 ((N.2 e1_0 e1_1 e1_2 (0:Int) (g0++[(40:UInt8)])).getD []++[(41:UInt8)])))
  (br (decide (e1_0=(0:Int)))
   (ck (w90p N.1 e1_1 (10:Int) g0) <|
   some (w61r0 (w90y0 N.1 e1_1 (10:Int) g0)))
   (br (decide (e1_0=(1:Int)))
    (ck (lim (g0++[u8of (IntKind.i64.wrap ((97:Int)+e1_1))]).length (1:Nat)) <|
    some (w61r0 (g0++[u8of (IntKind.i64.wrap ((97:Int)+e1_1))])))
    (br (decide (e1_0=(2:Int)))
     (ck (lim (g0++[(45:UInt8)]).length (1:Nat)) <|
     gx e1_2 ((0:Int)) fun y1=>
     ck ((N.2 y1.op y1.num y1.kids (3:Int) (g0++[(45:UInt8)])).isSome) <|
     some (w61r0 ((N.2 y1.op y1.num y1.kids (3:Int) (g0++[(45:UInt8)])).getD [])))
     (br (decide (e1_0=(8:Int)))
      (ck (lim (g0++lF2x0).length (1:Nat)) <|
      gx e1_2 ((0:Int)) fun y2=>
      ck ((N.2 y2.op y2.num y2.kids (1:Int) (g0++lF2x0)).isSome) <|
      ck (lim ((N.2 y2.op y2.num y2.kids (1:Int) (g0++lF2x0)).getD []++[(41:UInt8)]).length (1:Nat)) <|
      some (w61r0 ((N.2 y2.op y2.num y2.kids (1:Int) (g0++lF2x0)).getD []++[(41:UInt8)])))
      (br (decide (e1_0=(7:Int)))
       (gx e1_2 ((0:Int)) fun y3=>
       ck ((N.2 y3.op y3.num y3.kids (4:Int) g0).isSome) <|
       ck (lim ((N.2 y3.op y3.num y3.kids (4:Int) g0).getD []++[(94:UInt8)]).length (1:Nat)) <|
       gx e1_2 ((1:Int)) fun y4=>
       ck ((N.2 y4.op y4.num y4.kids (3:Int) ((N.2 y3.op y3.num y3.kids (4:Int) g0).getD []++[(94:UInt8)])).isSome) <|
       some (w61r0 ((N.2 y4.op y4.num y4.kids (3:Int) ((N.2 y3.op y3.num y3.kids (4:Int) g0).getD []++[(94:UInt8)])).getD [])))
       (gx e1_2 ((0:Int)) fun y5=>
       ck ((N.2 y5.op y5.num y5.kids (max (1:Int) y0.2.2.1) g0).isSome) <|
       ck (lim ((N.2 y5.op y5.num y5.kids (max (1:Int) y0.2.2.1) g0).getD []++[y0.2.2.2]).length (1:Nat)) <|
       gx e1_2 ((1:Int)) fun y6=>
       ck ((N.2 y6.op y6.num y6.kids (IntKind.i64.wrap (y0.2.2.1+(1:Int))) ((N.2 y5.op y5.num y5.kids (max (1:Int) y0.2.2.1) g0).getD []++[y0.2.2.2])).isSome) <|
       some (w61r0 ((N.2 y6.op y6.num y6.kids (IntKind.i64.wrap (y0.2.2.1+(1:Int))) ((N.2 y5.op y5.num y5.kids (max (1:Int) y0.2.2.1) g0).getD []++[y0.2.2.2])).getD []))))))))
def w61 [Alg] (N:w61T) (e1_0 e1_1:Int) (e1_2:(List Ex)) (level2:Int) (g0:(List UInt8)):O:=w61G N  e1_0 e1_1 e1_2 level2 g0
noncomputable def w61h [Alg] (_:w61T):Hint:=(.seq .d (.seq .d (.seq (.seq .d (.cond (.seq (.reg [] [] [[],[],[212,50],[],[228,212],[],[244,228],[]]) .d) .d)) (.seq (.seq .d (.block (.seq .d (.cond .d (.seq .d (.cond .d (.seq .d (.cond (.seq (.reg [] [] [[],[],[276,50],[],[],[],[],[316,276],[]]) .d) (.seq .d (.cond (.seq (.reg [] [] [[],[],[292,50],[],[],[],[],[332,292],[],[348,332],[]]) .d) (.seq .d (.cond (.seq (.reg [] [] [[],[],[],[],[],[332,50],[],[348,332],[],[],[],[],[388,348],[]]) .d) .d)))))))))))) (.seq (.reg [] [] [[],[],[],[],[],[],[],[],[356,50],[],[],[],[388,356],[],[],[],[],[],[],[],[452,388],[]]) .d)))))
theorem w61hk (N:w61T):HintOk (w61c N) Tryz.f61.ntmps (w61h N) w61b:=hk_of _ _ (And.intro trivial (And.intro trivial (And.intro (And.intro trivial (And.intro (And.intro trivial trivial) trivial)) (And.intro (And.intro trivial (And.intro trivial (And.intro trivial (And.intro trivial (And.intro trivial (And.intro trivial (And.intro (And.intro trivial trivial) (And.intro trivial (And.intro (And.intro trivial trivial) (And.intro trivial (And.intro (And.intro trivial trivial) trivial))))))))))) (And.intro trivial trivial)))))
theorem w61q [Alg] (N:w61T) (e1_0 e1_1:Int) (e1_2:(List Ex)) (level2:Int) (g0:(List UInt8)):w61G N  e1_0 e1_1 e1_2 level2 g0=exec (w61c N) Tryz.f61.ntmps (w61h N) w61b ⟨argT 0 [.own 50,.agg [.e (.i .i64) e1_0,.e (.i .i64) e1_1,.e (.sl .ex) e1_2],.e (.i .i64) level2],[(50,.row 5 .u8 g0 true)],100⟩ (finX (w61c N) Tryz.f61 true):=by kernel_rfl
theorem w61does {N:w61T} (hc:CxOk (w61c N)) {e1_0 e1_1:Int} {e1_2:(List Ex)} {level2:Int} {g0:(List UInt8)} {r:Res} (h:w61 N e1_0 e1_1 e1_2 level2 g0=some r):DoesR Tryz.prog 61 (([.own 50,.agg [.e (.i .i64) e1_0,.e (.i .i64) e1_1,.e (.sl .ex) e1_2],.e (.i .i64) level2]:List X).map X.D) (HA [(50,.row 5 .u8 g0 true)]) r:=
 fun_ok hc (f:=61) (fn:=Tryz.f61) (code:=w61b) (by kernel_rfl) (by kernel_rfl) (w61hk N) (Nat.le_of_ble_eq_true (by kernel_rfl)) (ow:=true) ((w61q N e1_0 e1_1 e1_2 level2 g0).symm.trans (by exact h))
def w61un (r:Res):Option ((List UInt8)):=match r with
 | (.own 100,[(100,x0)])=>(match ur 5 .u8 true x0 with | some a0=>some a0 | _=>none)
 | _=>none
theorem w61uo {r:Res} {d:(List UInt8)} (h:w61un r=some d):r=w61r0 (d):=by
 unfold w61un at h
 split at h
 ·split at h
  ·rename_i h0;cases h;rw [ur_some h0];rfl
  ·cases h
 ·cases h
def w61z (N:w61T) (e1_0 e1_1:Int) (e1_2:(List Ex)) (level2:Int) (g0:(List UInt8)):Option ((List UInt8)):=(w61 N e1_0 e1_1 e1_2 level2 g0).bind w61un
theorem w61fin {N:w61T} (hc:CxOk (w61c N)) {e1_0 e1_1:Int} {e1_2:(List Ex)} {level2:Int} {g0 d:(List UInt8)} (hd:w61z N e1_0 e1_1 e1_2 level2 g0=some d):Does Tryz.prog 61 (([.own 50,.agg [.e (.i .i64) e1_0,.e (.i .i64) e1_1,.e (.sl .ex) e1_2],.e (.i .i64) level2]:List X).map X.D) (HA [(50,.row 5 .u8 g0 true)]) (w61r0 (d)).1.D (HA (w61r0 (d)).2):=by
 obtain ⟨r,hr,hu⟩:=Option.bind_eq_some_iff.1 hd
 have:=w61does hc hr
 rw [w61uo hu] at this
 exact this
def w61gY (N:Nat):Nat→(Int→Int→(List Ex)→Int→(List UInt8)→Option ((List UInt8)))
 | 0=>fun _ _ _ _ _=>none
 | n+1=>fun e1_0 e1_1 e1_2 level2 g0=>w61z (N,w61gY N n) e1_0 e1_1 e1_2 level2 g0
theorem w61gYok (N:Nat):∀ n,EOk Tryz.prog 61 (w61E (N,w61gY N n))
 | 0=>withNil_ok <| entR_ok w61io (fun _ h=>by cases h)
 | n+1=>
   have ih:=w61gYok N n
   withNil_ok <| entR_ok w61io (fun d h=>norStep (zz:=w61z (N,w61gY N n) (d.1) (d.2.1) (d.2.2.1) (d.2.2.2.1) (d.2.2.2.2)) (R:=fun y=>w61r0 (y)) (d0:=[]) (fun _ hy=>w61fin (w61cx (N,w61gY N n) ih) hy) h)
def w61p (N:Nat) (e1_0 e1_1:Int) (e1_2:(List Ex)) (level2:Int) (g0:(List UInt8)):Bool:=((w61gY N N) e1_0 e1_1 e1_2 level2 g0).isSome
def w61y0 (N:Nat) (e1_0 e1_1:Int) (e1_2:(List Ex)) (level2:Int) (g0:(List UInt8)):(List UInt8):=(((w61gY N N) e1_0 e1_1 e1_2 level2 g0).getD [])
def w61e (N:Nat):Ent':=withNil 5 .u8 <| entR w61in (fun d=>w61p N (d.1) (d.2.1) (d.2.2.1) (d.2.2.2.1) (d.2.2.2.2)) (fun d=>w61r0 (w61y0 N (d.1) (d.2.1) (d.2.2.1) (d.2.2.2.1) (d.2.2.2.2)))
theorem w61ok (N:Nat):EOk Tryz.prog 61 (w61e N):=w61gYok N N
def w35r0 (a0:(List UInt8)):Res:=(.e .tx a0,[])
noncomputable def w35L (N:Nat):List (Nat×Ent'):=[(29,w29e N),(61,w61e N)]
noncomputable def w35c (N:Nat):Cx:=⟨Tryz.prog,25,w35L N,[]⟩
noncomputable def w35b:Code:=Tryz.f35.body.getD .skip
theorem w35cx (N:Nat):CxOk (w35c N):=ctx_ok (by kernel_rfl) (.cons (by kernel_rfl) (w29ok N) (.cons (by kernel_rfl) (w61ok N) .nil)) .nil
def w35G [Alg] (N:Nat)  (A B:Int) (C:(List Ex)):O:=
 ck (w29p N A B C) <|
 br (decide (w29y0 N A B C≠(0:Int)))
  (some (w35r0 []))
  (ck (w61p N A B C (0:Int) []) <|
  some (w35r0 (w61y0 N A B C (0:Int) [])))
def w35 [Alg] (N:Nat) (A B:Int) (C:(List Ex)):O:=w35G N  A B C
noncomputable def w35h [Alg] (_:Nat):Hint:=.d
theorem w35hk (N:Nat):HintOk (w35c N) Tryz.f35.ntmps (w35h N) w35b:=hk_of _ _ trivial
theorem w35q [Alg] (N:Nat) (A B:Int) (C:(List Ex)):w35G N  A B C=exec (w35c N) Tryz.f35.ntmps (w35h N) w35b ⟨argT 0 [.agg [.e (.i .i64) A,.e (.i .i64) B,.e (.sl .ex) C]],[],100⟩ (finX (w35c N) Tryz.f35 false):=by kernel_rfl
theorem w35does {N:Nat} (hc:CxOk (w35c N)) {A B:Int} {C:(List Ex)} {r:Res} (h:w35 N A B C=some r):DoesR Tryz.prog 35 (([.agg [.e (.i .i64) A,.e (.i .i64) B,.e (.sl .ex) C]]:List X).map X.D) (HA []) r:=
 fun_ok hc (f:=35) (fn:=Tryz.f35) (code:=w35b) (by kernel_rfl) (by kernel_rfl) (w35hk N) (Nat.le_of_ble_eq_true (by kernel_rfl)) (ow:=false) ((w35q N A B C).symm.trans (by exact h))
def w35un (r:Res):Option ((List UInt8)):=match r with
 | (x0,[])=>(match ue .tx x0 with | some a0=>some a0 | _=>none)
 | _=>none
theorem w35uo {r:Res} {d:(List UInt8)} (h:w35un r=some d):r=w35r0 (d):=by
 unfold w35un at h
 split at h
 ·split at h
  ·rename_i h0;cases h;rw [ue_some h0];rfl
  ·cases h
 ·cases h
def w35z (N:Nat) (A B:Int) (C:(List Ex)):Option ((List UInt8)):=(w35 N A B C).bind w35un
theorem w35fin {N:Nat} (hc:CxOk (w35c N)) {A B:Int} {C:(List Ex)} {d:(List UInt8)} (hd:w35z N A B C=some d):Does Tryz.prog 35 (([.agg [.e (.i .i64) A,.e (.i .i64) B,.e (.sl .ex) C]]:List X).map X.D) (HA []) (w35r0 (d)).1.D (HA (w35r0 (d)).2):=by
 obtain ⟨r,hr,hu⟩:=Option.bind_eq_some_iff.1 hd
 have:=w35does hc hr
 rw [w35uo hu] at this
 exact this
def w35p (N:Nat) (A B:Int) (C:(List Ex)):Bool:=(w35z N A B C).isSome
def w35y0 (N:Nat) (A B:Int) (C:(List Ex)):(List UInt8):=((w35z N A B C).getD [])
def w35e (N:Nat):Ent':=E1 .ex  (fun x0=>(w35p N (Ex.op x0) (Ex.num x0) (Ex.kids x0),w35r0 (w35y0 N (Ex.op x0) (Ex.num x0) (Ex.kids x0))))
theorem w35re {N:Nat} {A B:Int} {C:(List Ex)} {d:(List UInt8)} (hd:w35z N A B C=some d):w35r0 (w35y0 N A B C)=w35r0 (d):=by unfold w35y0;rw [hd];rfl
theorem w35ok (N:Nat):EOk Tryz.prog 35 (w35e N):=EOk.e1 (fun x0 h=>by
 have h:(w35z N (Ex.op x0) (Ex.num x0) (Ex.kids x0)).isSome=true:=h
 obtain ⟨d,hd⟩:=Option.isSome_iff_exists.1 h
 have f:=w35fin (w35cx N) hd
 rw [← w35re hd] at f
 exact f)
abbrev w54T:=Nat×(((List Ex)→(List Ex)→Option (Bool))×(Int→Int→(List Ex)→Int→Int→(List Ex)→Option (Bool)))
end
end Go.Proofs
