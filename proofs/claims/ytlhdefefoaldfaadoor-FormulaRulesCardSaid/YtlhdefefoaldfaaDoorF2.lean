/- What functions do: values, texts. Conditions are in the theorems. -/
import Derived.Test.YtlhdefefoaldfaaDoorE7
import Derived.Test.YtlhdefefoaldfaaDoorProg
import Derived.KernelRfl
import Derived.Test.YtlhdefefoaldfaaDoorF0
import Derived.Test.YtlhdefefoaldfaaDoorF1
/- What functions do. -/
namespace Go.Proofs
noncomputable section
open Go.Ax Go.Ax.Alg Go.RowKit Go.Ab
open Go
abbrev lF2x0:List UInt8:=[(82:UInt8),(40:UInt8)]
def w50r0 (a0:(List UInt8)):Res:=(.own 100,[(100,.row 5 .u8 a0 true)])
def w50in (xs:List X) (H:XH):Option (Int×Int×(List Ex)×Int×(List UInt8)):=match xs,H with
 | [.own 50,.agg [x0,x1,x2],x3],[(50,x4)]=>(match ue (.i .i64) x0,ue (.i .i64) x1,ue (.sl .ex) x2,ue (.i .i64) x3,ur 5 .u8 true x4 with | some a0,some a1,some a2,some a3,some a4=>some (a0,a1,a2,a3,a4) | _,_,_,_,_=>none)
 | _,_=>none
theorem w50io {xs:List X} {H:XH} {d:Int×Int×(List Ex)×Int×(List UInt8)} (h:w50in xs H=some d):xs=[.own 50,.agg [.e (.i .i64) (d.1),.e (.i .i64) (d.2.1),.e (.sl .ex) (d.2.2.1)],.e (.i .i64) (d.2.2.2.1)]∧H=[(50,.row 5 .u8 (d.2.2.2.2) true)]:=by
 unfold w50in at h
 split at h
 ·split at h
  ·rename_i h0 h1 h2 h3 h4;cases h;rw [ue_some h0,ue_some h1,ue_some h2,ue_some h3,ur_some h4];exact ⟨rfl,rfl⟩
  ·cases h
 ·cases h
abbrev w50T:=Nat×((Int→Int→(List Ex)→Int→(List UInt8)→Option ((List UInt8))))
def w50E (N:w50T):Ent':=withNil 5 .u8 <| entR w50in (fun d=>(N.2 (d.1) (d.2.1) (d.2.2.1) (d.2.2.2.1) (d.2.2.2.2)).isSome) (fun d=>w50r0 (((N.2 (d.1) (d.2.1) (d.2.2.1) (d.2.2.2.1) (d.2.2.2.2)).getD [])))
noncomputable def w50L (N:w50T):List (Nat×Ent'):=[(50,w50E N),(80,w80e N.1)]
noncomputable def w50c (N:w50T):Cx:=⟨Tryd.prog,25,w50L N,[]⟩
noncomputable def w50b:Code:=Tryd.f50.body.getD .skip
theorem w50cx (N:w50T) (hw50:EOk Tryd.prog 50 (w50E N)):CxOk (w50c N):=ctx_ok (by kernel_rfl) (.cons (by kernel_rfl) hw50 (.cons (by kernel_rfl) (w80ok N.1) .nil)) .nil
def w50G [Alg] (N:w50T)  (e1_0 e1_1:Int) (e1_2:(List Ex)) (level2:Int) (g0:(List UInt8)):O:=
 gx [((0:Int),(999999:Int),(4:Int),(0:UInt8)),((0:Int),(25:Int),(4:Int),(0:UInt8)),((1:Int),(0:Int),(3:Int),(45:UInt8)),((2:Int),(0:Int),(1:Int),(43:UInt8)),((2:Int),(0:Int),(1:Int),(45:UInt8)),((2:Int),(0:Int),(2:Int),(42:UInt8)),((2:Int),(0:Int),(2:Int),(47:UInt8)),((2:Int),(0:Int),(3:Int),(94:UInt8)),((1:Int),(0:Int),(4:Int),(82:UInt8)),((2:Int),(0:Int),(0:Int),(61:UInt8)),((2:Int),(0:Int),(0:Int),(60:UInt8))] e1_0 fun y0=>
 br (decide (y0.2.2.1 < level2))
  (ck (lim (g0++[(40:UInt8)]).length (1:Nat)) <|
  ck ((N.2 e1_0 e1_1 e1_2 (0:Int) (g0++[(40:UInt8)])).isSome) <|
  ck (lim ((N.2 e1_0 e1_1 e1_2 (0:Int) (g0++[(40:UInt8)])).getD []++[(41:UInt8)]).length (1:Nat)) <|
  some (w50r0 ((N.2 e1_0 e1_1 e1_2 (0:Int) (g0++[(40:UInt8)])).getD []++[(41:UInt8)])))
  (br (decide (e1_0=(0:Int)))
   (ck (w80p N.1 e1_1 (10:Int) g0) <|
   some (w50r0 (w80y0 N.1 e1_1 (10:Int) g0)))
   (br (decide (e1_0=(1:Int)))
    (ck (lim (g0++[u8of (IntKind.i64.wrap ((97:Int)+e1_1))]).length (1:Nat)) <|
    some (w50r0 (g0++[u8of (IntKind.i64.wrap ((97:Int)+e1_1))])))
    (br (decide (e1_0=(2:Int)))
     (ck (lim (g0++[(45:UInt8)]).length (1:Nat)) <|
     gx e1_2 ((0:Int)) fun y1=>
     ck ((N.2 y1.op y1.num y1.kids (3:Int) (g0++[(45:UInt8)])).isSome) <|
     some (w50r0 ((N.2 y1.op y1.num y1.kids (3:Int) (g0++[(45:UInt8)])).getD [])))
     (br (decide (e1_0=(8:Int)))
      (ck (lim (g0++lF2x0).length (1:Nat)) <|
      gx e1_2 ((0:Int)) fun y2=>
      ck ((N.2 y2.op y2.num y2.kids (1:Int) (g0++lF2x0)).isSome) <|
      ck (lim ((N.2 y2.op y2.num y2.kids (1:Int) (g0++lF2x0)).getD []++[(41:UInt8)]).length (1:Nat)) <|
      some (w50r0 ((N.2 y2.op y2.num y2.kids (1:Int) (g0++lF2x0)).getD []++[(41:UInt8)])))
      (br (decide (e1_0=(7:Int)))
       (gx e1_2 ((0:Int)) fun y3=>
       ck ((N.2 y3.op y3.num y3.kids (4:Int) g0).isSome) <|
       ck (lim ((N.2 y3.op y3.num y3.kids (4:Int) g0).getD []++[(94:UInt8)]).length (1:Nat)) <|
       gx e1_2 ((1:Int)) fun y4=>
       ck ((N.2 y4.op y4.num y4.kids (3:Int) ((N.2 y3.op y3.num y3.kids (4:Int) g0).getD []++[(94:UInt8)])).isSome) <|
       some (w50r0 ((N.2 y4.op y4.num y4.kids (3:Int) ((N.2 y3.op y3.num y3.kids (4:Int) g0).getD []++[(94:UInt8)])).getD [])))
       (gx e1_2 ((0:Int)) fun y5=>
       ck ((N.2 y5.op y5.num y5.kids (max (1:Int) y0.2.2.1) g0).isSome) <|
       ck (lim ((N.2 y5.op y5.num y5.kids (max (1:Int) y0.2.2.1) g0).getD []++[y0.2.2.2]).length (1:Nat)) <|
       gx e1_2 ((1:Int)) fun y6=>
       ck ((N.2 y6.op y6.num y6.kids (IntKind.i64.wrap (y0.2.2.1+(1:Int))) ((N.2 y5.op y5.num y5.kids (max (1:Int) y0.2.2.1) g0).getD []++[y0.2.2.2])).isSome) <|
       some (w50r0 ((N.2 y6.op y6.num y6.kids (IntKind.i64.wrap (y0.2.2.1+(1:Int))) ((N.2 y5.op y5.num y5.kids (max (1:Int) y0.2.2.1) g0).getD []++[y0.2.2.2])).getD []))))))))
def w50 [Alg] (N:w50T) (e1_0 e1_1:Int) (e1_2:(List Ex)) (level2:Int) (g0:(List UInt8)):O:=w50G N  e1_0 e1_1 e1_2 level2 g0
noncomputable def w50h [Alg] (_:w50T):Hint:=(.seq .d (.seq .d (.seq (.seq .d (.cond (.seq (.reg [] [] [[],[],[212,50],[],[228,212],[],[244,228],[]]) .d) .d)) (.seq (.seq .d (.block (.seq .d (.cond .d (.seq .d (.cond .d (.seq .d (.cond (.seq (.reg [] [] [[],[],[276,50],[],[],[],[],[316,276],[]]) .d) (.seq .d (.cond (.seq (.reg [] [] [[],[],[292,50],[],[],[],[],[332,292],[],[348,332],[]]) .d) (.seq .d (.cond (.seq (.reg [] [] [[],[],[],[],[],[332,50],[],[348,332],[],[],[],[],[388,348],[]]) .d) .d)))))))))))) (.seq (.reg [] [] [[],[],[],[],[],[],[],[],[356,50],[],[],[],[388,356],[],[],[],[],[],[],[],[452,388],[]]) .d)))))
theorem w50hk (N:w50T):HintOk (w50c N) Tryd.f50.ntmps (w50h N) w50b:=hk_of _ _ (And.intro trivial (And.intro trivial (And.intro (And.intro trivial (And.intro (And.intro trivial trivial) trivial)) (And.intro (And.intro trivial (And.intro trivial (And.intro trivial (And.intro trivial (And.intro trivial (And.intro trivial (And.intro (And.intro trivial trivial) (And.intro trivial (And.intro (And.intro trivial trivial) (And.intro trivial (And.intro (And.intro trivial trivial) trivial))))))))))) (And.intro trivial trivial)))))
theorem w50q [Alg] (N:w50T) (e1_0 e1_1:Int) (e1_2:(List Ex)) (level2:Int) (g0:(List UInt8)):w50G N  e1_0 e1_1 e1_2 level2 g0=exec (w50c N) Tryd.f50.ntmps (w50h N) w50b ⟨argT 0 [.own 50,.agg [.e (.i .i64) e1_0,.e (.i .i64) e1_1,.e (.sl .ex) e1_2],.e (.i .i64) level2],[(50,.row 5 .u8 g0 true)],100⟩ (finX (w50c N) Tryd.f50 true):=by kernel_rfl
theorem w50does {N:w50T} (hc:CxOk (w50c N)) {e1_0 e1_1:Int} {e1_2:(List Ex)} {level2:Int} {g0:(List UInt8)} {r:Res} (h:w50 N e1_0 e1_1 e1_2 level2 g0=some r):DoesR Tryd.prog 50 (([.own 50,.agg [.e (.i .i64) e1_0,.e (.i .i64) e1_1,.e (.sl .ex) e1_2],.e (.i .i64) level2]:List X).map X.D) (HA [(50,.row 5 .u8 g0 true)]) r:=
 fun_ok hc (f:=50) (fn:=Tryd.f50) (code:=w50b) (by kernel_rfl) (by kernel_rfl) (w50hk N) (Nat.le_of_ble_eq_true (by kernel_rfl)) (ow:=true) ((w50q N e1_0 e1_1 e1_2 level2 g0).symm.trans (by exact h))
def w50un (r:Res):Option ((List UInt8)):=match r with
 | (.own 100,[(100,x0)])=>(match ur 5 .u8 true x0 with | some a0=>some a0 | _=>none)
 | _=>none
theorem w50uo {r:Res} {d:(List UInt8)} (h:w50un r=some d):r=w50r0 (d):=by
 unfold w50un at h
 split at h
 ·split at h
  ·rename_i h0;cases h;rw [ur_some h0];rfl
  ·cases h
 ·cases h
def w50z (N:w50T) (e1_0 e1_1:Int) (e1_2:(List Ex)) (level2:Int) (g0:(List UInt8)):Option ((List UInt8)):=(w50 N e1_0 e1_1 e1_2 level2 g0).bind w50un
theorem w50fin {N:w50T} (hc:CxOk (w50c N)) {e1_0 e1_1:Int} {e1_2:(List Ex)} {level2:Int} {g0 d:(List UInt8)} (hd:w50z N e1_0 e1_1 e1_2 level2 g0=some d):Does Tryd.prog 50 (([.own 50,.agg [.e (.i .i64) e1_0,.e (.i .i64) e1_1,.e (.sl .ex) e1_2],.e (.i .i64) level2]:List X).map X.D) (HA [(50,.row 5 .u8 g0 true)]) (w50r0 (d)).1.D (HA (w50r0 (d)).2):=by
 obtain ⟨r,hr,hu⟩:=Option.bind_eq_some_iff.1 hd
 have:=w50does hc hr
 rw [w50uo hu] at this
 exact this
def w50gY (N:Nat):Nat→(Int→Int→(List Ex)→Int→(List UInt8)→Option ((List UInt8)))
 | 0=>fun _ _ _ _ _=>none
 | n+1=>fun e1_0 e1_1 e1_2 level2 g0=>w50z (N,w50gY N n) e1_0 e1_1 e1_2 level2 g0
theorem w50gYok (N:Nat):∀ n,EOk Tryd.prog 50 (w50E (N,w50gY N n))
 | 0=>withNil_ok <| entR_ok w50io (fun _ h=>by cases h)
 | n+1=>
   have ih:=w50gYok N n
   withNil_ok <| entR_ok w50io (fun d h=>norStep (zz:=w50z (N,w50gY N n) (d.1) (d.2.1) (d.2.2.1) (d.2.2.2.1) (d.2.2.2.2)) (R:=fun y=>w50r0 (y)) (d0:=[]) (fun _ hy=>w50fin (w50cx (N,w50gY N n) ih) hy) h)
def w50p (N:Nat) (e1_0 e1_1:Int) (e1_2:(List Ex)) (level2:Int) (g0:(List UInt8)):Bool:=((w50gY N N) e1_0 e1_1 e1_2 level2 g0).isSome
def w50y0 (N:Nat) (e1_0 e1_1:Int) (e1_2:(List Ex)) (level2:Int) (g0:(List UInt8)):(List UInt8):=(((w50gY N N) e1_0 e1_1 e1_2 level2 g0).getD [])
def w50e (N:Nat):Ent':=withNil 5 .u8 <| entR w50in (fun d=>w50p N (d.1) (d.2.1) (d.2.2.1) (d.2.2.2.1) (d.2.2.2.2)) (fun d=>w50r0 (w50y0 N (d.1) (d.2.1) (d.2.2.1) (d.2.2.2.1) (d.2.2.2.2)))
theorem w50ok (N:Nat):EOk Tryd.prog 50 (w50e N):=w50gYok N N
def w14r0 (a0:(List UInt8)):Res:=(.e .tx a0,[])
noncomputable def w14L (N:Nat):List (Nat×Ent'):=[(17,w17e N),(50,w50e N)]
noncomputable def w14c (N:Nat):Cx:=⟨Tryd.prog,25,w14L N,[]⟩
noncomputable def w14b:Code:=Tryd.f14.body.getD .skip
theorem w14cx (N:Nat):CxOk (w14c N):=ctx_ok (by kernel_rfl) (.cons (by kernel_rfl) (w17ok N) (.cons (by kernel_rfl) (w50ok N) .nil)) .nil
def w14G [Alg] (N:Nat)  (A B:Int) (C:(List Ex)):O:=
 ck (w17p N A B C) <|
 br (decide (w17y0 N A B C≠(0:Int)))
  (some (w14r0 []))
  (ck (w50p N A B C (0:Int) []) <|
  some (w14r0 (w50y0 N A B C (0:Int) [])))
def w14 [Alg] (N:Nat) (A B:Int) (C:(List Ex)):O:=w14G N  A B C
noncomputable def w14h [Alg] (_:Nat):Hint:=.d
theorem w14hk (N:Nat):HintOk (w14c N) Tryd.f14.ntmps (w14h N) w14b:=hk_of _ _ trivial
theorem w14q [Alg] (N:Nat) (A B:Int) (C:(List Ex)):w14G N  A B C=exec (w14c N) Tryd.f14.ntmps (w14h N) w14b ⟨argT 0 [.agg [.e (.i .i64) A,.e (.i .i64) B,.e (.sl .ex) C]],[],100⟩ (finX (w14c N) Tryd.f14 false):=by kernel_rfl
theorem w14does {N:Nat} (hc:CxOk (w14c N)) {A B:Int} {C:(List Ex)} {r:Res} (h:w14 N A B C=some r):DoesR Tryd.prog 14 (([.agg [.e (.i .i64) A,.e (.i .i64) B,.e (.sl .ex) C]]:List X).map X.D) (HA []) r:=
 fun_ok hc (f:=14) (fn:=Tryd.f14) (code:=w14b) (by kernel_rfl) (by kernel_rfl) (w14hk N) (Nat.le_of_ble_eq_true (by kernel_rfl)) (ow:=false) ((w14q N A B C).symm.trans (by exact h))
def w14un (r:Res):Option ((List UInt8)):=match r with
 | (x0,[])=>(match ue .tx x0 with | some a0=>some a0 | _=>none)
 | _=>none
theorem w14uo {r:Res} {d:(List UInt8)} (h:w14un r=some d):r=w14r0 (d):=by
 unfold w14un at h
 split at h
 ·split at h
  ·rename_i h0;cases h;rw [ue_some h0];rfl
  ·cases h
 ·cases h
def w14z (N:Nat) (A B:Int) (C:(List Ex)):Option ((List UInt8)):=(w14 N A B C).bind w14un
theorem w14fin {N:Nat} (hc:CxOk (w14c N)) {A B:Int} {C:(List Ex)} {d:(List UInt8)} (hd:w14z N A B C=some d):Does Tryd.prog 14 (([.agg [.e (.i .i64) A,.e (.i .i64) B,.e (.sl .ex) C]]:List X).map X.D) (HA []) (w14r0 (d)).1.D (HA (w14r0 (d)).2):=by
 obtain ⟨r,hr,hu⟩:=Option.bind_eq_some_iff.1 hd
 have:=w14does hc hr
 rw [w14uo hu] at this
 exact this
def w14p (N:Nat) (A B:Int) (C:(List Ex)):Bool:=(w14z N A B C).isSome
def w14y0 (N:Nat) (A B:Int) (C:(List Ex)):(List UInt8):=((w14z N A B C).getD [])
def w14e (N:Nat):Ent':=E1 .ex  (fun x0=>(w14p N (Ex.op x0) (Ex.num x0) (Ex.kids x0),w14r0 (w14y0 N (Ex.op x0) (Ex.num x0) (Ex.kids x0))))
theorem w14re {N:Nat} {A B:Int} {C:(List Ex)} {d:(List UInt8)} (hd:w14z N A B C=some d):w14r0 (w14y0 N A B C)=w14r0 (d):=by unfold w14y0;rw [hd];rfl
theorem w14ok (N:Nat):EOk Tryd.prog 14 (w14e N):=EOk.e1 (fun x0 h=>by
 have h:(w14z N (Ex.op x0) (Ex.num x0) (Ex.kids x0)).isSome=true:=h
 obtain ⟨d,hd⟩:=Option.isSome_iff_exists.1 h
 have f:=w14fin (w14cx N) hd
 rw [← w14re hd] at f
 exact f)
abbrev w69T:=Nat×(((List Ex)→(List Ex)→Option (Bool))×(Int→Int→(List Ex)→Int→Int→(List Ex)→Option (Bool)))
def w92r0 (a0:Int) (a1:Bool):Res:=(.tup [.e (.i .i64) a0,.e .bo a1],[])
noncomputable def w92L (_:Nat):List (Nat×Ent'):=[]
noncomputable def w92c (N:Nat):Cx:=⟨Tryd.prog,25,w92L N,[]⟩
noncomputable def w92b:Code:=Tryd.f92.body.getD .skip
theorem w92cx (N:Nat):CxOk (w92c N):=ctx_ok (by kernel_rfl) .nil .nil
def w92G [Alg] (_:Nat)  (is0:Bool):O:=
 br is0
  (some (w92r0 ((1:Int)) true))
  (some (w92r0 ((0:Int)) true))
def w92 [Alg] (N:Nat) (is0:Bool):O:=w92G N  is0
noncomputable def w92h [Alg] (_:Nat):Hint:=.d
theorem w92hk (N:Nat):HintOk (w92c N) Tryd.f92.ntmps (w92h N) w92b:=hk_of _ _ trivial
theorem w92q [Alg] (N:Nat) (is0:Bool):w92G N  is0=exec (w92c N) Tryd.f92.ntmps (w92h N) w92b ⟨argT 0 [.e .bo is0],[],100⟩ (finX (w92c N) Tryd.f92 false):=by kernel_rfl
theorem w92does {N:Nat} (hc:CxOk (w92c N)) {is0:Bool} {r:Res} (h:w92 N is0=some r):DoesR Tryd.prog 92 (([.e .bo is0]:List X).map X.D) (HA []) r:=
 fun_ok hc (f:=92) (fn:=Tryd.f92) (code:=w92b) (by kernel_rfl) (by kernel_rfl) (w92hk N) (Nat.le_of_ble_eq_true (by kernel_rfl)) (ow:=false) ((w92q N is0).symm.trans (by exact h))
def w92un (r:Res):Option (Int×Bool):=match r with
 | (.tup [x0,x1],[])=>(match ue (.i .i64) x0,ue .bo x1 with | some a0,some a1=>some (a0,a1) | _,_=>none)
 | _=>none
theorem w92uo {r:Res} {d:Int×Bool} (h:w92un r=some d):r=w92r0 (d.1) (d.2):=by
 unfold w92un at h
 split at h
 ·split at h
  ·rename_i h0 h1;cases h;rw [ue_some h0,ue_some h1];rfl
  ·cases h
 ·cases h
def w92z (N:Nat) (is0:Bool):Option (Int×Bool):=(w92 N is0).bind w92un
theorem w92fin {N:Nat} (hc:CxOk (w92c N)) {is0:Bool} {d:Int×Bool} (hd:w92z N is0=some d):Does Tryd.prog 92 (([.e .bo is0]:List X).map X.D) (HA []) (w92r0 (d.1) (d.2)).1.D (HA (w92r0 (d.1) (d.2)).2):=by
 obtain ⟨r,hr,hu⟩:=Option.bind_eq_some_iff.1 hd
 have:=w92does hc hr
 rw [w92uo hu] at this
 exact this
def w92p (N:Nat) (is0:Bool):Bool:=(w92z N is0).isSome
def w92y0 (N:Nat) (is0:Bool):Int:=((w92z N is0).getD (0,false)).1
def w92y1 (N:Nat) (is0:Bool):Bool:=((w92z N is0).getD (0,false)).2
def w92e (N:Nat):Ent':=E1 .bo  (fun x0=>(w92p N x0,w92r0 (w92y0 N x0) (w92y1 N x0)))
theorem w92re {N:Nat} {is0:Bool} {d:Int×Bool} (hd:w92z N is0=some d):w92r0 (w92y0 N is0) (w92y1 N is0)=w92r0 (d.1) (d.2):=by unfold w92y0 w92y1;rw [hd];rfl
theorem w92ok (N:Nat):EOk Tryd.prog 92 (w92e N):=EOk.e1 (fun x0 h=>by
 have h:(w92z N x0).isSome=true:=h
 obtain ⟨d,hd⟩:=Option.isSome_iff_exists.1 h
 have f:=w92fin (w92cx N) hd
 rw [← w92re hd] at f
 exact f)
def w93r0 (a0:Int):Res:=(.e (.i .i64) a0,[])
noncomputable def w93L (_:Nat):List (Nat×Ent'):=[]
noncomputable def w93c (N:Nat):Cx:=⟨Tryd.prog,25,w93L N,[]⟩
noncomputable def w93b:Code:=Tryd.f93.body.getD .skip
theorem w93cx (N:Nat):CxOk (w93c N):=ctx_ok (by kernel_rfl) .nil .nil
def w93F0 [Alg] (_:Nat)  (self:Int→Int→Int→O) (k0:Int→O) (x0_0 x0_1 x0_2:Int):O:=
 br (decide ((0:Int) < x0_1))
  (ck true <|
  br (decide (x0_1.tmod (2:Int)=(1:Int)))
   (ck true <|
   ck true <|
   ck true <|
   self ((IntKind.i64.wrap (x0_0 * x0_0)).tmod (9973:Int)) (IntKind.i64.wrap (x0_1.tdiv (2:Int))) ((IntKind.i64.wrap (x0_2 * x0_0)).tmod (9973:Int)))
   (ck true <|
   ck true <|
   self ((IntKind.i64.wrap (x0_0 * x0_0)).tmod (9973:Int)) (IntKind.i64.wrap (x0_1.tdiv (2:Int))) x0_2))
  (k0 x0_2)
noncomputable def w93b0:Code:=atC [1,1,0,0,0] w93b
def w93m0:Nm:=⟨[0,1,5],[],[]⟩
def w93I0 (x:Int×Int×Int):Sg:=⟨[(0,.e (.i .i64) x.1),(1,.e (.i .i64) x.2.1),(5,.e (.i .i64) x.2.2)],[],100⟩
def w93u0 (σ:Sg):Int×Int×Int:=(lvT (.i .i64) 0 0 σ,lvT (.i .i64) 1 0 σ,lvT (.i .i64) 5 0 σ)
theorem w93ui0:∀ x,w93u0 (w93I0 x)=x:=fun _=>by kernel_rfl
def w93X0_0 (y:Int):Exit×Sg:=((.exit 0),⟨[(5,.e (.i .i64) y)],[],100⟩)
def w93v0_0 (_:Exit) (σ:Sg):Int:=lvT (.i .i64) 5 0 σ
def w93w0:List (Exit×Nm):=[((.exit 0),⟨[5],[],[]⟩)]
theorem w93o0:Outs w93v0_0 (fun _ _=>()) (fun _ _=>()) w93X0_0 (noX 1) (noX 2) (exC (.exit 0)) (exC (.goto 1)) (exC (.goto 2)):=⟨fun _=>by kernel_rfl,fun _=>by kernel_rfl,fun _=>by kernel_rfl,fun _=>by kernel_rfl,fun _=>by kernel_rfl,fun _=>by kernel_rfl,exNe_ok (by kernel_rfl),exNe_ok (by kernel_rfl),exNe_ok (by kernel_rfl)⟩
def w93l0 [Alg] (N:Nat):Nat→(Int×Int×Int)→((Int)→O)→((Unit)→O)→((Unit)→O)→O
 | 0,_,_,_,_=>none
 | n+1,x,k0,k1,k2=>w93F0 N  (fun v0 v1 v2=>w93l0 N n (v0,v1,v2) k0 k1 k2) (fun y0=>k0 y0) x.1 x.2.1 x.2.2
def w93n0 [Alg] (N:Nat) (a0 a1 a2:Int) (k0:Int→O):O:=w93l0 N N (a0,a1,a2) (fun y=>k0 y) (fun _=>none) (fun _=>none)
noncomputable def w93s0 [Alg] (N:Nat) (a0 a1 a2:Int) (k0:Int→O):O:=subL w93I0 w93u0 (w93l0 N N) (w93I0 (a0,a1,a2)) (fun y=>k0 y) (fun _=>none) (fun _=>none)
theorem w93e0 [Alg] (N:Nat):w93s0 N=w93n0 N:=funext fun _=>funext fun _=>funext fun _=>funext fun _=>subL_I w93ui0 _ _ _ _
noncomputable def w93h0 [Alg] (_:Nat):Hint:=.d
theorem w93hk0 (N:Nat):HintOk (w93c N) Tryd.f93.ntmps (w93h0 N) w93b0:=hk_of _ _ trivial
theorem w93q0 [Alg] (N:Nat) (self:Sg→O) (K:Exit→Sg→O) (x:Int×Int×Int):w93F0 N  (fun v0 v1 v2=>self (w93I0 (v0,v1,v2))) (fun y0=>K (w93X0_0 y0).1 (w93X0_0 y0).2) x.1 x.2.1 x.2.2=exec (w93c N) Tryd.f93.ntmps (w93h0 N) w93b0 (w93I0 x) (roundX w93m0 w93w0 self K):=by kernel_rfl
theorem w93S0 (N:Nat) (hc:CxOk (w93c N)):SubOk (w93c N) Tryd.f93.ntmps (.loop w93b0) w93X0_0 (noX 1) (noX 2) (subL w93I0 w93u0 (w93l0 N N)):=
 sub_loop hc (w93hk0 N) w93o0 (n:=N) (fun x K=>loop_ind (w93l0 N) (fun _ _ _ _=>rfl) (fun n K ih x=>by
  have h:w93F0 N  (fun v0 v1 v2=>w93l0 N n (v0,v1,v2) (fun y=>K (w93X0_0 y).1 (w93X0_0 y).2) (fun y=>K ((noX 1) y).1 ((noX 1) y).2) (fun y=>K ((noX 2) y).1 ((noX 2) y).2)) (fun y0=>K (w93X0_0 y0).1 (w93X0_0 y0).2) x.1 x.2.1 x.2.2=w93F0 N  (fun v0 v1 v2=>loopX (w93c N) Tryd.f93.ntmps (w93h0 N) w93b0 w93m0 w93w0 n (w93I0 (v0,v1,v2)) K) (fun y0=>K (w93X0_0 y0).1 (w93X0_0 y0).2) x.1 x.2.1 x.2.2:=by rw [ show (fun v0 v1 v2=>w93l0 N n (v0,v1,v2) (fun y=>K (w93X0_0 y).1 (w93X0_0 y).2) (fun y=>K ((noX 1) y).1 ((noX 1) y).2) (fun y=>K ((noX 2) y).1 ((noX 2) y).2))=(fun v0 v1 v2=>loopX (w93c N) Tryd.f93.ntmps (w93h0 N) w93b0 w93m0 w93w0 n (w93I0 (v0,v1,v2)) K) from funext fun _=>funext fun _=>funext fun _=>ih _]
  exact h.trans (w93q0 N (fun σ=>loopX (w93c N) Tryd.f93.ntmps (w93h0 N) w93b0 w93m0 w93w0 n σ K) K x)) N x K)
def w93G [Alg] (_:Nat) (in0:Int→Int→Int→(Int→O)→O) (a0 b1:Int):O:=
 in0 a0 b1 ((1:Int))
  (fun z1=>
   some (w93r0 z1))
def w93 [Alg] (N:Nat) (a0 b1:Int):O:=w93G N (w93n0 N) a0 b1
noncomputable def w93h [Alg] (N:Nat):Hint:=(.seq .d (.seq .d (.seq (.block (.sub w93m0 _ _ _ w93X0_0 (noX 1) (noX 2) (subL w93I0 w93u0 (w93l0 N N)))) .d)))
theorem w93hk (N:Nat) (hc:CxOk (w93c N)):HintOk (w93c N) Tryd.f93.ntmps (w93h N) w93b:=hk_of _ _ (And.intro trivial (And.intro trivial (And.intro (w93S0 N hc) trivial)))
theorem w93q [Alg] (N:Nat) (a0 b1:Int):w93G N (w93s0 N) a0 b1=exec (w93c N) Tryd.f93.ntmps (w93h N) w93b ⟨argT 0 [.e (.i .i64) a0,.e (.i .i64) b1],[],100⟩ (finX (w93c N) Tryd.f93 false):=by kernel_rfl
theorem w93does {N:Nat} (hc:CxOk (w93c N)) {a0 b1:Int} {r:Res} (h:w93 N a0 b1=some r):DoesR Tryd.prog 93 (([.e (.i .i64) a0,.e (.i .i64) b1]:List X).map X.D) (HA []) r:=
 fun_ok hc (f:=93) (fn:=Tryd.f93) (code:=w93b) (by kernel_rfl) (by kernel_rfl) (w93hk N hc) (Nat.le_of_ble_eq_true (by kernel_rfl)) (ow:=false) ((w93q N a0 b1).symm.trans (by rw [w93e0 N];exact h))
def w93un (r:Res):Option (Int):=match r with
 | (x0,[])=>(match ue (.i .i64) x0 with | some a0=>some a0 | _=>none)
 | _=>none
theorem w93uo {r:Res} {d:Int} (h:w93un r=some d):r=w93r0 (d):=by
 unfold w93un at h
 split at h
 ·split at h
  ·rename_i h0;cases h;rw [ue_some h0];rfl
  ·cases h
 ·cases h
def w93z (N:Nat) (a0 b1:Int):Option (Int):=(w93 N a0 b1).bind w93un
theorem w93fin {N:Nat} (hc:CxOk (w93c N)) {a0 b1 d:Int} (hd:w93z N a0 b1=some d):Does Tryd.prog 93 (([.e (.i .i64) a0,.e (.i .i64) b1]:List X).map X.D) (HA []) (w93r0 (d)).1.D (HA (w93r0 (d)).2):=by
 obtain ⟨r,hr,hu⟩:=Option.bind_eq_some_iff.1 hd
 have:=w93does hc hr
 rw [w93uo hu] at this
 exact this
def w93p (N:Nat) (a0 b1:Int):Bool:=(w93z N a0 b1).isSome
def w93y0 (N:Nat) (a0 b1:Int):Int:=((w93z N a0 b1).getD 0)
def w93e (N:Nat):Ent':=E2 (.i .i64) (.i .i64)  (fun x0 x1=>(w93p N x0 x1,w93r0 (w93y0 N x0 x1)))
theorem w93re {N:Nat} {a0 b1 d:Int} (hd:w93z N a0 b1=some d):w93r0 (w93y0 N a0 b1)=w93r0 (d):=by unfold w93y0;rw [hd];rfl
theorem w93ok (N:Nat):EOk Tryd.prog 93 (w93e N):=EOk.e2 (fun x0 x1 h=>by
 have h:(w93z N x0 x1).isSome=true:=h
 obtain ⟨d,hd⟩:=Option.isSome_iff_exists.1 h
 have f:=w93fin (w93cx N) hd
 rw [← w93re hd] at f
 exact f)
def w64r0 (a0:Int) (a1:Bool):Res:=(.tup [.e (.i .i64) a0,.e .bo a1],[])
abbrev w64T:=Nat×(Int→Int→(List Ex)→(List Int)→Option (Int×Bool))
noncomputable def w64L (N:w64T):List (Nat×Ent'):=[(64,E2 .ex (.sl (.i .i64))  (fun x0 x1=>((N.2 (Ex.op x0) (Ex.num x0) (Ex.kids x0) x1).isSome,w64r0 (((N.2 (Ex.op x0) (Ex.num x0) (Ex.kids x0) x1).getD (0,false)).1) (((N.2 (Ex.op x0) (Ex.num x0) (Ex.kids x0) x1).getD (0,false)).2)))),(92,w92e N.1),(93,w93e N.1)]
noncomputable def w64c (N:w64T):Cx:=⟨Tryd.prog,25,w64L N,[]⟩
noncomputable def w64b:Code:=Tryd.f64.body.getD .skip
theorem w64cx (N:w64T) (hs:EOk Tryd.prog 64 (E2 .ex (.sl (.i .i64))  (fun x0 x1=>((N.2 (Ex.op x0) (Ex.num x0) (Ex.kids x0) x1).isSome,w64r0 (((N.2 (Ex.op x0) (Ex.num x0) (Ex.kids x0) x1).getD (0,false)).1) (((N.2 (Ex.op x0) (Ex.num x0) (Ex.kids x0) x1).getD (0,false)).2))))):CxOk (w64c N):=ctx_ok (by kernel_rfl) (.cons (by kernel_rfl) hs (.cons (by kernel_rfl) (w92ok N.1) (.cons (by kernel_rfl) (w93ok N.1) .nil))) .nil
def w64F0 [Alg] (N:w64T)  (self:Int→Int→Int→O) (k0:Int→Bool→O) (k1:(List Int)→Int→Int→(List Ex)→Int→Int→O) (x0_0:(List Int)) (x0_1:(List Ex)) (x0_2 x0_4 x0_5:Int) (x0_6:(List Ex)) (x0_3 x0_7 x0_8:Int):O:=
 br (decide (x0_3 < x0_2))
  (gx x0_1 x0_3 fun y3=>
  ck ((N.2 y3.op y3.num y3.kids x0_0).isSome) <|
  br (!((N.2 y3.op y3.num y3.kids x0_0).getD ((0:Int),false)).2)
   (k0 ((0:Int)) false)
   (ck (decide ((0:Int)≤x0_3∧x0_3 < (2:Int))) <|
   ck (decide ((0:Nat)+x0_3.toNat * (1:Nat) < [x0_7,x0_8].length)) <|
   self (IntKind.i64.wrap (x0_3+(1:Int))) (sel (((0:Nat)+x0_3.toNat * (1:Nat)).beq (0:Nat)) ((N.2 y3.op y3.num y3.kids x0_0).getD ((0:Int),false)).1 x0_7) (sel (((0:Nat)+x0_3.toNat * (1:Nat)).beq (1:Nat)) ((N.2 y3.op y3.num y3.kids x0_0).getD ((0:Int),false)).1 x0_8)))
  (k1 x0_0 x0_4 x0_5 x0_6 x0_7 x0_8)
noncomputable def w64b0:Code:=atC [1,1,0,1,0,0] w64b
def w64m0:Nm:=⟨[1,2,6,16,17,18],[],[]⟩
def w64I0 (x:(List Int)×(List Ex)×Int×Int×Int×Int×(List Ex)×Int×Int):Sg:=⟨[(1,.e (.sl (.i .i64)) x.1),(2,.ref 0 0),(6,.ref 1 0),(16,.e (.sl .ex) x.2.1),(17,.e (.i .i64) x.2.2.1),(18,.e (.i .i64) x.2.2.2.1)],[(0,.box 25 [.e (.i .i64) x.2.2.2.2.1,.e (.i .i64) x.2.2.2.2.2.1,.e (.sl .ex) x.2.2.2.2.2.2.1]),(1,.box 44 [.e (.i .i64) x.2.2.2.2.2.2.2.1,.e (.i .i64) x.2.2.2.2.2.2.2.2])],100⟩
def w64u0 (σ:Sg):(List Int)×(List Ex)×Int×Int×Int×Int×(List Ex)×Int×Int:=(lvT (.sl (.i .i64)) 1 0 σ,lvT (.sl .ex) 16 0 σ,lvT (.i .i64) 17 0 σ,lvT (.i .i64) 18 0 σ,lvH (.i .i64) 0 0 σ,lvH (.i .i64) 0 1 σ,lvH (.sl .ex) 0 2 σ,lvH (.i .i64) 1 0 σ,lvH (.i .i64) 1 1 σ)
theorem w64ui0:∀ x,w64u0 (w64I0 x)=x:=fun _=>by kernel_rfl
def w64X0_0 (y:Int×Bool):Exit×Sg:=(.ret,⟨[(4,.e (.i .i64) y.1),(5,.e .bo y.2)],[],100⟩)
def w64v0_0 (_:Exit) (σ:Sg):Int×Bool:=(lvT (.i .i64) 4 0 σ,lvT .bo 5 0 σ)
def w64X0_1 (y:(List Int)×Int×Int×(List Ex)×Int×Int):Exit×Sg:=((.exit 0),⟨[(1,.e (.sl (.i .i64)) y.1),(2,.ref 0 0),(6,.ref 1 0)],[(0,.box 25 [.e (.i .i64) y.2.1,.e (.i .i64) y.2.2.1,.e (.sl .ex) y.2.2.2.1]),(1,.box 44 [.e (.i .i64) y.2.2.2.2.1,.e (.i .i64) y.2.2.2.2.2])],100⟩)
def w64v0_1 (_:Exit) (σ:Sg):(List Int)×Int×Int×(List Ex)×Int×Int:=(lvT (.sl (.i .i64)) 1 0 σ,lvH (.i .i64) 0 0 σ,lvH (.i .i64) 0 1 σ,lvH (.sl .ex) 0 2 σ,lvH (.i .i64) 1 0 σ,lvH (.i .i64) 1 1 σ)
def w64w0:List (Exit×Nm):=[(.ret,⟨[4,5],[],[]⟩),((.exit 0),⟨[1,2,6],[],[]⟩)]
theorem w64o0:Outs w64v0_0 w64v0_1 (fun _ _=>()) w64X0_0 w64X0_1 (noX 2) (exC .ret) (exC (.exit 0)) (exC (.goto 2)):=⟨fun _=>by kernel_rfl,fun _=>by kernel_rfl,fun _=>by kernel_rfl,fun _=>by kernel_rfl,fun _=>by kernel_rfl,fun _=>by kernel_rfl,exNe_ok (by kernel_rfl),exNe_ok (by kernel_rfl),exNe_ok (by kernel_rfl)⟩
def w64l0 [Alg] (N:w64T):Nat→((List Int)×(List Ex)×Int×Int×Int×Int×(List Ex)×Int×Int)→((Int×Bool)→O)→(((List Int)×Int×Int×(List Ex)×Int×Int)→O)→((Unit)→O)→O
 | 0,_,_,_,_=>none
 | n+1,x,k0,k1,k2=>w64F0 N  (fun v0 v1 v2=>w64l0 N n (x.1,x.2.1,x.2.2.1,v0,x.2.2.2.2.1,x.2.2.2.2.2.1,x.2.2.2.2.2.2.1,v1,v2) k0 k1 k2) (fun y0 y1=>k0 (y0,y1)) (fun y0 y1 y2 y3 y4 y5=>k1 (y0,y1,y2,y3,y4,y5)) x.1 x.2.1 x.2.2.1 x.2.2.2.2.1 x.2.2.2.2.2.1 x.2.2.2.2.2.2.1 x.2.2.2.1 x.2.2.2.2.2.2.2.1 x.2.2.2.2.2.2.2.2
def w64n0 [Alg] (N:w64T) (a0:(List Int)) (a1:(List Ex)) (a2 a3 a4 a5:Int) (a6:(List Ex)) (a7 a8:Int) (k0:Int→Bool→O) (k1:(List Int)→Int→Int→(List Ex)→Int→Int→O):O:=w64l0 N N.1 (a0,a1,a2,a3,a4,a5,a6,a7,a8) (fun y=>k0 y.1 y.2) (fun y=>k1 y.1 y.2.1 y.2.2.1 y.2.2.2.1 y.2.2.2.2.1 y.2.2.2.2.2) (fun _=>none)
noncomputable def w64s0 [Alg] (N:w64T) (a0:(List Int)) (a1:(List Ex)) (a2 a3 a4 a5:Int) (a6:(List Ex)) (a7 a8:Int) (k0:Int→Bool→O) (k1:(List Int)→Int→Int→(List Ex)→Int→Int→O):O:=subL w64I0 w64u0 (w64l0 N N.1) (w64I0 (a0,a1,a2,a3,a4,a5,a6,a7,a8)) (fun y=>k0 y.1 y.2) (fun y=>k1 y.1 y.2.1 y.2.2.1 y.2.2.2.1 y.2.2.2.2.1 y.2.2.2.2.2) (fun _=>none)
theorem w64e0 [Alg] (N:w64T):w64s0 N=w64n0 N:=funext fun _=>funext fun _=>funext fun _=>funext fun _=>funext fun _=>funext fun _=>funext fun _=>funext fun _=>funext fun _=>funext fun _=>funext fun _=>subL_I w64ui0 _ _ _ _
noncomputable def w64h0 [Alg] (_:w64T):Hint:=(.seq .d (.seq .d (.seq (.block (.seq .d (.seq .d (.seq .d (.reg [2,3] [] []))))) .d)))
theorem w64hk0 (N:w64T):HintOk (w64c N) Tryd.f64.ntmps (w64h0 N) w64b0:=hk_of _ _ (And.intro trivial (And.intro trivial (And.intro (And.intro trivial (And.intro trivial (And.intro trivial trivial))) trivial)))
theorem w64q0 [Alg] (N:w64T) (self:Sg→O) (K:Exit→Sg→O) (x:(List Int)×(List Ex)×Int×Int×Int×Int×(List Ex)×Int×Int):w64F0 N  (fun v0 v1 v2=>self (w64I0 (x.1,x.2.1,x.2.2.1,v0,x.2.2.2.2.1,x.2.2.2.2.2.1,x.2.2.2.2.2.2.1,v1,v2))) (fun y0 y1=>K (w64X0_0 (y0,y1)).1 (w64X0_0 (y0,y1)).2) (fun y0 y1 y2 y3 y4 y5=>K (w64X0_1 (y0,y1,y2,y3,y4,y5)).1 (w64X0_1 (y0,y1,y2,y3,y4,y5)).2) x.1 x.2.1 x.2.2.1 x.2.2.2.2.1 x.2.2.2.2.2.1 x.2.2.2.2.2.2.1 x.2.2.2.1 x.2.2.2.2.2.2.2.1 x.2.2.2.2.2.2.2.2=exec (w64c N) Tryd.f64.ntmps (w64h0 N) w64b0 (w64I0 x) (roundX w64m0 w64w0 self K):=by kernel_rfl
theorem w64S0 (N:w64T) (hc:CxOk (w64c N)):SubOk (w64c N) Tryd.f64.ntmps (.loop w64b0) w64X0_0 w64X0_1 (noX 2) (subL w64I0 w64u0 (w64l0 N N.1)):=
 sub_loop hc (w64hk0 N) w64o0 (n:=N.1) (fun x K=>loop_ind (w64l0 N) (fun _ _ _ _=>rfl) (fun n K ih x=>by
  have h:w64F0 N  (fun v0 v1 v2=>w64l0 N n (x.1,x.2.1,x.2.2.1,v0,x.2.2.2.2.1,x.2.2.2.2.2.1,x.2.2.2.2.2.2.1,v1,v2) (fun y=>K (w64X0_0 y).1 (w64X0_0 y).2) (fun y=>K (w64X0_1 y).1 (w64X0_1 y).2) (fun y=>K ((noX 2) y).1 ((noX 2) y).2)) (fun y0 y1=>K (w64X0_0 (y0,y1)).1 (w64X0_0 (y0,y1)).2) (fun y0 y1 y2 y3 y4 y5=>K (w64X0_1 (y0,y1,y2,y3,y4,y5)).1 (w64X0_1 (y0,y1,y2,y3,y4,y5)).2) x.1 x.2.1 x.2.2.1 x.2.2.2.2.1 x.2.2.2.2.2.1 x.2.2.2.2.2.2.1 x.2.2.2.1 x.2.2.2.2.2.2.2.1 x.2.2.2.2.2.2.2.2=w64F0 N  (fun v0 v1 v2=>loopX (w64c N) Tryd.f64.ntmps (w64h0 N) w64b0 w64m0 w64w0 n (w64I0 (x.1,x.2.1,x.2.2.1,v0,x.2.2.2.2.1,x.2.2.2.2.2.1,x.2.2.2.2.2.2.1,v1,v2)) K) (fun y0 y1=>K (w64X0_0 (y0,y1)).1 (w64X0_0 (y0,y1)).2) (fun y0 y1 y2 y3 y4 y5=>K (w64X0_1 (y0,y1,y2,y3,y4,y5)).1 (w64X0_1 (y0,y1,y2,y3,y4,y5)).2) x.1 x.2.1 x.2.2.1 x.2.2.2.2.1 x.2.2.2.2.2.1 x.2.2.2.2.2.2.1 x.2.2.2.1 x.2.2.2.2.2.2.2.1 x.2.2.2.2.2.2.2.2:=by rw [ show (fun v0 v1 v2=>w64l0 N n (x.1,x.2.1,x.2.2.1,v0,x.2.2.2.2.1,x.2.2.2.2.2.1,x.2.2.2.2.2.2.1,v1,v2) (fun y=>K (w64X0_0 y).1 (w64X0_0 y).2) (fun y=>K (w64X0_1 y).1 (w64X0_1 y).2) (fun y=>K ((noX 2) y).1 ((noX 2) y).2))=(fun v0 v1 v2=>loopX (w64c N) Tryd.f64.ntmps (w64h0 N) w64b0 w64m0 w64w0 n (w64I0 (x.1,x.2.1,x.2.2.1,v0,x.2.2.2.2.1,x.2.2.2.2.2.1,x.2.2.2.2.2.2.1,v1,v2)) K) from funext fun _=>funext fun _=>funext fun _=>ih _]
  exact h.trans (w64q0 N (fun σ=>loopX (w64c N) Tryd.f64.ntmps (w64h0 N) w64b0 w64m0 w64w0 n σ K) K x)) N.1 x K)
def w64F1 [Alg] (_:w64T)  (self:Int→O) (k0:Int→Bool→O) (k1:Unit→O) (x13_0 x13_1:Int):O:=
 br (decide (x13_1 < (4987:Int)))
  (ck true <|
  br (decide ((IntKind.i64.wrap (x13_1 * x13_1)).tmod (9973:Int)=x13_0))
   (k0 x13_1 true)
   (self (IntKind.i64.wrap (x13_1+(1:Int)))))
  (k1 ())
noncomputable def w64b1:Code:=atC [1,1,1,1,1,0,1,0,1,1,1,1,1,1,1,1,1,1,1,1,1,1,1,1,1,0,0,1,0,0] w64b
def w64m1:Nm:=⟨[11,101],[],[]⟩
def w64I1 (x:Int×Int):Sg:=⟨[(11,.e (.i .i64) x.1),(101,.e (.i .i64) x.2)],[],100⟩
def w64u1 (σ:Sg):Int×Int:=(lvT (.i .i64) 11 0 σ,lvT (.i .i64) 101 0 σ)
theorem w64ui1:∀ x,w64u1 (w64I1 x)=x:=fun _=>by kernel_rfl
def w64X1_0 (y:Int×Bool):Exit×Sg:=(.ret,⟨[(4,.e (.i .i64) y.1),(5,.e .bo y.2)],[],100⟩)
def w64v1_0 (_:Exit) (σ:Sg):Int×Bool:=(lvT (.i .i64) 4 0 σ,lvT .bo 5 0 σ)
def w64X1_1 (_:Unit):Exit×Sg:=((.exit 3),⟨[],[],100⟩)
def w64v1_1 (_:Exit) (_:Sg):Unit:=()
def w64w1:List (Exit×Nm):=[(.ret,⟨[4,5],[],[]⟩),((.exit 3),⟨[],[],[]⟩)]
theorem w64o1:Outs w64v1_0 w64v1_1 (fun _ _=>()) w64X1_0 w64X1_1 (noX 2) (exC .ret) (exC (.exit 3)) (exC (.goto 2)):=⟨fun _=>by kernel_rfl,fun _=>by kernel_rfl,fun _=>by kernel_rfl,fun _=>by kernel_rfl,fun _=>by kernel_rfl,fun _=>by kernel_rfl,exNe_ok (by kernel_rfl),exNe_ok (by kernel_rfl),exNe_ok (by kernel_rfl)⟩
def w64l1 [Alg] (N:w64T):Nat→(Int×Int)→((Int×Bool)→O)→((Unit)→O)→((Unit)→O)→O
 | 0,_,_,_,_=>none
 | n+1,x,k0,k1,k2=>w64F1 N  (fun v0=>w64l1 N n (x.1,v0) k0 k1 k2) (fun y0 y1=>k0 (y0,y1)) (fun (_:Unit)=>k1 ()) x.1 x.2
def w64n1 [Alg] (N:w64T) (a0 a1:Int) (k0:Int→Bool→O) (k1:Unit→O):O:=w64l1 N N.1 (a0,a1) (fun y=>k0 y.1 y.2) (fun y=>k1 y) (fun _=>none)
noncomputable def w64s1 [Alg] (N:w64T) (a0 a1:Int) (k0:Int→Bool→O) (k1:Unit→O):O:=subL w64I1 w64u1 (w64l1 N N.1) (w64I1 (a0,a1)) (fun y=>k0 y.1 y.2) (fun y=>k1 y) (fun _=>none)
theorem w64e1 [Alg] (N:w64T):w64s1 N=w64n1 N:=funext fun _=>funext fun _=>funext fun _=>funext fun _=>subL_I w64ui1 _ _ _ _
noncomputable def w64h1 [Alg] (_:w64T):Hint:=.d
theorem w64hk1 (N:w64T):HintOk (w64c N) Tryd.f64.ntmps (w64h1 N) w64b1:=hk_of _ _ trivial
theorem w64q1 [Alg] (N:w64T) (self:Sg→O) (K:Exit→Sg→O) (x:Int×Int):w64F1 N  (fun v0=>self (w64I1 (x.1,v0))) (fun y0 y1=>K (w64X1_0 (y0,y1)).1 (w64X1_0 (y0,y1)).2) (fun (_:Unit)=>K (w64X1_1 ()).1 (w64X1_1 ()).2) x.1 x.2=exec (w64c N) Tryd.f64.ntmps (w64h1 N) w64b1 (w64I1 x) (roundX w64m1 w64w1 self K):=by kernel_rfl
theorem w64S1 (N:w64T) (hc:CxOk (w64c N)):SubOk (w64c N) Tryd.f64.ntmps (.loop w64b1) w64X1_0 w64X1_1 (noX 2) (subL w64I1 w64u1 (w64l1 N N.1)):=
 sub_loop hc (w64hk1 N) w64o1 (n:=N.1) (fun x K=>loop_ind (w64l1 N) (fun _ _ _ _=>rfl) (fun n K ih x=>by
  have h:w64F1 N  (fun v0=>w64l1 N n (x.1,v0) (fun y=>K (w64X1_0 y).1 (w64X1_0 y).2) (fun y=>K (w64X1_1 y).1 (w64X1_1 y).2) (fun y=>K ((noX 2) y).1 ((noX 2) y).2)) (fun y0 y1=>K (w64X1_0 (y0,y1)).1 (w64X1_0 (y0,y1)).2) (fun (_:Unit)=>K (w64X1_1 ()).1 (w64X1_1 ()).2) x.1 x.2=w64F1 N  (fun v0=>loopX (w64c N) Tryd.f64.ntmps (w64h1 N) w64b1 w64m1 w64w1 n (w64I1 (x.1,v0)) K) (fun y0 y1=>K (w64X1_0 (y0,y1)).1 (w64X1_0 (y0,y1)).2) (fun (_:Unit)=>K (w64X1_1 ()).1 (w64X1_1 ()).2) x.1 x.2:=by rw [ show (fun v0=>w64l1 N n (x.1,v0) (fun y=>K (w64X1_0 y).1 (w64X1_0 y).2) (fun y=>K (w64X1_1 y).1 (w64X1_1 y).2) (fun y=>K ((noX 2) y).1 ((noX 2) y).2))=(fun v0=>loopX (w64c N) Tryd.f64.ntmps (w64h1 N) w64b1 w64m1 w64w1 n (w64I1 (x.1,v0)) K) from funext fun _=>ih _]
  exact h.trans (w64q1 N (fun σ=>loopX (w64c N) Tryd.f64.ntmps (w64h1 N) w64b1 w64m1 w64w1 n σ K) K x)) N.1 x K)
def w64G [Alg] (N:w64T) (in0:(List Int)→(List Ex)→Int→Int→Int→Int→(List Ex)→Int→Int→(Int→Bool→O)→((List Int)→Int→Int→(List Ex)→Int→Int→O)→O) (in1:Int→Int→(Int→Bool→O)→(Unit→O)→O) (A B:Int) (C:(List Ex)) (vars1:(List Int)):O:=
 in0 vars1 C ((↑C.length:Int)) ((0:Int)) A B C ((0:Int)) ((0:Int))
  (fun z4 z5=>
   some (w64r0 z4 z5))
  (fun z6 z7 z8 _ z10 z11=>
   br (decide (z7=(0:Int)))
    (ck true <|
    some (w64r0 (z8.tmod (9973:Int)) true))
    (br (decide (z7=(1:Int)))
     (br (decide ((↑z6.length:Int)≤z8))
      (some (w64r0 ((0:Int)) false))
      (gx z6 z8 fun y12=>
      ck true <|
      ck true <|
      some (w64r0 ((IntKind.i64.wrap (y12.tmod (9973:Int)+(9973:Int))).tmod (9973:Int)) true)))
     (br (decide (z7=(2:Int)))
      (ck true <|
      some (w64r0 ((IntKind.i64.wrap ((9973:Int) - z10)).tmod (9973:Int)) true))
      (br (decide (z7=(3:Int)))
       (ck true <|
       some (w64r0 ((IntKind.i64.wrap (z10+z11)).tmod (9973:Int)) true))
       (br (decide (z7=(4:Int)))
        (ck true <|
        some (w64r0 ((IntKind.i64.wrap (IntKind.i64.wrap (z10+(9973:Int)) - z11)).tmod (9973:Int)) true))
        (br (decide (z7=(5:Int)))
         (ck true <|
         some (w64r0 ((IntKind.i64.wrap (z10 * z11)).tmod (9973:Int)) true))
         (br (decide (z7=(6:Int)))
          (ck (w93p N.1 z11 (9971:Int)) <|
          ck true <|
          some (w64r0 ((IntKind.i64.wrap (z10 * w93y0 N.1 z11 (9971:Int))).tmod (9973:Int)) (decide (z11≠(0:Int)))))
          (br (decide (z7=(7:Int)))
           (ck (w93p N.1 z10 z11) <|
           some (w64r0 (w93y0 N.1 z10 z11) true))
           (br (decide (z7=(8:Int)))
            (in1 z10 ((0:Int))
             (fun z14 z15=>
              some (w64r0 z14 z15))
             (fun (_:Unit)=>
              some (w64r0 ((0:Int)) false)))
            (br (decide (z7=(9:Int)))
             (ck (w92p N.1 (decide (z10=z11))) <|
             some (w64r0 (w92y0 N.1 (decide (z10=z11))) (w92y1 N.1 (decide (z10=z11)))))
             (ck (w92p N.1 (decide (z10 < z11))) <|
             some (w64r0 (w92y0 N.1 (decide (z10 < z11))) (w92y1 N.1 (decide (z10 < z11)))))))))))))))
def w64 [Alg] (N:w64T) (A B:Int) (C:(List Ex)) (vars1:(List Int)):O:=w64G N (w64n0 N) (w64n1 N) A B C vars1
noncomputable def w64h [Alg] (N:w64T):Hint:=(.seq .d (.seq .d (.seq (.seq .d (.block (.sub w64m0 _ _ _ w64X0_0 w64X0_1 (noX 2) (subL w64I0 w64u0 (w64l0 N N.1))))) (.seq .d (.seq .d (.seq (.seq .d (.block (.seq .d (.cond .d (.seq .d (.cond .d (.seq .d (.cond .d (.seq .d (.cond .d (.seq .d (.cond .d (.seq .d (.cond .d (.seq .d (.cond .d (.seq .d (.cond .d (.seq .d (.cond (.seq (.seq .d (.block (.sub w64m1 _ _ _ w64X1_0 w64X1_1 (noX 2) (subL w64I1 w64u1 (w64l1 N N.1))))) .d) .d)))))))))))))))))))) .d))))))
theorem w64hk (N:w64T) (hc:CxOk (w64c N)):HintOk (w64c N) Tryd.f64.ntmps (w64h N) w64b:=hk_of _ _ (And.intro trivial (And.intro trivial (And.intro (And.intro trivial (w64S0 N hc)) (And.intro trivial (And.intro trivial (And.intro (And.intro trivial (And.intro trivial (And.intro trivial (And.intro trivial (And.intro trivial (And.intro trivial (And.intro trivial (And.intro trivial (And.intro trivial (And.intro trivial (And.intro trivial (And.intro trivial (And.intro trivial (And.intro trivial (And.intro trivial (And.intro trivial (And.intro trivial (And.intro trivial (And.intro (And.intro (And.intro trivial (w64S1 N hc)) trivial) trivial))))))))))))))))))) trivial))))))
theorem w64q [Alg] (N:w64T) (A B:Int) (C:(List Ex)) (vars1:(List Int)):w64G N (w64s0 N) (w64s1 N) A B C vars1=exec (w64c N) Tryd.f64.ntmps (w64h N) w64b ⟨argT 0 [.agg [.e (.i .i64) A,.e (.i .i64) B,.e (.sl .ex) C],.e (.sl (.i .i64)) vars1],[],100⟩ (finX (w64c N) Tryd.f64 false):=by kernel_rfl
theorem w64does {N:w64T} (hc:CxOk (w64c N)) {A B:Int} {C:(List Ex)} {vars1:(List Int)} {r:Res} (h:w64 N A B C vars1=some r):DoesR Tryd.prog 64 (([.agg [.e (.i .i64) A,.e (.i .i64) B,.e (.sl .ex) C],.e (.sl (.i .i64)) vars1]:List X).map X.D) (HA []) r:=
 fun_ok hc (f:=64) (fn:=Tryd.f64) (code:=w64b) (by kernel_rfl) (by kernel_rfl) (w64hk N hc) (Nat.le_of_ble_eq_true (by kernel_rfl)) (ow:=false) ((w64q N A B C vars1).symm.trans (by rw [w64e0 N,w64e1 N];exact h))
def w64un (r:Res):Option (Int×Bool):=match r with
 | (.tup [x0,x1],[])=>(match ue (.i .i64) x0,ue .bo x1 with | some a0,some a1=>some (a0,a1) | _,_=>none)
 | _=>none
theorem w64uo {r:Res} {d:Int×Bool} (h:w64un r=some d):r=w64r0 (d.1) (d.2):=by
 unfold w64un at h
 split at h
 ·split at h
  ·rename_i h0 h1;cases h;rw [ue_some h0,ue_some h1];rfl
  ·cases h
 ·cases h
def w64z (N:w64T) (A B:Int) (C:(List Ex)) (vars1:(List Int)):Option (Int×Bool):=(w64 N A B C vars1).bind w64un
theorem w64fin {N:w64T} (hc:CxOk (w64c N)) {A B:Int} {C:(List Ex)} {vars1:(List Int)} {d:Int×Bool} (hd:w64z N A B C vars1=some d):Does Tryd.prog 64 (([.agg [.e (.i .i64) A,.e (.i .i64) B,.e (.sl .ex) C],.e (.sl (.i .i64)) vars1]:List X).map X.D) (HA []) (w64r0 (d.1) (d.2)).1.D (HA (w64r0 (d.1) (d.2)).2):=by
 obtain ⟨r,hr,hu⟩:=Option.bind_eq_some_iff.1 hd
 have:=w64does hc hr
 rw [w64uo hu] at this
 exact this
def w64Y (N:Nat):Nat→Int→Int→(List Ex)→(List Int)→Option (Int×Bool)
 | 0,_,_,_,_=>none
 | n+1,A,B,C,vars1=>w64z (N,w64Y N n) A B C vars1
theorem w64Yok (N:Nat):∀ n,EOk Tryd.prog 64 (E2 .ex (.sl (.i .i64))  (fun x0 x1=>((w64Y N n (Ex.op x0) (Ex.num x0) (Ex.kids x0) x1).isSome,w64r0 (((w64Y N n (Ex.op x0) (Ex.num x0) (Ex.kids x0) x1).getD (0,false)).1) (((w64Y N n (Ex.op x0) (Ex.num x0) (Ex.kids x0) x1).getD (0,false)).2))))
 | 0=>EOk.e2 (fun _ _ h=>by cases h)
 | n+1=>EOk.e2 (fun x0 x1 h=>by
   obtain ⟨d,hd⟩:=Option.isSome_iff_exists.1 h
   have hd':w64Y N (n+1) (Ex.op x0) (Ex.num x0) (Ex.kids x0) x1=some d:=hd
   have e:w64r0 (((w64Y N (n+1) (Ex.op x0) (Ex.num x0) (Ex.kids x0) x1).getD (0,false)).1) (((w64Y N (n+1) (Ex.op x0) (Ex.num x0) (Ex.kids x0) x1).getD (0,false)).2)=w64r0 (d.1) (d.2):=by rw [hd'];rfl
   show Does _ _ _ _ (w64r0 (((w64Y N (n+1) (Ex.op x0) (Ex.num x0) (Ex.kids x0) x1).getD (0,false)).1) (((w64Y N (n+1) (Ex.op x0) (Ex.num x0) (Ex.kids x0) x1).getD (0,false)).2)).1.D (HA (w64r0 (((w64Y N (n+1) (Ex.op x0) (Ex.num x0) (Ex.kids x0) x1).getD (0,false)).1) (((w64Y N (n+1) (Ex.op x0) (Ex.num x0) (Ex.kids x0) x1).getD (0,false)).2)).2)
   rw [e]
   exact w64fin (N:=(N,w64Y N n)) (w64cx (N,w64Y N n) (w64Yok N n)) hd')
def w64p (N:Nat) (A B:Int) (C:(List Ex)) (vars1:(List Int)):Bool:=(w64Y N N A B C vars1).isSome
def w64y0 (N:Nat) (A B:Int) (C:(List Ex)) (vars1:(List Int)):Int:=((w64Y N N A B C vars1).getD (0,false)).1
def w64y1 (N:Nat) (A B:Int) (C:(List Ex)) (vars1:(List Int)):Bool:=((w64Y N N A B C vars1).getD (0,false)).2
def w64e (N:Nat):Ent':=E2 .ex (.sl (.i .i64))  (fun x0 x1=>(w64p N (Ex.op x0) (Ex.num x0) (Ex.kids x0) x1,w64r0 (w64y0 N (Ex.op x0) (Ex.num x0) (Ex.kids x0) x1) (w64y1 N (Ex.op x0) (Ex.num x0) (Ex.kids x0) x1)))
theorem w64ok (N:Nat):EOk Tryd.prog 64 (w64e N):=w64Yok N N
def w28r0 (a0:Int) (a1:Bool):Res:=(.tup [.e (.i .i64) a0,.e .bo a1],[])
noncomputable def w28L (N:Nat):List (Nat×Ent'):=[(17,w17e N),(64,w64e N)]
noncomputable def w28c (N:Nat):Cx:=⟨Tryd.prog,25,w28L N,[]⟩
noncomputable def w28b:Code:=Tryd.f28.body.getD .skip
theorem w28cx (N:Nat):CxOk (w28c N):=ctx_ok (by kernel_rfl) (.cons (by kernel_rfl) (w17ok N) (.cons (by kernel_rfl) (w64ok N) .nil)) .nil
def w28G [Alg] (N:Nat)  (A B:Int) (C:(List Ex)) (vars1:(List Int)):O:=
 ck (w17p N A B C) <|
 br (decide (w17y0 N A B C≠(0:Int)))
  (some (w28r0 ((0:Int)) false))
  (ck (w64p N A B C vars1) <|
  br (!w64y1 N A B C vars1)
   (some (w28r0 ((0:Int)) false))
   (some (w28r0 (w64y0 N A B C vars1) true)))
def w28 [Alg] (N:Nat) (A B:Int) (C:(List Ex)) (vars1:(List Int)):O:=w28G N  A B C vars1
noncomputable def w28h [Alg] (_:Nat):Hint:=.d
theorem w28hk (N:Nat):HintOk (w28c N) Tryd.f28.ntmps (w28h N) w28b:=hk_of _ _ trivial
theorem w28q [Alg] (N:Nat) (A B:Int) (C:(List Ex)) (vars1:(List Int)):w28G N  A B C vars1=exec (w28c N) Tryd.f28.ntmps (w28h N) w28b ⟨argT 0 [.agg [.e (.i .i64) A,.e (.i .i64) B,.e (.sl .ex) C],.e (.sl (.i .i64)) vars1],[],100⟩ (finX (w28c N) Tryd.f28 false):=by kernel_rfl
theorem w28does {N:Nat} (hc:CxOk (w28c N)) {A B:Int} {C:(List Ex)} {vars1:(List Int)} {r:Res} (h:w28 N A B C vars1=some r):DoesR Tryd.prog 28 (([.agg [.e (.i .i64) A,.e (.i .i64) B,.e (.sl .ex) C],.e (.sl (.i .i64)) vars1]:List X).map X.D) (HA []) r:=
 fun_ok hc (f:=28) (fn:=Tryd.f28) (code:=w28b) (by kernel_rfl) (by kernel_rfl) (w28hk N) (Nat.le_of_ble_eq_true (by kernel_rfl)) (ow:=false) ((w28q N A B C vars1).symm.trans (by exact h))
def w28un (r:Res):Option (Int×Bool):=match r with
 | (.tup [x0,x1],[])=>(match ue (.i .i64) x0,ue .bo x1 with | some a0,some a1=>some (a0,a1) | _,_=>none)
 | _=>none
theorem w28uo {r:Res} {d:Int×Bool} (h:w28un r=some d):r=w28r0 (d.1) (d.2):=by
 unfold w28un at h
 split at h
 ·split at h
  ·rename_i h0 h1;cases h;rw [ue_some h0,ue_some h1];rfl
  ·cases h
 ·cases h
def w28z (N:Nat) (A B:Int) (C:(List Ex)) (vars1:(List Int)):Option (Int×Bool):=(w28 N A B C vars1).bind w28un
theorem w28fin {N:Nat} (hc:CxOk (w28c N)) {A B:Int} {C:(List Ex)} {vars1:(List Int)} {d:Int×Bool} (hd:w28z N A B C vars1=some d):Does Tryd.prog 28 (([.agg [.e (.i .i64) A,.e (.i .i64) B,.e (.sl .ex) C],.e (.sl (.i .i64)) vars1]:List X).map X.D) (HA []) (w28r0 (d.1) (d.2)).1.D (HA (w28r0 (d.1) (d.2)).2):=by
 obtain ⟨r,hr,hu⟩:=Option.bind_eq_some_iff.1 hd
 have:=w28does hc hr
 rw [w28uo hu] at this
 exact this
def w28p (N:Nat) (A B:Int) (C:(List Ex)) (vars1:(List Int)):Bool:=(w28z N A B C vars1).isSome
def w28y0 (N:Nat) (A B:Int) (C:(List Ex)) (vars1:(List Int)):Int:=((w28z N A B C vars1).getD (0,false)).1
def w28y1 (N:Nat) (A B:Int) (C:(List Ex)) (vars1:(List Int)):Bool:=((w28z N A B C vars1).getD (0,false)).2
def w28e (N:Nat):Ent':=E2 .ex (.sl (.i .i64))  (fun x0 x1=>(w28p N (Ex.op x0) (Ex.num x0) (Ex.kids x0) x1,w28r0 (w28y0 N (Ex.op x0) (Ex.num x0) (Ex.kids x0) x1) (w28y1 N (Ex.op x0) (Ex.num x0) (Ex.kids x0) x1)))
theorem w28re {N:Nat} {A B:Int} {C:(List Ex)} {vars1:(List Int)} {d:Int×Bool} (hd:w28z N A B C vars1=some d):w28r0 (w28y0 N A B C vars1) (w28y1 N A B C vars1)=w28r0 (d.1) (d.2):=by unfold w28y0 w28y1;rw [hd];rfl
theorem w28ok (N:Nat):EOk Tryd.prog 28 (w28e N):=EOk.e2 (fun x0 x1 h=>by
 have h:(w28z N (Ex.op x0) (Ex.num x0) (Ex.kids x0) x1).isSome=true:=h
 obtain ⟨d,hd⟩:=Option.isSome_iff_exists.1 h
 have f:=w28fin (w28cx N) hd
 rw [← w28re hd] at f
 exact f)
abbrev w66T:=Nat×((Int→Int→(List Ex)→Bool→Bool→Bool→Bool→Bool→Bool→Bool→Bool→Bool→Bool→Bool→Bool→Bool→Bool→Bool→Bool→Bool→Bool→Bool→Bool→Bool→Bool→Bool→Bool→Bool→Bool→Option (Bool×Bool×Bool×Bool×Bool×Bool×Bool×Bool×Bool×Bool×Bool×Bool×Bool×Bool×Bool×Bool×Bool×Bool×Bool×Bool×Bool×Bool×Bool×Bool×Bool×Bool)))
abbrev w66D:Bool×Bool×Bool×Bool×Bool×Bool×Bool×Bool×Bool×Bool×Bool×Bool×Bool×Bool×Bool×Bool×Bool×Bool×Bool×Bool×Bool×Bool×Bool×Bool×Bool×Bool:=(false,false,false,false,false,false,false,false,false,false,false,false,false,false,false,false,false,false,false,false,false,false,false,false,false,false)
abbrev w66J:=Int×Int×(List Ex)×Bool×Bool×Bool×Bool×Bool×Bool×Bool×Bool×Bool×Bool×Bool×Bool×Bool×Bool×Bool×Bool×Bool×Bool×Bool×Bool×Bool×Bool×Bool×Bool×Bool×Bool
abbrev w66C (N:w66T) (d:w66J):Option (Bool×Bool×Bool×Bool×Bool×Bool×Bool×Bool×Bool×Bool×Bool×Bool×Bool×Bool×Bool×Bool×Bool×Bool×Bool×Bool×Bool×Bool×Bool×Bool×Bool×Bool):=N.2 (d.1) (d.2.1) (d.2.2.1) (d.2.2.2.1) (d.2.2.2.2.1) (d.2.2.2.2.2.1) (d.2.2.2.2.2.2.1) (d.2.2.2.2.2.2.2.1) (d.2.2.2.2.2.2.2.2.1) (d.2.2.2.2.2.2.2.2.2.1) (d.2.2.2.2.2.2.2.2.2.2.1) (d.2.2.2.2.2.2.2.2.2.2.2.1) (d.2.2.2.2.2.2.2.2.2.2.2.2.1) (d.2.2.2.2.2.2.2.2.2.2.2.2.2.1) (d.2.2.2.2.2.2.2.2.2.2.2.2.2.2.1) (d.2.2.2.2.2.2.2.2.2.2.2.2.2.2.2.1) (d.2.2.2.2.2.2.2.2.2.2.2.2.2.2.2.2.1) (d.2.2.2.2.2.2.2.2.2.2.2.2.2.2.2.2.2.1) (d.2.2.2.2.2.2.2.2.2.2.2.2.2.2.2.2.2.2.1) (d.2.2.2.2.2.2.2.2.2.2.2.2.2.2.2.2.2.2.2.1) (d.2.2.2.2.2.2.2.2.2.2.2.2.2.2.2.2.2.2.2.2.1) (d.2.2.2.2.2.2.2.2.2.2.2.2.2.2.2.2.2.2.2.2.2.1) (d.2.2.2.2.2.2.2.2.2.2.2.2.2.2.2.2.2.2.2.2.2.2.1) (d.2.2.2.2.2.2.2.2.2.2.2.2.2.2.2.2.2.2.2.2.2.2.2.1) (d.2.2.2.2.2.2.2.2.2.2.2.2.2.2.2.2.2.2.2.2.2.2.2.2.1) (d.2.2.2.2.2.2.2.2.2.2.2.2.2.2.2.2.2.2.2.2.2.2.2.2.2.1) (d.2.2.2.2.2.2.2.2.2.2.2.2.2.2.2.2.2.2.2.2.2.2.2.2.2.2.1) (d.2.2.2.2.2.2.2.2.2.2.2.2.2.2.2.2.2.2.2.2.2.2.2.2.2.2.2.1) (d.2.2.2.2.2.2.2.2.2.2.2.2.2.2.2.2.2.2.2.2.2.2.2.2.2.2.2.2)
abbrev w66K (f:Nat→Int→Int→(List Ex)→Bool→Bool→Bool→Bool→Bool→Bool→Bool→Bool→Bool→Bool→Bool→Bool→Bool→Bool→Bool→Bool→Bool→Bool→Bool→Bool→Bool→Bool→Bool→Bool→Bool→Bool→Bool) (N:Nat) (d:w66J):Bool:=f N (d.1) (d.2.1) (d.2.2.1) (d.2.2.2.1) (d.2.2.2.2.1) (d.2.2.2.2.2.1) (d.2.2.2.2.2.2.1) (d.2.2.2.2.2.2.2.1) (d.2.2.2.2.2.2.2.2.1) (d.2.2.2.2.2.2.2.2.2.1) (d.2.2.2.2.2.2.2.2.2.2.1) (d.2.2.2.2.2.2.2.2.2.2.2.1) (d.2.2.2.2.2.2.2.2.2.2.2.2.1) (d.2.2.2.2.2.2.2.2.2.2.2.2.2.1) (d.2.2.2.2.2.2.2.2.2.2.2.2.2.2.1) (d.2.2.2.2.2.2.2.2.2.2.2.2.2.2.2.1) (d.2.2.2.2.2.2.2.2.2.2.2.2.2.2.2.2.1) (d.2.2.2.2.2.2.2.2.2.2.2.2.2.2.2.2.2.1) (d.2.2.2.2.2.2.2.2.2.2.2.2.2.2.2.2.2.2.1) (d.2.2.2.2.2.2.2.2.2.2.2.2.2.2.2.2.2.2.2.1) (d.2.2.2.2.2.2.2.2.2.2.2.2.2.2.2.2.2.2.2.2.1) (d.2.2.2.2.2.2.2.2.2.2.2.2.2.2.2.2.2.2.2.2.2.1) (d.2.2.2.2.2.2.2.2.2.2.2.2.2.2.2.2.2.2.2.2.2.2.1) (d.2.2.2.2.2.2.2.2.2.2.2.2.2.2.2.2.2.2.2.2.2.2.2.1) (d.2.2.2.2.2.2.2.2.2.2.2.2.2.2.2.2.2.2.2.2.2.2.2.2.1) (d.2.2.2.2.2.2.2.2.2.2.2.2.2.2.2.2.2.2.2.2.2.2.2.2.2.1) (d.2.2.2.2.2.2.2.2.2.2.2.2.2.2.2.2.2.2.2.2.2.2.2.2.2.2.1) (d.2.2.2.2.2.2.2.2.2.2.2.2.2.2.2.2.2.2.2.2.2.2.2.2.2.2.2.1) (d.2.2.2.2.2.2.2.2.2.2.2.2.2.2.2.2.2.2.2.2.2.2.2.2.2.2.2.2)
end
end Go.Proofs
