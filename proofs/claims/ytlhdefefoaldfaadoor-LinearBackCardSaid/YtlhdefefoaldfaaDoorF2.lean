/- What functions do: values, texts. Conditions are in the theorems. -/
import Derived.Test.YtlhdefefoaldfaaDoorE7
import Derived.Test.YtlhdefefoaldfaaDoorProg
import Derived.KernelRfl
import Derived.Test.YtlhdefefoaldfaaDoorF0
import Derived.Test.YtlhdefefoaldfaaDoorF1
/- What functions do. -/
namespace Go.Proofs
noncomputable section
open Go.Ax Go.Ax.Alg Go.RowKit Go.Ab
open Go
abbrev lF2x0:List UInt8:=[(82:UInt8),(40:UInt8)]
def w50r0 (a0:(List UInt8)):Res:=(.own 100,[(100,.row 5 .u8 a0 true)])
def w50in (xs:List X) (H:XH):Option (Int×Int×(List Ex)×Int×(List UInt8)):=match xs,H with
 | [.own 50,.agg [x0,x1,x2],x3],[(50,x4)]=>(match ue (.i .i64) x0,ue (.i .i64) x1,ue (.sl .ex) x2,ue (.i .i64) x3,ur 5 .u8 true x4 with | some a0,some a1,some a2,some a3,some a4=>some (a0,a1,a2,a3,a4) | _,_,_,_,_=>none)
 | _,_=>none
theorem w50io {xs:List X} {H:XH} {d:Int×Int×(List Ex)×Int×(List UInt8)} (h:w50in xs H=some d):xs=[.own 50,.agg [.e (.i .i64) (d.1),.e (.i .i64) (d.2.1),.e (.sl .ex) (d.2.2.1)],.e (.i .i64) (d.2.2.2.1)]∧H=[(50,.row 5 .u8 (d.2.2.2.2) true)]:=by
 unfold w50in at h
 split at h
 ·split at h
  ·rename_i h0 h1 h2 h3 h4;cases h;rw [ue_some h0,ue_some h1,ue_some h2,ue_some h3,ur_some h4];exact ⟨rfl,rfl⟩
  ·cases h
 ·cases h
abbrev w50T:=Nat×((Int→Int→(List Ex)→Int→(List UInt8)→Option ((List UInt8))))
def w50E (N:w50T):Ent':=withNil 5 .u8 <| entR w50in (fun d=>(N.2 (d.1) (d.2.1) (d.2.2.1) (d.2.2.2.1) (d.2.2.2.2)).isSome) (fun d=>w50r0 (((N.2 (d.1) (d.2.1) (d.2.2.1) (d.2.2.2.1) (d.2.2.2.2)).getD [])))
noncomputable def w50L (N:w50T):List (Nat×Ent'):=[(50,w50E N),(80,w80e N.1)]
noncomputable def w50c (N:w50T):Cx:=⟨Tryd.prog,25,w50L N,[]⟩
noncomputable def w50b:Code:=Tryd.f50.body.getD .skip
theorem w50cx (N:w50T) (hw50:EOk Tryd.prog 50 (w50E N)):CxOk (w50c N):=ctx_ok (by kernel_rfl) (.cons (by kernel_rfl) hw50 (.cons (by kernel_rfl) (w80ok N.1) .nil)) .nil
def w50G [Alg] (N:w50T)  (e1_0 e1_1:Int) (e1_2:(List Ex)) (level2:Int) (g0:(List UInt8)):O:=
 gx [((0:Int),(999999:Int),(4:Int),(0:UInt8)),((0:Int),(25:Int),(4:Int),(0:UInt8)),((1:Int),(0:Int),(3:Int),(45:UInt8)),((2:Int),(0:Int),(1:Int),(43:UInt8)),((2:Int),(0:Int),(1:Int),(45:UInt8)),((2:Int),(0:Int),(2:Int),(42:UInt8)),((2:Int),(0:Int),(2:Int),(47:UInt8)),((2:Int),(0:Int),(3:Int),(94:UInt8)),((1:Int),(0:Int),(4:Int),(82:UInt8)),((2:Int),(0:Int),(0:Int),(61:UInt8)),((2:Int),(0:Int),(0:Int),(60:UInt8))] e1_0 fun y0=>
 br (decide (y0.2.2.1 < level2))
  (ck (lim (g0++[(40:UInt8)]).length (1:Nat)) <|
  ck ((N.2 e1_0 e1_1 e1_2 (0:Int) (g0++[(40:UInt8)])).isSome) <|
  ck (lim ((N.2 e1_0 e1_1 e1_2 (0:Int) (g0++[(40:UInt8)])).getD []++[(41:UInt8)]).length (1:Nat)) <|
  some (w50r0 ((N.2 e1_0 e1_1 e1_2 (0:Int) (g0++[(40:UInt8)])).getD []++[(41:UInt8)])))
  (br (decide (e1_0=(0:Int)))
   (ck (w80p N.1 e1_1 (10:Int) g0) <|
   some (w50r0 (w80y0 N.1 e1_1 (10:Int) g0)))
   (br (decide (e1_0=(1:Int)))
    (ck (lim (g0++[u8of (IntKind.i64.wrap ((97:Int)+e1_1))]).length (1:Nat)) <|
    some (w50r0 (g0++[u8of (IntKind.i64.wrap ((97:Int)+e1_1))])))
    (br (decide (e1_0=(2:Int)))
     (ck (lim (g0++[(45:UInt8)]).length (1:Nat)) <|
     gx e1_2 ((0:Int)) fun y1=>
     ck ((N.2 y1.op y1.num y1.kids (3:Int) (g0++[(45:UInt8)])).isSome) <|
     some (w50r0 ((N.2 y1.op y1.num y1.kids (3:Int) (g0++[(45:UInt8)])).getD [])))
     (br (decide (e1_0=(8:Int)))
      (ck (lim (g0++lF2x0).length (1:Nat)) <|
      gx e1_2 ((0:Int)) fun y2=>
      ck ((N.2 y2.op y2.num y2.kids (1:Int) (g0++lF2x0)).isSome) <|
      ck (lim ((N.2 y2.op y2.num y2.kids (1:Int) (g0++lF2x0)).getD []++[(41:UInt8)]).length (1:Nat)) <|
      some (w50r0 ((N.2 y2.op y2.num y2.kids (1:Int) (g0++lF2x0)).getD []++[(41:UInt8)])))
      (br (decide (e1_0=(7:Int)))
       (gx e1_2 ((0:Int)) fun y3=>
       ck ((N.2 y3.op y3.num y3.kids (4:Int) g0).isSome) <|
       ck (lim ((N.2 y3.op y3.num y3.kids (4:Int) g0).getD []++[(94:UInt8)]).length (1:Nat)) <|
       gx e1_2 ((1:Int)) fun y4=>
       ck ((N.2 y4.op y4.num y4.kids (3:Int) ((N.2 y3.op y3.num y3.kids (4:Int) g0).getD []++[(94:UInt8)])).isSome) <|
       some (w50r0 ((N.2 y4.op y4.num y4.kids (3:Int) ((N.2 y3.op y3.num y3.kids (4:Int) g0).getD []++[(94:UInt8)])).getD [])))
       (gx e1_2 ((0:Int)) fun y5=>
       ck ((N.2 y5.op y5.num y5.kids (max (1:Int) y0.2.2.1) g0).isSome) <|
       ck (lim ((N.2 y5.op y5.num y5.kids (max (1:Int) y0.2.2.1) g0).getD []++[y0.2.2.2]).length (1:Nat)) <|
       gx e1_2 ((1:Int)) fun y6=>
       ck ((N.2 y6.op y6.num y6.kids (IntKind.i64.wrap (y0.2.2.1+(1:Int))) ((N.2 y5.op y5.num y5.kids (max (1:Int) y0.2.2.1) g0).getD []++[y0.2.2.2])).isSome) <|
       some (w50r0 ((N.2 y6.op y6.num y6.kids (IntKind.i64.wrap (y0.2.2.1+(1:Int))) ((N.2 y5.op y5.num y5.kids (max (1:Int) y0.2.2.1) g0).getD []++[y0.2.2.2])).getD []))))))))
def w50 [Alg] (N:w50T) (e1_0 e1_1:Int) (e1_2:(List Ex)) (level2:Int) (g0:(List UInt8)):O:=w50G N  e1_0 e1_1 e1_2 level2 g0
noncomputable def w50h [Alg] (_:w50T):Hint:=(.seq .d (.seq .d (.seq (.seq .d (.cond (.seq (.reg [] [] [[],[],[212,50],[],[228,212],[],[244,228],[]]) .d) .d)) (.seq (.seq .d (.block (.seq .d (.cond .d (.seq .d (.cond .d (.seq .d (.cond (.seq (.reg [] [] [[],[],[276,50],[],[],[],[],[316,276],[]]) .d) (.seq .d (.cond (.seq (.reg [] [] [[],[],[292,50],[],[],[],[],[332,292],[],[348,332],[]]) .d) (.seq .d (.cond (.seq (.reg [] [] [[],[],[],[],[],[332,50],[],[348,332],[],[],[],[],[388,348],[]]) .d) .d)))))))))))) (.seq (.reg [] [] [[],[],[],[],[],[],[],[],[356,50],[],[],[],[388,356],[],[],[],[],[],[],[],[452,388],[]]) .d)))))
theorem w50hk (N:w50T):HintOk (w50c N) Tryd.f50.ntmps (w50h N) w50b:=hk_of _ _ (And.intro trivial (And.intro trivial (And.intro (And.intro trivial (And.intro (And.intro trivial trivial) trivial)) (And.intro (And.intro trivial (And.intro trivial (And.intro trivial (And.intro trivial (And.intro trivial (And.intro trivial (And.intro (And.intro trivial trivial) (And.intro trivial (And.intro (And.intro trivial trivial) (And.intro trivial (And.intro (And.intro trivial trivial) trivial))))))))))) (And.intro trivial trivial)))))
theorem w50q [Alg] (N:w50T) (e1_0 e1_1:Int) (e1_2:(List Ex)) (level2:Int) (g0:(List UInt8)):w50G N  e1_0 e1_1 e1_2 level2 g0=exec (w50c N) Tryd.f50.ntmps (w50h N) w50b ⟨argT 0 [.own 50,.agg [.e (.i .i64) e1_0,.e (.i .i64) e1_1,.e (.sl .ex) e1_2],.e (.i .i64) level2],[(50,.row 5 .u8 g0 true)],100⟩ (finX (w50c N) Tryd.f50 true):=by kernel_rfl
theorem w50does {N:w50T} (hc:CxOk (w50c N)) {e1_0 e1_1:Int} {e1_2:(List Ex)} {level2:Int} {g0:(List UInt8)} {r:Res} (h:w50 N e1_0 e1_1 e1_2 level2 g0=some r):DoesR Tryd.prog 50 (([.own 50,.agg [.e (.i .i64) e1_0,.e (.i .i64) e1_1,.e (.sl .ex) e1_2],.e (.i .i64) level2]:List X).map X.D) (HA [(50,.row 5 .u8 g0 true)]) r:=
 fun_ok hc (f:=50) (fn:=Tryd.f50) (code:=w50b) (by kernel_rfl) (by kernel_rfl) (w50hk N) (Nat.le_of_ble_eq_true (by kernel_rfl)) (ow:=true) ((w50q N e1_0 e1_1 e1_2 level2 g0).symm.trans (by exact h))
def w50un (r:Res):Option ((List UInt8)):=match r with
 | (.own 100,[(100,x0)])=>(match ur 5 .u8 true x0 with | some a0=>some a0 | _=>none)
 | _=>none
theorem w50uo {r:Res} {d:(List UInt8)} (h:w50un r=some d):r=w50r0 (d):=by
 unfold w50un at h
 split at h
 ·split at h
  ·rename_i h0;cases h;rw [ur_some h0];rfl
  ·cases h
 ·cases h
def w50z (N:w50T) (e1_0 e1_1:Int) (e1_2:(List Ex)) (level2:Int) (g0:(List UInt8)):Option ((List UInt8)):=(w50 N e1_0 e1_1 e1_2 level2 g0).bind w50un
theorem w50fin {N:w50T} (hc:CxOk (w50c N)) {e1_0 e1_1:Int} {e1_2:(List Ex)} {level2:Int} {g0 d:(List UInt8)} (hd:w50z N e1_0 e1_1 e1_2 level2 g0=some d):Does Tryd.prog 50 (([.own 50,.agg [.e (.i .i64) e1_0,.e (.i .i64) e1_1,.e (.sl .ex) e1_2],.e (.i .i64) level2]:List X).map X.D) (HA [(50,.row 5 .u8 g0 true)]) (w50r0 (d)).1.D (HA (w50r0 (d)).2):=by
 obtain ⟨r,hr,hu⟩:=Option.bind_eq_some_iff.1 hd
 have:=w50does hc hr
 rw [w50uo hu] at this
 exact this
def w50gY (N:Nat):Nat→(Int→Int→(List Ex)→Int→(List UInt8)→Option ((List UInt8)))
 | 0=>fun _ _ _ _ _=>none
 | n+1=>fun e1_0 e1_1 e1_2 level2 g0=>w50z (N,w50gY N n) e1_0 e1_1 e1_2 level2 g0
theorem w50gYok (N:Nat):∀ n,EOk Tryd.prog 50 (w50E (N,w50gY N n))
 | 0=>withNil_ok <| entR_ok w50io (fun _ h=>by cases h)
 | n+1=>
   have ih:=w50gYok N n
   withNil_ok <| entR_ok w50io (fun d h=>norStep (zz:=w50z (N,w50gY N n) (d.1) (d.2.1) (d.2.2.1) (d.2.2.2.1) (d.2.2.2.2)) (R:=fun y=>w50r0 (y)) (d0:=[]) (fun _ hy=>w50fin (w50cx (N,w50gY N n) ih) hy) h)
def w50p (N:Nat) (e1_0 e1_1:Int) (e1_2:(List Ex)) (level2:Int) (g0:(List UInt8)):Bool:=((w50gY N N) e1_0 e1_1 e1_2 level2 g0).isSome
def w50y0 (N:Nat) (e1_0 e1_1:Int) (e1_2:(List Ex)) (level2:Int) (g0:(List UInt8)):(List UInt8):=(((w50gY N N) e1_0 e1_1 e1_2 level2 g0).getD [])
def w50e (N:Nat):Ent':=withNil 5 .u8 <| entR w50in (fun d=>w50p N (d.1) (d.2.1) (d.2.2.1) (d.2.2.2.1) (d.2.2.2.2)) (fun d=>w50r0 (w50y0 N (d.1) (d.2.1) (d.2.2.1) (d.2.2.2.1) (d.2.2.2.2)))
theorem w50ok (N:Nat):EOk Tryd.prog 50 (w50e N):=w50gYok N N
def w14r0 (a0:(List UInt8)):Res:=(.e .tx a0,[])
noncomputable def w14L (N:Nat):List (Nat×Ent'):=[(17,w17e N),(50,w50e N)]
noncomputable def w14c (N:Nat):Cx:=⟨Tryd.prog,25,w14L N,[]⟩
noncomputable def w14b:Code:=Tryd.f14.body.getD .skip
theorem w14cx (N:Nat):CxOk (w14c N):=ctx_ok (by kernel_rfl) (.cons (by kernel_rfl) (w17ok N) (.cons (by kernel_rfl) (w50ok N) .nil)) .nil
def w14G [Alg] (N:Nat)  (A B:Int) (C:(List Ex)):O:=
 ck (w17p N A B C) <|
 br (decide (w17y0 N A B C≠(0:Int)))
  (some (w14r0 []))
  (ck (w50p N A B C (0:Int) []) <|
  some (w14r0 (w50y0 N A B C (0:Int) [])))
def w14 [Alg] (N:Nat) (A B:Int) (C:(List Ex)):O:=w14G N  A B C
noncomputable def w14h [Alg] (_:Nat):Hint:=.d
theorem w14hk (N:Nat):HintOk (w14c N) Tryd.f14.ntmps (w14h N) w14b:=hk_of _ _ trivial
theorem w14q [Alg] (N:Nat) (A B:Int) (C:(List Ex)):w14G N  A B C=exec (w14c N) Tryd.f14.ntmps (w14h N) w14b ⟨argT 0 [.agg [.e (.i .i64) A,.e (.i .i64) B,.e (.sl .ex) C]],[],100⟩ (finX (w14c N) Tryd.f14 false):=by kernel_rfl
theorem w14does {N:Nat} (hc:CxOk (w14c N)) {A B:Int} {C:(List Ex)} {r:Res} (h:w14 N A B C=some r):DoesR Tryd.prog 14 (([.agg [.e (.i .i64) A,.e (.i .i64) B,.e (.sl .ex) C]]:List X).map X.D) (HA []) r:=
 fun_ok hc (f:=14) (fn:=Tryd.f14) (code:=w14b) (by kernel_rfl) (by kernel_rfl) (w14hk N) (Nat.le_of_ble_eq_true (by kernel_rfl)) (ow:=false) ((w14q N A B C).symm.trans (by exact h))
def w14un (r:Res):Option ((List UInt8)):=match r with
 | (x0,[])=>(match ue .tx x0 with | some a0=>some a0 | _=>none)
 | _=>none
theorem w14uo {r:Res} {d:(List UInt8)} (h:w14un r=some d):r=w14r0 (d):=by
 unfold w14un at h
 split at h
 ·split at h
  ·rename_i h0;cases h;rw [ue_some h0];rfl
  ·cases h
 ·cases h
def w14z (N:Nat) (A B:Int) (C:(List Ex)):Option ((List UInt8)):=(w14 N A B C).bind w14un
theorem w14fin {N:Nat} (hc:CxOk (w14c N)) {A B:Int} {C:(List Ex)} {d:(List UInt8)} (hd:w14z N A B C=some d):Does Tryd.prog 14 (([.agg [.e (.i .i64) A,.e (.i .i64) B,.e (.sl .ex) C]]:List X).map X.D) (HA []) (w14r0 (d)).1.D (HA (w14r0 (d)).2):=by
 obtain ⟨r,hr,hu⟩:=Option.bind_eq_some_iff.1 hd
 have:=w14does hc hr
 rw [w14uo hu] at this
 exact this
def w14p (N:Nat) (A B:Int) (C:(List Ex)):Bool:=(w14z N A B C).isSome
def w14y0 (N:Nat) (A B:Int) (C:(List Ex)):(List UInt8):=((w14z N A B C).getD [])
def w14e (N:Nat):Ent':=E1 .ex  (fun x0=>(w14p N (Ex.op x0) (Ex.num x0) (Ex.kids x0),w14r0 (w14y0 N (Ex.op x0) (Ex.num x0) (Ex.kids x0))))
theorem w14re {N:Nat} {A B:Int} {C:(List Ex)} {d:(List UInt8)} (hd:w14z N A B C=some d):w14r0 (w14y0 N A B C)=w14r0 (d):=by unfold w14y0;rw [hd];rfl
theorem w14ok (N:Nat):EOk Tryd.prog 14 (w14e N):=EOk.e1 (fun x0 h=>by
 have h:(w14z N (Ex.op x0) (Ex.num x0) (Ex.kids x0)).isSome=true:=h
 obtain ⟨d,hd⟩:=Option.isSome_iff_exists.1 h
 have f:=w14fin (w14cx N) hd
 rw [← w14re hd] at f
 exact f)
def w69r0 (a0:Bool):Res:=(.e .bo a0,[])
def w69in (xs:List X) (H:XH):Option ((List Ex)×(List Ex)):=match xs,H with
 | [x0,x1,.fn 38 []],[]=>(match ue (.sl .ex) x0,ue (.sl .ex) x1 with | some a0,some a1=>some (a0,a1) | _,_=>none)
 | _,_=>none
theorem w69io {xs:List X} {H:XH} {d:(List Ex)×(List Ex)} (h:w69in xs H=some d):xs=[.e (.sl .ex) (d.1),.e (.sl .ex) (d.2),.fn 38 []]∧H=[]:=by
 unfold w69in at h
 split at h
 ·split at h
  ·rename_i h0 h1;cases h;rw [ue_some h0,ue_some h1];exact ⟨rfl,rfl⟩
  ·cases h
 ·cases h
abbrev w69T:=Nat×(((List Ex)→(List Ex)→Option (Bool))×(Int→Int→(List Ex)→Int→Int→(List Ex)→Option (Bool)))
def w69E (N:w69T):Ent':=entR w69in (fun d=>(N.2.1 (d.1) (d.2)).isSome) (fun d=>w69r0 (((N.2.1 (d.1) (d.2)).getD false)))
def w38r0 (a0:Bool):Res:=(.e .bo a0,[])
def w38in (xs:List X) (H:XH):Option (Int×Int×(List Ex)×Int×Int×(List Ex)):=match xs,H with
 | [.agg [x0,x1,x2],.agg [x3,x4,x5]],[]=>(match ue (.i .i64) x0,ue (.i .i64) x1,ue (.sl .ex) x2,ue (.i .i64) x3,ue (.i .i64) x4,ue (.sl .ex) x5 with | some a0,some a1,some a2,some a3,some a4,some a5=>some (a0,a1,a2,a3,a4,a5) | _,_,_,_,_,_=>none)
 | _,_=>none
theorem w38io {xs:List X} {H:XH} {d:Int×Int×(List Ex)×Int×Int×(List Ex)} (h:w38in xs H=some d):xs=[.agg [.e (.i .i64) (d.1),.e (.i .i64) (d.2.1),.e (.sl .ex) (d.2.2.1)],.agg [.e (.i .i64) (d.2.2.2.1),.e (.i .i64) (d.2.2.2.2.1),.e (.sl .ex) (d.2.2.2.2.2)]]∧H=[]:=by
 unfold w38in at h
 split at h
 ·split at h
  ·rename_i h0 h1 h2 h3 h4 h5;cases h;rw [ue_some h0,ue_some h1,ue_some h2,ue_some h3,ue_some h4,ue_some h5];exact ⟨rfl,rfl⟩
  ·cases h
 ·cases h
def w38E (N:w69T):Ent':=entR w38in (fun d=>(N.2.2 (d.1) (d.2.1) (d.2.2.1) (d.2.2.2.1) (d.2.2.2.2.1) (d.2.2.2.2.2)).isSome) (fun d=>w38r0 (((N.2.2 (d.1) (d.2.1) (d.2.2.1) (d.2.2.2.1) (d.2.2.2.2.1) (d.2.2.2.2.2)).getD false)))
noncomputable def w69L (N:w69T):List (Nat×Ent'):=[(69,w69E N),(38,w38E N)]
noncomputable def w69c (N:w69T):Cx:=⟨Tryd.prog,25,w69L N,[]⟩
noncomputable def w69b:Code:=Tryd.f69.body.getD .skip
theorem w69cx (N:w69T) (hw69:EOk Tryd.prog 69 (w69E N)) (hw38:EOk Tryd.prog 38 (w38E N)):CxOk (w69c N):=ctx_ok (by kernel_rfl) (.cons (by kernel_rfl) hw69 (.cons (by kernel_rfl) hw38 .nil)) .nil
def w69F0 [Alg] (N:w69T)  (self:Int→O) (k0:Bool→O) (k1:Unit→O) (x0_0 x0_1:(List Ex)) (x0_2 x0_3:Int):O:=
 br (decide (x0_3 < x0_2))
  (gx x0_1 x0_3 fun y5=>
  gx x0_0 x0_3 fun y6=>
  ck ((N.snd.2 y5.op y5.num y5.kids y6.op y6.num y6.kids).isSome) <|
  br (!(N.snd.2 y5.op y5.num y5.kids y6.op y6.num y6.kids).getD false)
   (k0 false)
   (self (IntKind.i64.wrap (x0_3+(1:Int)))))
  (k1 ())
noncomputable def w69b0:Code:=atC [1,1,0,1,0,0] w69b
def w69m0:Nm:=⟨[1,2,15,16,17],[],[]⟩
def w69I0 (x:(List Ex)×(List Ex)×Int×Int):Sg:=⟨[(1,.e (.sl .ex) x.1),(2,.fn 38 []),(15,.e (.sl .ex) x.2.1),(16,.e (.i .i64) x.2.2.1),(17,.e (.i .i64) x.2.2.2)],[],100⟩
def w69u0 (σ:Sg):(List Ex)×(List Ex)×Int×Int:=(lvT (.sl .ex) 1 0 σ,lvT (.sl .ex) 15 0 σ,lvT (.i .i64) 16 0 σ,lvT (.i .i64) 17 0 σ)
theorem w69ui0:∀ x,w69u0 (w69I0 x)=x:=fun _=>by kernel_rfl
def w69X0_0 (y:Bool):Exit×Sg:=(.ret,⟨[(6,.e .bo y)],[],100⟩)
def w69v0_0 (_:Exit) (σ:Sg):Bool:=lvT .bo 6 0 σ
def w69X0_1 (_:Unit):Exit×Sg:=((.exit 0),⟨[],[],100⟩)
def w69v0_1 (_:Exit) (_:Sg):Unit:=()
def w69w0:List (Exit×Nm):=[(.ret,⟨[6],[],[]⟩),((.exit 0),⟨[],[],[]⟩)]
theorem w69o0:Outs w69v0_0 w69v0_1 (fun _ _=>()) w69X0_0 w69X0_1 (noX 2) (exC .ret) (exC (.exit 0)) (exC (.goto 2)):=⟨fun _=>by kernel_rfl,fun _=>by kernel_rfl,fun _=>by kernel_rfl,fun _=>by kernel_rfl,fun _=>by kernel_rfl,fun _=>by kernel_rfl,exNe_ok (by kernel_rfl),exNe_ok (by kernel_rfl),exNe_ok (by kernel_rfl)⟩
def w69l0 [Alg] (N:w69T):Nat→((List Ex)×(List Ex)×Int×Int)→((Bool)→O)→((Unit)→O)→((Unit)→O)→O
 | 0,_,_,_,_=>none
 | n+1,x,k0,k1,k2=>w69F0 N  (fun v0=>w69l0 N n (x.1,x.2.1,x.2.2.1,v0) k0 k1 k2) (fun y0=>k0 y0) (fun (_:Unit)=>k1 ()) x.1 x.2.1 x.2.2.1 x.2.2.2
def w69n0 [Alg] (N:w69T) (a0 a1:(List Ex)) (a2 a3:Int) (k0:Bool→O) (k1:Unit→O):O:=w69l0 N N.1 (a0,a1,a2,a3) (fun y=>k0 y) (fun y=>k1 y) (fun _=>none)
noncomputable def w69s0 [Alg] (N:w69T) (a0 a1:(List Ex)) (a2 a3:Int) (k0:Bool→O) (k1:Unit→O):O:=subL w69I0 w69u0 (w69l0 N N.1) (w69I0 (a0,a1,a2,a3)) (fun y=>k0 y) (fun y=>k1 y) (fun _=>none)
theorem w69e0 [Alg] (N:w69T):w69s0 N=w69n0 N:=funext fun _=>funext fun _=>funext fun _=>funext fun _=>funext fun _=>funext fun _=>subL_I w69ui0 _ _ _ _
noncomputable def w69h0 [Alg] (_:w69T):Hint:=.d
theorem w69hk0 (N:w69T):HintOk (w69c N) Tryd.f69.ntmps (w69h0 N) w69b0:=hk_of _ _ trivial
theorem w69q0 [Alg] (N:w69T) (self:Sg→O) (K:Exit→Sg→O) (x:(List Ex)×(List Ex)×Int×Int):w69F0 N  (fun v0=>self (w69I0 (x.1,x.2.1,x.2.2.1,v0))) (fun y0=>K (w69X0_0 y0).1 (w69X0_0 y0).2) (fun (_:Unit)=>K (w69X0_1 ()).1 (w69X0_1 ()).2) x.1 x.2.1 x.2.2.1 x.2.2.2=exec (w69c N) Tryd.f69.ntmps (w69h0 N) w69b0 (w69I0 x) (roundX w69m0 w69w0 self K):=by kernel_rfl
theorem w69S0 (N:w69T) (hc:CxOk (w69c N)):SubOk (w69c N) Tryd.f69.ntmps (.loop w69b0) w69X0_0 w69X0_1 (noX 2) (subL w69I0 w69u0 (w69l0 N N.1)):=
 sub_loop hc (w69hk0 N) w69o0 (n:=N.1) (fun x K=>loop_ind (w69l0 N) (fun _ _ _ _=>rfl) (fun n K ih x=>by
  have h:w69F0 N  (fun v0=>w69l0 N n (x.1,x.2.1,x.2.2.1,v0) (fun y=>K (w69X0_0 y).1 (w69X0_0 y).2) (fun y=>K (w69X0_1 y).1 (w69X0_1 y).2) (fun y=>K ((noX 2) y).1 ((noX 2) y).2)) (fun y0=>K (w69X0_0 y0).1 (w69X0_0 y0).2) (fun (_:Unit)=>K (w69X0_1 ()).1 (w69X0_1 ()).2) x.1 x.2.1 x.2.2.1 x.2.2.2=w69F0 N  (fun v0=>loopX (w69c N) Tryd.f69.ntmps (w69h0 N) w69b0 w69m0 w69w0 n (w69I0 (x.1,x.2.1,x.2.2.1,v0)) K) (fun y0=>K (w69X0_0 y0).1 (w69X0_0 y0).2) (fun (_:Unit)=>K (w69X0_1 ()).1 (w69X0_1 ()).2) x.1 x.2.1 x.2.2.1 x.2.2.2:=by rw [ show (fun v0=>w69l0 N n (x.1,x.2.1,x.2.2.1,v0) (fun y=>K (w69X0_0 y).1 (w69X0_0 y).2) (fun y=>K (w69X0_1 y).1 (w69X0_1 y).2) (fun y=>K ((noX 2) y).1 ((noX 2) y).2))=(fun v0=>loopX (w69c N) Tryd.f69.ntmps (w69h0 N) w69b0 w69m0 w69w0 n (w69I0 (x.1,x.2.1,x.2.2.1,v0)) K) from funext fun _=>ih _]
  exact h.trans (w69q0 N (fun σ=>loopX (w69c N) Tryd.f69.ntmps (w69h0 N) w69b0 w69m0 w69w0 n σ K) K x)) N.1 x K)
def w69G [Alg] (_:w69T) (in0:(List Ex)→(List Ex)→Int→Int→(Bool→O)→(Unit→O)→O) (s10 s21:(List Ex)):O:=
 br (decide ((↑s10.length:Int)≠(↑s21.length:Int)))
  (some (w69r0 false))
  (in0 s21 s10 ((↑s10.length:Int)) ((0:Int))
   (fun z7=>
    some (w69r0 z7))
   (fun (_:Unit)=>
    some (w69r0 true)))
def w69 [Alg] (N:w69T) (s10 s21:(List Ex)):O:=w69G N (w69n0 N) s10 s21
noncomputable def w69h [Alg] (N:w69T):Hint:=(.seq .d (.seq .d (.seq (.seq .d (.block (.sub w69m0 _ _ _ w69X0_0 w69X0_1 (noX 2) (subL w69I0 w69u0 (w69l0 N N.1))))) .d)))
theorem w69hk (N:w69T) (hc:CxOk (w69c N)):HintOk (w69c N) Tryd.f69.ntmps (w69h N) w69b:=hk_of _ _ (And.intro trivial (And.intro trivial (And.intro (And.intro trivial (w69S0 N hc)) trivial)))
theorem w69q [Alg] (N:w69T) (s10 s21:(List Ex)):w69G N (w69s0 N) s10 s21=exec (w69c N) Tryd.f69.ntmps (w69h N) w69b ⟨argT 0 [.e (.sl .ex) s10,.e (.sl .ex) s21,.fn 38 []],[],100⟩ (finX (w69c N) Tryd.f69 false):=by kernel_rfl
theorem w69does {N:w69T} (hc:CxOk (w69c N)) {s10 s21:(List Ex)} {r:Res} (h:w69 N s10 s21=some r):DoesR Tryd.prog 69 (([.e (.sl .ex) s10,.e (.sl .ex) s21,.fn 38 []]:List X).map X.D) (HA []) r:=
 fun_ok hc (f:=69) (fn:=Tryd.f69) (code:=w69b) (by kernel_rfl) (by kernel_rfl) (w69hk N hc) (Nat.le_of_ble_eq_true (by kernel_rfl)) (ow:=false) ((w69q N s10 s21).symm.trans (by rw [w69e0 N];exact h))
def w69un (r:Res):Option (Bool):=match r with
 | (x0,[])=>(match ue .bo x0 with | some a0=>some a0 | _=>none)
 | _=>none
theorem w69uo {r:Res} {d:Bool} (h:w69un r=some d):r=w69r0 (d):=by
 unfold w69un at h
 split at h
 ·split at h
  ·rename_i h0;cases h;rw [ue_some h0];rfl
  ·cases h
 ·cases h
def w69z (N:w69T) (s10 s21:(List Ex)):Option (Bool):=(w69 N s10 s21).bind w69un
theorem w69fin {N:w69T} (hc:CxOk (w69c N)) {s10 s21:(List Ex)} {d:Bool} (hd:w69z N s10 s21=some d):Does Tryd.prog 69 (([.e (.sl .ex) s10,.e (.sl .ex) s21,.fn 38 []]:List X).map X.D) (HA []) (w69r0 (d)).1.D (HA (w69r0 (d)).2):=by
 obtain ⟨r,hr,hu⟩:=Option.bind_eq_some_iff.1 hd
 have:=w69does hc hr
 rw [w69uo hu] at this
 exact this
noncomputable def w38L (N:w69T):List (Nat×Ent'):=[(69,w69E N),(38,w38E N)]
noncomputable def w38c (N:w69T):Cx:=⟨Tryd.prog,25,w38L N,[]⟩
noncomputable def w38b:Code:=Tryd.f38.body.getD .skip
theorem w38cx (N:w69T) (hw69:EOk Tryd.prog 69 (w69E N)) (hw38:EOk Tryd.prog 38 (w38E N)):CxOk (w38c N):=ctx_ok (by kernel_rfl) (.cons (by kernel_rfl) hw69 (.cons (by kernel_rfl) hw38 .nil)) .nil
def w38G [Alg] (N:w69T)  (a0_0 a0_1:Int) (a0_2:(List Ex)) (b1_0 b1_1:Int) (b1_2:(List Ex)):O:=
 ck (!(decide (a0_0=b1_0)&&decide (a0_1=b1_1))||(N.snd.1 a0_2 b1_2).isSome) <|
 some (w38r0 (decide (a0_0=b1_0)&&decide (a0_1=b1_1)&&(N.snd.1 a0_2 b1_2).getD false))
def w38 [Alg] (N:w69T) (a0_0 a0_1:Int) (a0_2:(List Ex)) (b1_0 b1_1:Int) (b1_2:(List Ex)):O:=w38G N  a0_0 a0_1 a0_2 b1_0 b1_1 b1_2
noncomputable def w38h [Alg] (_:w69T):Hint:=.d
theorem w38hk (N:w69T):HintOk (w38c N) Tryd.f38.ntmps (w38h N) w38b:=hk_of _ _ trivial
theorem w38q [Alg] (N:w69T) (a0_0 a0_1:Int) (a0_2:(List Ex)) (b1_0 b1_1:Int) (b1_2:(List Ex)):w38G N  a0_0 a0_1 a0_2 b1_0 b1_1 b1_2=exec (w38c N) Tryd.f38.ntmps (w38h N) w38b ⟨argT 0 [.agg [.e (.i .i64) a0_0,.e (.i .i64) a0_1,.e (.sl .ex) a0_2],.agg [.e (.i .i64) b1_0,.e (.i .i64) b1_1,.e (.sl .ex) b1_2]],[],100⟩ (finX (w38c N) Tryd.f38 false):=by kernel_rfl
theorem w38does {N:w69T} (hc:CxOk (w38c N)) {a0_0 a0_1:Int} {a0_2:(List Ex)} {b1_0 b1_1:Int} {b1_2:(List Ex)} {r:Res} (h:w38 N a0_0 a0_1 a0_2 b1_0 b1_1 b1_2=some r):DoesR Tryd.prog 38 (([.agg [.e (.i .i64) a0_0,.e (.i .i64) a0_1,.e (.sl .ex) a0_2],.agg [.e (.i .i64) b1_0,.e (.i .i64) b1_1,.e (.sl .ex) b1_2]]:List X).map X.D) (HA []) r:=
 fun_ok hc (f:=38) (fn:=Tryd.f38) (code:=w38b) (by kernel_rfl) (by kernel_rfl) (w38hk N) (Nat.le_of_ble_eq_true (by kernel_rfl)) (ow:=false) ((w38q N a0_0 a0_1 a0_2 b1_0 b1_1 b1_2).symm.trans (by exact h))
def w38un (r:Res):Option (Bool):=match r with
 | (x0,[])=>(match ue .bo x0 with | some a0=>some a0 | _=>none)
 | _=>none
theorem w38uo {r:Res} {d:Bool} (h:w38un r=some d):r=w38r0 (d):=by
 unfold w38un at h
 split at h
 ·split at h
  ·rename_i h0;cases h;rw [ue_some h0];rfl
  ·cases h
 ·cases h
def w38z (N:w69T) (a0_0 a0_1:Int) (a0_2:(List Ex)) (b1_0 b1_1:Int) (b1_2:(List Ex)):Option (Bool):=(w38 N a0_0 a0_1 a0_2 b1_0 b1_1 b1_2).bind w38un
theorem w38fin {N:w69T} (hc:CxOk (w38c N)) {a0_0 a0_1:Int} {a0_2:(List Ex)} {b1_0 b1_1:Int} {b1_2:(List Ex)} {d:Bool} (hd:w38z N a0_0 a0_1 a0_2 b1_0 b1_1 b1_2=some d):Does Tryd.prog 38 (([.agg [.e (.i .i64) a0_0,.e (.i .i64) a0_1,.e (.sl .ex) a0_2],.agg [.e (.i .i64) b1_0,.e (.i .i64) b1_1,.e (.sl .ex) b1_2]]:List X).map X.D) (HA []) (w38r0 (d)).1.D (HA (w38r0 (d)).2):=by
 obtain ⟨r,hr,hu⟩:=Option.bind_eq_some_iff.1 hd
 have:=w38does hc hr
 rw [w38uo hu] at this
 exact this
def w69gY (N:Nat):Nat→((List Ex)→(List Ex)→Option (Bool))×(Int→Int→(List Ex)→Int→Int→(List Ex)→Option (Bool))
 | 0=>(fun _ _=>none,fun _ _ _ _ _ _=>none)
 | n+1=>(fun s10 s21=>w69z (N,w69gY N n) s10 s21,fun a0_0 a0_1 a0_2 b1_0 b1_1 b1_2=>w38z (N,w69gY N n) a0_0 a0_1 a0_2 b1_0 b1_1 b1_2)
theorem w69gYok (N:Nat):∀ n,EOk Tryd.prog 69 (w69E (N,w69gY N n))∧EOk Tryd.prog 38 (w38E (N,w69gY N n))
 | 0=>⟨entR_ok w69io (fun _ h=>by cases h),entR_ok w38io (fun _ h=>by cases h)⟩
 | n+1=>
   have ih:=w69gYok N n
   ⟨entR_ok w69io (fun d h=>norStep (zz:=w69z (N,w69gY N n) (d.1) (d.2)) (R:=fun y=>w69r0 (y)) (d0:=false) (fun _ hy=>w69fin (w69cx (N,w69gY N n) ih.1 ih.2) hy) h),entR_ok w38io (fun d h=>norStep (zz:=w38z (N,w69gY N n) (d.1) (d.2.1) (d.2.2.1) (d.2.2.2.1) (d.2.2.2.2.1) (d.2.2.2.2.2)) (R:=fun y=>w38r0 (y)) (d0:=false) (fun _ hy=>w38fin (w38cx (N,w69gY N n) ih.1 ih.2) hy) h)⟩
def w38p (N:Nat) (a0_0 a0_1:Int) (a0_2:(List Ex)) (b1_0 b1_1:Int) (b1_2:(List Ex)):Bool:=((w69gY N N).2 a0_0 a0_1 a0_2 b1_0 b1_1 b1_2).isSome
def w38y0 (N:Nat) (a0_0 a0_1:Int) (a0_2:(List Ex)) (b1_0 b1_1:Int) (b1_2:(List Ex)):Bool:=(((w69gY N N).2 a0_0 a0_1 a0_2 b1_0 b1_1 b1_2).getD false)
def w38e (N:Nat):Ent':=entR w38in (fun d=>w38p N (d.1) (d.2.1) (d.2.2.1) (d.2.2.2.1) (d.2.2.2.2.1) (d.2.2.2.2.2)) (fun d=>w38r0 (w38y0 N (d.1) (d.2.1) (d.2.2.1) (d.2.2.2.1) (d.2.2.2.2.1) (d.2.2.2.2.2)))
theorem w38ok (N:Nat):EOk Tryd.prog 38 (w38e N):=(w69gYok N N).2
abbrev w64T:=Nat×(Int→Int→(List Ex)→(List Int)→Option (Int×Bool))
abbrev w66T:=Nat×((Int→Int→(List Ex)→Bool→Bool→Bool→Bool→Bool→Bool→Bool→Bool→Bool→Bool→Bool→Bool→Bool→Bool→Bool→Bool→Bool→Bool→Bool→Bool→Bool→Bool→Bool→Bool→Bool→Bool→Option (Bool×Bool×Bool×Bool×Bool×Bool×Bool×Bool×Bool×Bool×Bool×Bool×Bool×Bool×Bool×Bool×Bool×Bool×Bool×Bool×Bool×Bool×Bool×Bool×Bool×Bool)))
abbrev w66D:Bool×Bool×Bool×Bool×Bool×Bool×Bool×Bool×Bool×Bool×Bool×Bool×Bool×Bool×Bool×Bool×Bool×Bool×Bool×Bool×Bool×Bool×Bool×Bool×Bool×Bool:=(false,false,false,false,false,false,false,false,false,false,false,false,false,false,false,false,false,false,false,false,false,false,false,false,false,false)
abbrev w66J:=Int×Int×(List Ex)×Bool×Bool×Bool×Bool×Bool×Bool×Bool×Bool×Bool×Bool×Bool×Bool×Bool×Bool×Bool×Bool×Bool×Bool×Bool×Bool×Bool×Bool×Bool×Bool×Bool×Bool
abbrev w66C (N:w66T) (d:w66J):Option (Bool×Bool×Bool×Bool×Bool×Bool×Bool×Bool×Bool×Bool×Bool×Bool×Bool×Bool×Bool×Bool×Bool×Bool×Bool×Bool×Bool×Bool×Bool×Bool×Bool×Bool):=N.2 (d.1) (d.2.1) (d.2.2.1) (d.2.2.2.1) (d.2.2.2.2.1) (d.2.2.2.2.2.1) (d.2.2.2.2.2.2.1) (d.2.2.2.2.2.2.2.1) (d.2.2.2.2.2.2.2.2.1) (d.2.2.2.2.2.2.2.2.2.1) (d.2.2.2.2.2.2.2.2.2.2.1) (d.2.2.2.2.2.2.2.2.2.2.2.1) (d.2.2.2.2.2.2.2.2.2.2.2.2.1) (d.2.2.2.2.2.2.2.2.2.2.2.2.2.1) (d.2.2.2.2.2.2.2.2.2.2.2.2.2.2.1) (d.2.2.2.2.2.2.2.2.2.2.2.2.2.2.2.1) (d.2.2.2.2.2.2.2.2.2.2.2.2.2.2.2.2.1) (d.2.2.2.2.2.2.2.2.2.2.2.2.2.2.2.2.2.1) (d.2.2.2.2.2.2.2.2.2.2.2.2.2.2.2.2.2.2.1) (d.2.2.2.2.2.2.2.2.2.2.2.2.2.2.2.2.2.2.2.1) (d.2.2.2.2.2.2.2.2.2.2.2.2.2.2.2.2.2.2.2.2.1) (d.2.2.2.2.2.2.2.2.2.2.2.2.2.2.2.2.2.2.2.2.2.1) (d.2.2.2.2.2.2.2.2.2.2.2.2.2.2.2.2.2.2.2.2.2.2.1) (d.2.2.2.2.2.2.2.2.2.2.2.2.2.2.2.2.2.2.2.2.2.2.2.1) (d.2.2.2.2.2.2.2.2.2.2.2.2.2.2.2.2.2.2.2.2.2.2.2.2.1) (d.2.2.2.2.2.2.2.2.2.2.2.2.2.2.2.2.2.2.2.2.2.2.2.2.2.1) (d.2.2.2.2.2.2.2.2.2.2.2.2.2.2.2.2.2.2.2.2.2.2.2.2.2.2.1) (d.2.2.2.2.2.2.2.2.2.2.2.2.2.2.2.2.2.2.2.2.2.2.2.2.2.2.2.1) (d.2.2.2.2.2.2.2.2.2.2.2.2.2.2.2.2.2.2.2.2.2.2.2.2.2.2.2.2)
abbrev w66K (f:Nat→Int→Int→(List Ex)→Bool→Bool→Bool→Bool→Bool→Bool→Bool→Bool→Bool→Bool→Bool→Bool→Bool→Bool→Bool→Bool→Bool→Bool→Bool→Bool→Bool→Bool→Bool→Bool→Bool→Bool→Bool) (N:Nat) (d:w66J):Bool:=f N (d.1) (d.2.1) (d.2.2.1) (d.2.2.2.1) (d.2.2.2.2.1) (d.2.2.2.2.2.1) (d.2.2.2.2.2.2.1) (d.2.2.2.2.2.2.2.1) (d.2.2.2.2.2.2.2.2.1) (d.2.2.2.2.2.2.2.2.2.1) (d.2.2.2.2.2.2.2.2.2.2.1) (d.2.2.2.2.2.2.2.2.2.2.2.1) (d.2.2.2.2.2.2.2.2.2.2.2.2.1) (d.2.2.2.2.2.2.2.2.2.2.2.2.2.1) (d.2.2.2.2.2.2.2.2.2.2.2.2.2.2.1) (d.2.2.2.2.2.2.2.2.2.2.2.2.2.2.2.1) (d.2.2.2.2.2.2.2.2.2.2.2.2.2.2.2.2.1) (d.2.2.2.2.2.2.2.2.2.2.2.2.2.2.2.2.2.1) (d.2.2.2.2.2.2.2.2.2.2.2.2.2.2.2.2.2.2.1) (d.2.2.2.2.2.2.2.2.2.2.2.2.2.2.2.2.2.2.2.1) (d.2.2.2.2.2.2.2.2.2.2.2.2.2.2.2.2.2.2.2.2.1) (d.2.2.2.2.2.2.2.2.2.2.2.2.2.2.2.2.2.2.2.2.2.1) (d.2.2.2.2.2.2.2.2.2.2.2.2.2.2.2.2.2.2.2.2.2.2.1) (d.2.2.2.2.2.2.2.2.2.2.2.2.2.2.2.2.2.2.2.2.2.2.2.1) (d.2.2.2.2.2.2.2.2.2.2.2.2.2.2.2.2.2.2.2.2.2.2.2.2.1) (d.2.2.2.2.2.2.2.2.2.2.2.2.2.2.2.2.2.2.2.2.2.2.2.2.2.1) (d.2.2.2.2.2.2.2.2.2.2.2.2.2.2.2.2.2.2.2.2.2.2.2.2.2.2.1) (d.2.2.2.2.2.2.2.2.2.2.2.2.2.2.2.2.2.2.2.2.2.2.2.2.2.2.2.1) (d.2.2.2.2.2.2.2.2.2.2.2.2.2.2.2.2.2.2.2.2.2.2.2.2.2.2.2.2)
end
end Go.Proofs
