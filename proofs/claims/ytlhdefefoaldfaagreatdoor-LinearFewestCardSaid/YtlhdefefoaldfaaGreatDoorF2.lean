/- What functions do: values, texts. Conditions are in the theorems. -/
import Derived.Test.YtlhdefefoaldfaaGreatDoorE7
import Derived.Test.YtlhdefefoaldfaaGreatDoorProg
import Derived.KernelRfl
import Derived.Test.YtlhdefefoaldfaaGreatDoorF0
import Derived.Test.YtlhdefefoaldfaaGreatDoorF1
/- What functions do. -/
namespace Go.Proofs
noncomputable section
open Go.Ax Go.Ax.Alg Go.RowKit Go.Ab
open Go
abbrev YF2:=List UInt8
abbrev lF2x0:List UInt8:=[(82:UInt8),(40:UInt8)]
def w61r0 (a0:YF2):Res:=(.own 100,[(100,.row 5 .u8 a0 true)])
def w61in (xs:List X) (H:XH):Option (Int×Int×(List Ex)×Int×YF2):=match xs,H with
 | [.own 50,.agg [x0,x1,x2],x3],[(50,x4)]=>(match ue (.i .i64) x0,ue (.i .i64) x1,ue (.sl .ex) x2,ue (.i .i64) x3,ur 5 .u8 true x4 with | some a0,some a1,some a2,some a3,some a4=>some (a0,a1,a2,a3,a4) | _,_,_,_,_=>none)
 | _,_=>none
theorem w61io {xs:List X} {H:XH} {d:Int×Int×(List Ex)×Int×YF2} (h:w61in xs H=some d):xs=[.own 50,.agg [.e (.i .i64) (d.1),.e (.i .i64) (d.2.1),.e (.sl .ex) (d.2.2.1)],.e (.i .i64) (d.2.2.2.1)]/\H=[(50,.row 5 .u8 (d.2.2.2.2) true)]:=by
 unfold w61in at h
 split at h
 ·split at h
  ·rename_i h0 h1 h2 h3 h4;cases h;rw [ue_some h0,ue_some h1,ue_some h2,ue_some h3,ur_some h4];exact ⟨rfl,rfl⟩
  ·cases h
 ·cases h
abbrev w61T:=Nat×((Int->Int->(List Ex)->Int->YF2->Option (YF2)))
def w61E (N:w61T):Ent':=withNil 5 .u8 <| entR w61in (fun d=>(N.2 (d.1) (d.2.1) (d.2.2.1) (d.2.2.2.1) (d.2.2.2.2)).isSome) (fun d=>w61r0 (((N.2 (d.1) (d.2.1) (d.2.2.1) (d.2.2.2.1) (d.2.2.2.2)).getD [])))
def w61L (N:w61T):List (Nat×Ent'):=[(61,w61E N),(90,w90e N.1)]
def w61c (N:w61T):Cx:=⟨Tryz.prog,25,w61L N,[]⟩
def w61b:Code:=Tryz.f61.body.getD .skip
theorem w61cx (N:w61T) (hw50:EOk Tryz.prog 61 (w61E N)):CxOk (w61c N):=ctx_ok (by kernel_rfl) (.cons (by kernel_rfl) hw50 (.cons (by kernel_rfl) (w90ok N.1) .nil)) .nil
def w61G [Alg] (N:w61T)  (e1_0 e1_1:Int) (e1_2:(List Ex)) (level2:Int) (g0:YF2):O:=
 gx [((0:Int),(999999:Int),(4:Int),(0:UInt8)),((0:Int),(25:Int),(4:Int),(0:UInt8)),((1:Int),(0:Int),(3:Int),(45:UInt8)),((2:Int),(0:Int),(1:Int),(43:UInt8)),((2:Int),(0:Int),(1:Int),(45:UInt8)),((2:Int),(0:Int),(2:Int),(42:UInt8)),((2:Int),(0:Int),(2:Int),(47:UInt8)),((2:Int),(0:Int),(3:Int),(94:UInt8)),((1:Int),(0:Int),(4:Int),(82:UInt8)),((2:Int),(0:Int),(0:Int),(61:UInt8)),((2:Int),(0:Int),(0:Int),(60:UInt8))] e1_0 fun y0=>
 br (decide (y0.2.2.1 < level2))
  (ck (lim (g0++[(40:UInt8)]).length (1:Nat)) <|
  ck ((N.2 e1_0 e1_1 e1_2 (0:Int) (g0++[(40:UInt8)])).isSome) <|
  ck (lim ((N.2 e1_0 e1_1 e1_2 (0:Int) (g0++[(40:UInt8)])).getD []++[(41:UInt8)]).length (1:Nat)) <|
  some (w61r0 ((N.2 e1_0 e1_1 e1_2 (0:Int) (g0++[(40:UInt8)])).getD []++[(41:UInt8)])))
  (br (decide (e1_0=0))
   (ck (w90p N.1 e1_1 (10:Int) g0) <|
   some (w61r0 (w90y0 N.1 e1_1 (10:Int) g0)))
   (br (decide (e1_0=1))
    (ck (lim (g0++[u8of (IntKind.i64.wrap ((97:Int)+e1_1))]).length (1:Nat)) <|
    some (w61r0 (g0++[u8of (IntKind.i64.wrap ((97:Int)+e1_1))])))
    (br (decide (e1_0=2))
     (ck (lim (g0++[(45:UInt8)]).length (1:Nat)) <|
     gx e1_2 0 fun y1=>
     ck ((N.2 y1.op y1.num y1.kids (3:Int) (g0++[(45:UInt8)])).isSome) <|
     some (w61r0 ((N.2 y1.op y1.num y1.kids (3:Int) (g0++[(45:UInt8)])).getD [])))
     (br (decide (e1_0=8))
      (ck (lim (g0++lF2x0).length (1:Nat)) <|
      gx e1_2 0 fun y2=>
      ck ((N.2 y2.op y2.num y2.kids (1:Int) (g0++lF2x0)).isSome) <|
      ck (lim ((N.2 y2.op y2.num y2.kids (1:Int) (g0++lF2x0)).getD []++[(41:UInt8)]).length (1:Nat)) <|
      some (w61r0 ((N.2 y2.op y2.num y2.kids (1:Int) (g0++lF2x0)).getD []++[(41:UInt8)])))
      (br (decide (e1_0=7))
       (gx e1_2 0 fun y3=>
       ck ((N.2 y3.op y3.num y3.kids (4:Int) g0).isSome) <|
       ck (lim ((N.2 y3.op y3.num y3.kids (4:Int) g0).getD []++[(94:UInt8)]).length (1:Nat)) <|
       gx e1_2 1 fun y4=>
       ck ((N.2 y4.op y4.num y4.kids (3:Int) ((N.2 y3.op y3.num y3.kids (4:Int) g0).getD []++[(94:UInt8)])).isSome) <|
       some (w61r0 ((N.2 y4.op y4.num y4.kids (3:Int) ((N.2 y3.op y3.num y3.kids (4:Int) g0).getD []++[(94:UInt8)])).getD [])))
       (gx e1_2 0 fun y5=>
       ck ((N.2 y5.op y5.num y5.kids (max (1:Int) y0.2.2.1) g0).isSome) <|
       ck (lim ((N.2 y5.op y5.num y5.kids (max (1:Int) y0.2.2.1) g0).getD []++[y0.2.2.2]).length (1:Nat)) <|
       gx e1_2 1 fun y6=>
       ck ((N.2 y6.op y6.num y6.kids (IntKind.i64.wrap (y0.2.2.1+1)) ((N.2 y5.op y5.num y5.kids (max (1:Int) y0.2.2.1) g0).getD []++[y0.2.2.2])).isSome) <|
       some (w61r0 ((N.2 y6.op y6.num y6.kids (IntKind.i64.wrap (y0.2.2.1+1)) ((N.2 y5.op y5.num y5.kids (max (1:Int) y0.2.2.1) g0).getD []++[y0.2.2.2])).getD []))))))))
def w61 [Alg] (N:w61T) (e1_0 e1_1:Int) (e1_2:(List Ex)) (level2:Int) (g0:YF2):O:=w61G N  e1_0 e1_1 e1_2 level2 g0
def w61h [Alg] (_:w61T):Hint:=(.seq .d (.seq .d (.seq (.seq .d (.cond (.seq (.reg [] [] [[],[],[212,50],[],[228,212],[],[244,228],[]]) .d) .d)) (.seq (.seq .d (.block (.seq .d (.cond .d (.seq .d (.cond .d (.seq .d (.cond (.seq (.reg [] [] [[],[],[276,50],[],[],[],[],[316,276],[]]) .d) (.seq .d (.cond (.seq (.reg [] [] [[],[],[292,50],[],[],[],[],[332,292],[],[348,332],[]]) .d) (.seq .d (.cond (.seq (.reg [] [] [[],[],[],[],[],[332,50],[],[348,332],[],[],[],[],[388,348],[]]) .d) .d)))))))))))) (.seq (.reg [] [] [[],[],[],[],[],[],[],[],[356,50],[],[],[],[388,356],[],[],[],[],[],[],[],[452,388],[]]) .d)))))
theorem w61hk (N:w61T):HintOk (w61c N) Tryz.f61.ntmps (w61h N) w61b:=hk_of _ _ (And.intro trivial (And.intro trivial (And.intro (And.intro trivial (And.intro (And.intro trivial trivial) trivial)) (And.intro (And.intro trivial (And.intro trivial (And.intro trivial (And.intro trivial (And.intro trivial (And.intro trivial (And.intro (And.intro trivial trivial) (And.intro trivial (And.intro (And.intro trivial trivial) (And.intro trivial (And.intro (And.intro trivial trivial) trivial))))))))))) (And.intro trivial trivial)))))
theorem w61q [Alg] (N:w61T) (e1_0 e1_1:Int) (e1_2:(List Ex)) (level2:Int) (g0:YF2):w61G N  e1_0 e1_1 e1_2 level2 g0=exec (w61c N) Tryz.f61.ntmps (w61h N) w61b ⟨argT 0 [.own 50,.agg [.e (.i .i64) e1_0,.e (.i .i64) e1_1,.e (.sl .ex) e1_2],.e (.i .i64) level2],[(50,.row 5 .u8 g0 true)],100⟩ (finX (w61c N) Tryz.f61 true):=by kernel_rfl
def w61un (r:Res):Option (YF2):=match r with
 | (.own 100,[(100,x0)])=>(match ur 5 .u8 true x0 with | some a0=>some a0 | _=>none)
 | _=>none
theorem w61uo {r:Res} {d:YF2} (h:w61un r=some d):r=w61r0 (d):=by
 unfold w61un at h
 split at h
 ·split at h
  ·rename_i h0;cases h;rw [ur_some h0];rfl
  ·cases h
 ·cases h
def w61z (N:w61T) (e1_0 e1_1:Int) (e1_2:(List Ex)) (level2:Int) (g0:YF2):Option (YF2):=(w61 N e1_0 e1_1 e1_2 level2 g0).bind w61un
theorem w61fin {N:w61T} (hc:CxOk (w61c N)) {e1_0 e1_1:Int} {e1_2:(List Ex)} {level2:Int} {g0 d:YF2} (hd:w61z N e1_0 e1_1 e1_2 level2 g0=some d):Does Tryz.prog 61 (([.own 50,.agg [.e (.i .i64) e1_0,.e (.i .i64) e1_1,.e (.sl .ex) e1_2],.e (.i .i64) level2]:List X).map X.D) (HA [(50,.row 5 .u8 g0 true)]) (w61r0 (d)).1.D (HA (w61r0 (d)).2):=by
 obtain ⟨r,hr,hu⟩:=Option.bind_eq_some_iff.1 hd
 have:=fun_ok (r:=r) hc (f:=61) (fn:=Tryz.f61) (code:=w61b) (by kernel_rfl) (by kernel_rfl) (w61hk N) (Nat.le_of_ble_eq_true (by kernel_rfl)) (ow:=true) ((w61q N e1_0 e1_1 e1_2 level2 g0).symm.trans (by exact hr))
 rw [w61uo hu] at this
 exact this
def w61gY (N:Nat):Nat->(Int->Int->(List Ex)->Int->YF2->Option (YF2))
 | 0=>fun _ _ _ _ _=>none
 | n+1=>fun e1_0 e1_1 e1_2 level2 g0=>w61z (N,w61gY N n) e1_0 e1_1 e1_2 level2 g0
theorem w61gYok (N:Nat):∀ n,EOk Tryz.prog 61 (w61E (N,w61gY N n))
 | 0=>withNil_ok <| entR_ok w61io (fun _ h=>by cases h)
 | n+1=>
   have ih:=w61gYok N n
   withNil_ok <| entR_ok w61io (fun d h=>norStep (zz:=w61z (N,w61gY N n) (d.1) (d.2.1) (d.2.2.1) (d.2.2.2.1) (d.2.2.2.2)) (R:=fun y=>w61r0 (y)) (d0:=[]) (fun _ hy=>w61fin (w61cx (N,w61gY N n) ih) hy) h)
def w61p (N:Nat) (e1_0 e1_1:Int) (e1_2:(List Ex)) (level2:Int) (g0:YF2):Bool:=((w61gY N N) e1_0 e1_1 e1_2 level2 g0).isSome
def w61y0 (N:Nat) (e1_0 e1_1:Int) (e1_2:(List Ex)) (level2:Int) (g0:YF2):YF2:=(((w61gY N N) e1_0 e1_1 e1_2 level2 g0).getD [])
def w61e (N:Nat):Ent':=withNil 5 .u8 <| entR w61in (fun d=>w61p N (d.1) (d.2.1) (d.2.2.1) (d.2.2.2.1) (d.2.2.2.2)) (fun d=>w61r0 (w61y0 N (d.1) (d.2.1) (d.2.2.1) (d.2.2.2.1) (d.2.2.2.2)))
theorem w61ok (N:Nat):EOk Tryz.prog 61 (w61e N):=w61gYok N N
def w35r0 (a0:YF2):Res:=(.e .tx a0,[])
def w35L (N:Nat):List (Nat×Ent'):=[(29,w29e N),(61,w61e N)]
def w35c (N:Nat):Cx:=⟨Tryz.prog,25,w35L N,[]⟩
def w35b:Code:=Tryz.f35.body.getD .skip
theorem w35cx (N:Nat):CxOk (w35c N):=ctx_ok (by kernel_rfl) (.cons (by kernel_rfl) (w29ok N) (.cons (by kernel_rfl) (w61ok N) .nil)) .nil
def w35G [Alg] (N:Nat)  (A B:Int) (C:(List Ex)):O:=
 ck (w29p N A B C) <|
 br (decide (w29y0 N A B C≠(0:Int)))
  (some (w35r0 []))
  (ck (w61p N A B C (0:Int) []) <|
  some (w35r0 (w61y0 N A B C (0:Int) [])))
def w35 [Alg] (N:Nat) (A B:Int) (C:(List Ex)):O:=w35G N  A B C
def w35h [Alg] (_:Nat):Hint:=.d
theorem w35hk (N:Nat):HintOk (w35c N) Tryz.f35.ntmps (w35h N) w35b:=hk_of _ _ trivial
theorem w35q [Alg] (N:Nat) (A B:Int) (C:(List Ex)):w35G N  A B C=exec (w35c N) Tryz.f35.ntmps (w35h N) w35b ⟨argT 0 [.agg [.e (.i .i64) A,.e (.i .i64) B,.e (.sl .ex) C]],[],100⟩ (finX (w35c N) Tryz.f35 false):=by kernel_rfl
def w35un (r:Res):Option (YF2):=match r with
 | (x0,[])=>(match ue .tx x0 with | some a0=>some a0 | _=>none)
 | _=>none
theorem w35uo {r:Res} {d:YF2} (h:w35un r=some d):r=w35r0 (d):=by
 unfold w35un at h
 split at h
 ·split at h
  ·rename_i h0;cases h;rw [ue_some h0];rfl
  ·cases h
 ·cases h
def w35z (N:Nat) (A B:Int) (C:(List Ex)):Option (YF2):=(w35 N A B C).bind w35un
theorem w35fin {N:Nat} (hc:CxOk (w35c N)) {A B:Int} {C:(List Ex)} {d:YF2} (hd:w35z N A B C=some d):Does Tryz.prog 35 (([.agg [.e (.i .i64) A,.e (.i .i64) B,.e (.sl .ex) C]]:List X).map X.D) (HA []) (w35r0 (d)).1.D (HA (w35r0 (d)).2):=by
 obtain ⟨r,hr,hu⟩:=Option.bind_eq_some_iff.1 hd
 have:=fun_ok (r:=r) hc (f:=35) (fn:=Tryz.f35) (code:=w35b) (by kernel_rfl) (by kernel_rfl) (w35hk N) (Nat.le_of_ble_eq_true (by kernel_rfl)) (ow:=false) ((w35q N A B C).symm.trans (by exact hr))
 rw [w35uo hu] at this
 exact this
def w35p (N:Nat) (A B:Int) (C:(List Ex)):Bool:=(w35z N A B C).isSome
def w35y0 (N:Nat) (A B:Int) (C:(List Ex)):YF2:=((w35z N A B C).getD [])
def w35e (N:Nat):Ent':=E1 .ex  (fun x0=>(w35p N (Ex.op x0) (Ex.num x0) (Ex.kids x0),w35r0 (w35y0 N (Ex.op x0) (Ex.num x0) (Ex.kids x0))))
theorem w35re {N:Nat} {A B:Int} {C:(List Ex)} {d:YF2} (hd:w35z N A B C=some d):w35r0 (w35y0 N A B C)=w35r0 (d):=by unfold w35y0;rw [hd];rfl
theorem w35ok (N:Nat):EOk Tryz.prog 35 (w35e N):=EOk.e1 (fun x0 h=>by
 have h:(w35z N (Ex.op x0) (Ex.num x0) (Ex.kids x0)).isSome=true:=h
 obtain ⟨d,hd⟩:=Option.isSome_iff_exists.1 h
 have f:=w35fin (w35cx N) hd
 rw [← w35re hd] at f
 exact f)
def w54r0 (a0:Bool):Res:=(.e .bo a0,[])
def w54in (xs:List X) (H:XH):Option ((List Ex)×(List Ex)):=match xs,H with
 | [x0,x1,.fn 32 []],[]=>(match ue (.sl .ex) x0,ue (.sl .ex) x1 with | some a0,some a1=>some (a0,a1) | _,_=>none)
 | _,_=>none
theorem w54io {xs:List X} {H:XH} {d:(List Ex)×(List Ex)} (h:w54in xs H=some d):xs=[.e (.sl .ex) (d.1),.e (.sl .ex) (d.2),.fn 32 []]/\H=[]:=by
 unfold w54in at h
 split at h
 ·split at h
  ·rename_i h0 h1;cases h;rw [ue_some h0,ue_some h1];exact ⟨rfl,rfl⟩
  ·cases h
 ·cases h
abbrev w54T:=Nat×(((List Ex)->(List Ex)->Option (Bool))×(Int->Int->(List Ex)->Int->Int->(List Ex)->Option (Bool)))
def w54E (N:w54T):Ent':=entR w54in (fun d=>(N.2.1 (d.1) (d.2)).isSome) (fun d=>w54r0 (((N.2.1 (d.1) (d.2)).getD false)))
def w32r0 (a0:Bool):Res:=(.e .bo a0,[])
def w32in (xs:List X) (H:XH):Option (Int×Int×(List Ex)×Int×Int×(List Ex)):=match xs,H with
 | [.agg [x0,x1,x2],.agg [x3,x4,x5]],[]=>(match ue (.i .i64) x0,ue (.i .i64) x1,ue (.sl .ex) x2,ue (.i .i64) x3,ue (.i .i64) x4,ue (.sl .ex) x5 with | some a0,some a1,some a2,some a3,some a4,some a5=>some (a0,a1,a2,a3,a4,a5) | _,_,_,_,_,_=>none)
 | _,_=>none
theorem w32io {xs:List X} {H:XH} {d:Int×Int×(List Ex)×Int×Int×(List Ex)} (h:w32in xs H=some d):xs=[.agg [.e (.i .i64) (d.1),.e (.i .i64) (d.2.1),.e (.sl .ex) (d.2.2.1)],.agg [.e (.i .i64) (d.2.2.2.1),.e (.i .i64) (d.2.2.2.2.1),.e (.sl .ex) (d.2.2.2.2.2)]]/\H=[]:=by
 unfold w32in at h
 split at h
 ·split at h
  ·rename_i h0 h1 h2 h3 h4 h5;cases h;rw [ue_some h0,ue_some h1,ue_some h2,ue_some h3,ue_some h4,ue_some h5];exact ⟨rfl,rfl⟩
  ·cases h
 ·cases h
def w32E (N:w54T):Ent':=entR w32in (fun d=>(N.2.2 (d.1) (d.2.1) (d.2.2.1) (d.2.2.2.1) (d.2.2.2.2.1) (d.2.2.2.2.2)).isSome) (fun d=>w32r0 (((N.2.2 (d.1) (d.2.1) (d.2.2.1) (d.2.2.2.1) (d.2.2.2.2.1) (d.2.2.2.2.2)).getD false)))
def w54L (N:w54T):List (Nat×Ent'):=[(54,w54E N),(32,w32E N)]
def w54c (N:w54T):Cx:=⟨Tryz.prog,25,w54L N,[]⟩
def w54b:Code:=Tryz.f54.body.getD .skip
theorem w54cx (N:w54T) (hw69:EOk Tryz.prog 54 (w54E N)) (hw38:EOk Tryz.prog 32 (w32E N)):CxOk (w54c N):=ctx_ok (by kernel_rfl) (.cons (by kernel_rfl) hw69 (.cons (by kernel_rfl) hw38 .nil)) .nil
def w54F0 [Alg] (N:w54T)  (self:Int->O) (k0:Bool->O) (k1:Unit->O) (x0_0 x0_1:(List Ex)) (x0_2 x0_3:Int):O:=
 br (decide (x0_3 < x0_2))
  (gx x0_1 x0_3 fun y5=>
  gx x0_0 x0_3 fun y6=>
  ck ((N.snd.2 y5.op y5.num y5.kids y6.op y6.num y6.kids).isSome) <|
  br (!(N.snd.2 y5.op y5.num y5.kids y6.op y6.num y6.kids).getD false)
   (k0 false)
   (self (IntKind.i64.wrap (x0_3+1))))
  (k1 ())
def w54b0:Code:=atC [1,1,0,1,0,0] w54b
def w54m0:Nm:=⟨[1,2,15,16,17],[],[]⟩
def w54I0 (x:(List Ex)×(List Ex)×Int×Int):Sg:=⟨[(1,.e (.sl .ex) x.1),(2,.fn 32 []),(15,.e (.sl .ex) x.2.1),(16,.e (.i .i64) x.2.2.1),(17,.e (.i .i64) x.2.2.2)],[],100⟩
def w54u0 (σ:Sg):(List Ex)×(List Ex)×Int×Int:=(lvT (.sl .ex) 1 0 σ,lvT (.sl .ex) 15 0 σ,lvT (.i .i64) 16 0 σ,lvT (.i .i64) 17 0 σ)
theorem w54ui0:∀ x,w54u0 (w54I0 x)=x:=fun _=>by kernel_rfl
def w54X0_0 (y:Bool):Exit×Sg:=(.ret,⟨[(6,.e .bo y)],[],100⟩)
def w54v0_0 (_:Exit) (σ:Sg):Bool:=lvT .bo 6 0 σ
def w54X0_1 (_:Unit):Exit×Sg:=((.exit 0),⟨[],[],100⟩)
def w54v0_1 (_:Exit) (_:Sg):Unit:=()
def w54w0:List (Exit×Nm):=[(.ret,⟨[6],[],[]⟩),((.exit 0),⟨[],[],[]⟩)]
theorem w54o0:Outs w54v0_0 w54v0_1 (fun _ _=>()) w54X0_0 w54X0_1 (noX 2) (exC .ret) (exC (.exit 0)) (exC (.goto 2)):=⟨fun _=>by kernel_rfl,fun _=>by kernel_rfl,fun _=>by kernel_rfl,fun _=>by kernel_rfl,fun _=>by kernel_rfl,fun _=>by kernel_rfl,exNe_ok (by kernel_rfl),exNe_ok (by kernel_rfl),exNe_ok (by kernel_rfl)⟩
def w54l0 [Alg] (N:w54T):Nat->((List Ex)×(List Ex)×Int×Int)->((Bool)->O)->((Unit)->O)->((Unit)->O)->O
 | 0,_,_,_,_=>none
 | n+1,x,k0,k1,k2=>w54F0 N  (fun v0=>w54l0 N n (x.1,x.2.1,x.2.2.1,v0) k0 k1 k2) (fun y0=>k0 y0) (fun (_:Unit)=>k1 ()) x.1 x.2.1 x.2.2.1 x.2.2.2
def w54n0 [Alg] (N:w54T) (a0 a1:(List Ex)) (a2 a3:Int) (k0:Bool->O) (k1:Unit->O):O:=w54l0 N N.1 (a0,a1,a2,a3) (fun y=>k0 y) (fun y=>k1 y) (fun _=>none)
def w54s0 [Alg] (N:w54T) (a0 a1:(List Ex)) (a2 a3:Int) (k0:Bool->O) (k1:Unit->O):O:=subL w54I0 w54u0 (w54l0 N N.1) (w54I0 (a0,a1,a2,a3)) (fun y=>k0 y) (fun y=>k1 y) (fun _=>none)
theorem w54e0 [Alg] (N:w54T):w54s0 N=w54n0 N:=funext fun _=>funext fun _=>funext fun _=>funext fun _=>funext fun _=>funext fun _=>subL_I w54ui0 _ _ _ _
def w54h0 [Alg] (_:w54T):Hint:=.d
theorem w54hk0 (N:w54T):HintOk (w54c N) Tryz.f54.ntmps (w54h0 N) w54b0:=hk_of _ _ trivial
theorem w54q0 [Alg] (N:w54T) (self:Sg->O) (K:Exit->Sg->O) (x:(List Ex)×(List Ex)×Int×Int):w54F0 N  (fun v0=>self (w54I0 (x.1,x.2.1,x.2.2.1,v0))) (fun y0=>K (w54X0_0 y0).1 (w54X0_0 y0).2) (fun (_:Unit)=>K (w54X0_1 ()).1 (w54X0_1 ()).2) x.1 x.2.1 x.2.2.1 x.2.2.2=exec (w54c N) Tryz.f54.ntmps (w54h0 N) w54b0 (w54I0 x) (roundX w54m0 w54w0 self K):=by kernel_rfl
theorem w54S0 (N:w54T) (hc:CxOk (w54c N)):SubOk (w54c N) Tryz.f54.ntmps (.loop w54b0) w54X0_0 w54X0_1 (noX 2) (subL w54I0 w54u0 (w54l0 N N.1)):=
 sub_loop hc (w54hk0 N) w54o0 (n:=N.1) (fun x K=>loop_ind (w54l0 N) (fun _ _ _ _=>rfl) (fun n K ih x=>by
  refine Eq.trans ?_ (w54q0 N _ K x)
  simp only [← ih]
  rfl) N.1 x K)
def w54G [Alg] (_:w54T) (in0:(List Ex)->(List Ex)->Int->Int->(Bool->O)->(Unit->O)->O) (s10 s21:(List Ex)):O:=
 br (decide ((↑s10.length:Int)≠(↑s21.length:Int)))
  (some (w54r0 false))
  (in0 s21 s10 ((↑s10.length:Int)) 0
   (fun z7=>
    some (w54r0 z7))
   (fun (_:Unit)=>
    some (w54r0 true)))
def w54 [Alg] (N:w54T) (s10 s21:(List Ex)):O:=w54G N (w54n0 N) s10 s21
def w54h [Alg] (N:w54T):Hint:=(.seq .d (.seq .d (.seq (.seq .d (.block (.sub w54m0 _ _ _ w54X0_0 w54X0_1 (noX 2) (subL w54I0 w54u0 (w54l0 N N.1))))) .d)))
theorem w54hk (N:w54T) (hc:CxOk (w54c N)):HintOk (w54c N) Tryz.f54.ntmps (w54h N) w54b:=hk_of _ _ (And.intro trivial (And.intro trivial (And.intro (And.intro trivial (w54S0 N hc)) trivial)))
theorem w54q [Alg] (N:w54T) (s10 s21:(List Ex)):w54G N (w54s0 N) s10 s21=exec (w54c N) Tryz.f54.ntmps (w54h N) w54b ⟨argT 0 [.e (.sl .ex) s10,.e (.sl .ex) s21,.fn 32 []],[],100⟩ (finX (w54c N) Tryz.f54 false):=by kernel_rfl
def w54un (r:Res):Option (Bool):=match r with
 | (x0,[])=>(match ue .bo x0 with | some a0=>some a0 | _=>none)
 | _=>none
theorem w54uo {r:Res} {d:Bool} (h:w54un r=some d):r=w54r0 (d):=by
 unfold w54un at h
 split at h
 ·split at h
  ·rename_i h0;cases h;rw [ue_some h0];rfl
  ·cases h
 ·cases h
def w54z (N:w54T) (s10 s21:(List Ex)):Option (Bool):=(w54 N s10 s21).bind w54un
theorem w54fin {N:w54T} (hc:CxOk (w54c N)) {s10 s21:(List Ex)} {d:Bool} (hd:w54z N s10 s21=some d):Does Tryz.prog 54 (([.e (.sl .ex) s10,.e (.sl .ex) s21,.fn 32 []]:List X).map X.D) (HA []) (w54r0 (d)).1.D (HA (w54r0 (d)).2):=by
 obtain ⟨r,hr,hu⟩:=Option.bind_eq_some_iff.1 hd
 have:=fun_ok (r:=r) hc (f:=54) (fn:=Tryz.f54) (code:=w54b) (by kernel_rfl) (by kernel_rfl) (w54hk N hc) (Nat.le_of_ble_eq_true (by kernel_rfl)) (ow:=false) ((w54q N s10 s21).symm.trans (by rw [w54e0 N];exact hr))
 rw [w54uo hu] at this
 exact this
def w32L (N:w54T):List (Nat×Ent'):=[(54,w54E N),(32,w32E N)]
def w32c (N:w54T):Cx:=⟨Tryz.prog,25,w32L N,[]⟩
def w32b:Code:=Tryz.f32.body.getD .skip
theorem w32cx (N:w54T) (hw69:EOk Tryz.prog 54 (w54E N)) (hw38:EOk Tryz.prog 32 (w32E N)):CxOk (w32c N):=ctx_ok (by kernel_rfl) (.cons (by kernel_rfl) hw69 (.cons (by kernel_rfl) hw38 .nil)) .nil
def w32G [Alg] (N:w54T)  (a0_0 a0_1:Int) (a0_2:(List Ex)) (b1_0 b1_1:Int) (b1_2:(List Ex)):O:=
 ck (!(decide (a0_0=b1_0)&&decide (a0_1=b1_1))||(N.snd.1 a0_2 b1_2).isSome) <|
 some (w32r0 (decide (a0_0=b1_0)&&decide (a0_1=b1_1)&&(N.snd.1 a0_2 b1_2).getD false))
def w32 [Alg] (N:w54T) (a0_0 a0_1:Int) (a0_2:(List Ex)) (b1_0 b1_1:Int) (b1_2:(List Ex)):O:=w32G N  a0_0 a0_1 a0_2 b1_0 b1_1 b1_2
def w32h [Alg] (_:w54T):Hint:=.d
theorem w32hk (N:w54T):HintOk (w32c N) Tryz.f32.ntmps (w32h N) w32b:=hk_of _ _ trivial
theorem w32q [Alg] (N:w54T) (a0_0 a0_1:Int) (a0_2:(List Ex)) (b1_0 b1_1:Int) (b1_2:(List Ex)):w32G N  a0_0 a0_1 a0_2 b1_0 b1_1 b1_2=exec (w32c N) Tryz.f32.ntmps (w32h N) w32b ⟨argT 0 [.agg [.e (.i .i64) a0_0,.e (.i .i64) a0_1,.e (.sl .ex) a0_2],.agg [.e (.i .i64) b1_0,.e (.i .i64) b1_1,.e (.sl .ex) b1_2]],[],100⟩ (finX (w32c N) Tryz.f32 false):=by kernel_rfl
def w32un (r:Res):Option (Bool):=match r with
 | (x0,[])=>(match ue .bo x0 with | some a0=>some a0 | _=>none)
 | _=>none
theorem w32uo {r:Res} {d:Bool} (h:w32un r=some d):r=w32r0 (d):=by
 unfold w32un at h
 split at h
 ·split at h
  ·rename_i h0;cases h;rw [ue_some h0];rfl
  ·cases h
 ·cases h
def w32z (N:w54T) (a0_0 a0_1:Int) (a0_2:(List Ex)) (b1_0 b1_1:Int) (b1_2:(List Ex)):Option (Bool):=(w32 N a0_0 a0_1 a0_2 b1_0 b1_1 b1_2).bind w32un
theorem w32fin {N:w54T} (hc:CxOk (w32c N)) {a0_0 a0_1:Int} {a0_2:(List Ex)} {b1_0 b1_1:Int} {b1_2:(List Ex)} {d:Bool} (hd:w32z N a0_0 a0_1 a0_2 b1_0 b1_1 b1_2=some d):Does Tryz.prog 32 (([.agg [.e (.i .i64) a0_0,.e (.i .i64) a0_1,.e (.sl .ex) a0_2],.agg [.e (.i .i64) b1_0,.e (.i .i64) b1_1,.e (.sl .ex) b1_2]]:List X).map X.D) (HA []) (w32r0 (d)).1.D (HA (w32r0 (d)).2):=by
 obtain ⟨r,hr,hu⟩:=Option.bind_eq_some_iff.1 hd
 have:=fun_ok (r:=r) hc (f:=32) (fn:=Tryz.f32) (code:=w32b) (by kernel_rfl) (by kernel_rfl) (w32hk N) (Nat.le_of_ble_eq_true (by kernel_rfl)) (ow:=false) ((w32q N a0_0 a0_1 a0_2 b1_0 b1_1 b1_2).symm.trans (by exact hr))
 rw [w32uo hu] at this
 exact this
def w54gY (N:Nat):Nat->((List Ex)->(List Ex)->Option (Bool))×(Int->Int->(List Ex)->Int->Int->(List Ex)->Option (Bool))
 | 0=>(fun _ _=>none,fun _ _ _ _ _ _=>none)
 | n+1=>(fun s10 s21=>w54z (N,w54gY N n) s10 s21,fun a0_0 a0_1 a0_2 b1_0 b1_1 b1_2=>w32z (N,w54gY N n) a0_0 a0_1 a0_2 b1_0 b1_1 b1_2)
theorem w54gYok (N:Nat):∀ n,EOk Tryz.prog 54 (w54E (N,w54gY N n))/\EOk Tryz.prog 32 (w32E (N,w54gY N n))
 | 0=>⟨entR_ok w54io (fun _ h=>by cases h),entR_ok w32io (fun _ h=>by cases h)⟩
 | n+1=>
   have ih:=w54gYok N n
   ⟨entR_ok w54io (fun d h=>norStep (zz:=w54z (N,w54gY N n) (d.1) (d.2)) (R:=fun y=>w54r0 (y)) (d0:=false) (fun _ hy=>w54fin (w54cx (N,w54gY N n) ih.1 ih.2) hy) h),entR_ok w32io (fun d h=>norStep (zz:=w32z (N,w54gY N n) (d.1) (d.2.1) (d.2.2.1) (d.2.2.2.1) (d.2.2.2.2.1) (d.2.2.2.2.2)) (R:=fun y=>w32r0 (y)) (d0:=false) (fun _ hy=>w32fin (w32cx (N,w54gY N n) ih.1 ih.2) hy) h)⟩
def w32p (N:Nat) (a0_0 a0_1:Int) (a0_2:(List Ex)) (b1_0 b1_1:Int) (b1_2:(List Ex)):Bool:=((w54gY N N).2 a0_0 a0_1 a0_2 b1_0 b1_1 b1_2).isSome
def w32y0 (N:Nat) (a0_0 a0_1:Int) (a0_2:(List Ex)) (b1_0 b1_1:Int) (b1_2:(List Ex)):Bool:=(((w54gY N N).2 a0_0 a0_1 a0_2 b1_0 b1_1 b1_2).getD false)
def w32e (N:Nat):Ent':=entR w32in (fun d=>w32p N (d.1) (d.2.1) (d.2.2.1) (d.2.2.2.1) (d.2.2.2.2.1) (d.2.2.2.2.2)) (fun d=>w32r0 (w32y0 N (d.1) (d.2.1) (d.2.2.1) (d.2.2.2.1) (d.2.2.2.2.1) (d.2.2.2.2.2)))
theorem w32ok (N:Nat):EOk Tryz.prog 32 (w32e N):=(w54gYok N N).2
end
end Go.Proofs
