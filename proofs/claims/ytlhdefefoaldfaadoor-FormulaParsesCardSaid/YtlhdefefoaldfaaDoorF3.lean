/- What functions do: the reference. Conditions are in the theorems. -/
import Derived.Test.YtlhdefefoaldfaaDoorE7
import Derived.Test.YtlhdefefoaldfaaDoorProg
import Derived.KernelRfl
import Derived.Test.YtlhdefefoaldfaaDoorF0
/- What functions do. -/
namespace Go.Proofs
noncomputable section
open Go.Ax Go.Ax.Alg Go.RowKit Go.Ab
open Go
abbrev lF3x0:List UInt8:=[(48:UInt8),(49:UInt8),(50:UInt8),(51:UInt8),(32:UInt8),(43:UInt8),(45:UInt8),(42:UInt8),(47:UInt8),(94:UInt8),(40:UInt8),(41:UInt8),(61:UInt8),(60:UInt8),(82:UInt8),(97:UInt8),(98:UInt8),(122:UInt8),(46:UInt8),(65:UInt8)]
def w46r0 (a0:Int):Res:=(.e (.i .i64) a0,[])
noncomputable def w46L (_:Nat):List (Nat×Ent'):=[]
noncomputable def w46c (N:Nat):Cx:=⟨Tryd.prog,25,w46L N,[]⟩
noncomputable def w46b:Code:=Tryd.f46.body.getD .skip
theorem w46cx (N:Nat):CxOk (w46c N):=ctx_ok (by kernel_rfl) .nil .nil
def w46G [Alg] (_:Nat)  (n0 most1:Int):O:=
 br (decide (n0 < (0:Int)))
  (br (decide (most1 < (1:Int)))
   (some (w46r0 ((0:Int))))
   (ck (decide (most1≠(0:Int))) <|
   some (w46r0 ((IntKind.i64.wrap (-IntKind.i64.wrap (n0+(1:Int)))).tmod most1))))
  (br (decide (most1 < (1:Int)))
   (some (w46r0 ((0:Int))))
   (ck (decide (most1≠(0:Int))) <|
   some (w46r0 (n0.tmod most1))))
def w46 [Alg] (N:Nat) (n0 most1:Int):O:=w46G N  n0 most1
noncomputable def w46h [Alg] (_:Nat):Hint:=.d
theorem w46hk (N:Nat):HintOk (w46c N) Tryd.f46.ntmps (w46h N) w46b:=hk_of _ _ trivial
theorem w46q [Alg] (N:Nat) (n0 most1:Int):w46G N  n0 most1=exec (w46c N) Tryd.f46.ntmps (w46h N) w46b ⟨argT 0 [.e (.i .i64) n0,.e (.i .i64) most1],[],100⟩ (finX (w46c N) Tryd.f46 false):=by kernel_rfl
theorem w46does {N:Nat} (hc:CxOk (w46c N)) {n0 most1:Int} {r:Res} (h:w46 N n0 most1=some r):DoesR Tryd.prog 46 (([.e (.i .i64) n0,.e (.i .i64) most1]:List X).map X.D) (HA []) r:=
 fun_ok hc (f:=46) (fn:=Tryd.f46) (code:=w46b) (by kernel_rfl) (by kernel_rfl) (w46hk N) (Nat.le_of_ble_eq_true (by kernel_rfl)) (ow:=false) ((w46q N n0 most1).symm.trans (by exact h))
def w46un (r:Res):Option (Int):=match r with
 | (x0,[])=>(match ue (.i .i64) x0 with | some a0=>some a0 | _=>none)
 | _=>none
theorem w46uo {r:Res} {d:Int} (h:w46un r=some d):r=w46r0 (d):=by
 unfold w46un at h
 split at h
 ·split at h
  ·rename_i h0;cases h;rw [ue_some h0];rfl
  ·cases h
 ·cases h
def w46z (N:Nat) (n0 most1:Int):Option (Int):=(w46 N n0 most1).bind w46un
theorem w46fin {N:Nat} (hc:CxOk (w46c N)) {n0 most1 d:Int} (hd:w46z N n0 most1=some d):Does Tryd.prog 46 (([.e (.i .i64) n0,.e (.i .i64) most1]:List X).map X.D) (HA []) (w46r0 (d)).1.D (HA (w46r0 (d)).2):=by
 obtain ⟨r,hr,hu⟩:=Option.bind_eq_some_iff.1 hd
 have:=w46does hc hr
 rw [w46uo hu] at this
 exact this
def w46p (N:Nat) (n0 most1:Int):Bool:=(w46z N n0 most1).isSome
def w46y0 (N:Nat) (n0 most1:Int):Int:=((w46z N n0 most1).getD 0)
def w46e (N:Nat):Ent':=E2 (.i .i64) (.i .i64)  (fun x0 x1=>(w46p N x0 x1,w46r0 (w46y0 N x0 x1)))
theorem w46re {N:Nat} {n0 most1 d:Int} (hd:w46z N n0 most1=some d):w46r0 (w46y0 N n0 most1)=w46r0 (d):=by unfold w46y0;rw [hd];rfl
theorem w46ok (N:Nat):EOk Tryd.prog 46 (w46e N):=EOk.e2 (fun x0 x1 h=>by
 have h:(w46z N x0 x1).isSome=true:=h
 obtain ⟨d,hd⟩:=Option.isSome_iff_exists.1 h
 have f:=w46fin (w46cx N) hd
 rw [← w46re hd] at f
 exact f)
def w60r0 (a0:Int):Res:=(.e (.i .i64) a0,[])
noncomputable def w60L (N:Nat):List (Nat×Ent'):=[(46,w46e N)]
noncomputable def w60c (N:Nat):Cx:=⟨Tryd.prog,25,w60L N,[]⟩
noncomputable def w60b:Code:=Tryd.f60.body.getD .skip
theorem w60cx (N:Nat):CxOk (w60c N):=ctx_ok (by kernel_rfl) (.cons (by kernel_rfl) (w46ok N) .nil) .nil
def w60G [Alg] (N:Nat)  (l0:(List Int)) (i1 most2:Int):O:=
 br (decide (i1 < (0:Int))||decide ((↑l0.length:Int)≤i1))
  (some (w60r0 ((0:Int))))
  (gx l0 i1 fun y0=>
  ck (w46p N y0 most2) <|
  some (w60r0 (w46y0 N y0 most2)))
def w60 [Alg] (N:Nat) (l0:(List Int)) (i1 most2:Int):O:=w60G N  l0 i1 most2
noncomputable def w60h [Alg] (_:Nat):Hint:=.d
theorem w60hk (N:Nat):HintOk (w60c N) Tryd.f60.ntmps (w60h N) w60b:=hk_of _ _ trivial
theorem w60q [Alg] (N:Nat) (l0:(List Int)) (i1 most2:Int):w60G N  l0 i1 most2=exec (w60c N) Tryd.f60.ntmps (w60h N) w60b ⟨argT 0 [.e (.sl (.i .i64)) l0,.e (.i .i64) i1,.e (.i .i64) most2],[],100⟩ (finX (w60c N) Tryd.f60 false):=by kernel_rfl
theorem w60does {N:Nat} (hc:CxOk (w60c N)) {l0:(List Int)} {i1 most2:Int} {r:Res} (h:w60 N l0 i1 most2=some r):DoesR Tryd.prog 60 (([.e (.sl (.i .i64)) l0,.e (.i .i64) i1,.e (.i .i64) most2]:List X).map X.D) (HA []) r:=
 fun_ok hc (f:=60) (fn:=Tryd.f60) (code:=w60b) (by kernel_rfl) (by kernel_rfl) (w60hk N) (Nat.le_of_ble_eq_true (by kernel_rfl)) (ow:=false) ((w60q N l0 i1 most2).symm.trans (by exact h))
def w60un (r:Res):Option (Int):=match r with
 | (x0,[])=>(match ue (.i .i64) x0 with | some a0=>some a0 | _=>none)
 | _=>none
theorem w60uo {r:Res} {d:Int} (h:w60un r=some d):r=w60r0 (d):=by
 unfold w60un at h
 split at h
 ·split at h
  ·rename_i h0;cases h;rw [ue_some h0];rfl
  ·cases h
 ·cases h
def w60z (N:Nat) (l0:(List Int)) (i1 most2:Int):Option (Int):=(w60 N l0 i1 most2).bind w60un
theorem w60fin {N:Nat} (hc:CxOk (w60c N)) {l0:(List Int)} {i1 most2 d:Int} (hd:w60z N l0 i1 most2=some d):Does Tryd.prog 60 (([.e (.sl (.i .i64)) l0,.e (.i .i64) i1,.e (.i .i64) most2]:List X).map X.D) (HA []) (w60r0 (d)).1.D (HA (w60r0 (d)).2):=by
 obtain ⟨r,hr,hu⟩:=Option.bind_eq_some_iff.1 hd
 have:=w60does hc hr
 rw [w60uo hu] at this
 exact this
def w60p (N:Nat) (l0:(List Int)) (i1 most2:Int):Bool:=(w60z N l0 i1 most2).isSome
def w60y0 (N:Nat) (l0:(List Int)) (i1 most2:Int):Int:=((w60z N l0 i1 most2).getD 0)
def w60e (N:Nat):Ent':=E3 (.sl (.i .i64)) (.i .i64) (.i .i64)  (fun x0 x1 x2=>(w60p N x0 x1 x2,w60r0 (w60y0 N x0 x1 x2)))
theorem w60re {N:Nat} {l0:(List Int)} {i1 most2 d:Int} (hd:w60z N l0 i1 most2=some d):w60r0 (w60y0 N l0 i1 most2)=w60r0 (d):=by unfold w60y0;rw [hd];rfl
theorem w60ok (N:Nat):EOk Tryd.prog 60 (w60e N):=EOk.e3 (fun x0 x1 x2 h=>by
 have h:(w60z N x0 x1 x2).isSome=true:=h
 obtain ⟨d,hd⟩:=Option.isSome_iff_exists.1 h
 have f:=w60fin (w60cx N) hd
 rw [← w60re hd] at f
 exact f)
def w48r0 (a0:Int) (a1:(List Int)) (a2:Int):Res:=(.e (.i .i64) a0,[(50,.box 69 [.e (.sl (.i .i64)) a1,.e (.i .i64) a2])])
noncomputable def w48L (N:Nat):List (Nat×Ent'):=[(60,w60e N)]
noncomputable def w48c (N:Nat):Cx:=⟨Tryd.prog,25,w48L N,[]⟩
noncomputable def w48b:Code:=Tryd.f48.body.getD .skip
theorem w48cx (N:Nat):CxOk (w48c N):=ctx_ok (by kernel_rfl) (.cons (by kernel_rfl) (w60ok N) .nil) .nil
def w48G [Alg] (N:Nat)  (n1:Int) (g0:(List Int)) (g1:Int):O:=
 ck (w60p N g0 (IntKind.i64.wrap (IntKind.i64.wrap (g1+(1:Int)) - (1:Int))) n1) <|
 some (w48r0 (w60y0 N g0 (IntKind.i64.wrap (IntKind.i64.wrap (g1+(1:Int)) - (1:Int))) n1) g0 (IntKind.i64.wrap (g1+(1:Int))))
def w48 [Alg] (N:Nat) (n1:Int) (g0:(List Int)) (g1:Int):O:=w48G N  n1 g0 g1
noncomputable def w48h [Alg] (_:Nat):Hint:=.d
theorem w48hk (N:Nat):HintOk (w48c N) Tryd.f48.ntmps (w48h N) w48b:=hk_of _ _ trivial
theorem w48q [Alg] (N:Nat) (n1:Int) (g0:(List Int)) (g1:Int):w48G N  n1 g0 g1=exec (w48c N) Tryd.f48.ntmps (w48h N) w48b ⟨argT 0 [.ref 50 0,.e (.i .i64) n1],[(50,.box 69 [.e (.sl (.i .i64)) g0,.e (.i .i64) g1])],100⟩ (finX (w48c N) Tryd.f48 false):=by kernel_rfl
theorem w48does {N:Nat} (hc:CxOk (w48c N)) {n1:Int} {g0:(List Int)} {g1:Int} {r:Res} (h:w48 N n1 g0 g1=some r):DoesR Tryd.prog 48 (([.ref 50 0,.e (.i .i64) n1]:List X).map X.D) (HA [(50,.box 69 [.e (.sl (.i .i64)) g0,.e (.i .i64) g1])]) r:=
 fun_ok hc (f:=48) (fn:=Tryd.f48) (code:=w48b) (by kernel_rfl) (by kernel_rfl) (w48hk N) (Nat.le_of_ble_eq_true (by kernel_rfl)) (ow:=false) ((w48q N n1 g0 g1).symm.trans (by exact h))
def w48un (r:Res):Option (Int×(List Int)×Int):=match r with
 | (x0,[(50,.box 69 [x1,x2])])=>(match ue (.i .i64) x0,ue (.sl (.i .i64)) x1,ue (.i .i64) x2 with | some a0,some a1,some a2=>some (a0,a1,a2) | _,_,_=>none)
 | _=>none
theorem w48uo {r:Res} {d:Int×(List Int)×Int} (h:w48un r=some d):r=w48r0 (d.1) (d.2.1) (d.2.2):=by
 unfold w48un at h
 split at h
 ·split at h
  ·rename_i h0 h1 h2;cases h;rw [ue_some h0,ue_some h1,ue_some h2];rfl
  ·cases h
 ·cases h
def w48z (N:Nat) (n1:Int) (g0:(List Int)) (g1:Int):Option (Int×(List Int)×Int):=(w48 N n1 g0 g1).bind w48un
theorem w48fin {N:Nat} (hc:CxOk (w48c N)) {n1:Int} {g0:(List Int)} {g1:Int} {d:Int×(List Int)×Int} (hd:w48z N n1 g0 g1=some d):Does Tryd.prog 48 (([.ref 50 0,.e (.i .i64) n1]:List X).map X.D) (HA [(50,.box 69 [.e (.sl (.i .i64)) g0,.e (.i .i64) g1])]) (w48r0 (d.1) (d.2.1) (d.2.2)).1.D (HA (w48r0 (d.1) (d.2.1) (d.2.2)).2):=by
 obtain ⟨r,hr,hu⟩:=Option.bind_eq_some_iff.1 hd
 have:=w48does hc hr
 rw [w48uo hu] at this
 exact this
def w48p (N:Nat) (n1:Int) (g0:(List Int)) (g1:Int):Bool:=(w48z N n1 g0 g1).isSome
def w48y0 (N:Nat) (n1:Int) (g0:(List Int)) (g1:Int):Int:=((w48z N n1 g0 g1).getD (0,[],0)).1
def w48y1 (N:Nat) (n1:Int) (g0:(List Int)) (g1:Int):(List Int):=((w48z N n1 g0 g1).getD (0,[],0)).2.1
def w48y2 (N:Nat) (n1:Int) (g0:(List Int)) (g1:Int):Int:=((w48z N n1 g0 g1).getD (0,[],0)).2.2
def w48in (xs:List X) (H:XH):Option (Int×(List Int)×Int):=match xs,H with
 | [.ref 50 0,x0],[(50,.box 69 [x1,x2])]=>(match ue (.i .i64) x0,ue (.sl (.i .i64)) x1,ue (.i .i64) x2 with | some a0,some a1,some a2=>some (a0,a1,a2) | _,_,_=>none)
 | _,_=>none
theorem w48io {xs:List X} {H:XH} {d:Int×(List Int)×Int} (h:w48in xs H=some d):xs=[.ref 50 0,.e (.i .i64) (d.1)]∧H=[(50,.box 69 [.e (.sl (.i .i64)) (d.2.1),.e (.i .i64) (d.2.2)])]:=by
 unfold w48in at h
 split at h
 ·split at h
  ·rename_i h0 h1 h2;cases h;rw [ue_some h0,ue_some h1,ue_some h2];exact ⟨rfl,rfl⟩
  ·cases h
 ·cases h
def w48e (N:Nat):Ent':=fun xs H=>match w48in xs H with | some d=>some (w48p N (d.1) (d.2.1) (d.2.2),w48r0 (w48y0 N (d.1) (d.2.1) (d.2.2)) (w48y1 N (d.1) (d.2.1) (d.2.2)) (w48y2 N (d.1) (d.2.1) (d.2.2))) | none=>none
theorem w48re {N:Nat} {n1:Int} {g0:(List Int)} {g1:Int} {d:Int×(List Int)×Int} (hd:w48z N n1 g0 g1=some d):w48r0 (w48y0 N n1 g0 g1) (w48y1 N n1 g0 g1) (w48y2 N n1 g0 g1)=w48r0 (d.1) (d.2.1) (d.2.2):=by unfold w48y0 w48y1 w48y2;rw [hd];rfl
theorem w48ok (N:Nat):EOk Tryd.prog 48 (w48e N):=fun xs H pre r he hp=>by
 unfold w48e at he
 split at he
 ·rename_i d hd
  have he:=Option.some.inj he
  have h1:=congrArg Prod.fst he
  have h2:=congrArg Prod.snd he
  simp only at h1 h2
  obtain ⟨e1,e2⟩:=w48io hd
  rw [e1,e2,← h2]
  have h:(w48z N (d.1) (d.2.1) (d.2.2)).isSome=true:=h1.trans hp
  obtain ⟨d',hd'⟩:=Option.isSome_iff_exists.1 h
  have f:=w48fin (w48cx N) hd'
  rw [← w48re hd'] at f
  exact f
 ·cases he
def w49r0 (a0 a1:Int) (a2:(List Ex)) (a3:(List Int)) (a4:Int):Res:=(.agg [.e (.i .i64) a0,.e (.i .i64) a1,.e (.sl .ex) a2],[(50,.box 69 [.e (.sl (.i .i64)) a3,.e (.i .i64) a4])])
def w49in (xs:List X) (H:XH):Option (Int×(List Int)×Int):=match xs,H with
 | [.ref 50 0,x0],[(50,.box 69 [x1,x2])]=>(match ue (.i .i64) x0,ue (.sl (.i .i64)) x1,ue (.i .i64) x2 with | some a0,some a1,some a2=>some (a0,a1,a2) | _,_,_=>none)
 | _,_=>none
theorem w49io {xs:List X} {H:XH} {d:Int×(List Int)×Int} (h:w49in xs H=some d):xs=[.ref 50 0,.e (.i .i64) (d.1)]∧H=[(50,.box 69 [.e (.sl (.i .i64)) (d.2.1),.e (.i .i64) (d.2.2)])]:=by
 unfold w49in at h
 split at h
 ·split at h
  ·rename_i h0 h1 h2;cases h;rw [ue_some h0,ue_some h1,ue_some h2];exact ⟨rfl,rfl⟩
  ·cases h
 ·cases h
abbrev w49T:=Nat×((Int→(List Int)→Int→Option (Int×Int×(List Ex)×(List Int)×Int)))
def w49E (N:w49T):Ent':=entR w49in (fun d=>(N.2 (d.1) (d.2.1) (d.2.2)).isSome) (fun d=>w49r0 (((N.2 (d.1) (d.2.1) (d.2.2)).getD (0,0,[],[],0)).1) (((N.2 (d.1) (d.2.1) (d.2.2)).getD (0,0,[],[],0)).2.1) (((N.2 (d.1) (d.2.1) (d.2.2)).getD (0,0,[],[],0)).2.2.1) (((N.2 (d.1) (d.2.1) (d.2.2)).getD (0,0,[],[],0)).2.2.2.1) (((N.2 (d.1) (d.2.1) (d.2.2)).getD (0,0,[],[],0)).2.2.2.2))
noncomputable def w49L (N:w49T):List (Nat×Ent'):=[(49,w49E N),(48,w48e N.1)]
noncomputable def w49c (N:w49T):Cx:=⟨Tryd.prog,25,w49L N,[]⟩
noncomputable def w49b:Code:=Tryd.f49.body.getD .skip
theorem w49cx (N:w49T) (hw49:EOk Tryd.prog 49 (w49E N)):CxOk (w49c N):=ctx_ok (by kernel_rfl) (.cons (by kernel_rfl) hw49 (.cons (by kernel_rfl) (w48ok N.1) .nil)) .nil
def w49F0 [Alg] (_:w49T)   (k0:Int→Int→(List Int)→Int→Int→Int→O) (x0_0 x0_1:Int) (x0_2:(List Int)) (x0_3 x0_4 x0_5:Int):O:=
 br (decide (x0_0≤(1:Int))||decide ((↑x0_2.length:Int) < x0_3))
  (ck true <|
  k0 x0_0 (x0_1.tmod (4:Int)) x0_2 x0_3 x0_4 x0_5)
  (k0 x0_0 x0_1 x0_2 x0_3 x0_4 x0_5)
noncomputable def w49b0:Code:=atC [1,1,0] w49b
def w49m0:Nm:=⟨[0,1,4,5],[],[]⟩
def w49I0 (x:Int×Int×(List Int)×Int×Int×Int):Sg:=⟨[(0,.ref 50 0),(1,.e (.i .i64) x.1),(4,.ref 0 0),(5,.e (.i .i64) x.2.1)],[(50,.box 69 [.e (.sl (.i .i64)) x.2.2.1,.e (.i .i64) x.2.2.2.1]),(0,.box 25 [.e (.i .i64) x.2.2.2.2.1,.e (.i .i64) x.2.2.2.2.2,.nilS])],100⟩
def w49u0 (σ:Sg):Int×Int×(List Int)×Int×Int×Int:=(lvT (.i .i64) 1 0 σ,lvT (.i .i64) 5 0 σ,lvH (.sl (.i .i64)) 50 0 σ,lvH (.i .i64) 50 1 σ,lvH (.i .i64) 0 0 σ,lvH (.i .i64) 0 1 σ)
theorem w49ui0:∀ x,w49u0 (w49I0 x)=x:=fun _=>by kernel_rfl
def w49X0_0 (y:Int×Int×(List Int)×Int×Int×Int):Exit×Sg:=(.normal,⟨[(0,.ref 50 0),(1,.e (.i .i64) y.1),(4,.ref 0 0),(5,.e (.i .i64) y.2.1)],[(50,.box 69 [.e (.sl (.i .i64)) y.2.2.1,.e (.i .i64) y.2.2.2.1]),(0,.box 25 [.e (.i .i64) y.2.2.2.2.1,.e (.i .i64) y.2.2.2.2.2,.nilS])],100⟩)
def w49v0_0 (_:Exit) (σ:Sg):Int×Int×(List Int)×Int×Int×Int:=(lvT (.i .i64) 1 0 σ,lvT (.i .i64) 5 0 σ,lvH (.sl (.i .i64)) 50 0 σ,lvH (.i .i64) 50 1 σ,lvH (.i .i64) 0 0 σ,lvH (.i .i64) 0 1 σ)
def w49w0:List (Exit×Nm):=[(.normal,⟨[0,1,4,5],[],[]⟩)]
theorem w49o0:Outs w49v0_0 (fun _ _=>()) (fun _ _=>()) w49X0_0 (noX 1) (noX 2) (exC .normal) (exC (.goto 1)) (exC (.goto 2)):=⟨fun _=>by kernel_rfl,fun _=>by kernel_rfl,fun _=>by kernel_rfl,fun _=>by kernel_rfl,fun _=>by kernel_rfl,fun _=>by kernel_rfl,exNe_ok (by kernel_rfl),exNe_ok (by kernel_rfl),exNe_ok (by kernel_rfl)⟩
def w49l0 [Alg] (N:w49T) (_:Nat) (x:Int×Int×(List Int)×Int×Int×Int) (k0:(Int×Int×(List Int)×Int×Int×Int)→O) (_:(Unit)→O) (_:(Unit)→O):O:=w49F0 N   (fun y0 y1 y2 y3 y4 y5=>k0 (y0,y1,y2,y3,y4,y5)) x.1 x.2.1 x.2.2.1 x.2.2.2.1 x.2.2.2.2.1 x.2.2.2.2.2
def w49n0 [Alg] (N:w49T) (a0 a1:Int) (a2:(List Int)) (a3 a4 a5:Int) (k0:Int→Int→(List Int)→Int→Int→Int→O):O:=w49l0 N N.1 (a0,a1,a2,a3,a4,a5) (fun y=>k0 y.1 y.2.1 y.2.2.1 y.2.2.2.1 y.2.2.2.2.1 y.2.2.2.2.2) (fun _=>none) (fun _=>none)
noncomputable def w49s0 [Alg] (N:w49T) (a0 a1:Int) (a2:(List Int)) (a3 a4 a5:Int) (k0:Int→Int→(List Int)→Int→Int→Int→O):O:=subL w49I0 w49u0 (w49l0 N N.1) (w49I0 (a0,a1,a2,a3,a4,a5)) (fun y=>k0 y.1 y.2.1 y.2.2.1 y.2.2.2.1 y.2.2.2.2.1 y.2.2.2.2.2) (fun _=>none) (fun _=>none)
theorem w49e0 [Alg] (N:w49T):w49s0 N=w49n0 N:=funext fun _=>funext fun _=>funext fun _=>funext fun _=>funext fun _=>funext fun _=>funext fun _=>subL_I w49ui0 _ _ _ _
noncomputable def w49h0 [Alg] (_:w49T):Hint:=.d
theorem w49hk0 (N:w49T):HintOk (w49c N) Tryd.f49.ntmps (w49h0 N) w49b0:=hk_of _ _ trivial
theorem w49q0 [Alg] (N:w49T) (K:Exit→Sg→O) (x:Int×Int×(List Int)×Int×Int×Int):w49F0 N   (fun y0 y1 y2 y3 y4 y5=>K (w49X0_0 (y0,y1,y2,y3,y4,y5)).1 (w49X0_0 (y0,y1,y2,y3,y4,y5)).2) x.1 x.2.1 x.2.2.1 x.2.2.2.1 x.2.2.2.2.1 x.2.2.2.2.2=exec (w49c N) Tryd.f49.ntmps (w49h0 N) w49b0 (w49I0 x) (partX w49w0 K):=by kernel_rfl
theorem w49S0 (N:w49T) (hc:CxOk (w49c N)):SubOk (w49c N) Tryd.f49.ntmps w49b0 w49X0_0 (noX 1) (noX 2) (subL w49I0 w49u0 (w49l0 N N.1)):=
 sub_part hc (w49hk0 N) w49o0 (fun x K=>by
  have h:w49F0 N   (fun y0 y1 y2 y3 y4 y5=>K (w49X0_0 (y0,y1,y2,y3,y4,y5)).1 (w49X0_0 (y0,y1,y2,y3,y4,y5)).2) x.1 x.2.1 x.2.2.1 x.2.2.2.1 x.2.2.2.2.1 x.2.2.2.2.2=w49F0 N   (fun y0 y1 y2 y3 y4 y5=>K (w49X0_0 (y0,y1,y2,y3,y4,y5)).1 (w49X0_0 (y0,y1,y2,y3,y4,y5)).2) x.1 x.2.1 x.2.2.1 x.2.2.2.1 x.2.2.2.2.1 x.2.2.2.2.2:=by rfl
  exact h.trans (w49q0 N K x))
def w49F1 [Alg] (_:w49T)   (k0:Int→Int→Int→Bool→(List Int)→Int→Int→Int→O) (x74_0 x74_1 x74_2:Int) (x74_3:(List Int)) (x74_4 x74_5 x74_6:Int):O:=
 br (decide (x74_2=(0:Int)))
  (k0 x74_0 x74_1 x74_2 (decide (x74_2=(0:Int))) x74_3 x74_4 x74_5 x74_6)
  (k0 x74_0 x74_1 x74_2 (decide (x74_2=(1:Int))) x74_3 x74_4 x74_5 x74_6)
noncomputable def w49b1:Code:=atC [1,1,1,0,1,0,0] w49b
def w49m1:Nm:=⟨[0,1,4,5,27],[],[]⟩
def w49I1 (x:Int×Int×Int×(List Int)×Int×Int×Int):Sg:=⟨[(0,.ref 50 0),(1,.e (.i .i64) x.1),(4,.ref 0 0),(5,.e (.i .i64) x.2.1),(27,.e (.i .i64) x.2.2.1)],[(50,.box 69 [.e (.sl (.i .i64)) x.2.2.2.1,.e (.i .i64) x.2.2.2.2.1]),(0,.box 25 [.e (.i .i64) x.2.2.2.2.2.1,.e (.i .i64) x.2.2.2.2.2.2,.nilS])],100⟩
def w49u1 (σ:Sg):Int×Int×Int×(List Int)×Int×Int×Int:=(lvT (.i .i64) 1 0 σ,lvT (.i .i64) 5 0 σ,lvT (.i .i64) 27 0 σ,lvH (.sl (.i .i64)) 50 0 σ,lvH (.i .i64) 50 1 σ,lvH (.i .i64) 0 0 σ,lvH (.i .i64) 0 1 σ)
theorem w49ui1:∀ x,w49u1 (w49I1 x)=x:=fun _=>by kernel_rfl
def w49X1_0 (y:Int×Int×Int×Bool×(List Int)×Int×Int×Int):Exit×Sg:=(.normal,⟨[(0,.ref 50 0),(1,.e (.i .i64) y.1),(4,.ref 0 0),(5,.e (.i .i64) y.2.1),(27,.e (.i .i64) y.2.2.1),(28,.e .bo y.2.2.2.1)],[(50,.box 69 [.e (.sl (.i .i64)) y.2.2.2.2.1,.e (.i .i64) y.2.2.2.2.2.1]),(0,.box 25 [.e (.i .i64) y.2.2.2.2.2.2.1,.e (.i .i64) y.2.2.2.2.2.2.2,.nilS])],100⟩)
def w49v1_0 (_:Exit) (σ:Sg):Int×Int×Int×Bool×(List Int)×Int×Int×Int:=(lvT (.i .i64) 1 0 σ,lvT (.i .i64) 5 0 σ,lvT (.i .i64) 27 0 σ,lvT .bo 28 0 σ,lvH (.sl (.i .i64)) 50 0 σ,lvH (.i .i64) 50 1 σ,lvH (.i .i64) 0 0 σ,lvH (.i .i64) 0 1 σ)
def w49w1:List (Exit×Nm):=[(.normal,⟨[0,1,4,5,27,28],[],[]⟩)]
theorem w49o1:Outs w49v1_0 (fun _ _=>()) (fun _ _=>()) w49X1_0 (noX 1) (noX 2) (exC .normal) (exC (.goto 1)) (exC (.goto 2)):=⟨fun _=>by kernel_rfl,fun _=>by kernel_rfl,fun _=>by kernel_rfl,fun _=>by kernel_rfl,fun _=>by kernel_rfl,fun _=>by kernel_rfl,exNe_ok (by kernel_rfl),exNe_ok (by kernel_rfl),exNe_ok (by kernel_rfl)⟩
def w49l1 [Alg] (N:w49T) (_:Nat) (x:Int×Int×Int×(List Int)×Int×Int×Int) (k0:(Int×Int×Int×Bool×(List Int)×Int×Int×Int)→O) (_:(Unit)→O) (_:(Unit)→O):O:=w49F1 N   (fun y0 y1 y2 y3 y4 y5 y6 y7=>k0 (y0,y1,y2,y3,y4,y5,y6,y7)) x.1 x.2.1 x.2.2.1 x.2.2.2.1 x.2.2.2.2.1 x.2.2.2.2.2.1 x.2.2.2.2.2.2
def w49n1 [Alg] (N:w49T) (a0 a1 a2:Int) (a3:(List Int)) (a4 a5 a6:Int) (k0:Int→Int→Int→Bool→(List Int)→Int→Int→Int→O):O:=w49l1 N N.1 (a0,a1,a2,a3,a4,a5,a6) (fun y=>k0 y.1 y.2.1 y.2.2.1 y.2.2.2.1 y.2.2.2.2.1 y.2.2.2.2.2.1 y.2.2.2.2.2.2.1 y.2.2.2.2.2.2.2) (fun _=>none) (fun _=>none)
noncomputable def w49s1 [Alg] (N:w49T) (a0 a1 a2:Int) (a3:(List Int)) (a4 a5 a6:Int) (k0:Int→Int→Int→Bool→(List Int)→Int→Int→Int→O):O:=subL w49I1 w49u1 (w49l1 N N.1) (w49I1 (a0,a1,a2,a3,a4,a5,a6)) (fun y=>k0 y.1 y.2.1 y.2.2.1 y.2.2.2.1 y.2.2.2.2.1 y.2.2.2.2.2.1 y.2.2.2.2.2.2.1 y.2.2.2.2.2.2.2) (fun _=>none) (fun _=>none)
theorem w49e1 [Alg] (N:w49T):w49s1 N=w49n1 N:=funext fun _=>funext fun _=>funext fun _=>funext fun _=>funext fun _=>funext fun _=>funext fun _=>funext fun _=>subL_I w49ui1 _ _ _ _
noncomputable def w49h1 [Alg] (_:w49T):Hint:=.d
theorem w49hk1 (N:w49T):HintOk (w49c N) Tryd.f49.ntmps (w49h1 N) w49b1:=hk_of _ _ trivial
theorem w49q1 [Alg] (N:w49T) (K:Exit→Sg→O) (x:Int×Int×Int×(List Int)×Int×Int×Int):w49F1 N   (fun y0 y1 y2 y3 y4 y5 y6 y7=>K (w49X1_0 (y0,y1,y2,y3,y4,y5,y6,y7)).1 (w49X1_0 (y0,y1,y2,y3,y4,y5,y6,y7)).2) x.1 x.2.1 x.2.2.1 x.2.2.2.1 x.2.2.2.2.1 x.2.2.2.2.2.1 x.2.2.2.2.2.2=exec (w49c N) Tryd.f49.ntmps (w49h1 N) w49b1 (w49I1 x) (partX w49w1 K):=by kernel_rfl
theorem w49S1 (N:w49T) (hc:CxOk (w49c N)):SubOk (w49c N) Tryd.f49.ntmps w49b1 w49X1_0 (noX 1) (noX 2) (subL w49I1 w49u1 (w49l1 N N.1)):=
 sub_part hc (w49hk1 N) w49o1 (fun x K=>by
  have h:w49F1 N   (fun y0 y1 y2 y3 y4 y5 y6 y7=>K (w49X1_0 (y0,y1,y2,y3,y4,y5,y6,y7)).1 (w49X1_0 (y0,y1,y2,y3,y4,y5,y6,y7)).2) x.1 x.2.1 x.2.2.1 x.2.2.2.1 x.2.2.2.2.1 x.2.2.2.2.2.1 x.2.2.2.2.2.2=w49F1 N   (fun y0 y1 y2 y3 y4 y5 y6 y7=>K (w49X1_0 (y0,y1,y2,y3,y4,y5,y6,y7)).1 (w49X1_0 (y0,y1,y2,y3,y4,y5,y6,y7)).2) x.1 x.2.1 x.2.2.1 x.2.2.2.1 x.2.2.2.2.1 x.2.2.2.2.2.1 x.2.2.2.2.2.2:=by rfl
  exact h.trans (w49q1 N K x))
def w49F2 [Alg] (_:w49T)   (k0:Int→Int→Int→Bool→(List Int)→Int→Int→Int→O) (x84_0 x84_1 x84_2:Int) (x84_3:(List Int)) (x84_4 x84_5 x84_6:Int):O:=
 br (decide (x84_2=(2:Int)))
  (k0 x84_0 x84_1 x84_2 (decide (x84_2=(2:Int))) x84_3 x84_4 x84_5 x84_6)
  (k0 x84_0 x84_1 x84_2 (decide (x84_2=(3:Int))) x84_3 x84_4 x84_5 x84_6)
noncomputable def w49b2:Code:=atC [1,1,1,0,1,0,1,1,0] w49b
def w49m2:Nm:=⟨[0,1,4,5,27],[],[]⟩
def w49I2 (x:Int×Int×Int×(List Int)×Int×Int×Int):Sg:=⟨[(0,.ref 50 0),(1,.e (.i .i64) x.1),(4,.ref 0 0),(5,.e (.i .i64) x.2.1),(27,.e (.i .i64) x.2.2.1)],[(50,.box 69 [.e (.sl (.i .i64)) x.2.2.2.1,.e (.i .i64) x.2.2.2.2.1]),(0,.box 25 [.e (.i .i64) x.2.2.2.2.2.1,.e (.i .i64) x.2.2.2.2.2.2,.nilS])],100⟩
def w49u2 (σ:Sg):Int×Int×Int×(List Int)×Int×Int×Int:=(lvT (.i .i64) 1 0 σ,lvT (.i .i64) 5 0 σ,lvT (.i .i64) 27 0 σ,lvH (.sl (.i .i64)) 50 0 σ,lvH (.i .i64) 50 1 σ,lvH (.i .i64) 0 0 σ,lvH (.i .i64) 0 1 σ)
theorem w49ui2:∀ x,w49u2 (w49I2 x)=x:=fun _=>by kernel_rfl
def w49X2_0 (y:Int×Int×Int×Bool×(List Int)×Int×Int×Int):Exit×Sg:=(.normal,⟨[(0,.ref 50 0),(1,.e (.i .i64) y.1),(4,.ref 0 0),(5,.e (.i .i64) y.2.1),(27,.e (.i .i64) y.2.2.1),(37,.e .bo y.2.2.2.1)],[(50,.box 69 [.e (.sl (.i .i64)) y.2.2.2.2.1,.e (.i .i64) y.2.2.2.2.2.1]),(0,.box 25 [.e (.i .i64) y.2.2.2.2.2.2.1,.e (.i .i64) y.2.2.2.2.2.2.2,.nilS])],100⟩)
def w49v2_0 (_:Exit) (σ:Sg):Int×Int×Int×Bool×(List Int)×Int×Int×Int:=(lvT (.i .i64) 1 0 σ,lvT (.i .i64) 5 0 σ,lvT (.i .i64) 27 0 σ,lvT .bo 37 0 σ,lvH (.sl (.i .i64)) 50 0 σ,lvH (.i .i64) 50 1 σ,lvH (.i .i64) 0 0 σ,lvH (.i .i64) 0 1 σ)
def w49w2:List (Exit×Nm):=[(.normal,⟨[0,1,4,5,27,37],[],[]⟩)]
theorem w49o2:Outs w49v2_0 (fun _ _=>()) (fun _ _=>()) w49X2_0 (noX 1) (noX 2) (exC .normal) (exC (.goto 1)) (exC (.goto 2)):=⟨fun _=>by kernel_rfl,fun _=>by kernel_rfl,fun _=>by kernel_rfl,fun _=>by kernel_rfl,fun _=>by kernel_rfl,fun _=>by kernel_rfl,exNe_ok (by kernel_rfl),exNe_ok (by kernel_rfl),exNe_ok (by kernel_rfl)⟩
def w49l2 [Alg] (N:w49T) (_:Nat) (x:Int×Int×Int×(List Int)×Int×Int×Int) (k0:(Int×Int×Int×Bool×(List Int)×Int×Int×Int)→O) (_:(Unit)→O) (_:(Unit)→O):O:=w49F2 N   (fun y0 y1 y2 y3 y4 y5 y6 y7=>k0 (y0,y1,y2,y3,y4,y5,y6,y7)) x.1 x.2.1 x.2.2.1 x.2.2.2.1 x.2.2.2.2.1 x.2.2.2.2.2.1 x.2.2.2.2.2.2
def w49n2 [Alg] (N:w49T) (a0 a1 a2:Int) (a3:(List Int)) (a4 a5 a6:Int) (k0:Int→Int→Int→Bool→(List Int)→Int→Int→Int→O):O:=w49l2 N N.1 (a0,a1,a2,a3,a4,a5,a6) (fun y=>k0 y.1 y.2.1 y.2.2.1 y.2.2.2.1 y.2.2.2.2.1 y.2.2.2.2.2.1 y.2.2.2.2.2.2.1 y.2.2.2.2.2.2.2) (fun _=>none) (fun _=>none)
noncomputable def w49s2 [Alg] (N:w49T) (a0 a1 a2:Int) (a3:(List Int)) (a4 a5 a6:Int) (k0:Int→Int→Int→Bool→(List Int)→Int→Int→Int→O):O:=subL w49I2 w49u2 (w49l2 N N.1) (w49I2 (a0,a1,a2,a3,a4,a5,a6)) (fun y=>k0 y.1 y.2.1 y.2.2.1 y.2.2.2.1 y.2.2.2.2.1 y.2.2.2.2.2.1 y.2.2.2.2.2.2.1 y.2.2.2.2.2.2.2) (fun _=>none) (fun _=>none)
theorem w49e2 [Alg] (N:w49T):w49s2 N=w49n2 N:=funext fun _=>funext fun _=>funext fun _=>funext fun _=>funext fun _=>funext fun _=>funext fun _=>funext fun _=>subL_I w49ui2 _ _ _ _
noncomputable def w49h2 [Alg] (_:w49T):Hint:=.d
theorem w49hk2 (N:w49T):HintOk (w49c N) Tryd.f49.ntmps (w49h2 N) w49b2:=hk_of _ _ trivial
theorem w49q2 [Alg] (N:w49T) (K:Exit→Sg→O) (x:Int×Int×Int×(List Int)×Int×Int×Int):w49F2 N   (fun y0 y1 y2 y3 y4 y5 y6 y7=>K (w49X2_0 (y0,y1,y2,y3,y4,y5,y6,y7)).1 (w49X2_0 (y0,y1,y2,y3,y4,y5,y6,y7)).2) x.1 x.2.1 x.2.2.1 x.2.2.2.1 x.2.2.2.2.1 x.2.2.2.2.2.1 x.2.2.2.2.2.2=exec (w49c N) Tryd.f49.ntmps (w49h2 N) w49b2 (w49I2 x) (partX w49w2 K):=by kernel_rfl
theorem w49S2 (N:w49T) (hc:CxOk (w49c N)):SubOk (w49c N) Tryd.f49.ntmps w49b2 w49X2_0 (noX 1) (noX 2) (subL w49I2 w49u2 (w49l2 N N.1)):=
 sub_part hc (w49hk2 N) w49o2 (fun x K=>by
  have h:w49F2 N   (fun y0 y1 y2 y3 y4 y5 y6 y7=>K (w49X2_0 (y0,y1,y2,y3,y4,y5,y6,y7)).1 (w49X2_0 (y0,y1,y2,y3,y4,y5,y6,y7)).2) x.1 x.2.1 x.2.2.1 x.2.2.2.1 x.2.2.2.2.1 x.2.2.2.2.2.1 x.2.2.2.2.2.2=w49F2 N   (fun y0 y1 y2 y3 y4 y5 y6 y7=>K (w49X2_0 (y0,y1,y2,y3,y4,y5,y6,y7)).1 (w49X2_0 (y0,y1,y2,y3,y4,y5,y6,y7)).2) x.1 x.2.1 x.2.2.1 x.2.2.2.1 x.2.2.2.2.1 x.2.2.2.2.2.1 x.2.2.2.2.2.2:=by rfl
  exact h.trans (w49q2 N K x))
def w49F3 [Alg] (N:w49T) (in1:Int→Int→Int→(List Int)→Int→Int→Int→(Int→Int→Int→Bool→(List Int)→Int→Int→Int→O)→O) (in2:Int→Int→Int→(List Int)→Int→Int→Int→(Int→Int→Int→Bool→(List Int)→Int→Int→Int→O)→O)  (k0:(List Int)→Int→Int→Int→(List Ex)→O) (k1:Int→Int→(List Int)→Int→Int→Int→O) (x7_0 x7_1:Int) (x7_2:(List Int)) (x7_3 x7_4 x7_5:Int):O:=
 in1 x7_0 x7_1 x7_1 x7_2 x7_3 x7_4 x7_5
  (fun z75 z76 z77 z78 z79 z80 z81 z82=>
   br z78
    (ck (w48p N.1 (6:Int) z79 z80) <|
    gx [(0:Int),(1:Int),(2:Int),(10:Int),(47:Int),(999999:Int)] (w48y0 N.1 (6:Int) z79 z80) fun y83=>
    k0 (w48y1 N.1 (6:Int) z79 z80) (w48y2 N.1 (6:Int) z79 z80) ((0:Int)) y83 [])
    (in2 z75 z76 z77 z79 z80 z81 z82
     (fun z85 z86 z87 z88 z89 z90 z91 z92=>
      br z88
       (ck (w48p N.1 (5:Int) z89 z90) <|
       gx [(0:Int),(1:Int),(2:Int),(23:Int),(25:Int)] (w48y0 N.1 (5:Int) z89 z90) fun y93=>
       k0 (w48y1 N.1 (5:Int) z89 z90) (w48y2 N.1 (5:Int) z89 z90) ((1:Int)) y93 [])
       (br (decide (z87=(4:Int)))
        (br (decide (z87=(4:Int)))
         (gx [(2:Int),(8:Int)] (IntKind.i64.wrap (z86 - (4:Int))) fun y94=>
         ck ((N.2 (IntKind.i64.wrap (z85 - (1:Int))) z89 z90).isSome) <|
         k0 (((N.2 (IntKind.i64.wrap (z85 - (1:Int))) z89 z90).getD ((0:Int),(0:Int),[],[],(0:Int))).2.2.2.1) (((N.2 (IntKind.i64.wrap (z85 - (1:Int))) z89 z90).getD ((0:Int),(0:Int),[],[],(0:Int))).2.2.2.2) y94 ((0:Int)) [Ex.mk ((N.2 (IntKind.i64.wrap (z85 - (1:Int))) z89 z90).getD ((0:Int),(0:Int),[],[],(0:Int))).1 ((N.2 (IntKind.i64.wrap (z85 - (1:Int))) z89 z90).getD ((0:Int),(0:Int),[],[],(0:Int))).2.1 ((N.2 (IntKind.i64.wrap (z85 - (1:Int))) z89 z90).getD ((0:Int),(0:Int),[],[],(0:Int))).2.2.1])
         (k1 z85 z86 z89 z90 z91 z92))
        (br (decide (z87=(5:Int)))
         (gx [(2:Int),(8:Int)] (IntKind.i64.wrap (z86 - (4:Int))) fun y95=>
         ck ((N.2 (IntKind.i64.wrap (z85 - (1:Int))) z89 z90).isSome) <|
         k0 (((N.2 (IntKind.i64.wrap (z85 - (1:Int))) z89 z90).getD ((0:Int),(0:Int),[],[],(0:Int))).2.2.2.1) (((N.2 (IntKind.i64.wrap (z85 - (1:Int))) z89 z90).getD ((0:Int),(0:Int),[],[],(0:Int))).2.2.2.2) y95 ((0:Int)) [Ex.mk ((N.2 (IntKind.i64.wrap (z85 - (1:Int))) z89 z90).getD ((0:Int),(0:Int),[],[],(0:Int))).1 ((N.2 (IntKind.i64.wrap (z85 - (1:Int))) z89 z90).getD ((0:Int),(0:Int),[],[],(0:Int))).2.1 ((N.2 (IntKind.i64.wrap (z85 - (1:Int))) z89 z90).getD ((0:Int),(0:Int),[],[],(0:Int))).2.2.1])
         (k1 z85 z86 z89 z90 z91 z92))))))
noncomputable def w49b3:Code:=atC [1,1,1,0] w49b
def w49m3:Nm:=⟨[0,1,4,5],[],[]⟩
def w49I3 (x:Int×Int×(List Int)×Int×Int×Int):Sg:=⟨[(0,.ref 50 0),(1,.e (.i .i64) x.1),(4,.ref 0 0),(5,.e (.i .i64) x.2.1)],[(50,.box 69 [.e (.sl (.i .i64)) x.2.2.1,.e (.i .i64) x.2.2.2.1]),(0,.box 25 [.e (.i .i64) x.2.2.2.2.1,.e (.i .i64) x.2.2.2.2.2,.nilS])],100⟩
def w49u3 (σ:Sg):Int×Int×(List Int)×Int×Int×Int:=(lvT (.i .i64) 1 0 σ,lvT (.i .i64) 5 0 σ,lvH (.sl (.i .i64)) 50 0 σ,lvH (.i .i64) 50 1 σ,lvH (.i .i64) 0 0 σ,lvH (.i .i64) 0 1 σ)
theorem w49ui3:∀ x,w49u3 (w49I3 x)=x:=fun _=>by kernel_rfl
def w49X3_0 (y:(List Int)×Int×Int×Int×(List Ex)):Exit×Sg:=(.ret,⟨[(4,.ref 0 0)],[(50,.box 69 [.e (.sl (.i .i64)) y.1,.e (.i .i64) y.2.1]),(0,.box 25 [.e (.i .i64) y.2.2.1,.e (.i .i64) y.2.2.2.1,.own 1]),(1,.row 25 .ex y.2.2.2.2 true)],100⟩)
def w49v3_0 (_:Exit) (σ:Sg):(List Int)×Int×Int×Int×(List Ex):=(lvH (.sl (.i .i64)) 50 0 σ,lvH (.i .i64) 50 1 σ,lvH (.i .i64) 0 0 σ,lvH (.i .i64) 0 1 σ,lvR .ex 1 σ)
def w49X3_1 (y:Int×Int×(List Int)×Int×Int×Int):Exit×Sg:=(.normal,⟨[(0,.ref 50 0),(1,.e (.i .i64) y.1),(4,.ref 0 0),(5,.e (.i .i64) y.2.1)],[(50,.box 69 [.e (.sl (.i .i64)) y.2.2.1,.e (.i .i64) y.2.2.2.1]),(0,.box 25 [.e (.i .i64) y.2.2.2.2.1,.e (.i .i64) y.2.2.2.2.2,.nilS])],100⟩)
def w49v3_1 (_:Exit) (σ:Sg):Int×Int×(List Int)×Int×Int×Int:=(lvT (.i .i64) 1 0 σ,lvT (.i .i64) 5 0 σ,lvH (.sl (.i .i64)) 50 0 σ,lvH (.i .i64) 50 1 σ,lvH (.i .i64) 0 0 σ,lvH (.i .i64) 0 1 σ)
def w49w3:List (Exit×Nm):=[(.ret,⟨[4],[],[.nilC 4 2 (.row 25 .ex [] true)]⟩),(.normal,⟨[0,1,4,5],[],[]⟩)]
theorem w49o3:Outs w49v3_0 w49v3_1 (fun _ _=>()) w49X3_0 w49X3_1 (noX 2) (exC .ret) (exC .normal) (exC (.goto 2)):=⟨fun _=>by kernel_rfl,fun _=>by kernel_rfl,fun _=>by kernel_rfl,fun _=>by kernel_rfl,fun _=>by kernel_rfl,fun _=>by kernel_rfl,exNe_ok (by kernel_rfl),exNe_ok (by kernel_rfl),exNe_ok (by kernel_rfl)⟩
def w49l3 [Alg] (N:w49T) (_:Nat) (x:Int×Int×(List Int)×Int×Int×Int) (k0:((List Int)×Int×Int×Int×(List Ex))→O) (k1:(Int×Int×(List Int)×Int×Int×Int)→O) (_:(Unit)→O):O:=w49F3 N (w49n1 N) (w49n2 N)  (fun y0 y1 y2 y3 y4=>k0 (y0,y1,y2,y3,y4)) (fun y0 y1 y2 y3 y4 y5=>k1 (y0,y1,y2,y3,y4,y5)) x.1 x.2.1 x.2.2.1 x.2.2.2.1 x.2.2.2.2.1 x.2.2.2.2.2
def w49n3 [Alg] (N:w49T) (a0 a1:Int) (a2:(List Int)) (a3 a4 a5:Int) (k0:(List Int)→Int→Int→Int→(List Ex)→O) (k1:Int→Int→(List Int)→Int→Int→Int→O):O:=w49l3 N N.1 (a0,a1,a2,a3,a4,a5) (fun y=>k0 y.1 y.2.1 y.2.2.1 y.2.2.2.1 y.2.2.2.2) (fun y=>k1 y.1 y.2.1 y.2.2.1 y.2.2.2.1 y.2.2.2.2.1 y.2.2.2.2.2) (fun _=>none)
noncomputable def w49s3 [Alg] (N:w49T) (a0 a1:Int) (a2:(List Int)) (a3 a4 a5:Int) (k0:(List Int)→Int→Int→Int→(List Ex)→O) (k1:Int→Int→(List Int)→Int→Int→Int→O):O:=subL w49I3 w49u3 (w49l3 N N.1) (w49I3 (a0,a1,a2,a3,a4,a5)) (fun y=>k0 y.1 y.2.1 y.2.2.1 y.2.2.2.1 y.2.2.2.2) (fun y=>k1 y.1 y.2.1 y.2.2.1 y.2.2.2.1 y.2.2.2.2.1 y.2.2.2.2.2) (fun _=>none)
theorem w49e3 [Alg] (N:w49T):w49s3 N=w49n3 N:=funext fun _=>funext fun _=>funext fun _=>funext fun _=>funext fun _=>funext fun _=>funext fun _=>funext fun _=>subL_I w49ui3 _ _ _ _
noncomputable def w49h3 [Alg] (N:w49T):Hint:=(.seq .d (.block (.seq (.sub w49m1 _ _ _ w49X1_0 (noX 1) (noX 2) (subL w49I1 w49u1 (w49l1 N N.1))) (.cond .d (.seq (.sub w49m2 _ _ _ w49X2_0 (noX 1) (noX 2) (subL w49I2 w49u2 (w49l2 N N.1))) (.cond .d (.seq .d (.cond (.seq (.reg [] [] [[],[],[],[],[],[],[],[],[50],[],[],[0]]) .d) .d))))))))
theorem w49hk3 (N:w49T) (hc:CxOk (w49c N)):HintOk (w49c N) Tryd.f49.ntmps (w49h3 N) w49b3:=hk_of _ _ (And.intro trivial (And.intro (w49S1 N hc) (And.intro trivial (And.intro (w49S2 N hc) (And.intro trivial (And.intro trivial (And.intro (And.intro trivial trivial) trivial)))))))
theorem w49q3 [Alg] (N:w49T) (K:Exit→Sg→O) (x:Int×Int×(List Int)×Int×Int×Int):w49F3 N (w49s1 N) (w49s2 N)  (fun y0 y1 y2 y3 y4=>K (w49X3_0 (y0,y1,y2,y3,y4)).1 (w49X3_0 (y0,y1,y2,y3,y4)).2) (fun y0 y1 y2 y3 y4 y5=>K (w49X3_1 (y0,y1,y2,y3,y4,y5)).1 (w49X3_1 (y0,y1,y2,y3,y4,y5)).2) x.1 x.2.1 x.2.2.1 x.2.2.2.1 x.2.2.2.2.1 x.2.2.2.2.2=exec (w49c N) Tryd.f49.ntmps (w49h3 N) w49b3 (w49I3 x) (partX w49w3 K):=by kernel_rfl
theorem w49S3 (N:w49T) (hc:CxOk (w49c N)):SubOk (w49c N) Tryd.f49.ntmps w49b3 w49X3_0 w49X3_1 (noX 2) (subL w49I3 w49u3 (w49l3 N N.1)):=
 sub_part hc (w49hk3 N hc) w49o3 (fun x K=>by
  have h:w49F3 N (w49n1 N) (w49n2 N)  (fun y0 y1 y2 y3 y4=>K (w49X3_0 (y0,y1,y2,y3,y4)).1 (w49X3_0 (y0,y1,y2,y3,y4)).2) (fun y0 y1 y2 y3 y4 y5=>K (w49X3_1 (y0,y1,y2,y3,y4,y5)).1 (w49X3_1 (y0,y1,y2,y3,y4,y5)).2) x.1 x.2.1 x.2.2.1 x.2.2.2.1 x.2.2.2.2.1 x.2.2.2.2.2=w49F3 N (w49s1 N) (w49s2 N)  (fun y0 y1 y2 y3 y4=>K (w49X3_0 (y0,y1,y2,y3,y4)).1 (w49X3_0 (y0,y1,y2,y3,y4)).2) (fun y0 y1 y2 y3 y4 y5=>K (w49X3_1 (y0,y1,y2,y3,y4,y5)).1 (w49X3_1 (y0,y1,y2,y3,y4,y5)).2) x.1 x.2.1 x.2.2.1 x.2.2.2.1 x.2.2.2.2.1 x.2.2.2.2.2:=by rw [w49e1 N,w49e2 N]
  exact h.trans (w49q3 N K x))
def w49G [Alg] (N:w49T) (in0:Int→Int→(List Int)→Int→Int→Int→(Int→Int→(List Int)→Int→Int→Int→O)→O) (_in1:Int→Int→Int→(List Int)→Int→Int→Int→(Int→Int→Int→Bool→(List Int)→Int→Int→Int→O)→O) (_in2:Int→Int→Int→(List Int)→Int→Int→Int→(Int→Int→Int→Bool→(List Int)→Int→Int→Int→O)→O) (in3:Int→Int→(List Int)→Int→Int→Int→((List Int)→Int→Int→Int→(List Ex)→O)→(Int→Int→(List Int)→Int→Int→Int→O)→O) (depth1:Int) (g0:(List Int)) (g1:Int):O:=
 ck (w48p N.1 (12:Int) g0 g1) <|
 in0 depth1 (w48y0 N.1 (12:Int) g0 g1) (w48y1 N.1 (12:Int) g0 g1) (w48y2 N.1 (12:Int) g0 g1) ((0:Int)) ((0:Int))
  (fun z1 z2 z3 z4 z5 z6=>
   in3 z1 z2 z3 z4 z5 z6
    (fun z96 z97 z98 z99 z100=>
     some (w49r0 (z98) (z99) (z100) z96 z97))
    (fun z101 z102 z103 z104 _ _=>
     gx [(3:Int),(4:Int),(5:Int),(6:Int),(7:Int),(4:Int)] (IntKind.i64.wrap (z102 - (6:Int))) fun y107=>
     ck ((N.2 (IntKind.i64.wrap (z101 - (1:Int))) z103 z104).isSome) <|
     ck ((N.2 (IntKind.i64.wrap (z101 - (1:Int))) ((N.2 (IntKind.i64.wrap (z101 - (1:Int))) z103 z104).getD ((0:Int),(0:Int),[],[],(0:Int))).2.2.2.1 ((N.2 (IntKind.i64.wrap (z101 - (1:Int))) z103 z104).getD ((0:Int),(0:Int),[],[],(0:Int))).2.2.2.2).isSome) <|
     some (w49r0 (y107) ((0:Int)) ([Ex.mk ((N.2 (IntKind.i64.wrap (z101 - (1:Int))) z103 z104).getD ((0:Int),(0:Int),[],[],(0:Int))).1 ((N.2 (IntKind.i64.wrap (z101 - (1:Int))) z103 z104).getD ((0:Int),(0:Int),[],[],(0:Int))).2.1 ((N.2 (IntKind.i64.wrap (z101 - (1:Int))) z103 z104).getD ((0:Int),(0:Int),[],[],(0:Int))).2.2.1,Ex.mk ((N.2 (IntKind.i64.wrap (z101 - (1:Int))) ((N.2 (IntKind.i64.wrap (z101 - (1:Int))) z103 z104).getD ((0:Int),(0:Int),[],[],(0:Int))).2.2.2.1 ((N.2 (IntKind.i64.wrap (z101 - (1:Int))) z103 z104).getD ((0:Int),(0:Int),[],[],(0:Int))).2.2.2.2).getD ((0:Int),(0:Int),[],[],(0:Int))).1 ((N.2 (IntKind.i64.wrap (z101 - (1:Int))) ((N.2 (IntKind.i64.wrap (z101 - (1:Int))) z103 z104).getD ((0:Int),(0:Int),[],[],(0:Int))).2.2.2.1 ((N.2 (IntKind.i64.wrap (z101 - (1:Int))) z103 z104).getD ((0:Int),(0:Int),[],[],(0:Int))).2.2.2.2).getD ((0:Int),(0:Int),[],[],(0:Int))).2.1 ((N.2 (IntKind.i64.wrap (z101 - (1:Int))) ((N.2 (IntKind.i64.wrap (z101 - (1:Int))) z103 z104).getD ((0:Int),(0:Int),[],[],(0:Int))).2.2.2.1 ((N.2 (IntKind.i64.wrap (z101 - (1:Int))) z103 z104).getD ((0:Int),(0:Int),[],[],(0:Int))).2.2.2.2).getD ((0:Int),(0:Int),[],[],(0:Int))).2.2.1]) (((N.2 (IntKind.i64.wrap (z101 - (1:Int))) ((N.2 (IntKind.i64.wrap (z101 - (1:Int))) z103 z104).getD ((0:Int),(0:Int),[],[],(0:Int))).2.2.2.1 ((N.2 (IntKind.i64.wrap (z101 - (1:Int))) z103 z104).getD ((0:Int),(0:Int),[],[],(0:Int))).2.2.2.2).getD ((0:Int),(0:Int),[],[],(0:Int))).2.2.2.1) (((N.2 (IntKind.i64.wrap (z101 - (1:Int))) ((N.2 (IntKind.i64.wrap (z101 - (1:Int))) z103 z104).getD ((0:Int),(0:Int),[],[],(0:Int))).2.2.2.1 ((N.2 (IntKind.i64.wrap (z101 - (1:Int))) z103 z104).getD ((0:Int),(0:Int),[],[],(0:Int))).2.2.2.2).getD ((0:Int),(0:Int),[],[],(0:Int))).2.2.2.2))))
def w49 [Alg] (N:w49T) (depth1:Int) (g0:(List Int)) (g1:Int):O:=w49G N (w49n0 N) (w49n1 N) (w49n2 N) (w49n3 N) depth1 g0 g1
noncomputable def w49h [Alg] (N:w49T):Hint:=(.seq .d (.seq .d (.seq (.sub w49m0 _ _ _ w49X0_0 (noX 1) (noX 2) (subL w49I0 w49u0 (w49l0 N N.1))) (.seq (.sub w49m3 _ _ _ w49X3_0 w49X3_1 (noX 2) (subL w49I3 w49u3 (w49l3 N N.1))) .d))))
theorem w49hk (N:w49T) (hc:CxOk (w49c N)):HintOk (w49c N) Tryd.f49.ntmps (w49h N) w49b:=hk_of _ _ (And.intro trivial (And.intro trivial (And.intro (w49S0 N hc) (And.intro (w49S3 N hc) trivial))))
theorem w49q [Alg] (N:w49T) (depth1:Int) (g0:(List Int)) (g1:Int):w49G N (w49s0 N) (w49s1 N) (w49s2 N) (w49s3 N) depth1 g0 g1=exec (w49c N) Tryd.f49.ntmps (w49h N) w49b ⟨argT 0 [.ref 50 0,.e (.i .i64) depth1],[(50,.box 69 [.e (.sl (.i .i64)) g0,.e (.i .i64) g1])],100⟩ (finX (w49c N) Tryd.f49 false):=by kernel_rfl
theorem w49does {N:w49T} (hc:CxOk (w49c N)) {depth1:Int} {g0:(List Int)} {g1:Int} {r:Res} (h:w49 N depth1 g0 g1=some r):DoesR Tryd.prog 49 (([.ref 50 0,.e (.i .i64) depth1]:List X).map X.D) (HA [(50,.box 69 [.e (.sl (.i .i64)) g0,.e (.i .i64) g1])]) r:=
 fun_ok hc (f:=49) (fn:=Tryd.f49) (code:=w49b) (by kernel_rfl) (by kernel_rfl) (w49hk N hc) (Nat.le_of_ble_eq_true (by kernel_rfl)) (ow:=false) ((w49q N depth1 g0 g1).symm.trans (by rw [w49e0 N,w49e1 N,w49e2 N,w49e3 N];exact h))
def w49un (r:Res):Option (Int×Int×(List Ex)×(List Int)×Int):=match r with
 | (.agg [x0,x1,x2],[(50,.box 69 [x3,x4])])=>(match ue (.i .i64) x0,ue (.i .i64) x1,ue (.sl .ex) x2,ue (.sl (.i .i64)) x3,ue (.i .i64) x4 with | some a0,some a1,some a2,some a3,some a4=>some (a0,a1,a2,a3,a4) | _,_,_,_,_=>none)
 | _=>none
theorem w49uo {r:Res} {d:Int×Int×(List Ex)×(List Int)×Int} (h:w49un r=some d):r=w49r0 (d.1) (d.2.1) (d.2.2.1) (d.2.2.2.1) (d.2.2.2.2):=by
 unfold w49un at h
 split at h
 ·split at h
  ·rename_i h0 h1 h2 h3 h4;cases h;rw [ue_some h0,ue_some h1,ue_some h2,ue_some h3,ue_some h4];rfl
  ·cases h
 ·cases h
def w49z (N:w49T) (depth1:Int) (g0:(List Int)) (g1:Int):Option (Int×Int×(List Ex)×(List Int)×Int):=(w49 N depth1 g0 g1).bind w49un
theorem w49fin {N:w49T} (hc:CxOk (w49c N)) {depth1:Int} {g0:(List Int)} {g1:Int} {d:Int×Int×(List Ex)×(List Int)×Int} (hd:w49z N depth1 g0 g1=some d):Does Tryd.prog 49 (([.ref 50 0,.e (.i .i64) depth1]:List X).map X.D) (HA [(50,.box 69 [.e (.sl (.i .i64)) g0,.e (.i .i64) g1])]) (w49r0 (d.1) (d.2.1) (d.2.2.1) (d.2.2.2.1) (d.2.2.2.2)).1.D (HA (w49r0 (d.1) (d.2.1) (d.2.2.1) (d.2.2.2.1) (d.2.2.2.2)).2):=by
 obtain ⟨r,hr,hu⟩:=Option.bind_eq_some_iff.1 hd
 have:=w49does hc hr
 rw [w49uo hu] at this
 exact this
def w49gY (N:Nat):Nat→(Int→(List Int)→Int→Option (Int×Int×(List Ex)×(List Int)×Int))
 | 0=>fun _ _ _=>none
 | n+1=>fun depth1 g0 g1=>w49z (N,w49gY N n) depth1 g0 g1
theorem w49gYok (N:Nat):∀ n,EOk Tryd.prog 49 (w49E (N,w49gY N n))
 | 0=>entR_ok w49io (fun _ h=>by cases h)
 | n+1=>
   have ih:=w49gYok N n
   entR_ok w49io (fun d h=>norStep (zz:=w49z (N,w49gY N n) (d.1) (d.2.1) (d.2.2)) (R:=fun y=>w49r0 (y.1) (y.2.1) (y.2.2.1) (y.2.2.2.1) (y.2.2.2.2)) (d0:=(0,0,[],[],0)) (fun _ hy=>w49fin (w49cx (N,w49gY N n) ih) hy) h)
def w49p (N:Nat) (depth1:Int) (g0:(List Int)) (g1:Int):Bool:=((w49gY N N) depth1 g0 g1).isSome
def w49y0 (N:Nat) (depth1:Int) (g0:(List Int)) (g1:Int):Int:=(((w49gY N N) depth1 g0 g1).getD (0,0,[],[],0)).1
def w49y1 (N:Nat) (depth1:Int) (g0:(List Int)) (g1:Int):Int:=(((w49gY N N) depth1 g0 g1).getD (0,0,[],[],0)).2.1
def w49y2 (N:Nat) (depth1:Int) (g0:(List Int)) (g1:Int):(List Ex):=(((w49gY N N) depth1 g0 g1).getD (0,0,[],[],0)).2.2.1
def w49y3 (N:Nat) (depth1:Int) (g0:(List Int)) (g1:Int):(List Int):=(((w49gY N N) depth1 g0 g1).getD (0,0,[],[],0)).2.2.2.1
def w49y4 (N:Nat) (depth1:Int) (g0:(List Int)) (g1:Int):Int:=(((w49gY N N) depth1 g0 g1).getD (0,0,[],[],0)).2.2.2.2
def w49e (N:Nat):Ent':=entR w49in (fun d=>w49p N (d.1) (d.2.1) (d.2.2)) (fun d=>w49r0 (w49y0 N (d.1) (d.2.1) (d.2.2)) (w49y1 N (d.1) (d.2.1) (d.2.2)) (w49y2 N (d.1) (d.2.1) (d.2.2)) (w49y3 N (d.1) (d.2.1) (d.2.2)) (w49y4 N (d.1) (d.2.1) (d.2.2)))
theorem w49ok (N:Nat):EOk Tryd.prog 49 (w49e N):=w49gYok N N
def w12r0 (a0 a1:Int) (a2:(List Ex)):Res:=(.agg [.e (.i .i64) a0,.e (.i .i64) a1,.e (.sl .ex) a2],[])
noncomputable def w12L (N:Nat):List (Nat×Ent'):=[(48,w48e N),(49,w49e N)]
noncomputable def w12c (N:Nat):Cx:=⟨Tryd.prog,25,w12L N,[]⟩
noncomputable def w12b:Code:=Tryd.f12.body.getD .skip
theorem w12cx (N:Nat):CxOk (w12c N):=ctx_ok (by kernel_rfl) (.cons (by kernel_rfl) (w48ok N) (.cons (by kernel_rfl) (w49ok N) .nil)) .nil
def w12G [Alg] (N:Nat)  (l0:(List Int)) (depth1:Int):O:=
 ck (w48p N (6:Int) l0 (0:Int)) <|
 br (decide ((1:Int) < w48y0 N (6:Int) l0 (0:Int))||decide (max (1:Int) (min (5:Int) depth1) < (2:Int)))
  (ck (w49p N (max (1:Int) (min (5:Int) depth1)) (w48y1 N (6:Int) l0 (0:Int)) (w48y2 N (6:Int) l0 (0:Int))) <|
  some (w12r0 ((w49y0 N (max (1:Int) (min (5:Int) depth1)) (w48y1 N (6:Int) l0 (0:Int)) (w48y2 N (6:Int) l0 (0:Int)))) ((w49y1 N (max (1:Int) (min (5:Int) depth1)) (w48y1 N (6:Int) l0 (0:Int)) (w48y2 N (6:Int) l0 (0:Int)))) ((w49y2 N (max (1:Int) (min (5:Int) depth1)) (w48y1 N (6:Int) l0 (0:Int)) (w48y2 N (6:Int) l0 (0:Int))))))
  (ck (w49p N (IntKind.i64.wrap (max (1:Int) (min (5:Int) depth1) - (1:Int))) (w48y1 N (6:Int) l0 (0:Int)) (w48y2 N (6:Int) l0 (0:Int))) <|
  ck (w49p N (IntKind.i64.wrap (max (1:Int) (min (5:Int) depth1) - (1:Int))) (w49y3 N (IntKind.i64.wrap (max (1:Int) (min (5:Int) depth1) - (1:Int))) (w48y1 N (6:Int) l0 (0:Int)) (w48y2 N (6:Int) l0 (0:Int))) (w49y4 N (IntKind.i64.wrap (max (1:Int) (min (5:Int) depth1) - (1:Int))) (w48y1 N (6:Int) l0 (0:Int)) (w48y2 N (6:Int) l0 (0:Int)))) <|
  some (w12r0 ((IntKind.i64.wrap ((9:Int)+w48y0 N (6:Int) l0 (0:Int)))) ((0:Int)) ([Ex.mk (w49y0 N (IntKind.i64.wrap (max (1:Int) (min (5:Int) depth1) - (1:Int))) (w48y1 N (6:Int) l0 (0:Int)) (w48y2 N (6:Int) l0 (0:Int))) (w49y1 N (IntKind.i64.wrap (max (1:Int) (min (5:Int) depth1) - (1:Int))) (w48y1 N (6:Int) l0 (0:Int)) (w48y2 N (6:Int) l0 (0:Int))) (w49y2 N (IntKind.i64.wrap (max (1:Int) (min (5:Int) depth1) - (1:Int))) (w48y1 N (6:Int) l0 (0:Int)) (w48y2 N (6:Int) l0 (0:Int))),Ex.mk (w49y0 N (IntKind.i64.wrap (max (1:Int) (min (5:Int) depth1) - (1:Int))) (w49y3 N (IntKind.i64.wrap (max (1:Int) (min (5:Int) depth1) - (1:Int))) (w48y1 N (6:Int) l0 (0:Int)) (w48y2 N (6:Int) l0 (0:Int))) (w49y4 N (IntKind.i64.wrap (max (1:Int) (min (5:Int) depth1) - (1:Int))) (w48y1 N (6:Int) l0 (0:Int)) (w48y2 N (6:Int) l0 (0:Int)))) (w49y1 N (IntKind.i64.wrap (max (1:Int) (min (5:Int) depth1) - (1:Int))) (w49y3 N (IntKind.i64.wrap (max (1:Int) (min (5:Int) depth1) - (1:Int))) (w48y1 N (6:Int) l0 (0:Int)) (w48y2 N (6:Int) l0 (0:Int))) (w49y4 N (IntKind.i64.wrap (max (1:Int) (min (5:Int) depth1) - (1:Int))) (w48y1 N (6:Int) l0 (0:Int)) (w48y2 N (6:Int) l0 (0:Int)))) (w49y2 N (IntKind.i64.wrap (max (1:Int) (min (5:Int) depth1) - (1:Int))) (w49y3 N (IntKind.i64.wrap (max (1:Int) (min (5:Int) depth1) - (1:Int))) (w48y1 N (6:Int) l0 (0:Int)) (w48y2 N (6:Int) l0 (0:Int))) (w49y4 N (IntKind.i64.wrap (max (1:Int) (min (5:Int) depth1) - (1:Int))) (w48y1 N (6:Int) l0 (0:Int)) (w48y2 N (6:Int) l0 (0:Int))))])))
def w12 [Alg] (N:Nat) (l0:(List Int)) (depth1:Int):O:=w12G N  l0 depth1
noncomputable def w12h [Alg] (_:Nat):Hint:=.d
theorem w12hk (N:Nat):HintOk (w12c N) Tryd.f12.ntmps (w12h N) w12b:=hk_of _ _ trivial
theorem w12q [Alg] (N:Nat) (l0:(List Int)) (depth1:Int):w12G N  l0 depth1=exec (w12c N) Tryd.f12.ntmps (w12h N) w12b ⟨argT 0 [.e (.sl (.i .i64)) l0,.e (.i .i64) depth1],[],100⟩ (finX (w12c N) Tryd.f12 false):=by kernel_rfl
theorem w12does {N:Nat} (hc:CxOk (w12c N)) {l0:(List Int)} {depth1:Int} {r:Res} (h:w12 N l0 depth1=some r):DoesR Tryd.prog 12 (([.e (.sl (.i .i64)) l0,.e (.i .i64) depth1]:List X).map X.D) (HA []) r:=
 fun_ok hc (f:=12) (fn:=Tryd.f12) (code:=w12b) (by kernel_rfl) (by kernel_rfl) (w12hk N) (Nat.le_of_ble_eq_true (by kernel_rfl)) (ow:=false) ((w12q N l0 depth1).symm.trans (by exact h))
def w12un (r:Res):Option (Int×Int×(List Ex)):=match r with
 | (.agg [x0,x1,x2],[])=>(match ue (.i .i64) x0,ue (.i .i64) x1,ue (.sl .ex) x2 with | some a0,some a1,some a2=>some (a0,a1,a2) | _,_,_=>none)
 | _=>none
theorem w12uo {r:Res} {d:Int×Int×(List Ex)} (h:w12un r=some d):r=w12r0 (d.1) (d.2.1) (d.2.2):=by
 unfold w12un at h
 split at h
 ·split at h
  ·rename_i h0 h1 h2;cases h;rw [ue_some h0,ue_some h1,ue_some h2];rfl
  ·cases h
 ·cases h
def w12z (N:Nat) (l0:(List Int)) (depth1:Int):Option (Int×Int×(List Ex)):=(w12 N l0 depth1).bind w12un
theorem w12fin {N:Nat} (hc:CxOk (w12c N)) {l0:(List Int)} {depth1:Int} {d:Int×Int×(List Ex)} (hd:w12z N l0 depth1=some d):Does Tryd.prog 12 (([.e (.sl (.i .i64)) l0,.e (.i .i64) depth1]:List X).map X.D) (HA []) (w12r0 (d.1) (d.2.1) (d.2.2)).1.D (HA (w12r0 (d.1) (d.2.1) (d.2.2)).2):=by
 obtain ⟨r,hr,hu⟩:=Option.bind_eq_some_iff.1 hd
 have:=w12does hc hr
 rw [w12uo hu] at this
 exact this
def w12p (N:Nat) (l0:(List Int)) (depth1:Int):Bool:=(w12z N l0 depth1).isSome
def w12y0 (N:Nat) (l0:(List Int)) (depth1:Int):Int:=((w12z N l0 depth1).getD (0,0,[])).1
def w12y1 (N:Nat) (l0:(List Int)) (depth1:Int):Int:=((w12z N l0 depth1).getD (0,0,[])).2.1
def w12y2 (N:Nat) (l0:(List Int)) (depth1:Int):(List Ex):=((w12z N l0 depth1).getD (0,0,[])).2.2
def w12e (N:Nat):Ent':=E2 (.sl (.i .i64)) (.i .i64)  (fun x0 x1=>(w12p N x0 x1,w12r0 (w12y0 N x0 x1) (w12y1 N x0 x1) (w12y2 N x0 x1)))
theorem w12re {N:Nat} {l0:(List Int)} {depth1:Int} {d:Int×Int×(List Ex)} (hd:w12z N l0 depth1=some d):w12r0 (w12y0 N l0 depth1) (w12y1 N l0 depth1) (w12y2 N l0 depth1)=w12r0 (d.1) (d.2.1) (d.2.2):=by unfold w12y0 w12y1 w12y2;rw [hd];rfl
theorem w12ok (N:Nat):EOk Tryd.prog 12 (w12e N):=EOk.e2 (fun x0 x1 h=>by
 have h:(w12z N x0 x1).isSome=true:=h
 obtain ⟨d,hd⟩:=Option.isSome_iff_exists.1 h
 have f:=w12fin (w12cx N) hd
 rw [← w12re hd] at f
 exact f)
abbrev w13T:=Nat×(Int→Int→(List Ex)→Int→Int→Int→Option (Int×Int×(List Ex)))
def w33r0 (a0:Int):Res:=(.e (.i .i64) a0,[])
abbrev w33T:=Nat×(Int→Int→(List Ex)→Option (Int))
noncomputable def w33L (N:w33T):List (Nat×Ent'):=[(33,E1 .ex  (fun x0=>((N.2 (Ex.op x0) (Ex.num x0) (Ex.kids x0)).isSome,w33r0 (((N.2 (Ex.op x0) (Ex.num x0) (Ex.kids x0)).getD 0)))))]
noncomputable def w33c (N:w33T):Cx:=⟨Tryd.prog,25,w33L N,[]⟩
noncomputable def w33b:Code:=Tryd.f33.body.getD .skip
theorem w33cx (N:w33T) (hs:EOk Tryd.prog 33 (E1 .ex  (fun x0=>((N.2 (Ex.op x0) (Ex.num x0) (Ex.kids x0)).isSome,w33r0 (((N.2 (Ex.op x0) (Ex.num x0) (Ex.kids x0)).getD 0)))))):CxOk (w33c N):=ctx_ok (by kernel_rfl) (.cons (by kernel_rfl) hs .nil) .nil
def w33F0 [Alg] (N:w33T)  (self:Int→Int→O) (k0:Int→O) (_x0_2 _x0_3:Int) (x0_4:(List Ex)) (x0_0 x0_1:Int):O:=
 br (decide (x0_1 < (↑x0_4.length:Int)))
  (gx x0_4 x0_1 fun y3=>
  ck ((N.2 y3.op y3.num y3.kids).isSome) <|
  self (IntKind.i64.wrap (x0_0+(N.2 y3.op y3.num y3.kids).getD (0:Int))) (IntKind.i64.wrap (x0_1+(1:Int))))
  (k0 x0_0)
noncomputable def w33b0:Code:=atC [1,1,0,1,0,0] w33b
def w33m0:Nm:=⟨[1,3,4],[],[]⟩
def w33I0 (x:Int×Int×Int×Int×(List Ex)):Sg:=⟨[(1,.ref 0 0),(3,.e (.i .i64) x.1),(4,.e (.i .i64) x.2.1)],[(0,.box 25 [.e (.i .i64) x.2.2.1,.e (.i .i64) x.2.2.2.1,.e (.sl .ex) x.2.2.2.2])],100⟩
def w33u0 (σ:Sg):Int×Int×Int×Int×(List Ex):=(lvT (.i .i64) 3 0 σ,lvT (.i .i64) 4 0 σ,lvH (.i .i64) 0 0 σ,lvH (.i .i64) 0 1 σ,lvH (.sl .ex) 0 2 σ)
theorem w33ui0:∀ x,w33u0 (w33I0 x)=x:=fun _=>by kernel_rfl
def w33X0_0 (y:Int):Exit×Sg:=((.exit 0),⟨[(3,.e (.i .i64) y)],[],100⟩)
def w33v0_0 (_:Exit) (σ:Sg):Int:=lvT (.i .i64) 3 0 σ
def w33w0:List (Exit×Nm):=[((.exit 0),⟨[3],[],[]⟩)]
theorem w33o0:Outs w33v0_0 (fun _ _=>()) (fun _ _=>()) w33X0_0 (noX 1) (noX 2) (exC (.exit 0)) (exC (.goto 1)) (exC (.goto 2)):=⟨fun _=>by kernel_rfl,fun _=>by kernel_rfl,fun _=>by kernel_rfl,fun _=>by kernel_rfl,fun _=>by kernel_rfl,fun _=>by kernel_rfl,exNe_ok (by kernel_rfl),exNe_ok (by kernel_rfl),exNe_ok (by kernel_rfl)⟩
def w33l0 [Alg] (N:w33T):Nat→(Int×Int×Int×Int×(List Ex))→((Int)→O)→((Unit)→O)→((Unit)→O)→O
 | 0,_,_,_,_=>none
 | n+1,x,k0,k1,k2=>w33F0 N  (fun v0 v1=>w33l0 N n (v0,v1,x.2.2.1,x.2.2.2.1,x.2.2.2.2) k0 k1 k2) (fun y0=>k0 y0) x.2.2.1 x.2.2.2.1 x.2.2.2.2 x.1 x.2.1
def w33n0 [Alg] (N:w33T) (a0 a1 a2 a3:Int) (a4:(List Ex)) (k0:Int→O):O:=w33l0 N N.1 (a0,a1,a2,a3,a4) (fun y=>k0 y) (fun _=>none) (fun _=>none)
noncomputable def w33s0 [Alg] (N:w33T) (a0 a1 a2 a3:Int) (a4:(List Ex)) (k0:Int→O):O:=subL w33I0 w33u0 (w33l0 N N.1) (w33I0 (a0,a1,a2,a3,a4)) (fun y=>k0 y) (fun _=>none) (fun _=>none)
theorem w33e0 [Alg] (N:w33T):w33s0 N=w33n0 N:=funext fun _=>funext fun _=>funext fun _=>funext fun _=>funext fun _=>funext fun _=>subL_I w33ui0 _ _ _ _
noncomputable def w33h0 [Alg] (_:w33T):Hint:=.d
theorem w33hk0 (N:w33T):HintOk (w33c N) Tryd.f33.ntmps (w33h0 N) w33b0:=hk_of _ _ trivial
theorem w33q0 [Alg] (N:w33T) (self:Sg→O) (K:Exit→Sg→O) (x:Int×Int×Int×Int×(List Ex)):w33F0 N  (fun v0 v1=>self (w33I0 (v0,v1,x.2.2.1,x.2.2.2.1,x.2.2.2.2))) (fun y0=>K (w33X0_0 y0).1 (w33X0_0 y0).2) x.2.2.1 x.2.2.2.1 x.2.2.2.2 x.1 x.2.1=exec (w33c N) Tryd.f33.ntmps (w33h0 N) w33b0 (w33I0 x) (roundX w33m0 w33w0 self K):=by kernel_rfl
theorem w33S0 (N:w33T) (hc:CxOk (w33c N)):SubOk (w33c N) Tryd.f33.ntmps (.loop w33b0) w33X0_0 (noX 1) (noX 2) (subL w33I0 w33u0 (w33l0 N N.1)):=
 sub_loop hc (w33hk0 N) w33o0 (n:=N.1) (fun x K=>loop_ind (w33l0 N) (fun _ _ _ _=>rfl) (fun n K ih x=>by
  have h:w33F0 N  (fun v0 v1=>w33l0 N n (v0,v1,x.2.2.1,x.2.2.2.1,x.2.2.2.2) (fun y=>K (w33X0_0 y).1 (w33X0_0 y).2) (fun y=>K ((noX 1) y).1 ((noX 1) y).2) (fun y=>K ((noX 2) y).1 ((noX 2) y).2)) (fun y0=>K (w33X0_0 y0).1 (w33X0_0 y0).2) x.2.2.1 x.2.2.2.1 x.2.2.2.2 x.1 x.2.1=w33F0 N  (fun v0 v1=>loopX (w33c N) Tryd.f33.ntmps (w33h0 N) w33b0 w33m0 w33w0 n (w33I0 (v0,v1,x.2.2.1,x.2.2.2.1,x.2.2.2.2)) K) (fun y0=>K (w33X0_0 y0).1 (w33X0_0 y0).2) x.2.2.1 x.2.2.2.1 x.2.2.2.2 x.1 x.2.1:=by rw [ show (fun v0 v1=>w33l0 N n (v0,v1,x.2.2.1,x.2.2.2.1,x.2.2.2.2) (fun y=>K (w33X0_0 y).1 (w33X0_0 y).2) (fun y=>K ((noX 1) y).1 ((noX 1) y).2) (fun y=>K ((noX 2) y).1 ((noX 2) y).2))=(fun v0 v1=>loopX (w33c N) Tryd.f33.ntmps (w33h0 N) w33b0 w33m0 w33w0 n (w33I0 (v0,v1,x.2.2.1,x.2.2.2.1,x.2.2.2.2)) K) from funext fun _=>funext fun _=>ih _]
  exact h.trans (w33q0 N (fun σ=>loopX (w33c N) Tryd.f33.ntmps (w33h0 N) w33b0 w33m0 w33w0 n σ K) K x)) N.1 x K)
def w33G [Alg] (_:w33T) (in0:Int→Int→Int→Int→(List Ex)→(Int→O)→O) (A B:Int) (C:(List Ex)):O:=
 in0 ((1:Int)) ((0:Int)) A B C
  (fun z4=>
   some (w33r0 z4))
def w33 [Alg] (N:w33T) (A B:Int) (C:(List Ex)):O:=w33G N (w33n0 N) A B C
noncomputable def w33h [Alg] (N:w33T):Hint:=(.seq .d (.seq .d (.seq (.seq .d (.block (.sub w33m0 _ _ _ w33X0_0 (noX 1) (noX 2) (subL w33I0 w33u0 (w33l0 N N.1))))) .d)))
theorem w33hk (N:w33T) (hc:CxOk (w33c N)):HintOk (w33c N) Tryd.f33.ntmps (w33h N) w33b:=hk_of _ _ (And.intro trivial (And.intro trivial (And.intro (And.intro trivial (w33S0 N hc)) trivial)))
theorem w33q [Alg] (N:w33T) (A B:Int) (C:(List Ex)):w33G N (w33s0 N) A B C=exec (w33c N) Tryd.f33.ntmps (w33h N) w33b ⟨argT 0 [.agg [.e (.i .i64) A,.e (.i .i64) B,.e (.sl .ex) C]],[],100⟩ (finX (w33c N) Tryd.f33 false):=by kernel_rfl
theorem w33does {N:w33T} (hc:CxOk (w33c N)) {A B:Int} {C:(List Ex)} {r:Res} (h:w33 N A B C=some r):DoesR Tryd.prog 33 (([.agg [.e (.i .i64) A,.e (.i .i64) B,.e (.sl .ex) C]]:List X).map X.D) (HA []) r:=
 fun_ok hc (f:=33) (fn:=Tryd.f33) (code:=w33b) (by kernel_rfl) (by kernel_rfl) (w33hk N hc) (Nat.le_of_ble_eq_true (by kernel_rfl)) (ow:=false) ((w33q N A B C).symm.trans (by rw [w33e0 N];exact h))
def w33un (r:Res):Option (Int):=match r with
 | (x0,[])=>(match ue (.i .i64) x0 with | some a0=>some a0 | _=>none)
 | _=>none
theorem w33uo {r:Res} {d:Int} (h:w33un r=some d):r=w33r0 (d):=by
 unfold w33un at h
 split at h
 ·split at h
  ·rename_i h0;cases h;rw [ue_some h0];rfl
  ·cases h
 ·cases h
def w33z (N:w33T) (A B:Int) (C:(List Ex)):Option (Int):=(w33 N A B C).bind w33un
theorem w33fin {N:w33T} (hc:CxOk (w33c N)) {A B:Int} {C:(List Ex)} {d:Int} (hd:w33z N A B C=some d):Does Tryd.prog 33 (([.agg [.e (.i .i64) A,.e (.i .i64) B,.e (.sl .ex) C]]:List X).map X.D) (HA []) (w33r0 (d)).1.D (HA (w33r0 (d)).2):=by
 obtain ⟨r,hr,hu⟩:=Option.bind_eq_some_iff.1 hd
 have:=w33does hc hr
 rw [w33uo hu] at this
 exact this
def w33Y (N:Nat):Nat→Int→Int→(List Ex)→Option (Int)
 | 0,_,_,_=>none
 | n+1,A,B,C=>w33z (N,w33Y N n) A B C
theorem w33Yok (N:Nat):∀ n,EOk Tryd.prog 33 (E1 .ex  (fun x0=>((w33Y N n (Ex.op x0) (Ex.num x0) (Ex.kids x0)).isSome,w33r0 (((w33Y N n (Ex.op x0) (Ex.num x0) (Ex.kids x0)).getD 0)))))
 | 0=>EOk.e1 (fun _ h=>by cases h)
 | n+1=>EOk.e1 (fun x0 h=>by
   obtain ⟨d,hd⟩:=Option.isSome_iff_exists.1 h
   have hd':w33Y N (n+1) (Ex.op x0) (Ex.num x0) (Ex.kids x0)=some d:=hd
   have e:w33r0 (((w33Y N (n+1) (Ex.op x0) (Ex.num x0) (Ex.kids x0)).getD 0))=w33r0 (d):=by rw [hd'];rfl
   show Does _ _ _ _ (w33r0 (((w33Y N (n+1) (Ex.op x0) (Ex.num x0) (Ex.kids x0)).getD 0))).1.D (HA (w33r0 (((w33Y N (n+1) (Ex.op x0) (Ex.num x0) (Ex.kids x0)).getD 0))).2)
   rw [e]
   exact w33fin (N:=(N,w33Y N n)) (w33cx (N,w33Y N n) (w33Yok N n)) hd')
def w33p (N:Nat) (A B:Int) (C:(List Ex)):Bool:=(w33Y N N A B C).isSome
def w33y0 (N:Nat) (A B:Int) (C:(List Ex)):Int:=((w33Y N N A B C).getD 0)
def w33e (N:Nat):Ent':=E1 .ex  (fun x0=>(w33p N (Ex.op x0) (Ex.num x0) (Ex.kids x0),w33r0 (w33y0 N (Ex.op x0) (Ex.num x0) (Ex.kids x0))))
theorem w33ok (N:Nat):EOk Tryd.prog 33 (w33e N):=w33Yok N N
def w35r0 (a0:Int):Res:=(.e (.i .i64) a0,[])
noncomputable def w35L (N:w33T):List (Nat×Ent'):=[(35,E1 .ex  (fun x0=>((N.2 (Ex.op x0) (Ex.num x0) (Ex.kids x0)).isSome,w35r0 (((N.2 (Ex.op x0) (Ex.num x0) (Ex.kids x0)).getD 0)))))]
noncomputable def w35c (N:w33T):Cx:=⟨Tryd.prog,25,w35L N,[]⟩
noncomputable def w35b:Code:=Tryd.f35.body.getD .skip
theorem w35cx (N:w33T) (hs:EOk Tryd.prog 35 (E1 .ex  (fun x0=>((N.2 (Ex.op x0) (Ex.num x0) (Ex.kids x0)).isSome,w35r0 (((N.2 (Ex.op x0) (Ex.num x0) (Ex.kids x0)).getD 0)))))):CxOk (w35c N):=ctx_ok (by kernel_rfl) (.cons (by kernel_rfl) hs .nil) .nil
def w35F0 [Alg] (N:w33T)  (self:Int→Int→O) (k0:Int→O) (_x0_2 _x0_3:Int) (x0_4:(List Ex)) (x0_0 x0_1:Int):O:=
 br (decide (x0_1 < (↑x0_4.length:Int)))
  (gx x0_4 x0_1 fun y3=>
  ck ((N.2 y3.op y3.num y3.kids).isSome) <|
  self (max x0_0 ((N.2 y3.op y3.num y3.kids).getD (0:Int))) (IntKind.i64.wrap (x0_1+(1:Int))))
  (k0 x0_0)
noncomputable def w35b0:Code:=atC [1,1,0,1,0,0] w35b
def w35m0:Nm:=⟨[1,3,4],[],[]⟩
def w35I0 (x:Int×Int×Int×Int×(List Ex)):Sg:=⟨[(1,.ref 0 0),(3,.e (.i .i64) x.1),(4,.e (.i .i64) x.2.1)],[(0,.box 25 [.e (.i .i64) x.2.2.1,.e (.i .i64) x.2.2.2.1,.e (.sl .ex) x.2.2.2.2])],100⟩
def w35u0 (σ:Sg):Int×Int×Int×Int×(List Ex):=(lvT (.i .i64) 3 0 σ,lvT (.i .i64) 4 0 σ,lvH (.i .i64) 0 0 σ,lvH (.i .i64) 0 1 σ,lvH (.sl .ex) 0 2 σ)
theorem w35ui0:∀ x,w35u0 (w35I0 x)=x:=fun _=>by kernel_rfl
def w35X0_0 (y:Int):Exit×Sg:=((.exit 0),⟨[(3,.e (.i .i64) y)],[],100⟩)
def w35v0_0 (_:Exit) (σ:Sg):Int:=lvT (.i .i64) 3 0 σ
def w35w0:List (Exit×Nm):=[((.exit 0),⟨[3],[],[]⟩)]
theorem w35o0:Outs w35v0_0 (fun _ _=>()) (fun _ _=>()) w35X0_0 (noX 1) (noX 2) (exC (.exit 0)) (exC (.goto 1)) (exC (.goto 2)):=⟨fun _=>by kernel_rfl,fun _=>by kernel_rfl,fun _=>by kernel_rfl,fun _=>by kernel_rfl,fun _=>by kernel_rfl,fun _=>by kernel_rfl,exNe_ok (by kernel_rfl),exNe_ok (by kernel_rfl),exNe_ok (by kernel_rfl)⟩
def w35l0 [Alg] (N:w33T):Nat→(Int×Int×Int×Int×(List Ex))→((Int)→O)→((Unit)→O)→((Unit)→O)→O
 | 0,_,_,_,_=>none
 | n+1,x,k0,k1,k2=>w35F0 N  (fun v0 v1=>w35l0 N n (v0,v1,x.2.2.1,x.2.2.2.1,x.2.2.2.2) k0 k1 k2) (fun y0=>k0 y0) x.2.2.1 x.2.2.2.1 x.2.2.2.2 x.1 x.2.1
def w35n0 [Alg] (N:w33T) (a0 a1 a2 a3:Int) (a4:(List Ex)) (k0:Int→O):O:=w35l0 N N.1 (a0,a1,a2,a3,a4) (fun y=>k0 y) (fun _=>none) (fun _=>none)
noncomputable def w35s0 [Alg] (N:w33T) (a0 a1 a2 a3:Int) (a4:(List Ex)) (k0:Int→O):O:=subL w35I0 w35u0 (w35l0 N N.1) (w35I0 (a0,a1,a2,a3,a4)) (fun y=>k0 y) (fun _=>none) (fun _=>none)
theorem w35e0 [Alg] (N:w33T):w35s0 N=w35n0 N:=funext fun _=>funext fun _=>funext fun _=>funext fun _=>funext fun _=>funext fun _=>subL_I w35ui0 _ _ _ _
noncomputable def w35h0 [Alg] (_:w33T):Hint:=.d
theorem w35hk0 (N:w33T):HintOk (w35c N) Tryd.f35.ntmps (w35h0 N) w35b0:=hk_of _ _ trivial
theorem w35q0 [Alg] (N:w33T) (self:Sg→O) (K:Exit→Sg→O) (x:Int×Int×Int×Int×(List Ex)):w35F0 N  (fun v0 v1=>self (w35I0 (v0,v1,x.2.2.1,x.2.2.2.1,x.2.2.2.2))) (fun y0=>K (w35X0_0 y0).1 (w35X0_0 y0).2) x.2.2.1 x.2.2.2.1 x.2.2.2.2 x.1 x.2.1=exec (w35c N) Tryd.f35.ntmps (w35h0 N) w35b0 (w35I0 x) (roundX w35m0 w35w0 self K):=by kernel_rfl
theorem w35S0 (N:w33T) (hc:CxOk (w35c N)):SubOk (w35c N) Tryd.f35.ntmps (.loop w35b0) w35X0_0 (noX 1) (noX 2) (subL w35I0 w35u0 (w35l0 N N.1)):=
 sub_loop hc (w35hk0 N) w35o0 (n:=N.1) (fun x K=>loop_ind (w35l0 N) (fun _ _ _ _=>rfl) (fun n K ih x=>by
  have h:w35F0 N  (fun v0 v1=>w35l0 N n (v0,v1,x.2.2.1,x.2.2.2.1,x.2.2.2.2) (fun y=>K (w35X0_0 y).1 (w35X0_0 y).2) (fun y=>K ((noX 1) y).1 ((noX 1) y).2) (fun y=>K ((noX 2) y).1 ((noX 2) y).2)) (fun y0=>K (w35X0_0 y0).1 (w35X0_0 y0).2) x.2.2.1 x.2.2.2.1 x.2.2.2.2 x.1 x.2.1=w35F0 N  (fun v0 v1=>loopX (w35c N) Tryd.f35.ntmps (w35h0 N) w35b0 w35m0 w35w0 n (w35I0 (v0,v1,x.2.2.1,x.2.2.2.1,x.2.2.2.2)) K) (fun y0=>K (w35X0_0 y0).1 (w35X0_0 y0).2) x.2.2.1 x.2.2.2.1 x.2.2.2.2 x.1 x.2.1:=by rw [ show (fun v0 v1=>w35l0 N n (v0,v1,x.2.2.1,x.2.2.2.1,x.2.2.2.2) (fun y=>K (w35X0_0 y).1 (w35X0_0 y).2) (fun y=>K ((noX 1) y).1 ((noX 1) y).2) (fun y=>K ((noX 2) y).1 ((noX 2) y).2))=(fun v0 v1=>loopX (w35c N) Tryd.f35.ntmps (w35h0 N) w35b0 w35m0 w35w0 n (w35I0 (v0,v1,x.2.2.1,x.2.2.2.1,x.2.2.2.2)) K) from funext fun _=>funext fun _=>ih _]
  exact h.trans (w35q0 N (fun σ=>loopX (w35c N) Tryd.f35.ntmps (w35h0 N) w35b0 w35m0 w35w0 n σ K) K x)) N.1 x K)
def w35G [Alg] (_:w33T) (in0:Int→Int→Int→Int→(List Ex)→(Int→O)→O) (A B:Int) (C:(List Ex)):O:=
 in0 ((0:Int)) ((0:Int)) A B C
  (fun z4=>
   some (w35r0 (IntKind.i64.wrap (z4+(1:Int)))))
def w35 [Alg] (N:w33T) (A B:Int) (C:(List Ex)):O:=w35G N (w35n0 N) A B C
noncomputable def w35h [Alg] (N:w33T):Hint:=(.seq .d (.seq .d (.seq (.seq .d (.block (.sub w35m0 _ _ _ w35X0_0 (noX 1) (noX 2) (subL w35I0 w35u0 (w35l0 N N.1))))) .d)))
theorem w35hk (N:w33T) (hc:CxOk (w35c N)):HintOk (w35c N) Tryd.f35.ntmps (w35h N) w35b:=hk_of _ _ (And.intro trivial (And.intro trivial (And.intro (And.intro trivial (w35S0 N hc)) trivial)))
theorem w35q [Alg] (N:w33T) (A B:Int) (C:(List Ex)):w35G N (w35s0 N) A B C=exec (w35c N) Tryd.f35.ntmps (w35h N) w35b ⟨argT 0 [.agg [.e (.i .i64) A,.e (.i .i64) B,.e (.sl .ex) C]],[],100⟩ (finX (w35c N) Tryd.f35 false):=by kernel_rfl
theorem w35does {N:w33T} (hc:CxOk (w35c N)) {A B:Int} {C:(List Ex)} {r:Res} (h:w35 N A B C=some r):DoesR Tryd.prog 35 (([.agg [.e (.i .i64) A,.e (.i .i64) B,.e (.sl .ex) C]]:List X).map X.D) (HA []) r:=
 fun_ok hc (f:=35) (fn:=Tryd.f35) (code:=w35b) (by kernel_rfl) (by kernel_rfl) (w35hk N hc) (Nat.le_of_ble_eq_true (by kernel_rfl)) (ow:=false) ((w35q N A B C).symm.trans (by rw [w35e0 N];exact h))
def w35un (r:Res):Option (Int):=match r with
 | (x0,[])=>(match ue (.i .i64) x0 with | some a0=>some a0 | _=>none)
 | _=>none
theorem w35uo {r:Res} {d:Int} (h:w35un r=some d):r=w35r0 (d):=by
 unfold w35un at h
 split at h
 ·split at h
  ·rename_i h0;cases h;rw [ue_some h0];rfl
  ·cases h
 ·cases h
def w35z (N:w33T) (A B:Int) (C:(List Ex)):Option (Int):=(w35 N A B C).bind w35un
theorem w35fin {N:w33T} (hc:CxOk (w35c N)) {A B:Int} {C:(List Ex)} {d:Int} (hd:w35z N A B C=some d):Does Tryd.prog 35 (([.agg [.e (.i .i64) A,.e (.i .i64) B,.e (.sl .ex) C]]:List X).map X.D) (HA []) (w35r0 (d)).1.D (HA (w35r0 (d)).2):=by
 obtain ⟨r,hr,hu⟩:=Option.bind_eq_some_iff.1 hd
 have:=w35does hc hr
 rw [w35uo hu] at this
 exact this
def w35Y (N:Nat):Nat→Int→Int→(List Ex)→Option (Int)
 | 0,_,_,_=>none
 | n+1,A,B,C=>w35z (N,w35Y N n) A B C
theorem w35Yok (N:Nat):∀ n,EOk Tryd.prog 35 (E1 .ex  (fun x0=>((w35Y N n (Ex.op x0) (Ex.num x0) (Ex.kids x0)).isSome,w35r0 (((w35Y N n (Ex.op x0) (Ex.num x0) (Ex.kids x0)).getD 0)))))
 | 0=>EOk.e1 (fun _ h=>by cases h)
 | n+1=>EOk.e1 (fun x0 h=>by
   obtain ⟨d,hd⟩:=Option.isSome_iff_exists.1 h
   have hd':w35Y N (n+1) (Ex.op x0) (Ex.num x0) (Ex.kids x0)=some d:=hd
   have e:w35r0 (((w35Y N (n+1) (Ex.op x0) (Ex.num x0) (Ex.kids x0)).getD 0))=w35r0 (d):=by rw [hd'];rfl
   show Does _ _ _ _ (w35r0 (((w35Y N (n+1) (Ex.op x0) (Ex.num x0) (Ex.kids x0)).getD 0))).1.D (HA (w35r0 (((w35Y N (n+1) (Ex.op x0) (Ex.num x0) (Ex.kids x0)).getD 0))).2)
   rw [e]
   exact w35fin (N:=(N,w35Y N n)) (w35cx (N,w35Y N n) (w35Yok N n)) hd')
def w35p (N:Nat) (A B:Int) (C:(List Ex)):Bool:=(w35Y N N A B C).isSome
def w35y0 (N:Nat) (A B:Int) (C:(List Ex)):Int:=((w35Y N N A B C).getD 0)
def w35e (N:Nat):Ent':=E1 .ex  (fun x0=>(w35p N (Ex.op x0) (Ex.num x0) (Ex.kids x0),w35r0 (w35y0 N (Ex.op x0) (Ex.num x0) (Ex.kids x0))))
theorem w35ok (N:Nat):EOk Tryd.prog 35 (w35e N):=w35Yok N N
def w96r0 (a0:Int):Res:=(.e (.i .i64) a0,[])
noncomputable def w96L (_:Nat):List (Nat×Ent'):=[]
noncomputable def w96c (N:Nat):Cx:=⟨Tryd.prog,25,w96L N,[]⟩
noncomputable def w96b:Code:=Tryd.f96.body.getD .skip
theorem w96cx (N:Nat):CxOk (w96c N):=ctx_ok (by kernel_rfl) .nil .nil
def w96F0 [Alg] (_:Nat)   (k0:Int→Bool→O) (x17_0:Int):O:=
 br (decide (x17_0=(0:Int)))
  (k0 x17_0 (decide (x17_0=(0:Int))))
  (k0 x17_0 (decide (x17_0=(1:Int))))
noncomputable def w96b0:Code:=atC [1,0,1,0,0] w96b
def w96m0:Nm:=⟨[3],[],[]⟩
def w96I0 (x:Int):Sg:=⟨[(3,.e (.i .i64) x)],[],100⟩
def w96u0 (σ:Sg):Int:=lvT (.i .i64) 3 0 σ
theorem w96ui0:∀ x,w96u0 (w96I0 x)=x:=fun _=>by kernel_rfl
def w96X0_0 (y:Int×Bool):Exit×Sg:=(.normal,⟨[(3,.e (.i .i64) y.1),(4,.e .bo y.2)],[],100⟩)
def w96v0_0 (_:Exit) (σ:Sg):Int×Bool:=(lvT (.i .i64) 3 0 σ,lvT .bo 4 0 σ)
def w96w0:List (Exit×Nm):=[(.normal,⟨[3,4],[],[]⟩)]
theorem w96o0:Outs w96v0_0 (fun _ _=>()) (fun _ _=>()) w96X0_0 (noX 1) (noX 2) (exC .normal) (exC (.goto 1)) (exC (.goto 2)):=⟨fun _=>by kernel_rfl,fun _=>by kernel_rfl,fun _=>by kernel_rfl,fun _=>by kernel_rfl,fun _=>by kernel_rfl,fun _=>by kernel_rfl,exNe_ok (by kernel_rfl),exNe_ok (by kernel_rfl),exNe_ok (by kernel_rfl)⟩
def w96l0 [Alg] (N _:Nat) (x:Int) (k0:(Int×Bool)→O) (_:(Unit)→O) (_:(Unit)→O):O:=w96F0 N   (fun y0 y1=>k0 (y0,y1)) x
def w96n0 [Alg] (N:Nat) (a0:Int) (k0:Int→Bool→O):O:=w96l0 N N a0 (fun y=>k0 y.1 y.2) (fun _=>none) (fun _=>none)
noncomputable def w96s0 [Alg] (N:Nat) (a0:Int) (k0:Int→Bool→O):O:=subL w96I0 w96u0 (w96l0 N N) (w96I0 a0) (fun y=>k0 y.1 y.2) (fun _=>none) (fun _=>none)
theorem w96e0 [Alg] (N:Nat):w96s0 N=w96n0 N:=funext fun _=>funext fun _=>subL_I w96ui0 _ _ _ _
noncomputable def w96h0 [Alg] (_:Nat):Hint:=.d
theorem w96hk0 (N:Nat):HintOk (w96c N) Tryd.f96.ntmps (w96h0 N) w96b0:=hk_of _ _ trivial
theorem w96q0 [Alg] (N:Nat) (K:Exit→Sg→O) (x:Int):w96F0 N   (fun y0 y1=>K (w96X0_0 (y0,y1)).1 (w96X0_0 (y0,y1)).2) x=exec (w96c N) Tryd.f96.ntmps (w96h0 N) w96b0 (w96I0 x) (partX w96w0 K):=by kernel_rfl
theorem w96S0 (N:Nat) (hc:CxOk (w96c N)):SubOk (w96c N) Tryd.f96.ntmps w96b0 w96X0_0 (noX 1) (noX 2) (subL w96I0 w96u0 (w96l0 N N)):=
 sub_part hc (w96hk0 N) w96o0 (fun x K=>by
  have h:w96F0 N   (fun y0 y1=>K (w96X0_0 (y0,y1)).1 (w96X0_0 (y0,y1)).2) x=w96F0 N   (fun y0 y1=>K (w96X0_0 (y0,y1)).1 (w96X0_0 (y0,y1)).2) x:=by rfl
  exact h.trans (w96q0 N K x))
def w96F1 [Alg] (_:Nat)   (k0:Int→Bool→O) (x20_0:Int):O:=
 br (decide (x20_0=(2:Int)))
  (k0 x20_0 (decide (x20_0=(2:Int))))
  (k0 x20_0 (decide (x20_0=(8:Int))))
noncomputable def w96b1:Code:=atC [1,0,1,0,1,1,0] w96b
def w96m1:Nm:=⟨[3],[],[]⟩
def w96I1 (x:Int):Sg:=⟨[(3,.e (.i .i64) x)],[],100⟩
def w96u1 (σ:Sg):Int:=lvT (.i .i64) 3 0 σ
theorem w96ui1:∀ x,w96u1 (w96I1 x)=x:=fun _=>by kernel_rfl
def w96X1_0 (y:Int×Bool):Exit×Sg:=(.normal,⟨[(3,.e (.i .i64) y.1),(7,.e .bo y.2)],[],100⟩)
def w96v1_0 (_:Exit) (σ:Sg):Int×Bool:=(lvT (.i .i64) 3 0 σ,lvT .bo 7 0 σ)
def w96w1:List (Exit×Nm):=[(.normal,⟨[3,7],[],[]⟩)]
theorem w96o1:Outs w96v1_0 (fun _ _=>()) (fun _ _=>()) w96X1_0 (noX 1) (noX 2) (exC .normal) (exC (.goto 1)) (exC (.goto 2)):=⟨fun _=>by kernel_rfl,fun _=>by kernel_rfl,fun _=>by kernel_rfl,fun _=>by kernel_rfl,fun _=>by kernel_rfl,fun _=>by kernel_rfl,exNe_ok (by kernel_rfl),exNe_ok (by kernel_rfl),exNe_ok (by kernel_rfl)⟩
def w96l1 [Alg] (N _:Nat) (x:Int) (k0:(Int×Bool)→O) (_:(Unit)→O) (_:(Unit)→O):O:=w96F1 N   (fun y0 y1=>k0 (y0,y1)) x
def w96n1 [Alg] (N:Nat) (a0:Int) (k0:Int→Bool→O):O:=w96l1 N N a0 (fun y=>k0 y.1 y.2) (fun _=>none) (fun _=>none)
noncomputable def w96s1 [Alg] (N:Nat) (a0:Int) (k0:Int→Bool→O):O:=subL w96I1 w96u1 (w96l1 N N) (w96I1 a0) (fun y=>k0 y.1 y.2) (fun _=>none) (fun _=>none)
theorem w96e1 [Alg] (N:Nat):w96s1 N=w96n1 N:=funext fun _=>funext fun _=>subL_I w96ui1 _ _ _ _
noncomputable def w96h1 [Alg] (_:Nat):Hint:=.d
theorem w96hk1 (N:Nat):HintOk (w96c N) Tryd.f96.ntmps (w96h1 N) w96b1:=hk_of _ _ trivial
theorem w96q1 [Alg] (N:Nat) (K:Exit→Sg→O) (x:Int):w96F1 N   (fun y0 y1=>K (w96X1_0 (y0,y1)).1 (w96X1_0 (y0,y1)).2) x=exec (w96c N) Tryd.f96.ntmps (w96h1 N) w96b1 (w96I1 x) (partX w96w1 K):=by kernel_rfl
theorem w96S1 (N:Nat) (hc:CxOk (w96c N)):SubOk (w96c N) Tryd.f96.ntmps w96b1 w96X1_0 (noX 1) (noX 2) (subL w96I1 w96u1 (w96l1 N N)):=
 sub_part hc (w96hk1 N) w96o1 (fun x K=>by
  have h:w96F1 N   (fun y0 y1=>K (w96X1_0 (y0,y1)).1 (w96X1_0 (y0,y1)).2) x=w96F1 N   (fun y0 y1=>K (w96X1_0 (y0,y1)).1 (w96X1_0 (y0,y1)).2) x:=by rfl
  exact h.trans (w96q1 N K x))
def w96F2 [Alg] (_:Nat)   (k0:Bool→O) (x23_0:Int):O:=
 br (decide (x23_0=(3:Int)))
  (k0 (decide (x23_0=(3:Int))))
  (br (decide (x23_0=(4:Int)))
   (k0 (decide (x23_0=(4:Int))))
   (br (decide (x23_0=(5:Int)))
    (k0 (decide (x23_0=(5:Int))))
    (br (decide (x23_0=(6:Int)))
     (k0 (decide (x23_0=(6:Int))))
     (br (decide (x23_0=(7:Int)))
      (k0 (decide (x23_0=(7:Int))))
      (br (decide (x23_0=(9:Int)))
       (k0 (decide (x23_0=(9:Int))))
       (k0 (decide (x23_0=(10:Int)))))))))
noncomputable def w96b2:Code:=atC [1,0,1,0,1,1,1,1,0] w96b
def w96m2:Nm:=⟨[3],[],[]⟩
def w96I2 (x:Int):Sg:=⟨[(3,.e (.i .i64) x)],[],100⟩
def w96u2 (σ:Sg):Int:=lvT (.i .i64) 3 0 σ
theorem w96ui2:∀ x,w96u2 (w96I2 x)=x:=fun _=>by kernel_rfl
def w96X2_0 (y:Bool):Exit×Sg:=(.normal,⟨[(10,.e .bo y)],[],100⟩)
def w96v2_0 (_:Exit) (σ:Sg):Bool:=lvT .bo 10 0 σ
def w96w2:List (Exit×Nm):=[(.normal,⟨[10],[],[]⟩)]
theorem w96o2:Outs w96v2_0 (fun _ _=>()) (fun _ _=>()) w96X2_0 (noX 1) (noX 2) (exC .normal) (exC (.goto 1)) (exC (.goto 2)):=⟨fun _=>by kernel_rfl,fun _=>by kernel_rfl,fun _=>by kernel_rfl,fun _=>by kernel_rfl,fun _=>by kernel_rfl,fun _=>by kernel_rfl,exNe_ok (by kernel_rfl),exNe_ok (by kernel_rfl),exNe_ok (by kernel_rfl)⟩
def w96l2 [Alg] (N _:Nat) (x:Int) (k0:(Bool)→O) (_:(Unit)→O) (_:(Unit)→O):O:=w96F2 N   (fun y0=>k0 y0) x
def w96n2 [Alg] (N:Nat) (a0:Int) (k0:Bool→O):O:=w96l2 N N a0 (fun y=>k0 y) (fun _=>none) (fun _=>none)
noncomputable def w96s2 [Alg] (N:Nat) (a0:Int) (k0:Bool→O):O:=subL w96I2 w96u2 (w96l2 N N) (w96I2 a0) (fun y=>k0 y) (fun _=>none) (fun _=>none)
theorem w96e2 [Alg] (N:Nat):w96s2 N=w96n2 N:=funext fun _=>funext fun _=>subL_I w96ui2 _ _ _ _
noncomputable def w96h2 [Alg] (_:Nat):Hint:=.d
theorem w96hk2 (N:Nat):HintOk (w96c N) Tryd.f96.ntmps (w96h2 N) w96b2:=hk_of _ _ trivial
theorem w96q2 [Alg] (N:Nat) (K:Exit→Sg→O) (x:Int):w96F2 N   (fun y0=>K (w96X2_0 y0).1 (w96X2_0 y0).2) x=exec (w96c N) Tryd.f96.ntmps (w96h2 N) w96b2 (w96I2 x) (partX w96w2 K):=by kernel_rfl
theorem w96S2 (N:Nat) (hc:CxOk (w96c N)):SubOk (w96c N) Tryd.f96.ntmps w96b2 w96X2_0 (noX 1) (noX 2) (subL w96I2 w96u2 (w96l2 N N)):=
 sub_part hc (w96hk2 N) w96o2 (fun x K=>by
  have h:w96F2 N   (fun y0=>K (w96X2_0 y0).1 (w96X2_0 y0).2) x=w96F2 N   (fun y0=>K (w96X2_0 y0).1 (w96X2_0 y0).2) x:=by rfl
  exact h.trans (w96q2 N K x))
def w96F3 [Alg] (_:Nat) (in0:Int→(Int→Bool→O)→O) (in1:Int→(Int→Bool→O)→O) (in2:Int→(Bool→O)→O)  (k0:Int→O) (k1:Unit→O) (x0_0:Int):O:=
 in0 x0_0
  (fun z18 z19=>
   br z19
    (k0 ((0:Int)))
    (in1 z18
     (fun z21 z22=>
      br z22
       (k0 ((1:Int)))
       (in2 z21
        (fun z24=>
         br z24
          (k0 ((2:Int)))
          (k1 ()))))))
noncomputable def w96b3:Code:=atC [1,0] w96b
def w96m3:Nm:=⟨[0],[],[]⟩
def w96I3 (x:Int):Sg:=⟨[(0,.e (.i .i64) x)],[],100⟩
def w96u3 (σ:Sg):Int:=lvT (.i .i64) 0 0 σ
theorem w96ui3:∀ x,w96u3 (w96I3 x)=x:=fun _=>by kernel_rfl
def w96X3_0 (y:Int):Exit×Sg:=(.ret,⟨[(2,.e (.i .i64) y)],[],100⟩)
def w96v3_0 (_:Exit) (σ:Sg):Int:=lvT (.i .i64) 2 0 σ
def w96X3_1 (_:Unit):Exit×Sg:=(.normal,⟨[],[],100⟩)
def w96v3_1 (_:Exit) (_:Sg):Unit:=()
def w96w3:List (Exit×Nm):=[(.ret,⟨[2],[],[]⟩),(.normal,⟨[],[],[]⟩)]
theorem w96o3:Outs w96v3_0 w96v3_1 (fun _ _=>()) w96X3_0 w96X3_1 (noX 2) (exC .ret) (exC .normal) (exC (.goto 2)):=⟨fun _=>by kernel_rfl,fun _=>by kernel_rfl,fun _=>by kernel_rfl,fun _=>by kernel_rfl,fun _=>by kernel_rfl,fun _=>by kernel_rfl,exNe_ok (by kernel_rfl),exNe_ok (by kernel_rfl),exNe_ok (by kernel_rfl)⟩
def w96l3 [Alg] (N _:Nat) (x:Int) (k0:(Int)→O) (k1:(Unit)→O) (_:(Unit)→O):O:=w96F3 N (w96n0 N) (w96n1 N) (w96n2 N)  (fun y0=>k0 y0) (fun (_:Unit)=>k1 ()) x
def w96n3 [Alg] (N:Nat) (a0:Int) (k0:Int→O) (k1:Unit→O):O:=w96l3 N N a0 (fun y=>k0 y) (fun y=>k1 y) (fun _=>none)
noncomputable def w96s3 [Alg] (N:Nat) (a0:Int) (k0:Int→O) (k1:Unit→O):O:=subL w96I3 w96u3 (w96l3 N N) (w96I3 a0) (fun y=>k0 y) (fun y=>k1 y) (fun _=>none)
theorem w96e3 [Alg] (N:Nat):w96s3 N=w96n3 N:=funext fun _=>funext fun _=>funext fun _=>subL_I w96ui3 _ _ _ _
noncomputable def w96h3 [Alg] (N:Nat):Hint:=(.seq .d (.block (.seq (.sub w96m0 _ _ _ w96X0_0 (noX 1) (noX 2) (subL w96I0 w96u0 (w96l0 N N))) (.cond .d (.seq (.sub w96m1 _ _ _ w96X1_0 (noX 1) (noX 2) (subL w96I1 w96u1 (w96l1 N N))) (.cond .d (.seq (.sub w96m2 _ _ _ w96X2_0 (noX 1) (noX 2) (subL w96I2 w96u2 (w96l2 N N))) .d)))))))
theorem w96hk3 (N:Nat) (hc:CxOk (w96c N)):HintOk (w96c N) Tryd.f96.ntmps (w96h3 N) w96b3:=hk_of _ _ (And.intro trivial (And.intro (w96S0 N hc) (And.intro trivial (And.intro (w96S1 N hc) (And.intro trivial (And.intro (w96S2 N hc) trivial))))))
theorem w96q3 [Alg] (N:Nat) (K:Exit→Sg→O) (x:Int):w96F3 N (w96s0 N) (w96s1 N) (w96s2 N)  (fun y0=>K (w96X3_0 y0).1 (w96X3_0 y0).2) (fun (_:Unit)=>K (w96X3_1 ()).1 (w96X3_1 ()).2) x=exec (w96c N) Tryd.f96.ntmps (w96h3 N) w96b3 (w96I3 x) (partX w96w3 K):=by kernel_rfl
theorem w96S3 (N:Nat) (hc:CxOk (w96c N)):SubOk (w96c N) Tryd.f96.ntmps w96b3 w96X3_0 w96X3_1 (noX 2) (subL w96I3 w96u3 (w96l3 N N)):=
 sub_part hc (w96hk3 N hc) w96o3 (fun x K=>by
  have h:w96F3 N (w96n0 N) (w96n1 N) (w96n2 N)  (fun y0=>K (w96X3_0 y0).1 (w96X3_0 y0).2) (fun (_:Unit)=>K (w96X3_1 ()).1 (w96X3_1 ()).2) x=w96F3 N (w96s0 N) (w96s1 N) (w96s2 N)  (fun y0=>K (w96X3_0 y0).1 (w96X3_0 y0).2) (fun (_:Unit)=>K (w96X3_1 ()).1 (w96X3_1 ()).2) x:=by rw [w96e0 N,w96e1 N,w96e2 N]
  exact h.trans (w96q3 N K x))
def w96G [Alg] (_:Nat) (_in0:Int→(Int→Bool→O)→O) (_in1:Int→(Int→Bool→O)→O) (_in2:Int→(Bool→O)→O) (in3:Int→(Int→O)→(Unit→O)→O) (op0:Int):O:=
 in3 op0
  (fun z25=>
   some (w96r0 z25))
  (fun (_:Unit)=>
   some (w96r0 ((-1:Int))))
def w96 [Alg] (N:Nat) (op0:Int):O:=w96G N (w96n0 N) (w96n1 N) (w96n2 N) (w96n3 N) op0
noncomputable def w96h [Alg] (N:Nat):Hint:=(.seq .d (.seq (.sub w96m3 _ _ _ w96X3_0 w96X3_1 (noX 2) (subL w96I3 w96u3 (w96l3 N N))) .d))
theorem w96hk (N:Nat) (hc:CxOk (w96c N)):HintOk (w96c N) Tryd.f96.ntmps (w96h N) w96b:=hk_of _ _ (And.intro trivial (And.intro (w96S3 N hc) trivial))
theorem w96q [Alg] (N:Nat) (op0:Int):w96G N (w96s0 N) (w96s1 N) (w96s2 N) (w96s3 N) op0=exec (w96c N) Tryd.f96.ntmps (w96h N) w96b ⟨argT 0 [.e (.i .i64) op0],[],100⟩ (finX (w96c N) Tryd.f96 false):=by kernel_rfl
theorem w96does {N:Nat} (hc:CxOk (w96c N)) {op0:Int} {r:Res} (h:w96 N op0=some r):DoesR Tryd.prog 96 (([.e (.i .i64) op0]:List X).map X.D) (HA []) r:=
 fun_ok hc (f:=96) (fn:=Tryd.f96) (code:=w96b) (by kernel_rfl) (by kernel_rfl) (w96hk N hc) (Nat.le_of_ble_eq_true (by kernel_rfl)) (ow:=false) ((w96q N op0).symm.trans (by rw [w96e0 N,w96e1 N,w96e2 N,w96e3 N];exact h))
def w96un (r:Res):Option (Int):=match r with
 | (x0,[])=>(match ue (.i .i64) x0 with | some a0=>some a0 | _=>none)
 | _=>none
theorem w96uo {r:Res} {d:Int} (h:w96un r=some d):r=w96r0 (d):=by
 unfold w96un at h
 split at h
 ·split at h
  ·rename_i h0;cases h;rw [ue_some h0];rfl
  ·cases h
 ·cases h
def w96z (N:Nat) (op0:Int):Option (Int):=(w96 N op0).bind w96un
theorem w96fin {N:Nat} (hc:CxOk (w96c N)) {op0 d:Int} (hd:w96z N op0=some d):Does Tryd.prog 96 (([.e (.i .i64) op0]:List X).map X.D) (HA []) (w96r0 (d)).1.D (HA (w96r0 (d)).2):=by
 obtain ⟨r,hr,hu⟩:=Option.bind_eq_some_iff.1 hd
 have:=w96does hc hr
 rw [w96uo hu] at this
 exact this
def w96p (N:Nat) (op0:Int):Bool:=(w96z N op0).isSome
def w96y0 (N:Nat) (op0:Int):Int:=((w96z N op0).getD 0)
def w96e (N:Nat):Ent':=E1 (.i .i64)  (fun x0=>(w96p N x0,w96r0 (w96y0 N x0)))
theorem w96re {N:Nat} {op0 d:Int} (hd:w96z N op0=some d):w96r0 (w96y0 N op0)=w96r0 (d):=by unfold w96y0;rw [hd];rfl
theorem w96ok (N:Nat):EOk Tryd.prog 96 (w96e N):=EOk.e1 (fun x0 h=>by
 have h:(w96z N x0).isSome=true:=h
 obtain ⟨d,hd⟩:=Option.isSome_iff_exists.1 h
 have f:=w96fin (w96cx N) hd
 rw [← w96re hd] at f
 exact f)
def w67r0 (a0:Bool):Res:=(.e .bo a0,[])
abbrev w67T:=Nat×(Int→Int→(List Ex)→Bool→Option (Bool))
noncomputable def w67L (N:w67T):List (Nat×Ent'):=[(67,E2 .ex .bo  (fun x0 x1=>((N.2 (Ex.op x0) (Ex.num x0) (Ex.kids x0) x1).isSome,w67r0 (((N.2 (Ex.op x0) (Ex.num x0) (Ex.kids x0) x1).getD false))))),(96,w96e N.1)]
noncomputable def w67c (N:w67T):Cx:=⟨Tryd.prog,25,w67L N,[]⟩
noncomputable def w67b:Code:=Tryd.f67.body.getD .skip
theorem w67cx (N:w67T) (hs:EOk Tryd.prog 67 (E2 .ex .bo  (fun x0 x1=>((N.2 (Ex.op x0) (Ex.num x0) (Ex.kids x0) x1).isSome,w67r0 (((N.2 (Ex.op x0) (Ex.num x0) (Ex.kids x0) x1).getD false)))))):CxOk (w67c N):=ctx_ok (by kernel_rfl) (.cons (by kernel_rfl) hs (.cons (by kernel_rfl) (w96ok N.1) .nil)) .nil
def w67F0 [Alg] (_:w67T)   (k0:Int→Int→Int→(List Ex)→O) (x0_0 x0_1 x0_2:Int) (x0_3:(List Ex)):O:=
 br (decide (x0_1=(0:Int)))
  (k0 ((999999:Int)) x0_1 x0_2 x0_3)
  (k0 x0_0 x0_1 x0_2 x0_3)
noncomputable def w67b0:Code:=atC [1,1,1,0] w67b
def w67m0:Nm:=⟨[2,5],[],[]⟩
def w67I0 (x:Int×Int×Int×(List Ex)):Sg:=⟨[(2,.ref 0 0),(5,.e (.i .i64) x.1)],[(0,.box 25 [.e (.i .i64) x.2.1,.e (.i .i64) x.2.2.1,.e (.sl .ex) x.2.2.2])],100⟩
def w67u0 (σ:Sg):Int×Int×Int×(List Ex):=(lvT (.i .i64) 5 0 σ,lvH (.i .i64) 0 0 σ,lvH (.i .i64) 0 1 σ,lvH (.sl .ex) 0 2 σ)
theorem w67ui0:∀ x,w67u0 (w67I0 x)=x:=fun _=>by kernel_rfl
def w67X0_0 (y:Int×Int×Int×(List Ex)):Exit×Sg:=(.normal,⟨[(2,.ref 0 0),(5,.e (.i .i64) y.1)],[(0,.box 25 [.e (.i .i64) y.2.1,.e (.i .i64) y.2.2.1,.e (.sl .ex) y.2.2.2])],100⟩)
def w67v0_0 (_:Exit) (σ:Sg):Int×Int×Int×(List Ex):=(lvT (.i .i64) 5 0 σ,lvH (.i .i64) 0 0 σ,lvH (.i .i64) 0 1 σ,lvH (.sl .ex) 0 2 σ)
def w67w0:List (Exit×Nm):=[(.normal,⟨[2,5],[],[]⟩)]
theorem w67o0:Outs w67v0_0 (fun _ _=>()) (fun _ _=>()) w67X0_0 (noX 1) (noX 2) (exC .normal) (exC (.goto 1)) (exC (.goto 2)):=⟨fun _=>by kernel_rfl,fun _=>by kernel_rfl,fun _=>by kernel_rfl,fun _=>by kernel_rfl,fun _=>by kernel_rfl,fun _=>by kernel_rfl,exNe_ok (by kernel_rfl),exNe_ok (by kernel_rfl),exNe_ok (by kernel_rfl)⟩
def w67l0 [Alg] (N:w67T) (_:Nat) (x:Int×Int×Int×(List Ex)) (k0:(Int×Int×Int×(List Ex))→O) (_:(Unit)→O) (_:(Unit)→O):O:=w67F0 N   (fun y0 y1 y2 y3=>k0 (y0,y1,y2,y3)) x.1 x.2.1 x.2.2.1 x.2.2.2
def w67n0 [Alg] (N:w67T) (a0 a1 a2:Int) (a3:(List Ex)) (k0:Int→Int→Int→(List Ex)→O):O:=w67l0 N N.1 (a0,a1,a2,a3) (fun y=>k0 y.1 y.2.1 y.2.2.1 y.2.2.2) (fun _=>none) (fun _=>none)
noncomputable def w67s0 [Alg] (N:w67T) (a0 a1 a2:Int) (a3:(List Ex)) (k0:Int→Int→Int→(List Ex)→O):O:=subL w67I0 w67u0 (w67l0 N N.1) (w67I0 (a0,a1,a2,a3)) (fun y=>k0 y.1 y.2.1 y.2.2.1 y.2.2.2) (fun _=>none) (fun _=>none)
theorem w67e0 [Alg] (N:w67T):w67s0 N=w67n0 N:=funext fun _=>funext fun _=>funext fun _=>funext fun _=>funext fun _=>subL_I w67ui0 _ _ _ _
noncomputable def w67h0 [Alg] (_:w67T):Hint:=.d
theorem w67hk0 (N:w67T):HintOk (w67c N) Tryd.f67.ntmps (w67h0 N) w67b0:=hk_of _ _ trivial
theorem w67q0 [Alg] (N:w67T) (K:Exit→Sg→O) (x:Int×Int×Int×(List Ex)):w67F0 N   (fun y0 y1 y2 y3=>K (w67X0_0 (y0,y1,y2,y3)).1 (w67X0_0 (y0,y1,y2,y3)).2) x.1 x.2.1 x.2.2.1 x.2.2.2=exec (w67c N) Tryd.f67.ntmps (w67h0 N) w67b0 (w67I0 x) (partX w67w0 K):=by kernel_rfl
theorem w67S0 (N:w67T) (hc:CxOk (w67c N)):SubOk (w67c N) Tryd.f67.ntmps w67b0 w67X0_0 (noX 1) (noX 2) (subL w67I0 w67u0 (w67l0 N N.1)):=
 sub_part hc (w67hk0 N) w67o0 (fun x K=>by
  have h:w67F0 N   (fun y0 y1 y2 y3=>K (w67X0_0 (y0,y1,y2,y3)).1 (w67X0_0 (y0,y1,y2,y3)).2) x.1 x.2.1 x.2.2.1 x.2.2.2=w67F0 N   (fun y0 y1 y2 y3=>K (w67X0_0 (y0,y1,y2,y3)).1 (w67X0_0 (y0,y1,y2,y3)).2) x.1 x.2.1 x.2.2.1 x.2.2.2:=by rfl
  exact h.trans (w67q0 N K x))
def w67F1 [Alg] (_:w67T)   (k0:Int→Int→Int→(List Ex)→O) (x5_0 x5_1 x5_2:Int) (x5_3:(List Ex)):O:=
 br (decide (x5_1=(1:Int)))
  (k0 ((25:Int)) x5_1 x5_2 x5_3)
  (k0 x5_0 x5_1 x5_2 x5_3)
noncomputable def w67b1:Code:=atC [1,1,1,1,0] w67b
def w67m1:Nm:=⟨[2,5],[],[]⟩
def w67I1 (x:Int×Int×Int×(List Ex)):Sg:=⟨[(2,.ref 0 0),(5,.e (.i .i64) x.1)],[(0,.box 25 [.e (.i .i64) x.2.1,.e (.i .i64) x.2.2.1,.e (.sl .ex) x.2.2.2])],100⟩
def w67u1 (σ:Sg):Int×Int×Int×(List Ex):=(lvT (.i .i64) 5 0 σ,lvH (.i .i64) 0 0 σ,lvH (.i .i64) 0 1 σ,lvH (.sl .ex) 0 2 σ)
theorem w67ui1:∀ x,w67u1 (w67I1 x)=x:=fun _=>by kernel_rfl
def w67X1_0 (y:Int×Int×Int×(List Ex)):Exit×Sg:=(.normal,⟨[(2,.ref 0 0),(5,.e (.i .i64) y.1)],[(0,.box 25 [.e (.i .i64) y.2.1,.e (.i .i64) y.2.2.1,.e (.sl .ex) y.2.2.2])],100⟩)
def w67v1_0 (_:Exit) (σ:Sg):Int×Int×Int×(List Ex):=(lvT (.i .i64) 5 0 σ,lvH (.i .i64) 0 0 σ,lvH (.i .i64) 0 1 σ,lvH (.sl .ex) 0 2 σ)
def w67w1:List (Exit×Nm):=[(.normal,⟨[2,5],[],[]⟩)]
theorem w67o1:Outs w67v1_0 (fun _ _=>()) (fun _ _=>()) w67X1_0 (noX 1) (noX 2) (exC .normal) (exC (.goto 1)) (exC (.goto 2)):=⟨fun _=>by kernel_rfl,fun _=>by kernel_rfl,fun _=>by kernel_rfl,fun _=>by kernel_rfl,fun _=>by kernel_rfl,fun _=>by kernel_rfl,exNe_ok (by kernel_rfl),exNe_ok (by kernel_rfl),exNe_ok (by kernel_rfl)⟩
def w67l1 [Alg] (N:w67T) (_:Nat) (x:Int×Int×Int×(List Ex)) (k0:(Int×Int×Int×(List Ex))→O) (_:(Unit)→O) (_:(Unit)→O):O:=w67F1 N   (fun y0 y1 y2 y3=>k0 (y0,y1,y2,y3)) x.1 x.2.1 x.2.2.1 x.2.2.2
def w67n1 [Alg] (N:w67T) (a0 a1 a2:Int) (a3:(List Ex)) (k0:Int→Int→Int→(List Ex)→O):O:=w67l1 N N.1 (a0,a1,a2,a3) (fun y=>k0 y.1 y.2.1 y.2.2.1 y.2.2.2) (fun _=>none) (fun _=>none)
noncomputable def w67s1 [Alg] (N:w67T) (a0 a1 a2:Int) (a3:(List Ex)) (k0:Int→Int→Int→(List Ex)→O):O:=subL w67I1 w67u1 (w67l1 N N.1) (w67I1 (a0,a1,a2,a3)) (fun y=>k0 y.1 y.2.1 y.2.2.1 y.2.2.2) (fun _=>none) (fun _=>none)
theorem w67e1 [Alg] (N:w67T):w67s1 N=w67n1 N:=funext fun _=>funext fun _=>funext fun _=>funext fun _=>funext fun _=>subL_I w67ui1 _ _ _ _
noncomputable def w67h1 [Alg] (_:w67T):Hint:=.d
theorem w67hk1 (N:w67T):HintOk (w67c N) Tryd.f67.ntmps (w67h1 N) w67b1:=hk_of _ _ trivial
theorem w67q1 [Alg] (N:w67T) (K:Exit→Sg→O) (x:Int×Int×Int×(List Ex)):w67F1 N   (fun y0 y1 y2 y3=>K (w67X1_0 (y0,y1,y2,y3)).1 (w67X1_0 (y0,y1,y2,y3)).2) x.1 x.2.1 x.2.2.1 x.2.2.2=exec (w67c N) Tryd.f67.ntmps (w67h1 N) w67b1 (w67I1 x) (partX w67w1 K):=by kernel_rfl
theorem w67S1 (N:w67T) (hc:CxOk (w67c N)):SubOk (w67c N) Tryd.f67.ntmps w67b1 w67X1_0 (noX 1) (noX 2) (subL w67I1 w67u1 (w67l1 N N.1)):=
 sub_part hc (w67hk1 N) w67o1 (fun x K=>by
  have h:w67F1 N   (fun y0 y1 y2 y3=>K (w67X1_0 (y0,y1,y2,y3)).1 (w67X1_0 (y0,y1,y2,y3)).2) x.1 x.2.1 x.2.2.1 x.2.2.2=w67F1 N   (fun y0 y1 y2 y3=>K (w67X1_0 (y0,y1,y2,y3)).1 (w67X1_0 (y0,y1,y2,y3)).2) x.1 x.2.1 x.2.2.1 x.2.2.2:=by rfl
  exact h.trans (w67q1 N K x))
def w67F2 [Alg] (N:w67T)  (self:Int→O) (k0:Bool→O) (k1:Unit→O) (_x10_1 _x10_2:Int) (x10_3:(List Ex)) (x10_0:Int):O:=
 br (decide (x10_0 < (↑x10_3.length:Int)))
  (gx x10_3 x10_0 fun y13=>
  ck ((N.2 y13.op y13.num y13.kids false).isSome) <|
  br (!(N.2 y13.op y13.num y13.kids false).getD false)
   (k0 false)
   (self (IntKind.i64.wrap (x10_0+(1:Int)))))
  (k1 ())
noncomputable def w67b2:Code:=atC [1,1,1,1,1,1,0,1,0,0] w67b
def w67m2:Nm:=⟨[2,6],[],[]⟩
def w67I2 (x:Int×Int×Int×(List Ex)):Sg:=⟨[(2,.ref 0 0),(6,.e (.i .i64) x.1)],[(0,.box 25 [.e (.i .i64) x.2.1,.e (.i .i64) x.2.2.1,.e (.sl .ex) x.2.2.2])],100⟩
def w67u2 (σ:Sg):Int×Int×Int×(List Ex):=(lvT (.i .i64) 6 0 σ,lvH (.i .i64) 0 0 σ,lvH (.i .i64) 0 1 σ,lvH (.sl .ex) 0 2 σ)
theorem w67ui2:∀ x,w67u2 (w67I2 x)=x:=fun _=>by kernel_rfl
def w67X2_0 (y:Bool):Exit×Sg:=(.ret,⟨[(4,.e .bo y)],[],100⟩)
def w67v2_0 (_:Exit) (σ:Sg):Bool:=lvT .bo 4 0 σ
def w67X2_1 (_:Unit):Exit×Sg:=((.exit 0),⟨[],[],100⟩)
def w67v2_1 (_:Exit) (_:Sg):Unit:=()
def w67w2:List (Exit×Nm):=[(.ret,⟨[4],[],[]⟩),((.exit 0),⟨[],[],[]⟩)]
theorem w67o2:Outs w67v2_0 w67v2_1 (fun _ _=>()) w67X2_0 w67X2_1 (noX 2) (exC .ret) (exC (.exit 0)) (exC (.goto 2)):=⟨fun _=>by kernel_rfl,fun _=>by kernel_rfl,fun _=>by kernel_rfl,fun _=>by kernel_rfl,fun _=>by kernel_rfl,fun _=>by kernel_rfl,exNe_ok (by kernel_rfl),exNe_ok (by kernel_rfl),exNe_ok (by kernel_rfl)⟩
def w67l2 [Alg] (N:w67T):Nat→(Int×Int×Int×(List Ex))→((Bool)→O)→((Unit)→O)→((Unit)→O)→O
 | 0,_,_,_,_=>none
 | n+1,x,k0,k1,k2=>w67F2 N  (fun v0=>w67l2 N n (v0,x.2.1,x.2.2.1,x.2.2.2) k0 k1 k2) (fun y0=>k0 y0) (fun (_:Unit)=>k1 ()) x.2.1 x.2.2.1 x.2.2.2 x.1
def w67n2 [Alg] (N:w67T) (a0 a1 a2:Int) (a3:(List Ex)) (k0:Bool→O) (k1:Unit→O):O:=w67l2 N N.1 (a0,a1,a2,a3) (fun y=>k0 y) (fun y=>k1 y) (fun _=>none)
noncomputable def w67s2 [Alg] (N:w67T) (a0 a1 a2:Int) (a3:(List Ex)) (k0:Bool→O) (k1:Unit→O):O:=subL w67I2 w67u2 (w67l2 N N.1) (w67I2 (a0,a1,a2,a3)) (fun y=>k0 y) (fun y=>k1 y) (fun _=>none)
theorem w67e2 [Alg] (N:w67T):w67s2 N=w67n2 N:=funext fun _=>funext fun _=>funext fun _=>funext fun _=>funext fun _=>funext fun _=>subL_I w67ui2 _ _ _ _
noncomputable def w67h2 [Alg] (_:w67T):Hint:=.d
theorem w67hk2 (N:w67T):HintOk (w67c N) Tryd.f67.ntmps (w67h2 N) w67b2:=hk_of _ _ trivial
theorem w67q2 [Alg] (N:w67T) (self:Sg→O) (K:Exit→Sg→O) (x:Int×Int×Int×(List Ex)):w67F2 N  (fun v0=>self (w67I2 (v0,x.2.1,x.2.2.1,x.2.2.2))) (fun y0=>K (w67X2_0 y0).1 (w67X2_0 y0).2) (fun (_:Unit)=>K (w67X2_1 ()).1 (w67X2_1 ()).2) x.2.1 x.2.2.1 x.2.2.2 x.1=exec (w67c N) Tryd.f67.ntmps (w67h2 N) w67b2 (w67I2 x) (roundX w67m2 w67w2 self K):=by kernel_rfl
theorem w67S2 (N:w67T) (hc:CxOk (w67c N)):SubOk (w67c N) Tryd.f67.ntmps (.loop w67b2) w67X2_0 w67X2_1 (noX 2) (subL w67I2 w67u2 (w67l2 N N.1)):=
 sub_loop hc (w67hk2 N) w67o2 (n:=N.1) (fun x K=>loop_ind (w67l2 N) (fun _ _ _ _=>rfl) (fun n K ih x=>by
  have h:w67F2 N  (fun v0=>w67l2 N n (v0,x.2.1,x.2.2.1,x.2.2.2) (fun y=>K (w67X2_0 y).1 (w67X2_0 y).2) (fun y=>K (w67X2_1 y).1 (w67X2_1 y).2) (fun y=>K ((noX 2) y).1 ((noX 2) y).2)) (fun y0=>K (w67X2_0 y0).1 (w67X2_0 y0).2) (fun (_:Unit)=>K (w67X2_1 ()).1 (w67X2_1 ()).2) x.2.1 x.2.2.1 x.2.2.2 x.1=w67F2 N  (fun v0=>loopX (w67c N) Tryd.f67.ntmps (w67h2 N) w67b2 w67m2 w67w2 n (w67I2 (v0,x.2.1,x.2.2.1,x.2.2.2)) K) (fun y0=>K (w67X2_0 y0).1 (w67X2_0 y0).2) (fun (_:Unit)=>K (w67X2_1 ()).1 (w67X2_1 ()).2) x.2.1 x.2.2.1 x.2.2.2 x.1:=by rw [ show (fun v0=>w67l2 N n (v0,x.2.1,x.2.2.1,x.2.2.2) (fun y=>K (w67X2_0 y).1 (w67X2_0 y).2) (fun y=>K (w67X2_1 y).1 (w67X2_1 y).2) (fun y=>K ((noX 2) y).1 ((noX 2) y).2))=(fun v0=>loopX (w67c N) Tryd.f67.ntmps (w67h2 N) w67b2 w67m2 w67w2 n (w67I2 (v0,x.2.1,x.2.2.1,x.2.2.2)) K) from funext fun _=>ih _]
  exact h.trans (w67q2 N (fun σ=>loopX (w67c N) Tryd.f67.ntmps (w67h2 N) w67b2 w67m2 w67w2 n σ K) K x)) N.1 x K)
def w67G [Alg] (N:w67T) (in0:Int→Int→Int→(List Ex)→(Int→Int→Int→(List Ex)→O)→O) (in1:Int→Int→Int→(List Ex)→(Int→Int→Int→(List Ex)→O)→O) (in2:Int→Int→Int→(List Ex)→(Bool→O)→(Unit→O)→O) (A B:Int) (C:(List Ex)) (root1:Bool):O:=
 ck (w96p N.1 A) <|
 br (decide ((↑C.length:Int)≠w96y0 N.1 A)||!root1&&decide ((9:Int)≤A))
  (some (w67r0 false))
  (in0 ((0:Int)) A B C
   (fun z1 z2 z3 z4=>
    in1 z1 z2 z3 z4
     (fun z6 z7 z8 z9=>
      br (decide (z8 < (0:Int))||decide (z6 < z8))
       (some (w67r0 false))
       (in2 ((0:Int)) z7 z8 z9
        (fun z14=>
         some (w67r0 z14))
        (fun (_:Unit)=>
         some (w67r0 true))))))
def w67 [Alg] (N:w67T) (A B:Int) (C:(List Ex)) (root1:Bool):O:=w67G N (w67n0 N) (w67n1 N) (w67n2 N) A B C root1
noncomputable def w67h [Alg] (N:w67T):Hint:=(.seq .d (.seq .d (.seq .d (.seq (.sub w67m0 _ _ _ w67X0_0 (noX 1) (noX 2) (subL w67I0 w67u0 (w67l0 N N.1))) (.seq (.sub w67m1 _ _ _ w67X1_0 (noX 1) (noX 2) (subL w67I1 w67u1 (w67l1 N N.1))) (.seq .d (.seq (.seq .d (.block (.sub w67m2 _ _ _ w67X2_0 w67X2_1 (noX 2) (subL w67I2 w67u2 (w67l2 N N.1))))) .d)))))))
theorem w67hk (N:w67T) (hc:CxOk (w67c N)):HintOk (w67c N) Tryd.f67.ntmps (w67h N) w67b:=hk_of _ _ (And.intro trivial (And.intro trivial (And.intro trivial (And.intro (w67S0 N hc) (And.intro (w67S1 N hc) (And.intro trivial (And.intro (And.intro trivial (w67S2 N hc)) trivial)))))))
theorem w67q [Alg] (N:w67T) (A B:Int) (C:(List Ex)) (root1:Bool):w67G N (w67s0 N) (w67s1 N) (w67s2 N) A B C root1=exec (w67c N) Tryd.f67.ntmps (w67h N) w67b ⟨argT 0 [.agg [.e (.i .i64) A,.e (.i .i64) B,.e (.sl .ex) C],.e .bo root1],[],100⟩ (finX (w67c N) Tryd.f67 false):=by kernel_rfl
theorem w67does {N:w67T} (hc:CxOk (w67c N)) {A B:Int} {C:(List Ex)} {root1:Bool} {r:Res} (h:w67 N A B C root1=some r):DoesR Tryd.prog 67 (([.agg [.e (.i .i64) A,.e (.i .i64) B,.e (.sl .ex) C],.e .bo root1]:List X).map X.D) (HA []) r:=
 fun_ok hc (f:=67) (fn:=Tryd.f67) (code:=w67b) (by kernel_rfl) (by kernel_rfl) (w67hk N hc) (Nat.le_of_ble_eq_true (by kernel_rfl)) (ow:=false) ((w67q N A B C root1).symm.trans (by rw [w67e0 N,w67e1 N,w67e2 N];exact h))
def w67un (r:Res):Option (Bool):=match r with
 | (x0,[])=>(match ue .bo x0 with | some a0=>some a0 | _=>none)
 | _=>none
theorem w67uo {r:Res} {d:Bool} (h:w67un r=some d):r=w67r0 (d):=by
 unfold w67un at h
 split at h
 ·split at h
  ·rename_i h0;cases h;rw [ue_some h0];rfl
  ·cases h
 ·cases h
def w67z (N:w67T) (A B:Int) (C:(List Ex)) (root1:Bool):Option (Bool):=(w67 N A B C root1).bind w67un
theorem w67fin {N:w67T} (hc:CxOk (w67c N)) {A B:Int} {C:(List Ex)} {root1 d:Bool} (hd:w67z N A B C root1=some d):Does Tryd.prog 67 (([.agg [.e (.i .i64) A,.e (.i .i64) B,.e (.sl .ex) C],.e .bo root1]:List X).map X.D) (HA []) (w67r0 (d)).1.D (HA (w67r0 (d)).2):=by
 obtain ⟨r,hr,hu⟩:=Option.bind_eq_some_iff.1 hd
 have:=w67does hc hr
 rw [w67uo hu] at this
 exact this
def w67Y (N:Nat):Nat→Int→Int→(List Ex)→Bool→Option (Bool)
 | 0,_,_,_,_=>none
 | n+1,A,B,C,root1=>w67z (N,w67Y N n) A B C root1
theorem w67Yok (N:Nat):∀ n,EOk Tryd.prog 67 (E2 .ex .bo  (fun x0 x1=>((w67Y N n (Ex.op x0) (Ex.num x0) (Ex.kids x0) x1).isSome,w67r0 (((w67Y N n (Ex.op x0) (Ex.num x0) (Ex.kids x0) x1).getD false)))))
 | 0=>EOk.e2 (fun _ _ h=>by cases h)
 | n+1=>EOk.e2 (fun x0 x1 h=>by
   obtain ⟨d,hd⟩:=Option.isSome_iff_exists.1 h
   have hd':w67Y N (n+1) (Ex.op x0) (Ex.num x0) (Ex.kids x0) x1=some d:=hd
   have e:w67r0 (((w67Y N (n+1) (Ex.op x0) (Ex.num x0) (Ex.kids x0) x1).getD false))=w67r0 (d):=by rw [hd'];rfl
   show Does _ _ _ _ (w67r0 (((w67Y N (n+1) (Ex.op x0) (Ex.num x0) (Ex.kids x0) x1).getD false))).1.D (HA (w67r0 (((w67Y N (n+1) (Ex.op x0) (Ex.num x0) (Ex.kids x0) x1).getD false))).2)
   rw [e]
   exact w67fin (N:=(N,w67Y N n)) (w67cx (N,w67Y N n) (w67Yok N n)) hd')
def w67p (N:Nat) (A B:Int) (C:(List Ex)) (root1:Bool):Bool:=(w67Y N N A B C root1).isSome
def w67y0 (N:Nat) (A B:Int) (C:(List Ex)) (root1:Bool):Bool:=((w67Y N N A B C root1).getD false)
def w67e (N:Nat):Ent':=E2 .ex .bo  (fun x0 x1=>(w67p N (Ex.op x0) (Ex.num x0) (Ex.kids x0) x1,w67r0 (w67y0 N (Ex.op x0) (Ex.num x0) (Ex.kids x0) x1)))
theorem w67ok (N:Nat):EOk Tryd.prog 67 (w67e N):=w67Yok N N
def w31r0 (a0:Int):Res:=(.e (.i .i64) a0,[])
noncomputable def w31L (N:Nat):List (Nat×Ent'):=[(33,w33e N),(35,w35e N),(67,w67e N)]
noncomputable def w31c (N:Nat):Cx:=⟨Tryd.prog,25,w31L N,[]⟩
noncomputable def w31b:Code:=Tryd.f31.body.getD .skip
theorem w31cx (N:Nat):CxOk (w31c N):=ctx_ok (by kernel_rfl) (.cons (by kernel_rfl) (w33ok N) (.cons (by kernel_rfl) (w35ok N) (.cons (by kernel_rfl) (w67ok N) .nil))) .nil
def w31G [Alg] (N:Nat)  (A B:Int) (C:(List Ex)):O:=
 ck (w33p N A B C) <|
 ck (!!decide ((256:Int) < w33y0 N A B C)||w35p N A B C) <|
 br (decide ((256:Int) < w33y0 N A B C)||decide ((16:Int) < w35y0 N A B C))
  (some (w31r0 ((4:Int))))
  (ck (w67p N A B C true) <|
  br (!w67y0 N A B C true)
   (some (w31r0 ((1:Int))))
   (some (w31r0 ((0:Int)))))
def w31 [Alg] (N:Nat) (A B:Int) (C:(List Ex)):O:=w31G N  A B C
noncomputable def w31h [Alg] (_:Nat):Hint:=.d
theorem w31hk (N:Nat):HintOk (w31c N) Tryd.f31.ntmps (w31h N) w31b:=hk_of _ _ trivial
theorem w31q [Alg] (N:Nat) (A B:Int) (C:(List Ex)):w31G N  A B C=exec (w31c N) Tryd.f31.ntmps (w31h N) w31b ⟨argT 0 [.agg [.e (.i .i64) A,.e (.i .i64) B,.e (.sl .ex) C]],[],100⟩ (finX (w31c N) Tryd.f31 false):=by kernel_rfl
theorem w31does {N:Nat} (hc:CxOk (w31c N)) {A B:Int} {C:(List Ex)} {r:Res} (h:w31 N A B C=some r):DoesR Tryd.prog 31 (([.agg [.e (.i .i64) A,.e (.i .i64) B,.e (.sl .ex) C]]:List X).map X.D) (HA []) r:=
 fun_ok hc (f:=31) (fn:=Tryd.f31) (code:=w31b) (by kernel_rfl) (by kernel_rfl) (w31hk N) (Nat.le_of_ble_eq_true (by kernel_rfl)) (ow:=false) ((w31q N A B C).symm.trans (by exact h))
def w31un (r:Res):Option (Int):=match r with
 | (x0,[])=>(match ue (.i .i64) x0 with | some a0=>some a0 | _=>none)
 | _=>none
theorem w31uo {r:Res} {d:Int} (h:w31un r=some d):r=w31r0 (d):=by
 unfold w31un at h
 split at h
 ·split at h
  ·rename_i h0;cases h;rw [ue_some h0];rfl
  ·cases h
 ·cases h
def w31z (N:Nat) (A B:Int) (C:(List Ex)):Option (Int):=(w31 N A B C).bind w31un
theorem w31fin {N:Nat} (hc:CxOk (w31c N)) {A B:Int} {C:(List Ex)} {d:Int} (hd:w31z N A B C=some d):Does Tryd.prog 31 (([.agg [.e (.i .i64) A,.e (.i .i64) B,.e (.sl .ex) C]]:List X).map X.D) (HA []) (w31r0 (d)).1.D (HA (w31r0 (d)).2):=by
 obtain ⟨r,hr,hu⟩:=Option.bind_eq_some_iff.1 hd
 have:=w31does hc hr
 rw [w31uo hu] at this
 exact this
def w31p (N:Nat) (A B:Int) (C:(List Ex)):Bool:=(w31z N A B C).isSome
def w31y0 (N:Nat) (A B:Int) (C:(List Ex)):Int:=((w31z N A B C).getD 0)
def w31e (N:Nat):Ent':=E1 .ex  (fun x0=>(w31p N (Ex.op x0) (Ex.num x0) (Ex.kids x0),w31r0 (w31y0 N (Ex.op x0) (Ex.num x0) (Ex.kids x0))))
theorem w31re {N:Nat} {A B:Int} {C:(List Ex)} {d:Int} (hd:w31z N A B C=some d):w31r0 (w31y0 N A B C)=w31r0 (d):=by unfold w31y0;rw [hd];rfl
theorem w31ok (N:Nat):EOk Tryd.prog 31 (w31e N):=EOk.e1 (fun x0 h=>by
 have h:(w31z N (Ex.op x0) (Ex.num x0) (Ex.kids x0)).isSome=true:=h
 obtain ⟨d,hd⟩:=Option.isSome_iff_exists.1 h
 have f:=w31fin (w31cx N) hd
 rw [← w31re hd] at f
 exact f)
def w81r0 (a0:(List UInt8)):Res:=(.e .tx a0,[])
abbrev w81T:=Nat×(Int→Option ((List UInt8)))
noncomputable def w81L (N:w81T):List (Nat×Ent'):=[(81,E1 (.i .i64)  (fun x0=>((N.2 x0).isSome,w81r0 (((N.2 x0).getD [])))))]
noncomputable def w81c (N:w81T):Cx:=⟨Tryd.prog,25,w81L N,[]⟩
noncomputable def w81b:Code:=Tryd.f81.body.getD .skip
theorem w81cx (N:w81T) (hs:EOk Tryd.prog 81 (E1 (.i .i64)  (fun x0=>((N.2 x0).isSome,w81r0 (((N.2 x0).getD [])))))):CxOk (w81c N):=ctx_ok (by kernel_rfl) (.cons (by kernel_rfl) hs .nil) .nil
def w81G [Alg] (N:w81T)  (n0:Int):O:=
 br (decide (n0 < (10:Int)))
  (some (w81r0 [u8of (IntKind.i64.wrap ((48:Int)+n0))]))
  (ck true <|
  ck ((N.2 (IntKind.i64.wrap (n0.tdiv (10:Int)))).isSome) <|
  ck true <|
  ck (decide ((↑((N.2 (IntKind.i64.wrap (n0.tdiv (10:Int)))).getD []).length:Int)+(↑[u8of (IntKind.i64.wrap ((48:Int)+n0.tmod (10:Int)))].length:Int)≤(9223372036854775807:Int))) <|
  some (w81r0 ((N.2 (IntKind.i64.wrap (n0.tdiv (10:Int)))).getD []++[u8of (IntKind.i64.wrap ((48:Int)+n0.tmod (10:Int)))])))
def w81 [Alg] (N:w81T) (n0:Int):O:=w81G N  n0
noncomputable def w81h [Alg] (_:w81T):Hint:=.d
theorem w81hk (N:w81T):HintOk (w81c N) Tryd.f81.ntmps (w81h N) w81b:=hk_of _ _ trivial
theorem w81q [Alg] (N:w81T) (n0:Int):w81G N  n0=exec (w81c N) Tryd.f81.ntmps (w81h N) w81b ⟨argT 0 [.e (.i .i64) n0],[],100⟩ (finX (w81c N) Tryd.f81 false):=by kernel_rfl
theorem w81does {N:w81T} (hc:CxOk (w81c N)) {n0:Int} {r:Res} (h:w81 N n0=some r):DoesR Tryd.prog 81 (([.e (.i .i64) n0]:List X).map X.D) (HA []) r:=
 fun_ok hc (f:=81) (fn:=Tryd.f81) (code:=w81b) (by kernel_rfl) (by kernel_rfl) (w81hk N) (Nat.le_of_ble_eq_true (by kernel_rfl)) (ow:=false) ((w81q N n0).symm.trans (by exact h))
def w81un (r:Res):Option ((List UInt8)):=match r with
 | (x0,[])=>(match ue .tx x0 with | some a0=>some a0 | _=>none)
 | _=>none
theorem w81uo {r:Res} {d:(List UInt8)} (h:w81un r=some d):r=w81r0 (d):=by
 unfold w81un at h
 split at h
 ·split at h
  ·rename_i h0;cases h;rw [ue_some h0];rfl
  ·cases h
 ·cases h
def w81z (N:w81T) (n0:Int):Option ((List UInt8)):=(w81 N n0).bind w81un
theorem w81fin {N:w81T} (hc:CxOk (w81c N)) {n0:Int} {d:(List UInt8)} (hd:w81z N n0=some d):Does Tryd.prog 81 (([.e (.i .i64) n0]:List X).map X.D) (HA []) (w81r0 (d)).1.D (HA (w81r0 (d)).2):=by
 obtain ⟨r,hr,hu⟩:=Option.bind_eq_some_iff.1 hd
 have:=w81does hc hr
 rw [w81uo hu] at this
 exact this
def w81Y (N:Nat):Nat→Int→Option ((List UInt8))
 | 0,_=>none
 | n+1,n0=>w81z (N,w81Y N n) n0
theorem w81Yok (N:Nat):∀ n,EOk Tryd.prog 81 (E1 (.i .i64)  (fun x0=>((w81Y N n x0).isSome,w81r0 (((w81Y N n x0).getD [])))))
 | 0=>EOk.e1 (fun _ h=>by cases h)
 | n+1=>EOk.e1 (fun x0 h=>by
   obtain ⟨d,hd⟩:=Option.isSome_iff_exists.1 h
   have hd':w81Y N (n+1) x0=some d:=hd
   have e:w81r0 (((w81Y N (n+1) x0).getD []))=w81r0 (d):=by rw [hd'];rfl
   show Does _ _ _ _ (w81r0 (((w81Y N (n+1) x0).getD []))).1.D (HA (w81r0 (((w81Y N (n+1) x0).getD []))).2)
   rw [e]
   exact w81fin (N:=(N,w81Y N n)) (w81cx (N,w81Y N n) (w81Yok N n)) hd')
def w81p (N:Nat) (n0:Int):Bool:=(w81Y N N n0).isSome
def w81y0 (N:Nat) (n0:Int):(List UInt8):=((w81Y N N n0).getD [])
def w81e (N:Nat):Ent':=E1 (.i .i64)  (fun x0=>(w81p N x0,w81r0 (w81y0 N x0)))
theorem w81ok (N:Nat):EOk Tryd.prog 81 (w81e N):=w81Yok N N
def w83r0 (a0:Int):Res:=(.e (.i .i64) a0,[])
noncomputable def w83L (_:Nat):List (Nat×Ent'):=[]
noncomputable def w83c (N:Nat):Cx:=⟨Tryd.prog,25,w83L N,[]⟩
noncomputable def w83b:Code:=Tryd.f83.body.getD .skip
theorem w83cx (N:Nat):CxOk (w83c N):=ctx_ok (by kernel_rfl) .nil .nil
def w83F0 [Alg] (_:Nat)   (k0:Int→Bool→O) (x13_0:Int):O:=
 br (decide (x13_0=(9:Int)))
  (k0 x13_0 (decide (x13_0=(9:Int))))
  (k0 x13_0 (decide (x13_0=(10:Int))))
noncomputable def w83b0:Code:=atC [1,0,1,0,0] w83b
def w83m0:Nm:=⟨[3],[],[]⟩
def w83I0 (x:Int):Sg:=⟨[(3,.e (.i .i64) x)],[],100⟩
def w83u0 (σ:Sg):Int:=lvT (.i .i64) 3 0 σ
theorem w83ui0:∀ x,w83u0 (w83I0 x)=x:=fun _=>by kernel_rfl
def w83X0_0 (y:Int×Bool):Exit×Sg:=(.normal,⟨[(3,.e (.i .i64) y.1),(4,.e .bo y.2)],[],100⟩)
def w83v0_0 (_:Exit) (σ:Sg):Int×Bool:=(lvT (.i .i64) 3 0 σ,lvT .bo 4 0 σ)
def w83w0:List (Exit×Nm):=[(.normal,⟨[3,4],[],[]⟩)]
theorem w83o0:Outs w83v0_0 (fun _ _=>()) (fun _ _=>()) w83X0_0 (noX 1) (noX 2) (exC .normal) (exC (.goto 1)) (exC (.goto 2)):=⟨fun _=>by kernel_rfl,fun _=>by kernel_rfl,fun _=>by kernel_rfl,fun _=>by kernel_rfl,fun _=>by kernel_rfl,fun _=>by kernel_rfl,exNe_ok (by kernel_rfl),exNe_ok (by kernel_rfl),exNe_ok (by kernel_rfl)⟩
def w83l0 [Alg] (N _:Nat) (x:Int) (k0:(Int×Bool)→O) (_:(Unit)→O) (_:(Unit)→O):O:=w83F0 N   (fun y0 y1=>k0 (y0,y1)) x
def w83n0 [Alg] (N:Nat) (a0:Int) (k0:Int→Bool→O):O:=w83l0 N N a0 (fun y=>k0 y.1 y.2) (fun _=>none) (fun _=>none)
noncomputable def w83s0 [Alg] (N:Nat) (a0:Int) (k0:Int→Bool→O):O:=subL w83I0 w83u0 (w83l0 N N) (w83I0 a0) (fun y=>k0 y.1 y.2) (fun _=>none) (fun _=>none)
theorem w83e0 [Alg] (N:Nat):w83s0 N=w83n0 N:=funext fun _=>funext fun _=>subL_I w83ui0 _ _ _ _
noncomputable def w83h0 [Alg] (_:Nat):Hint:=.d
theorem w83hk0 (N:Nat):HintOk (w83c N) Tryd.f83.ntmps (w83h0 N) w83b0:=hk_of _ _ trivial
theorem w83q0 [Alg] (N:Nat) (K:Exit→Sg→O) (x:Int):w83F0 N   (fun y0 y1=>K (w83X0_0 (y0,y1)).1 (w83X0_0 (y0,y1)).2) x=exec (w83c N) Tryd.f83.ntmps (w83h0 N) w83b0 (w83I0 x) (partX w83w0 K):=by kernel_rfl
theorem w83S0 (N:Nat) (hc:CxOk (w83c N)):SubOk (w83c N) Tryd.f83.ntmps w83b0 w83X0_0 (noX 1) (noX 2) (subL w83I0 w83u0 (w83l0 N N)):=
 sub_part hc (w83hk0 N) w83o0 (fun x K=>by
  have h:w83F0 N   (fun y0 y1=>K (w83X0_0 (y0,y1)).1 (w83X0_0 (y0,y1)).2) x=w83F0 N   (fun y0 y1=>K (w83X0_0 (y0,y1)).1 (w83X0_0 (y0,y1)).2) x:=by rfl
  exact h.trans (w83q0 N K x))
def w83F1 [Alg] (_:Nat)   (k0:Int→Bool→O) (x16_0:Int):O:=
 br (decide (x16_0=(3:Int)))
  (k0 x16_0 (decide (x16_0=(3:Int))))
  (k0 x16_0 (decide (x16_0=(4:Int))))
noncomputable def w83b1:Code:=atC [1,0,1,0,1,1,0] w83b
def w83m1:Nm:=⟨[3],[],[]⟩
def w83I1 (x:Int):Sg:=⟨[(3,.e (.i .i64) x)],[],100⟩
def w83u1 (σ:Sg):Int:=lvT (.i .i64) 3 0 σ
theorem w83ui1:∀ x,w83u1 (w83I1 x)=x:=fun _=>by kernel_rfl
def w83X1_0 (y:Int×Bool):Exit×Sg:=(.normal,⟨[(3,.e (.i .i64) y.1),(7,.e .bo y.2)],[],100⟩)
def w83v1_0 (_:Exit) (σ:Sg):Int×Bool:=(lvT (.i .i64) 3 0 σ,lvT .bo 7 0 σ)
def w83w1:List (Exit×Nm):=[(.normal,⟨[3,7],[],[]⟩)]
theorem w83o1:Outs w83v1_0 (fun _ _=>()) (fun _ _=>()) w83X1_0 (noX 1) (noX 2) (exC .normal) (exC (.goto 1)) (exC (.goto 2)):=⟨fun _=>by kernel_rfl,fun _=>by kernel_rfl,fun _=>by kernel_rfl,fun _=>by kernel_rfl,fun _=>by kernel_rfl,fun _=>by kernel_rfl,exNe_ok (by kernel_rfl),exNe_ok (by kernel_rfl),exNe_ok (by kernel_rfl)⟩
def w83l1 [Alg] (N _:Nat) (x:Int) (k0:(Int×Bool)→O) (_:(Unit)→O) (_:(Unit)→O):O:=w83F1 N   (fun y0 y1=>k0 (y0,y1)) x
def w83n1 [Alg] (N:Nat) (a0:Int) (k0:Int→Bool→O):O:=w83l1 N N a0 (fun y=>k0 y.1 y.2) (fun _=>none) (fun _=>none)
noncomputable def w83s1 [Alg] (N:Nat) (a0:Int) (k0:Int→Bool→O):O:=subL w83I1 w83u1 (w83l1 N N) (w83I1 a0) (fun y=>k0 y.1 y.2) (fun _=>none) (fun _=>none)
theorem w83e1 [Alg] (N:Nat):w83s1 N=w83n1 N:=funext fun _=>funext fun _=>subL_I w83ui1 _ _ _ _
noncomputable def w83h1 [Alg] (_:Nat):Hint:=.d
theorem w83hk1 (N:Nat):HintOk (w83c N) Tryd.f83.ntmps (w83h1 N) w83b1:=hk_of _ _ trivial
theorem w83q1 [Alg] (N:Nat) (K:Exit→Sg→O) (x:Int):w83F1 N   (fun y0 y1=>K (w83X1_0 (y0,y1)).1 (w83X1_0 (y0,y1)).2) x=exec (w83c N) Tryd.f83.ntmps (w83h1 N) w83b1 (w83I1 x) (partX w83w1 K):=by kernel_rfl
theorem w83S1 (N:Nat) (hc:CxOk (w83c N)):SubOk (w83c N) Tryd.f83.ntmps w83b1 w83X1_0 (noX 1) (noX 2) (subL w83I1 w83u1 (w83l1 N N)):=
 sub_part hc (w83hk1 N) w83o1 (fun x K=>by
  have h:w83F1 N   (fun y0 y1=>K (w83X1_0 (y0,y1)).1 (w83X1_0 (y0,y1)).2) x=w83F1 N   (fun y0 y1=>K (w83X1_0 (y0,y1)).1 (w83X1_0 (y0,y1)).2) x:=by rfl
  exact h.trans (w83q1 N K x))
def w83F2 [Alg] (_:Nat) (in0:Int→(Int→Bool→O)→O) (in1:Int→(Int→Bool→O)→O)  (k0:Int→O) (k1:Unit→O) (x0_0:Int):O:=
 in0 x0_0
  (fun z14 z15=>
   br z15
    (k0 ((0:Int)))
    (in1 z14
     (fun z17 z18=>
      br z18
       (k0 ((1:Int)))
       (br (decide (z17=(5:Int)))
        (br (decide (z17=(5:Int)))
         (k0 ((2:Int)))
         (br (decide (z17=(2:Int)))
          (br (decide (z17=(2:Int)))
           (k0 ((3:Int)))
           (k1 ()))
          (br (decide (z17=(7:Int)))
           (k0 ((3:Int)))
           (k1 ()))))
        (br (decide (z17=(6:Int)))
         (k0 ((2:Int)))
         (br (decide (z17=(2:Int)))
          (br (decide (z17=(2:Int)))
           (k0 ((3:Int)))
           (k1 ()))
          (br (decide (z17=(7:Int)))
           (k0 ((3:Int)))
           (k1 ()))))))))
noncomputable def w83b2:Code:=atC [1,0] w83b
def w83m2:Nm:=⟨[0],[],[]⟩
def w83I2 (x:Int):Sg:=⟨[(0,.e (.i .i64) x)],[],100⟩
def w83u2 (σ:Sg):Int:=lvT (.i .i64) 0 0 σ
theorem w83ui2:∀ x,w83u2 (w83I2 x)=x:=fun _=>by kernel_rfl
def w83X2_0 (y:Int):Exit×Sg:=(.ret,⟨[(2,.e (.i .i64) y)],[],100⟩)
def w83v2_0 (_:Exit) (σ:Sg):Int:=lvT (.i .i64) 2 0 σ
def w83X2_1 (_:Unit):Exit×Sg:=(.normal,⟨[],[],100⟩)
def w83v2_1 (_:Exit) (_:Sg):Unit:=()
def w83w2:List (Exit×Nm):=[(.ret,⟨[2],[],[]⟩),(.normal,⟨[],[],[]⟩)]
theorem w83o2:Outs w83v2_0 w83v2_1 (fun _ _=>()) w83X2_0 w83X2_1 (noX 2) (exC .ret) (exC .normal) (exC (.goto 2)):=⟨fun _=>by kernel_rfl,fun _=>by kernel_rfl,fun _=>by kernel_rfl,fun _=>by kernel_rfl,fun _=>by kernel_rfl,fun _=>by kernel_rfl,exNe_ok (by kernel_rfl),exNe_ok (by kernel_rfl),exNe_ok (by kernel_rfl)⟩
def w83l2 [Alg] (N _:Nat) (x:Int) (k0:(Int)→O) (k1:(Unit)→O) (_:(Unit)→O):O:=w83F2 N (w83n0 N) (w83n1 N)  (fun y0=>k0 y0) (fun (_:Unit)=>k1 ()) x
def w83n2 [Alg] (N:Nat) (a0:Int) (k0:Int→O) (k1:Unit→O):O:=w83l2 N N a0 (fun y=>k0 y) (fun y=>k1 y) (fun _=>none)
noncomputable def w83s2 [Alg] (N:Nat) (a0:Int) (k0:Int→O) (k1:Unit→O):O:=subL w83I2 w83u2 (w83l2 N N) (w83I2 a0) (fun y=>k0 y) (fun y=>k1 y) (fun _=>none)
theorem w83e2 [Alg] (N:Nat):w83s2 N=w83n2 N:=funext fun _=>funext fun _=>funext fun _=>subL_I w83ui2 _ _ _ _
noncomputable def w83h2 [Alg] (N:Nat):Hint:=(.seq .d (.block (.seq (.sub w83m0 _ _ _ w83X0_0 (noX 1) (noX 2) (subL w83I0 w83u0 (w83l0 N N))) (.cond .d (.seq (.sub w83m1 _ _ _ w83X1_0 (noX 1) (noX 2) (subL w83I1 w83u1 (w83l1 N N))) .d)))))
theorem w83hk2 (N:Nat) (hc:CxOk (w83c N)):HintOk (w83c N) Tryd.f83.ntmps (w83h2 N) w83b2:=hk_of _ _ (And.intro trivial (And.intro (w83S0 N hc) (And.intro trivial (And.intro (w83S1 N hc) trivial))))
theorem w83q2 [Alg] (N:Nat) (K:Exit→Sg→O) (x:Int):w83F2 N (w83s0 N) (w83s1 N)  (fun y0=>K (w83X2_0 y0).1 (w83X2_0 y0).2) (fun (_:Unit)=>K (w83X2_1 ()).1 (w83X2_1 ()).2) x=exec (w83c N) Tryd.f83.ntmps (w83h2 N) w83b2 (w83I2 x) (partX w83w2 K):=by kernel_rfl
theorem w83S2 (N:Nat) (hc:CxOk (w83c N)):SubOk (w83c N) Tryd.f83.ntmps w83b2 w83X2_0 w83X2_1 (noX 2) (subL w83I2 w83u2 (w83l2 N N)):=
 sub_part hc (w83hk2 N hc) w83o2 (fun x K=>by
  have h:w83F2 N (w83n0 N) (w83n1 N)  (fun y0=>K (w83X2_0 y0).1 (w83X2_0 y0).2) (fun (_:Unit)=>K (w83X2_1 ()).1 (w83X2_1 ()).2) x=w83F2 N (w83s0 N) (w83s1 N)  (fun y0=>K (w83X2_0 y0).1 (w83X2_0 y0).2) (fun (_:Unit)=>K (w83X2_1 ()).1 (w83X2_1 ()).2) x:=by rw [w83e0 N,w83e1 N]
  exact h.trans (w83q2 N K x))
def w83G [Alg] (_:Nat) (_in0:Int→(Int→Bool→O)→O) (_in1:Int→(Int→Bool→O)→O) (in2:Int→(Int→O)→(Unit→O)→O) (op0:Int):O:=
 in2 op0
  (fun z19=>
   some (w83r0 z19))
  (fun (_:Unit)=>
   some (w83r0 ((4:Int))))
def w83 [Alg] (N:Nat) (op0:Int):O:=w83G N (w83n0 N) (w83n1 N) (w83n2 N) op0
noncomputable def w83h [Alg] (N:Nat):Hint:=(.seq .d (.seq (.sub w83m2 _ _ _ w83X2_0 w83X2_1 (noX 2) (subL w83I2 w83u2 (w83l2 N N))) .d))
theorem w83hk (N:Nat) (hc:CxOk (w83c N)):HintOk (w83c N) Tryd.f83.ntmps (w83h N) w83b:=hk_of _ _ (And.intro trivial (And.intro (w83S2 N hc) trivial))
theorem w83q [Alg] (N:Nat) (op0:Int):w83G N (w83s0 N) (w83s1 N) (w83s2 N) op0=exec (w83c N) Tryd.f83.ntmps (w83h N) w83b ⟨argT 0 [.e (.i .i64) op0],[],100⟩ (finX (w83c N) Tryd.f83 false):=by kernel_rfl
theorem w83does {N:Nat} (hc:CxOk (w83c N)) {op0:Int} {r:Res} (h:w83 N op0=some r):DoesR Tryd.prog 83 (([.e (.i .i64) op0]:List X).map X.D) (HA []) r:=
 fun_ok hc (f:=83) (fn:=Tryd.f83) (code:=w83b) (by kernel_rfl) (by kernel_rfl) (w83hk N hc) (Nat.le_of_ble_eq_true (by kernel_rfl)) (ow:=false) ((w83q N op0).symm.trans (by rw [w83e0 N,w83e1 N,w83e2 N];exact h))
def w83un (r:Res):Option (Int):=match r with
 | (x0,[])=>(match ue (.i .i64) x0 with | some a0=>some a0 | _=>none)
 | _=>none
theorem w83uo {r:Res} {d:Int} (h:w83un r=some d):r=w83r0 (d):=by
 unfold w83un at h
 split at h
 ·split at h
  ·rename_i h0;cases h;rw [ue_some h0];rfl
  ·cases h
 ·cases h
def w83z (N:Nat) (op0:Int):Option (Int):=(w83 N op0).bind w83un
theorem w83fin {N:Nat} (hc:CxOk (w83c N)) {op0 d:Int} (hd:w83z N op0=some d):Does Tryd.prog 83 (([.e (.i .i64) op0]:List X).map X.D) (HA []) (w83r0 (d)).1.D (HA (w83r0 (d)).2):=by
 obtain ⟨r,hr,hu⟩:=Option.bind_eq_some_iff.1 hd
 have:=w83does hc hr
 rw [w83uo hu] at this
 exact this
def w83p (N:Nat) (op0:Int):Bool:=(w83z N op0).isSome
def w83y0 (N:Nat) (op0:Int):Int:=((w83z N op0).getD 0)
def w83e (N:Nat):Ent':=E1 (.i .i64)  (fun x0=>(w83p N x0,w83r0 (w83y0 N x0)))
theorem w83re {N:Nat} {op0 d:Int} (hd:w83z N op0=some d):w83r0 (w83y0 N op0)=w83r0 (d):=by unfold w83y0;rw [hd];rfl
theorem w83ok (N:Nat):EOk Tryd.prog 83 (w83e N):=EOk.e1 (fun x0 h=>by
 have h:(w83z N x0).isSome=true:=h
 obtain ⟨d,hd⟩:=Option.isSome_iff_exists.1 h
 have f:=w83fin (w83cx N) hd
 rw [← w83re hd] at f
 exact f)
def w84r0 (a0:(List UInt8)):Res:=(.e .tx a0,[])
noncomputable def w84L (_:Nat):List (Nat×Ent'):=[]
noncomputable def w84c (N:Nat):Cx:=⟨Tryd.prog,25,w84L N,[]⟩
noncomputable def w84b:Code:=Tryd.f84.body.getD .skip
theorem w84cx (N:Nat):CxOk (w84c N):=ctx_ok (by kernel_rfl) .nil .nil
def w84G [Alg] (_:Nat)  (op0:Int):O:=
 br (decide (op0=(3:Int)))
  (some (w84r0 [(43:UInt8)]))
  (br (decide (op0=(4:Int)))
   (some (w84r0 [(45:UInt8)]))
   (br (decide (op0=(5:Int)))
    (some (w84r0 [(42:UInt8)]))
    (br (decide (op0=(6:Int)))
     (some (w84r0 [(47:UInt8)]))
     (br (decide (op0=(7:Int)))
      (some (w84r0 [(94:UInt8)]))
      (br (decide (op0=(9:Int)))
       (some (w84r0 [(61:UInt8)]))
       (some (w84r0 [(60:UInt8)])))))))
def w84 [Alg] (N:Nat) (op0:Int):O:=w84G N  op0
noncomputable def w84h [Alg] (_:Nat):Hint:=.d
theorem w84hk (N:Nat):HintOk (w84c N) Tryd.f84.ntmps (w84h N) w84b:=hk_of _ _ trivial
theorem w84q [Alg] (N:Nat) (op0:Int):w84G N  op0=exec (w84c N) Tryd.f84.ntmps (w84h N) w84b ⟨argT 0 [.e (.i .i64) op0],[],100⟩ (finX (w84c N) Tryd.f84 false):=by kernel_rfl
theorem w84does {N:Nat} (hc:CxOk (w84c N)) {op0:Int} {r:Res} (h:w84 N op0=some r):DoesR Tryd.prog 84 (([.e (.i .i64) op0]:List X).map X.D) (HA []) r:=
 fun_ok hc (f:=84) (fn:=Tryd.f84) (code:=w84b) (by kernel_rfl) (by kernel_rfl) (w84hk N) (Nat.le_of_ble_eq_true (by kernel_rfl)) (ow:=false) ((w84q N op0).symm.trans (by exact h))
def w84un (r:Res):Option ((List UInt8)):=match r with
 | (x0,[])=>(match ue .tx x0 with | some a0=>some a0 | _=>none)
 | _=>none
theorem w84uo {r:Res} {d:(List UInt8)} (h:w84un r=some d):r=w84r0 (d):=by
 unfold w84un at h
 split at h
 ·split at h
  ·rename_i h0;cases h;rw [ue_some h0];rfl
  ·cases h
 ·cases h
def w84z (N:Nat) (op0:Int):Option ((List UInt8)):=(w84 N op0).bind w84un
theorem w84fin {N:Nat} (hc:CxOk (w84c N)) {op0:Int} {d:(List UInt8)} (hd:w84z N op0=some d):Does Tryd.prog 84 (([.e (.i .i64) op0]:List X).map X.D) (HA []) (w84r0 (d)).1.D (HA (w84r0 (d)).2):=by
 obtain ⟨r,hr,hu⟩:=Option.bind_eq_some_iff.1 hd
 have:=w84does hc hr
 rw [w84uo hu] at this
 exact this
def w84p (N:Nat) (op0:Int):Bool:=(w84z N op0).isSome
def w84y0 (N:Nat) (op0:Int):(List UInt8):=((w84z N op0).getD [])
def w84e (N:Nat):Ent':=E1 (.i .i64)  (fun x0=>(w84p N x0,w84r0 (w84y0 N x0)))
theorem w84re {N:Nat} {op0:Int} {d:(List UInt8)} (hd:w84z N op0=some d):w84r0 (w84y0 N op0)=w84r0 (d):=by unfold w84y0;rw [hd];rfl
theorem w84ok (N:Nat):EOk Tryd.prog 84 (w84e N):=EOk.e1 (fun x0 h=>by
 have h:(w84z N x0).isSome=true:=h
 obtain ⟨d,hd⟩:=Option.isSome_iff_exists.1 h
 have f:=w84fin (w84cx N) hd
 rw [← w84re hd] at f
 exact f)
def w51r0 (a0:(List UInt8)):Res:=(.e .tx a0,[])
def w51in (xs:List X) (H:XH):Option (Int×Int×(List Ex)):=match xs,H with
 | [.agg [x0,x1,x2]],[]=>(match ue (.i .i64) x0,ue (.i .i64) x1,ue (.sl .ex) x2 with | some a0,some a1,some a2=>some (a0,a1,a2) | _,_,_=>none)
 | _,_=>none
theorem w51io {xs:List X} {H:XH} {d:Int×Int×(List Ex)} (h:w51in xs H=some d):xs=[.agg [.e (.i .i64) (d.1),.e (.i .i64) (d.2.1),.e (.sl .ex) (d.2.2)]]∧H=[]:=by
 unfold w51in at h
 split at h
 ·split at h
  ·rename_i h0 h1 h2;cases h;rw [ue_some h0,ue_some h1,ue_some h2];exact ⟨rfl,rfl⟩
  ·cases h
 ·cases h
abbrev w51T:=Nat×((Int→Int→(List Ex)→Option ((List UInt8)))×(Int→Int→(List Ex)→Int→Option ((List UInt8))))
def w51E (N:w51T):Ent':=entR w51in (fun d=>(N.2.1 (d.1) (d.2.1) (d.2.2)).isSome) (fun d=>w51r0 (((N.2.1 (d.1) (d.2.1) (d.2.2)).getD [])))
def w82r0 (a0:(List UInt8)):Res:=(.e .tx a0,[])
def w82in (xs:List X) (H:XH):Option (Int×Int×(List Ex)×Int):=match xs,H with
 | [.agg [x0,x1,x2],x3],[]=>(match ue (.i .i64) x0,ue (.i .i64) x1,ue (.sl .ex) x2,ue (.i .i64) x3 with | some a0,some a1,some a2,some a3=>some (a0,a1,a2,a3) | _,_,_,_=>none)
 | _,_=>none
theorem w82io {xs:List X} {H:XH} {d:Int×Int×(List Ex)×Int} (h:w82in xs H=some d):xs=[.agg [.e (.i .i64) (d.1),.e (.i .i64) (d.2.1),.e (.sl .ex) (d.2.2.1)],.e (.i .i64) (d.2.2.2)]∧H=[]:=by
 unfold w82in at h
 split at h
 ·split at h
  ·rename_i h0 h1 h2 h3;cases h;rw [ue_some h0,ue_some h1,ue_some h2,ue_some h3];exact ⟨rfl,rfl⟩
  ·cases h
 ·cases h
def w82E (N:w51T):Ent':=entR w82in (fun d=>(N.2.2 (d.1) (d.2.1) (d.2.2.1) (d.2.2.2)).isSome) (fun d=>w82r0 (((N.2.2 (d.1) (d.2.1) (d.2.2.1) (d.2.2.2)).getD [])))
noncomputable def w51L (N:w51T):List (Nat×Ent'):=[(51,w51E N),(82,w82E N),(81,w81e N.1),(83,w83e N.1),(84,w84e N.1)]
noncomputable def w51c (N:w51T):Cx:=⟨Tryd.prog,25,w51L N,[]⟩
noncomputable def w51b:Code:=Tryd.f51.body.getD .skip
theorem w51cx (N:w51T) (hw51:EOk Tryd.prog 51 (w51E N)) (hw82:EOk Tryd.prog 82 (w82E N)):CxOk (w51c N):=ctx_ok (by kernel_rfl) (.cons (by kernel_rfl) hw51 (.cons (by kernel_rfl) hw82 (.cons (by kernel_rfl) (w81ok N.1) (.cons (by kernel_rfl) (w83ok N.1) (.cons (by kernel_rfl) (w84ok N.1) .nil))))) .nil
def w51F0 [Alg] (_:w51T)   (k0:Int→Int→Int→Int→(List Ex)→O) (x4_0 x4_1 x4_2 x4_3:Int) (x4_4:(List Ex)):O:=
 br (decide (x4_0=(0:Int)))
  (k0 x4_0 ((1:Int)) x4_2 x4_3 x4_4)
  (k0 x4_0 x4_1 x4_2 x4_3 x4_4)
noncomputable def w51b0:Code:=atC [1,1,1,1,0] w51b
def w51m0:Nm:=⟨[1,3,4],[],[]⟩
def w51I0 (x:Int×Int×Int×Int×(List Ex)):Sg:=⟨[(1,.ref 0 0),(3,.e (.i .i64) x.1),(4,.e (.i .i64) x.2.1)],[(0,.box 25 [.e (.i .i64) x.2.2.1,.e (.i .i64) x.2.2.2.1,.e (.sl .ex) x.2.2.2.2])],100⟩
def w51u0 (σ:Sg):Int×Int×Int×Int×(List Ex):=(lvT (.i .i64) 3 0 σ,lvT (.i .i64) 4 0 σ,lvH (.i .i64) 0 0 σ,lvH (.i .i64) 0 1 σ,lvH (.sl .ex) 0 2 σ)
theorem w51ui0:∀ x,w51u0 (w51I0 x)=x:=fun _=>by kernel_rfl
def w51X0_0 (y:Int×Int×Int×Int×(List Ex)):Exit×Sg:=(.normal,⟨[(1,.ref 0 0),(3,.e (.i .i64) y.1),(4,.e (.i .i64) y.2.1)],[(0,.box 25 [.e (.i .i64) y.2.2.1,.e (.i .i64) y.2.2.2.1,.e (.sl .ex) y.2.2.2.2])],100⟩)
def w51v0_0 (_:Exit) (σ:Sg):Int×Int×Int×Int×(List Ex):=(lvT (.i .i64) 3 0 σ,lvT (.i .i64) 4 0 σ,lvH (.i .i64) 0 0 σ,lvH (.i .i64) 0 1 σ,lvH (.sl .ex) 0 2 σ)
def w51w0:List (Exit×Nm):=[(.normal,⟨[1,3,4],[],[]⟩)]
theorem w51o0:Outs w51v0_0 (fun _ _=>()) (fun _ _=>()) w51X0_0 (noX 1) (noX 2) (exC .normal) (exC (.goto 1)) (exC (.goto 2)):=⟨fun _=>by kernel_rfl,fun _=>by kernel_rfl,fun _=>by kernel_rfl,fun _=>by kernel_rfl,fun _=>by kernel_rfl,fun _=>by kernel_rfl,exNe_ok (by kernel_rfl),exNe_ok (by kernel_rfl),exNe_ok (by kernel_rfl)⟩
def w51l0 [Alg] (N:w51T) (_:Nat) (x:Int×Int×Int×Int×(List Ex)) (k0:(Int×Int×Int×Int×(List Ex))→O) (_:(Unit)→O) (_:(Unit)→O):O:=w51F0 N   (fun y0 y1 y2 y3 y4=>k0 (y0,y1,y2,y3,y4)) x.1 x.2.1 x.2.2.1 x.2.2.2.1 x.2.2.2.2
def w51n0 [Alg] (N:w51T) (a0 a1 a2 a3:Int) (a4:(List Ex)) (k0:Int→Int→Int→Int→(List Ex)→O):O:=w51l0 N N.1 (a0,a1,a2,a3,a4) (fun y=>k0 y.1 y.2.1 y.2.2.1 y.2.2.2.1 y.2.2.2.2) (fun _=>none) (fun _=>none)
noncomputable def w51s0 [Alg] (N:w51T) (a0 a1 a2 a3:Int) (a4:(List Ex)) (k0:Int→Int→Int→Int→(List Ex)→O):O:=subL w51I0 w51u0 (w51l0 N N.1) (w51I0 (a0,a1,a2,a3,a4)) (fun y=>k0 y.1 y.2.1 y.2.2.1 y.2.2.2.1 y.2.2.2.2) (fun _=>none) (fun _=>none)
theorem w51e0 [Alg] (N:w51T):w51s0 N=w51n0 N:=funext fun _=>funext fun _=>funext fun _=>funext fun _=>funext fun _=>funext fun _=>subL_I w51ui0 _ _ _ _
noncomputable def w51h0 [Alg] (_:w51T):Hint:=.d
theorem w51hk0 (N:w51T):HintOk (w51c N) Tryd.f51.ntmps (w51h0 N) w51b0:=hk_of _ _ trivial
theorem w51q0 [Alg] (N:w51T) (K:Exit→Sg→O) (x:Int×Int×Int×Int×(List Ex)):w51F0 N   (fun y0 y1 y2 y3 y4=>K (w51X0_0 (y0,y1,y2,y3,y4)).1 (w51X0_0 (y0,y1,y2,y3,y4)).2) x.1 x.2.1 x.2.2.1 x.2.2.2.1 x.2.2.2.2=exec (w51c N) Tryd.f51.ntmps (w51h0 N) w51b0 (w51I0 x) (partX w51w0 K):=by kernel_rfl
theorem w51S0 (N:w51T) (hc:CxOk (w51c N)):SubOk (w51c N) Tryd.f51.ntmps w51b0 w51X0_0 (noX 1) (noX 2) (subL w51I0 w51u0 (w51l0 N N.1)):=
 sub_part hc (w51hk0 N) w51o0 (fun x K=>by
  have h:w51F0 N   (fun y0 y1 y2 y3 y4=>K (w51X0_0 (y0,y1,y2,y3,y4)).1 (w51X0_0 (y0,y1,y2,y3,y4)).2) x.1 x.2.1 x.2.2.1 x.2.2.2.1 x.2.2.2.2=w51F0 N   (fun y0 y1 y2 y3 y4=>K (w51X0_0 (y0,y1,y2,y3,y4)).1 (w51X0_0 (y0,y1,y2,y3,y4)).2) x.1 x.2.1 x.2.2.1 x.2.2.2.1 x.2.2.2.2:=by rfl
  exact h.trans (w51q0 N K x))
def w51G [Alg] (N:w51T) (in0:Int→Int→Int→Int→(List Ex)→(Int→Int→Int→Int→(List Ex)→O)→O) (A B:Int) (C:(List Ex)):O:=
 br (decide (A=(0:Int)))
  (ck (w81p N.1 B) <|
  some (w51r0 (w81y0 N.1 B)))
  (br (decide (A=(1:Int)))
   (some (w51r0 [u8of (IntKind.i64.wrap ((97:Int)+B))]))
   (br (decide (A=(2:Int)))
    (gx C ((0:Int)) fun y0=>
    ck ((N.snd.2 y0.op y0.num y0.kids (3:Int)).isSome) <|
    ck (decide ((1:Int)+(↑((N.snd.2 y0.op y0.num y0.kids (3:Int)).getD []).length:Int)≤(9223372036854775807:Int))) <|
    some (w51r0 ([(45:UInt8)]++(N.snd.2 y0.op y0.num y0.kids (3:Int)).getD [])))
    (br (decide (A=(8:Int)))
     (gx C ((0:Int)) fun y1=>
     ck ((N.snd.2 y1.op y1.num y1.kids (1:Int)).isSome) <|
     ck (decide ((2:Int)+(↑((N.snd.2 y1.op y1.num y1.kids (1:Int)).getD []).length:Int)≤(9223372036854775807:Int))) <|
     ck (decide ((↑([(82:UInt8),(40:UInt8)]++(N.snd.2 y1.op y1.num y1.kids (1:Int)).getD []).length:Int)+(1:Int)≤(9223372036854775807:Int))) <|
     some (w51r0 ([(82:UInt8),(40:UInt8)]++(N.snd.2 y1.op y1.num y1.kids (1:Int)).getD []++[(41:UInt8)])))
     (br (decide (A=(7:Int)))
      (gx C ((0:Int)) fun y2=>
      ck ((N.snd.2 y2.op y2.num y2.kids (4:Int)).isSome) <|
      ck (decide ((↑((N.snd.2 y2.op y2.num y2.kids (4:Int)).getD []).length:Int)+(1:Int)≤(9223372036854775807:Int))) <|
      gx C ((1:Int)) fun y3=>
      ck ((N.snd.2 y3.op y3.num y3.kids (3:Int)).isSome) <|
      ck (decide ((↑((N.snd.2 y2.op y2.num y2.kids (4:Int)).getD []++[(94:UInt8)]).length:Int)+(↑((N.snd.2 y3.op y3.num y3.kids (3:Int)).getD []).length:Int)≤(9223372036854775807:Int))) <|
      some (w51r0 ((N.snd.2 y2.op y2.num y2.kids (4:Int)).getD []++[(94:UInt8)]++(N.snd.2 y3.op y3.num y3.kids (3:Int)).getD [])))
      (ck (w83p N.1 A) <|
      in0 (w83y0 N.1 A) (w83y0 N.1 A) A B C
       (fun z5 z6 z7 _ z9=>
        gx z9 ((0:Int)) fun y10=>
        ck ((N.snd.2 y10.op y10.num y10.kids z6).isSome) <|
        ck (w84p N.1 z7) <|
        ck (decide ((↑((N.snd.2 y10.op y10.num y10.kids z6).getD []).length:Int)+(↑(w84y0 N.1 z7).length:Int)≤(9223372036854775807:Int))) <|
        gx z9 ((1:Int)) fun y11=>
        ck ((N.snd.2 y11.op y11.num y11.kids (IntKind.i64.wrap (z5+(1:Int)))).isSome) <|
        ck (decide ((↑((N.snd.2 y10.op y10.num y10.kids z6).getD []++w84y0 N.1 z7).length:Int)+(↑((N.snd.2 y11.op y11.num y11.kids (IntKind.i64.wrap (z5+(1:Int)))).getD []).length:Int)≤(9223372036854775807:Int))) <|
        some (w51r0 ((N.snd.2 y10.op y10.num y10.kids z6).getD []++w84y0 N.1 z7++(N.snd.2 y11.op y11.num y11.kids (IntKind.i64.wrap (z5+(1:Int)))).getD []))))))))
def w51 [Alg] (N:w51T) (A B:Int) (C:(List Ex)):O:=w51G N (w51n0 N) A B C
noncomputable def w51h [Alg] (N:w51T):Hint:=(.seq .d (.seq .d (.seq .d (.seq .d (.seq (.sub w51m0 _ _ _ w51X0_0 (noX 1) (noX 2) (subL w51I0 w51u0 (w51l0 N N.1))) .d)))))
theorem w51hk (N:w51T) (hc:CxOk (w51c N)):HintOk (w51c N) Tryd.f51.ntmps (w51h N) w51b:=hk_of _ _ (And.intro trivial (And.intro trivial (And.intro trivial (And.intro trivial (And.intro (w51S0 N hc) trivial)))))
theorem w51q [Alg] (N:w51T) (A B:Int) (C:(List Ex)):w51G N (w51s0 N) A B C=exec (w51c N) Tryd.f51.ntmps (w51h N) w51b ⟨argT 0 [.agg [.e (.i .i64) A,.e (.i .i64) B,.e (.sl .ex) C]],[],100⟩ (finX (w51c N) Tryd.f51 false):=by kernel_rfl
theorem w51does {N:w51T} (hc:CxOk (w51c N)) {A B:Int} {C:(List Ex)} {r:Res} (h:w51 N A B C=some r):DoesR Tryd.prog 51 (([.agg [.e (.i .i64) A,.e (.i .i64) B,.e (.sl .ex) C]]:List X).map X.D) (HA []) r:=
 fun_ok hc (f:=51) (fn:=Tryd.f51) (code:=w51b) (by kernel_rfl) (by kernel_rfl) (w51hk N hc) (Nat.le_of_ble_eq_true (by kernel_rfl)) (ow:=false) ((w51q N A B C).symm.trans (by rw [w51e0 N];exact h))
def w51un (r:Res):Option ((List UInt8)):=match r with
 | (x0,[])=>(match ue .tx x0 with | some a0=>some a0 | _=>none)
 | _=>none
theorem w51uo {r:Res} {d:(List UInt8)} (h:w51un r=some d):r=w51r0 (d):=by
 unfold w51un at h
 split at h
 ·split at h
  ·rename_i h0;cases h;rw [ue_some h0];rfl
  ·cases h
 ·cases h
def w51z (N:w51T) (A B:Int) (C:(List Ex)):Option ((List UInt8)):=(w51 N A B C).bind w51un
theorem w51fin {N:w51T} (hc:CxOk (w51c N)) {A B:Int} {C:(List Ex)} {d:(List UInt8)} (hd:w51z N A B C=some d):Does Tryd.prog 51 (([.agg [.e (.i .i64) A,.e (.i .i64) B,.e (.sl .ex) C]]:List X).map X.D) (HA []) (w51r0 (d)).1.D (HA (w51r0 (d)).2):=by
 obtain ⟨r,hr,hu⟩:=Option.bind_eq_some_iff.1 hd
 have:=w51does hc hr
 rw [w51uo hu] at this
 exact this
noncomputable def w82L (N:w51T):List (Nat×Ent'):=[(51,w51E N),(82,w82E N),(83,w83e N.1)]
noncomputable def w82c (N:w51T):Cx:=⟨Tryd.prog,25,w82L N,[]⟩
noncomputable def w82b:Code:=Tryd.f82.body.getD .skip
theorem w82cx (N:w51T) (hw51:EOk Tryd.prog 51 (w51E N)) (hw82:EOk Tryd.prog 82 (w82E N)):CxOk (w82c N):=ctx_ok (by kernel_rfl) (.cons (by kernel_rfl) hw51 (.cons (by kernel_rfl) hw82 (.cons (by kernel_rfl) (w83ok N.1) .nil))) .nil
def w82G [Alg] (N:w51T)  (A B:Int) (C:(List Ex)) (level1:Int):O:=
 ck ((N.snd.1 A B C).isSome) <|
 ck (w83p N.1 A) <|
 br (decide (w83y0 N.1 A < level1))
  (ck (decide ((1:Int)+(↑((N.snd.1 A B C).getD []).length:Int)≤(9223372036854775807:Int))) <|
  ck (decide ((↑([(40:UInt8)]++(N.snd.1 A B C).getD []).length:Int)+(1:Int)≤(9223372036854775807:Int))) <|
  some (w82r0 ([(40:UInt8)]++(N.snd.1 A B C).getD []++[(41:UInt8)])))
  (some (w82r0 ((N.snd.1 A B C).getD [])))
def w82 [Alg] (N:w51T) (A B:Int) (C:(List Ex)) (level1:Int):O:=w82G N  A B C level1
noncomputable def w82h [Alg] (_:w51T):Hint:=.d
theorem w82hk (N:w51T):HintOk (w82c N) Tryd.f82.ntmps (w82h N) w82b:=hk_of _ _ trivial
theorem w82q [Alg] (N:w51T) (A B:Int) (C:(List Ex)) (level1:Int):w82G N  A B C level1=exec (w82c N) Tryd.f82.ntmps (w82h N) w82b ⟨argT 0 [.agg [.e (.i .i64) A,.e (.i .i64) B,.e (.sl .ex) C],.e (.i .i64) level1],[],100⟩ (finX (w82c N) Tryd.f82 false):=by kernel_rfl
theorem w82does {N:w51T} (hc:CxOk (w82c N)) {A B:Int} {C:(List Ex)} {level1:Int} {r:Res} (h:w82 N A B C level1=some r):DoesR Tryd.prog 82 (([.agg [.e (.i .i64) A,.e (.i .i64) B,.e (.sl .ex) C],.e (.i .i64) level1]:List X).map X.D) (HA []) r:=
 fun_ok hc (f:=82) (fn:=Tryd.f82) (code:=w82b) (by kernel_rfl) (by kernel_rfl) (w82hk N) (Nat.le_of_ble_eq_true (by kernel_rfl)) (ow:=false) ((w82q N A B C level1).symm.trans (by exact h))
def w82un (r:Res):Option ((List UInt8)):=match r with
 | (x0,[])=>(match ue .tx x0 with | some a0=>some a0 | _=>none)
 | _=>none
theorem w82uo {r:Res} {d:(List UInt8)} (h:w82un r=some d):r=w82r0 (d):=by
 unfold w82un at h
 split at h
 ·split at h
  ·rename_i h0;cases h;rw [ue_some h0];rfl
  ·cases h
 ·cases h
def w82z (N:w51T) (A B:Int) (C:(List Ex)) (level1:Int):Option ((List UInt8)):=(w82 N A B C level1).bind w82un
theorem w82fin {N:w51T} (hc:CxOk (w82c N)) {A B:Int} {C:(List Ex)} {level1:Int} {d:(List UInt8)} (hd:w82z N A B C level1=some d):Does Tryd.prog 82 (([.agg [.e (.i .i64) A,.e (.i .i64) B,.e (.sl .ex) C],.e (.i .i64) level1]:List X).map X.D) (HA []) (w82r0 (d)).1.D (HA (w82r0 (d)).2):=by
 obtain ⟨r,hr,hu⟩:=Option.bind_eq_some_iff.1 hd
 have:=w82does hc hr
 rw [w82uo hu] at this
 exact this
def w51gY (N:Nat):Nat→(Int→Int→(List Ex)→Option ((List UInt8)))×(Int→Int→(List Ex)→Int→Option ((List UInt8)))
 | 0=>(fun _ _ _=>none,fun _ _ _ _=>none)
 | n+1=>(fun A B C=>w51z (N,w51gY N n) A B C,fun A B C level1=>w82z (N,w51gY N n) A B C level1)
theorem w51gYok (N:Nat):∀ n,EOk Tryd.prog 51 (w51E (N,w51gY N n))∧EOk Tryd.prog 82 (w82E (N,w51gY N n))
 | 0=>⟨entR_ok w51io (fun _ h=>by cases h),entR_ok w82io (fun _ h=>by cases h)⟩
 | n+1=>
   have ih:=w51gYok N n
   ⟨entR_ok w51io (fun d h=>norStep (zz:=w51z (N,w51gY N n) (d.1) (d.2.1) (d.2.2)) (R:=fun y=>w51r0 (y)) (d0:=[]) (fun _ hy=>w51fin (w51cx (N,w51gY N n) ih.1 ih.2) hy) h),entR_ok w82io (fun d h=>norStep (zz:=w82z (N,w51gY N n) (d.1) (d.2.1) (d.2.2.1) (d.2.2.2)) (R:=fun y=>w82r0 (y)) (d0:=[]) (fun _ hy=>w82fin (w82cx (N,w51gY N n) ih.1 ih.2) hy) h)⟩
def w51p (N:Nat) (A B:Int) (C:(List Ex)):Bool:=((w51gY N N).1 A B C).isSome
def w51y0 (N:Nat) (A B:Int) (C:(List Ex)):(List UInt8):=(((w51gY N N).1 A B C).getD [])
def w51e (N:Nat):Ent':=entR w51in (fun d=>w51p N (d.1) (d.2.1) (d.2.2)) (fun d=>w51r0 (w51y0 N (d.1) (d.2.1) (d.2.2)))
theorem w51ok (N:Nat):EOk Tryd.prog 51 (w51e N):=(w51gYok N N).1
def w15r0 (a0:(List UInt8)):Res:=(.e .tx a0,[])
noncomputable def w15L (N:Nat):List (Nat×Ent'):=[(31,w31e N),(51,w51e N)]
noncomputable def w15c (N:Nat):Cx:=⟨Tryd.prog,25,w15L N,[]⟩
noncomputable def w15b:Code:=Tryd.f15.body.getD .skip
theorem w15cx (N:Nat):CxOk (w15c N):=ctx_ok (by kernel_rfl) (.cons (by kernel_rfl) (w31ok N) (.cons (by kernel_rfl) (w51ok N) .nil)) .nil
def w15G [Alg] (N:Nat)  (A B:Int) (C:(List Ex)):O:=
 ck (w31p N A B C) <|
 br (decide (w31y0 N A B C≠(0:Int)))
  (some (w15r0 []))
  (ck (w51p N A B C) <|
  some (w15r0 (w51y0 N A B C)))
def w15 [Alg] (N:Nat) (A B:Int) (C:(List Ex)):O:=w15G N  A B C
noncomputable def w15h [Alg] (_:Nat):Hint:=.d
theorem w15hk (N:Nat):HintOk (w15c N) Tryd.f15.ntmps (w15h N) w15b:=hk_of _ _ trivial
theorem w15q [Alg] (N:Nat) (A B:Int) (C:(List Ex)):w15G N  A B C=exec (w15c N) Tryd.f15.ntmps (w15h N) w15b ⟨argT 0 [.agg [.e (.i .i64) A,.e (.i .i64) B,.e (.sl .ex) C]],[],100⟩ (finX (w15c N) Tryd.f15 false):=by kernel_rfl
theorem w15does {N:Nat} (hc:CxOk (w15c N)) {A B:Int} {C:(List Ex)} {r:Res} (h:w15 N A B C=some r):DoesR Tryd.prog 15 (([.agg [.e (.i .i64) A,.e (.i .i64) B,.e (.sl .ex) C]]:List X).map X.D) (HA []) r:=
 fun_ok hc (f:=15) (fn:=Tryd.f15) (code:=w15b) (by kernel_rfl) (by kernel_rfl) (w15hk N) (Nat.le_of_ble_eq_true (by kernel_rfl)) (ow:=false) ((w15q N A B C).symm.trans (by exact h))
def w15un (r:Res):Option ((List UInt8)):=match r with
 | (x0,[])=>(match ue .tx x0 with | some a0=>some a0 | _=>none)
 | _=>none
theorem w15uo {r:Res} {d:(List UInt8)} (h:w15un r=some d):r=w15r0 (d):=by
 unfold w15un at h
 split at h
 ·split at h
  ·rename_i h0;cases h;rw [ue_some h0];rfl
  ·cases h
 ·cases h
def w15z (N:Nat) (A B:Int) (C:(List Ex)):Option ((List UInt8)):=(w15 N A B C).bind w15un
theorem w15fin {N:Nat} (hc:CxOk (w15c N)) {A B:Int} {C:(List Ex)} {d:(List UInt8)} (hd:w15z N A B C=some d):Does Tryd.prog 15 (([.agg [.e (.i .i64) A,.e (.i .i64) B,.e (.sl .ex) C]]:List X).map X.D) (HA []) (w15r0 (d)).1.D (HA (w15r0 (d)).2):=by
 obtain ⟨r,hr,hu⟩:=Option.bind_eq_some_iff.1 hd
 have:=w15does hc hr
 rw [w15uo hu] at this
 exact this
def w15p (N:Nat) (A B:Int) (C:(List Ex)):Bool:=(w15z N A B C).isSome
def w15y0 (N:Nat) (A B:Int) (C:(List Ex)):(List UInt8):=((w15z N A B C).getD [])
def w15e (N:Nat):Ent':=E1 .ex  (fun x0=>(w15p N (Ex.op x0) (Ex.num x0) (Ex.kids x0),w15r0 (w15y0 N (Ex.op x0) (Ex.num x0) (Ex.kids x0))))
theorem w15re {N:Nat} {A B:Int} {C:(List Ex)} {d:(List UInt8)} (hd:w15z N A B C=some d):w15r0 (w15y0 N A B C)=w15r0 (d):=by unfold w15y0;rw [hd];rfl
theorem w15ok (N:Nat):EOk Tryd.prog 15 (w15e N):=EOk.e1 (fun x0 h=>by
 have h:(w15z N (Ex.op x0) (Ex.num x0) (Ex.kids x0)).isSome=true:=h
 obtain ⟨d,hd⟩:=Option.isSome_iff_exists.1 h
 have f:=w15fin (w15cx N) hd
 rw [← w15re hd] at f
 exact f)
def w18r0 (a0:Bool):Res:=(.e .bo a0,[])
abbrev w18T:=Nat×(Int→Int→(List Ex)→Int→Int→(List Ex)→Option (Bool))
noncomputable def w18L (N:w18T):List (Nat×Ent'):=[(18,E2 .ex .ex  (fun x0 x1=>((N.2 (Ex.op x0) (Ex.num x0) (Ex.kids x0) (Ex.op x1) (Ex.num x1) (Ex.kids x1)).isSome,w18r0 (((N.2 (Ex.op x0) (Ex.num x0) (Ex.kids x0) (Ex.op x1) (Ex.num x1) (Ex.kids x1)).getD false)))))]
noncomputable def w18c (N:w18T):Cx:=⟨Tryd.prog,25,w18L N,[]⟩
noncomputable def w18b:Code:=Tryd.f18.body.getD .skip
theorem w18cx (N:w18T) (hs:EOk Tryd.prog 18 (E2 .ex .ex  (fun x0 x1=>((N.2 (Ex.op x0) (Ex.num x0) (Ex.kids x0) (Ex.op x1) (Ex.num x1) (Ex.kids x1)).isSome,w18r0 (((N.2 (Ex.op x0) (Ex.num x0) (Ex.kids x0) (Ex.op x1) (Ex.num x1) (Ex.kids x1)).getD false)))))):CxOk (w18c N):=ctx_ok (by kernel_rfl) (.cons (by kernel_rfl) hs .nil) .nil
def w18F0 [Alg] (N:w18T)  (self:Int→O) (k0:Bool→O) (k1:Unit→O) (_x0_1 _x0_2:Int) (x0_3:(List Ex)) (_x0_4 _x0_5:Int) (x0_6:(List Ex)) (x0_0:Int):O:=
 br (decide (x0_0 < (↑x0_3.length:Int)))
  (gx x0_3 x0_0 fun y5=>
  gx x0_6 x0_0 fun y6=>
  ck ((N.2 y5.op y5.num y5.kids y6.op y6.num y6.kids).isSome) <|
  br (!(N.2 y5.op y5.num y5.kids y6.op y6.num y6.kids).getD false)
   (k0 false)
   (self (IntKind.i64.wrap (x0_0+(1:Int)))))
  (k1 ())
noncomputable def w18b0:Code:=atC [1,1,0,1,0,0] w18b
def w18m0:Nm:=⟨[2,3,5],[],[]⟩
def w18I0 (x:Int×Int×Int×(List Ex)×Int×Int×(List Ex)):Sg:=⟨[(2,.ref 0 0),(3,.ref 1 0),(5,.e (.i .i64) x.1)],[(0,.box 25 [.e (.i .i64) x.2.1,.e (.i .i64) x.2.2.1,.e (.sl .ex) x.2.2.2.1]),(1,.box 25 [.e (.i .i64) x.2.2.2.2.1,.e (.i .i64) x.2.2.2.2.2.1,.e (.sl .ex) x.2.2.2.2.2.2])],100⟩
def w18u0 (σ:Sg):Int×Int×Int×(List Ex)×Int×Int×(List Ex):=(lvT (.i .i64) 5 0 σ,lvH (.i .i64) 0 0 σ,lvH (.i .i64) 0 1 σ,lvH (.sl .ex) 0 2 σ,lvH (.i .i64) 1 0 σ,lvH (.i .i64) 1 1 σ,lvH (.sl .ex) 1 2 σ)
theorem w18ui0:∀ x,w18u0 (w18I0 x)=x:=fun _=>by kernel_rfl
def w18X0_0 (y:Bool):Exit×Sg:=(.ret,⟨[(4,.e .bo y)],[],100⟩)
def w18v0_0 (_:Exit) (σ:Sg):Bool:=lvT .bo 4 0 σ
def w18X0_1 (_:Unit):Exit×Sg:=((.exit 0),⟨[],[],100⟩)
def w18v0_1 (_:Exit) (_:Sg):Unit:=()
def w18w0:List (Exit×Nm):=[(.ret,⟨[4],[],[]⟩),((.exit 0),⟨[],[],[]⟩)]
theorem w18o0:Outs w18v0_0 w18v0_1 (fun _ _=>()) w18X0_0 w18X0_1 (noX 2) (exC .ret) (exC (.exit 0)) (exC (.goto 2)):=⟨fun _=>by kernel_rfl,fun _=>by kernel_rfl,fun _=>by kernel_rfl,fun _=>by kernel_rfl,fun _=>by kernel_rfl,fun _=>by kernel_rfl,exNe_ok (by kernel_rfl),exNe_ok (by kernel_rfl),exNe_ok (by kernel_rfl)⟩
def w18l0 [Alg] (N:w18T):Nat→(Int×Int×Int×(List Ex)×Int×Int×(List Ex))→((Bool)→O)→((Unit)→O)→((Unit)→O)→O
 | 0,_,_,_,_=>none
 | n+1,x,k0,k1,k2=>w18F0 N  (fun v0=>w18l0 N n (v0,x.2.1,x.2.2.1,x.2.2.2.1,x.2.2.2.2.1,x.2.2.2.2.2.1,x.2.2.2.2.2.2) k0 k1 k2) (fun y0=>k0 y0) (fun (_:Unit)=>k1 ()) x.2.1 x.2.2.1 x.2.2.2.1 x.2.2.2.2.1 x.2.2.2.2.2.1 x.2.2.2.2.2.2 x.1
def w18n0 [Alg] (N:w18T) (a0 a1 a2:Int) (a3:(List Ex)) (a4 a5:Int) (a6:(List Ex)) (k0:Bool→O) (k1:Unit→O):O:=w18l0 N N.1 (a0,a1,a2,a3,a4,a5,a6) (fun y=>k0 y) (fun y=>k1 y) (fun _=>none)
noncomputable def w18s0 [Alg] (N:w18T) (a0 a1 a2:Int) (a3:(List Ex)) (a4 a5:Int) (a6:(List Ex)) (k0:Bool→O) (k1:Unit→O):O:=subL w18I0 w18u0 (w18l0 N N.1) (w18I0 (a0,a1,a2,a3,a4,a5,a6)) (fun y=>k0 y) (fun y=>k1 y) (fun _=>none)
theorem w18e0 [Alg] (N:w18T):w18s0 N=w18n0 N:=funext fun _=>funext fun _=>funext fun _=>funext fun _=>funext fun _=>funext fun _=>funext fun _=>funext fun _=>funext fun _=>subL_I w18ui0 _ _ _ _
noncomputable def w18h0 [Alg] (_:w18T):Hint:=.d
theorem w18hk0 (N:w18T):HintOk (w18c N) Tryd.f18.ntmps (w18h0 N) w18b0:=hk_of _ _ trivial
theorem w18q0 [Alg] (N:w18T) (self:Sg→O) (K:Exit→Sg→O) (x:Int×Int×Int×(List Ex)×Int×Int×(List Ex)):w18F0 N  (fun v0=>self (w18I0 (v0,x.2.1,x.2.2.1,x.2.2.2.1,x.2.2.2.2.1,x.2.2.2.2.2.1,x.2.2.2.2.2.2))) (fun y0=>K (w18X0_0 y0).1 (w18X0_0 y0).2) (fun (_:Unit)=>K (w18X0_1 ()).1 (w18X0_1 ()).2) x.2.1 x.2.2.1 x.2.2.2.1 x.2.2.2.2.1 x.2.2.2.2.2.1 x.2.2.2.2.2.2 x.1=exec (w18c N) Tryd.f18.ntmps (w18h0 N) w18b0 (w18I0 x) (roundX w18m0 w18w0 self K):=by kernel_rfl
theorem w18S0 (N:w18T) (hc:CxOk (w18c N)):SubOk (w18c N) Tryd.f18.ntmps (.loop w18b0) w18X0_0 w18X0_1 (noX 2) (subL w18I0 w18u0 (w18l0 N N.1)):=
 sub_loop hc (w18hk0 N) w18o0 (n:=N.1) (fun x K=>loop_ind (w18l0 N) (fun _ _ _ _=>rfl) (fun n K ih x=>by
  have h:w18F0 N  (fun v0=>w18l0 N n (v0,x.2.1,x.2.2.1,x.2.2.2.1,x.2.2.2.2.1,x.2.2.2.2.2.1,x.2.2.2.2.2.2) (fun y=>K (w18X0_0 y).1 (w18X0_0 y).2) (fun y=>K (w18X0_1 y).1 (w18X0_1 y).2) (fun y=>K ((noX 2) y).1 ((noX 2) y).2)) (fun y0=>K (w18X0_0 y0).1 (w18X0_0 y0).2) (fun (_:Unit)=>K (w18X0_1 ()).1 (w18X0_1 ()).2) x.2.1 x.2.2.1 x.2.2.2.1 x.2.2.2.2.1 x.2.2.2.2.2.1 x.2.2.2.2.2.2 x.1=w18F0 N  (fun v0=>loopX (w18c N) Tryd.f18.ntmps (w18h0 N) w18b0 w18m0 w18w0 n (w18I0 (v0,x.2.1,x.2.2.1,x.2.2.2.1,x.2.2.2.2.1,x.2.2.2.2.2.1,x.2.2.2.2.2.2)) K) (fun y0=>K (w18X0_0 y0).1 (w18X0_0 y0).2) (fun (_:Unit)=>K (w18X0_1 ()).1 (w18X0_1 ()).2) x.2.1 x.2.2.1 x.2.2.2.1 x.2.2.2.2.1 x.2.2.2.2.2.1 x.2.2.2.2.2.2 x.1:=by rw [ show (fun v0=>w18l0 N n (v0,x.2.1,x.2.2.1,x.2.2.2.1,x.2.2.2.2.1,x.2.2.2.2.2.1,x.2.2.2.2.2.2) (fun y=>K (w18X0_0 y).1 (w18X0_0 y).2) (fun y=>K (w18X0_1 y).1 (w18X0_1 y).2) (fun y=>K ((noX 2) y).1 ((noX 2) y).2))=(fun v0=>loopX (w18c N) Tryd.f18.ntmps (w18h0 N) w18b0 w18m0 w18w0 n (w18I0 (v0,x.2.1,x.2.2.1,x.2.2.2.1,x.2.2.2.2.1,x.2.2.2.2.2.1,x.2.2.2.2.2.2)) K) from funext fun _=>ih _]
  exact h.trans (w18q0 N (fun σ=>loopX (w18c N) Tryd.f18.ntmps (w18h0 N) w18b0 w18m0 w18w0 n σ K) K x)) N.1 x K)
def w18G [Alg] (_:w18T) (in0:Int→Int→Int→(List Ex)→Int→Int→(List Ex)→(Bool→O)→(Unit→O)→O) (a0_0 a0_1:Int) (a0_2:(List Ex)) (b1_0 b1_1:Int) (b1_2:(List Ex)):O:=
 br (decide (a0_0≠b1_0)||decide (a0_1≠b1_1)||decide ((↑a0_2.length:Int)≠(↑b1_2.length:Int)))
  (some (w18r0 false))
  (in0 ((0:Int)) a0_0 a0_1 a0_2 b1_0 b1_1 b1_2
   (fun z7=>
    some (w18r0 z7))
   (fun (_:Unit)=>
    some (w18r0 true)))
def w18 [Alg] (N:w18T) (a0_0 a0_1:Int) (a0_2:(List Ex)) (b1_0 b1_1:Int) (b1_2:(List Ex)):O:=w18G N (w18n0 N) a0_0 a0_1 a0_2 b1_0 b1_1 b1_2
noncomputable def w18h [Alg] (N:w18T):Hint:=(.seq .d (.seq .d (.seq (.seq .d (.block (.sub w18m0 _ _ _ w18X0_0 w18X0_1 (noX 2) (subL w18I0 w18u0 (w18l0 N N.1))))) .d)))
theorem w18hk (N:w18T) (hc:CxOk (w18c N)):HintOk (w18c N) Tryd.f18.ntmps (w18h N) w18b:=hk_of _ _ (And.intro trivial (And.intro trivial (And.intro (And.intro trivial (w18S0 N hc)) trivial)))
theorem w18q [Alg] (N:w18T) (a0_0 a0_1:Int) (a0_2:(List Ex)) (b1_0 b1_1:Int) (b1_2:(List Ex)):w18G N (w18s0 N) a0_0 a0_1 a0_2 b1_0 b1_1 b1_2=exec (w18c N) Tryd.f18.ntmps (w18h N) w18b ⟨argT 0 [.agg [.e (.i .i64) a0_0,.e (.i .i64) a0_1,.e (.sl .ex) a0_2],.agg [.e (.i .i64) b1_0,.e (.i .i64) b1_1,.e (.sl .ex) b1_2]],[],100⟩ (finX (w18c N) Tryd.f18 false):=by kernel_rfl
theorem w18does {N:w18T} (hc:CxOk (w18c N)) {a0_0 a0_1:Int} {a0_2:(List Ex)} {b1_0 b1_1:Int} {b1_2:(List Ex)} {r:Res} (h:w18 N a0_0 a0_1 a0_2 b1_0 b1_1 b1_2=some r):DoesR Tryd.prog 18 (([.agg [.e (.i .i64) a0_0,.e (.i .i64) a0_1,.e (.sl .ex) a0_2],.agg [.e (.i .i64) b1_0,.e (.i .i64) b1_1,.e (.sl .ex) b1_2]]:List X).map X.D) (HA []) r:=
 fun_ok hc (f:=18) (fn:=Tryd.f18) (code:=w18b) (by kernel_rfl) (by kernel_rfl) (w18hk N hc) (Nat.le_of_ble_eq_true (by kernel_rfl)) (ow:=false) ((w18q N a0_0 a0_1 a0_2 b1_0 b1_1 b1_2).symm.trans (by rw [w18e0 N];exact h))
def w18un (r:Res):Option (Bool):=match r with
 | (x0,[])=>(match ue .bo x0 with | some a0=>some a0 | _=>none)
 | _=>none
theorem w18uo {r:Res} {d:Bool} (h:w18un r=some d):r=w18r0 (d):=by
 unfold w18un at h
 split at h
 ·split at h
  ·rename_i h0;cases h;rw [ue_some h0];rfl
  ·cases h
 ·cases h
def w18z (N:w18T) (a0_0 a0_1:Int) (a0_2:(List Ex)) (b1_0 b1_1:Int) (b1_2:(List Ex)):Option (Bool):=(w18 N a0_0 a0_1 a0_2 b1_0 b1_1 b1_2).bind w18un
theorem w18fin {N:w18T} (hc:CxOk (w18c N)) {a0_0 a0_1:Int} {a0_2:(List Ex)} {b1_0 b1_1:Int} {b1_2:(List Ex)} {d:Bool} (hd:w18z N a0_0 a0_1 a0_2 b1_0 b1_1 b1_2=some d):Does Tryd.prog 18 (([.agg [.e (.i .i64) a0_0,.e (.i .i64) a0_1,.e (.sl .ex) a0_2],.agg [.e (.i .i64) b1_0,.e (.i .i64) b1_1,.e (.sl .ex) b1_2]]:List X).map X.D) (HA []) (w18r0 (d)).1.D (HA (w18r0 (d)).2):=by
 obtain ⟨r,hr,hu⟩:=Option.bind_eq_some_iff.1 hd
 have:=w18does hc hr
 rw [w18uo hu] at this
 exact this
def w18Y (N:Nat):Nat→Int→Int→(List Ex)→Int→Int→(List Ex)→Option (Bool)
 | 0,_,_,_,_,_,_=>none
 | n+1,a0_0,a0_1,a0_2,b1_0,b1_1,b1_2=>w18z (N,w18Y N n) a0_0 a0_1 a0_2 b1_0 b1_1 b1_2
theorem w18Yok (N:Nat):∀ n,EOk Tryd.prog 18 (E2 .ex .ex  (fun x0 x1=>((w18Y N n (Ex.op x0) (Ex.num x0) (Ex.kids x0) (Ex.op x1) (Ex.num x1) (Ex.kids x1)).isSome,w18r0 (((w18Y N n (Ex.op x0) (Ex.num x0) (Ex.kids x0) (Ex.op x1) (Ex.num x1) (Ex.kids x1)).getD false)))))
 | 0=>EOk.e2 (fun _ _ h=>by cases h)
 | n+1=>EOk.e2 (fun x0 x1 h=>by
   obtain ⟨d,hd⟩:=Option.isSome_iff_exists.1 h
   have hd':w18Y N (n+1) (Ex.op x0) (Ex.num x0) (Ex.kids x0) (Ex.op x1) (Ex.num x1) (Ex.kids x1)=some d:=hd
   have e:w18r0 (((w18Y N (n+1) (Ex.op x0) (Ex.num x0) (Ex.kids x0) (Ex.op x1) (Ex.num x1) (Ex.kids x1)).getD false))=w18r0 (d):=by rw [hd'];rfl
   show Does _ _ _ _ (w18r0 (((w18Y N (n+1) (Ex.op x0) (Ex.num x0) (Ex.kids x0) (Ex.op x1) (Ex.num x1) (Ex.kids x1)).getD false))).1.D (HA (w18r0 (((w18Y N (n+1) (Ex.op x0) (Ex.num x0) (Ex.kids x0) (Ex.op x1) (Ex.num x1) (Ex.kids x1)).getD false))).2)
   rw [e]
   exact w18fin (N:=(N,w18Y N n)) (w18cx (N,w18Y N n) (w18Yok N n)) hd')
def w18p (N:Nat) (a0_0 a0_1:Int) (a0_2:(List Ex)) (b1_0 b1_1:Int) (b1_2:(List Ex)):Bool:=(w18Y N N a0_0 a0_1 a0_2 b1_0 b1_1 b1_2).isSome
def w18y0 (N:Nat) (a0_0 a0_1:Int) (a0_2:(List Ex)) (b1_0 b1_1:Int) (b1_2:(List Ex)):Bool:=((w18Y N N a0_0 a0_1 a0_2 b1_0 b1_1 b1_2).getD false)
def w18e (N:Nat):Ent':=E2 .ex .ex  (fun x0 x1=>(w18p N (Ex.op x0) (Ex.num x0) (Ex.kids x0) (Ex.op x1) (Ex.num x1) (Ex.kids x1),w18r0 (w18y0 N (Ex.op x0) (Ex.num x0) (Ex.kids x0) (Ex.op x1) (Ex.num x1) (Ex.kids x1))))
theorem w18ok (N:Nat):EOk Tryd.prog 18 (w18e N):=w18Yok N N
def w20r0 (a0:(List UInt8)):Res:=(.e .tx a0,[])
noncomputable def w20L (N:Nat):List (Nat×Ent'):=[(60,w60e N)]
noncomputable def w20c (N:Nat):Cx:=⟨Tryd.prog,25,w20L N,[]⟩
noncomputable def w20b:Code:=Tryd.f20.body.getD .skip
theorem w20cx (N:Nat):CxOk (w20c N):=ctx_ok (by kernel_rfl) (.cons (by kernel_rfl) (w60ok N) .nil) .nil
def w20F0 [Alg] (_:Nat)  (self:(List UInt8)→Int→O) (k0:(List UInt8)→(List Int)→(List UInt8)→Int→Int→O) (x25_0:(List UInt8)) (x25_1:(List Int)) (x25_3:Int) (x25_4:Bool) (x25_2:(List UInt8)) (x25_5:Int):O:=
 br (decide ((0:Int) < x25_5)&&!x25_4)
  (ck (decide ((↑x25_2.length:Int)+(1:Int)≤(9223372036854775807:Int))) <|
  self (x25_2++[(32:UInt8)]) (IntKind.i64.wrap (x25_5 - (1:Int))))
  (k0 x25_0 x25_1 x25_2 x25_3 x25_5)
noncomputable def w20b0:Code:=atC [1,1,0,1,0,0,1,0,0,1,0,1,0,0] w20b
def w20m0:Nm:=⟨[0,1,5,6,7,8],[],[]⟩
def w20I0 (x:(List UInt8)×(List Int)×(List UInt8)×Int×Bool×Int):Sg:=⟨[(0,.e .tx x.1),(1,.e (.sl (.i .i64)) x.2.1),(5,.e .tx x.2.2.1),(6,.e (.i .i64) x.2.2.2.1),(7,.e .bo x.2.2.2.2.1),(8,.e (.i .i64) x.2.2.2.2.2)],[],100⟩
def w20u0 (σ:Sg):(List UInt8)×(List Int)×(List UInt8)×Int×Bool×Int:=(lvT .tx 0 0 σ,lvT (.sl (.i .i64)) 1 0 σ,lvT .tx 5 0 σ,lvT (.i .i64) 6 0 σ,lvT .bo 7 0 σ,lvT (.i .i64) 8 0 σ)
theorem w20ui0:∀ x,w20u0 (w20I0 x)=x:=fun _=>by kernel_rfl
def w20X0_0 (y:(List UInt8)×(List Int)×(List UInt8)×Int×Int):Exit×Sg:=((.exit 2),⟨[(0,.e .tx y.1),(1,.e (.sl (.i .i64)) y.2.1),(5,.e .tx y.2.2.1),(6,.e (.i .i64) y.2.2.2.1),(8,.e (.i .i64) y.2.2.2.2)],[],100⟩)
def w20v0_0 (_:Exit) (σ:Sg):(List UInt8)×(List Int)×(List UInt8)×Int×Int:=(lvT .tx 0 0 σ,lvT (.sl (.i .i64)) 1 0 σ,lvT .tx 5 0 σ,lvT (.i .i64) 6 0 σ,lvT (.i .i64) 8 0 σ)
def w20w0:List (Exit×Nm):=[((.exit 2),⟨[0,1,5,6,8],[],[]⟩)]
theorem w20o0:Outs w20v0_0 (fun _ _=>()) (fun _ _=>()) w20X0_0 (noX 1) (noX 2) (exC (.exit 2)) (exC (.goto 1)) (exC (.goto 2)):=⟨fun _=>by kernel_rfl,fun _=>by kernel_rfl,fun _=>by kernel_rfl,fun _=>by kernel_rfl,fun _=>by kernel_rfl,fun _=>by kernel_rfl,exNe_ok (by kernel_rfl),exNe_ok (by kernel_rfl),exNe_ok (by kernel_rfl)⟩
def w20l0 [Alg] (N:Nat):Nat→((List UInt8)×(List Int)×(List UInt8)×Int×Bool×Int)→(((List UInt8)×(List Int)×(List UInt8)×Int×Int)→O)→((Unit)→O)→((Unit)→O)→O
 | 0,_,_,_,_=>none
 | n+1,x,k0,k1,k2=>w20F0 N  (fun v0 v1=>w20l0 N n (x.1,x.2.1,v0,x.2.2.2.1,x.2.2.2.2.1,v1) k0 k1 k2) (fun y0 y1 y2 y3 y4=>k0 (y0,y1,y2,y3,y4)) x.1 x.2.1 x.2.2.2.1 x.2.2.2.2.1 x.2.2.1 x.2.2.2.2.2
def w20n0 [Alg] (N:Nat) (a0:(List UInt8)) (a1:(List Int)) (a2:(List UInt8)) (a3:Int) (a4:Bool) (a5:Int) (k0:(List UInt8)→(List Int)→(List UInt8)→Int→Int→O):O:=w20l0 N N (a0,a1,a2,a3,a4,a5) (fun y=>k0 y.1 y.2.1 y.2.2.1 y.2.2.2.1 y.2.2.2.2) (fun _=>none) (fun _=>none)
noncomputable def w20s0 [Alg] (N:Nat) (a0:(List UInt8)) (a1:(List Int)) (a2:(List UInt8)) (a3:Int) (a4:Bool) (a5:Int) (k0:(List UInt8)→(List Int)→(List UInt8)→Int→Int→O):O:=subL w20I0 w20u0 (w20l0 N N) (w20I0 (a0,a1,a2,a3,a4,a5)) (fun y=>k0 y.1 y.2.1 y.2.2.1 y.2.2.2.1 y.2.2.2.2) (fun _=>none) (fun _=>none)
theorem w20e0 [Alg] (N:Nat):w20s0 N=w20n0 N:=funext fun _=>funext fun _=>funext fun _=>funext fun _=>funext fun _=>funext fun _=>funext fun _=>subL_I w20ui0 _ _ _ _
noncomputable def w20h0 [Alg] (_:Nat):Hint:=.d
theorem w20hk0 (N:Nat):HintOk (w20c N) Tryd.f20.ntmps (w20h0 N) w20b0:=hk_of _ _ trivial
theorem w20q0 [Alg] (N:Nat) (self:Sg→O) (K:Exit→Sg→O) (x:(List UInt8)×(List Int)×(List UInt8)×Int×Bool×Int):w20F0 N  (fun v0 v1=>self (w20I0 (x.1,x.2.1,v0,x.2.2.2.1,x.2.2.2.2.1,v1))) (fun y0 y1 y2 y3 y4=>K (w20X0_0 (y0,y1,y2,y3,y4)).1 (w20X0_0 (y0,y1,y2,y3,y4)).2) x.1 x.2.1 x.2.2.2.1 x.2.2.2.2.1 x.2.2.1 x.2.2.2.2.2=exec (w20c N) Tryd.f20.ntmps (w20h0 N) w20b0 (w20I0 x) (roundX w20m0 w20w0 self K):=by kernel_rfl
theorem w20S0 (N:Nat) (hc:CxOk (w20c N)):SubOk (w20c N) Tryd.f20.ntmps (.loop w20b0) w20X0_0 (noX 1) (noX 2) (subL w20I0 w20u0 (w20l0 N N)):=
 sub_loop hc (w20hk0 N) w20o0 (n:=N) (fun x K=>loop_ind (w20l0 N) (fun _ _ _ _=>rfl) (fun n K ih x=>by
  have h:w20F0 N  (fun v0 v1=>w20l0 N n (x.1,x.2.1,v0,x.2.2.2.1,x.2.2.2.2.1,v1) (fun y=>K (w20X0_0 y).1 (w20X0_0 y).2) (fun y=>K ((noX 1) y).1 ((noX 1) y).2) (fun y=>K ((noX 2) y).1 ((noX 2) y).2)) (fun y0 y1 y2 y3 y4=>K (w20X0_0 (y0,y1,y2,y3,y4)).1 (w20X0_0 (y0,y1,y2,y3,y4)).2) x.1 x.2.1 x.2.2.2.1 x.2.2.2.2.1 x.2.2.1 x.2.2.2.2.2=w20F0 N  (fun v0 v1=>loopX (w20c N) Tryd.f20.ntmps (w20h0 N) w20b0 w20m0 w20w0 n (w20I0 (x.1,x.2.1,v0,x.2.2.2.1,x.2.2.2.2.1,v1)) K) (fun y0 y1 y2 y3 y4=>K (w20X0_0 (y0,y1,y2,y3,y4)).1 (w20X0_0 (y0,y1,y2,y3,y4)).2) x.1 x.2.1 x.2.2.2.1 x.2.2.2.2.1 x.2.2.1 x.2.2.2.2.2:=by rw [ show (fun v0 v1=>w20l0 N n (x.1,x.2.1,v0,x.2.2.2.1,x.2.2.2.2.1,v1) (fun y=>K (w20X0_0 y).1 (w20X0_0 y).2) (fun y=>K ((noX 1) y).1 ((noX 1) y).2) (fun y=>K ((noX 2) y).1 ((noX 2) y).2))=(fun v0 v1=>loopX (w20c N) Tryd.f20.ntmps (w20h0 N) w20b0 w20m0 w20w0 n (w20I0 (x.1,x.2.1,v0,x.2.2.2.1,x.2.2.2.2.1,v1)) K) from funext fun _=>funext fun _=>ih _]
  exact h.trans (w20q0 N (fun σ=>loopX (w20c N) Tryd.f20.ntmps (w20h0 N) w20b0 w20m0 w20w0 n σ K) K x)) N x K)
def w20F1 [Alg] (N:Nat) (in0:(List UInt8)→(List Int)→(List UInt8)→Int→Bool→Int→((List UInt8)→(List Int)→(List UInt8)→Int→Int→O)→O) (self:(List UInt8)→(List Int)→(List UInt8)→Int→O) (k0:(List UInt8)→O) (x0_0:(List UInt8)) (x0_1:(List Int)) (x0_2:(List UInt8)) (x0_3:Int):O:=
 br (decide (x0_3 < (↑x0_0.length:Int)))
  (gc (decide ((0:Int) < x0_3)) ((0:UInt8)) x0_0 x0_3 fun y21=>
  gc (decide ((0:Int) < x0_3)&&decide ((48:UInt8)≤y21)) ((0:UInt8)) x0_0 x0_3 fun y22=>
  gc (decide ((0:Int) < x0_3)&&decide ((48:UInt8)≤y21)&&decide (y22≤(57:UInt8))) ((0:UInt8)) x0_0 (max (IntKind.i64.wrap (x0_3 - (1:Int))) (0:Int)) fun y23=>
  gc (decide ((0:Int) < x0_3)&&decide ((48:UInt8)≤y21)&&decide (y22≤(57:UInt8))&&decide ((48:UInt8)≤y23)) ((0:UInt8)) x0_0 (max (IntKind.i64.wrap (x0_3 - (1:Int))) (0:Int)) fun y24=>
  ck (w60p N x0_1 x0_3 (3:Int)) <|
  in0 x0_0 x0_1 x0_2 x0_3 (decide ((0:Int) < x0_3)&&decide ((48:UInt8)≤y21)&&decide (y22≤(57:UInt8))&&decide ((48:UInt8)≤y23)&&decide (y24≤(57:UInt8))) (w60y0 N x0_1 x0_3 (3:Int))
   (fun z26 z27 z28 z29 _=>
    ck (slcOk z26.length (some z29) (some (IntKind.i64.wrap (z29+(1:Int))))) <|
    ck (decide ((↑z28.length:Int)+(↑(slc z26 (some z29) (some (IntKind.i64.wrap (z29+(1:Int))))).length:Int)≤(9223372036854775807:Int))) <|
    self z26 z27 (z28++slc z26 (some z29) (some (IntKind.i64.wrap (z29+(1:Int))))) (IntKind.i64.wrap (z29+(1:Int)))))
  (k0 x0_2)
noncomputable def w20b1:Code:=atC [1,1,0,1,0,0] w20b
def w20m1:Nm:=⟨[0,1,5,6],[],[]⟩
def w20I1 (x:(List UInt8)×(List Int)×(List UInt8)×Int):Sg:=⟨[(0,.e .tx x.1),(1,.e (.sl (.i .i64)) x.2.1),(5,.e .tx x.2.2.1),(6,.e (.i .i64) x.2.2.2)],[],100⟩
def w20u1 (σ:Sg):(List UInt8)×(List Int)×(List UInt8)×Int:=(lvT .tx 0 0 σ,lvT (.sl (.i .i64)) 1 0 σ,lvT .tx 5 0 σ,lvT (.i .i64) 6 0 σ)
theorem w20ui1:∀ x,w20u1 (w20I1 x)=x:=fun _=>by kernel_rfl
def w20X1_0 (y:(List UInt8)):Exit×Sg:=((.exit 0),⟨[(5,.e .tx y)],[],100⟩)
def w20v1_0 (_:Exit) (σ:Sg):(List UInt8):=lvT .tx 5 0 σ
def w20w1:List (Exit×Nm):=[((.exit 0),⟨[5],[],[]⟩)]
theorem w20o1:Outs w20v1_0 (fun _ _=>()) (fun _ _=>()) w20X1_0 (noX 1) (noX 2) (exC (.exit 0)) (exC (.goto 1)) (exC (.goto 2)):=⟨fun _=>by kernel_rfl,fun _=>by kernel_rfl,fun _=>by kernel_rfl,fun _=>by kernel_rfl,fun _=>by kernel_rfl,fun _=>by kernel_rfl,exNe_ok (by kernel_rfl),exNe_ok (by kernel_rfl),exNe_ok (by kernel_rfl)⟩
def w20l1 [Alg] (N:Nat):Nat→((List UInt8)×(List Int)×(List UInt8)×Int)→(((List UInt8))→O)→((Unit)→O)→((Unit)→O)→O
 | 0,_,_,_,_=>none
 | n+1,x,k0,k1,k2=>w20F1 N (w20n0 N) (fun v0 v1 v2 v3=>w20l1 N n (v0,v1,v2,v3) k0 k1 k2) (fun y0=>k0 y0) x.1 x.2.1 x.2.2.1 x.2.2.2
def w20n1 [Alg] (N:Nat) (a0:(List UInt8)) (a1:(List Int)) (a2:(List UInt8)) (a3:Int) (k0:(List UInt8)→O):O:=w20l1 N N (a0,a1,a2,a3) (fun y=>k0 y) (fun _=>none) (fun _=>none)
noncomputable def w20s1 [Alg] (N:Nat) (a0:(List UInt8)) (a1:(List Int)) (a2:(List UInt8)) (a3:Int) (k0:(List UInt8)→O):O:=subL w20I1 w20u1 (w20l1 N N) (w20I1 (a0,a1,a2,a3)) (fun y=>k0 y) (fun _=>none) (fun _=>none)
theorem w20e1 [Alg] (N:Nat):w20s1 N=w20n1 N:=funext fun _=>funext fun _=>funext fun _=>funext fun _=>funext fun _=>subL_I w20ui1 _ _ _ _
noncomputable def w20h1 [Alg] (N:Nat):Hint:=(.seq .d (.seq (.block (.seq .d (.seq (.seq .d (.block (.sub w20m0 _ _ _ w20X0_0 (noX 1) (noX 2) (subL w20I0 w20u0 (w20l0 N N))))) .d))) .d))
theorem w20hk1 (N:Nat) (hc:CxOk (w20c N)):HintOk (w20c N) Tryd.f20.ntmps (w20h1 N) w20b1:=hk_of _ _ (And.intro trivial (And.intro (And.intro trivial (And.intro (And.intro trivial (w20S0 N hc)) trivial)) trivial))
theorem w20q1 [Alg] (N:Nat) (self:Sg→O) (K:Exit→Sg→O) (x:(List UInt8)×(List Int)×(List UInt8)×Int):w20F1 N (w20s0 N) (fun v0 v1 v2 v3=>self (w20I1 (v0,v1,v2,v3))) (fun y0=>K (w20X1_0 y0).1 (w20X1_0 y0).2) x.1 x.2.1 x.2.2.1 x.2.2.2=exec (w20c N) Tryd.f20.ntmps (w20h1 N) w20b1 (w20I1 x) (roundX w20m1 w20w1 self K):=by kernel_rfl
theorem w20S1 (N:Nat) (hc:CxOk (w20c N)):SubOk (w20c N) Tryd.f20.ntmps (.loop w20b1) w20X1_0 (noX 1) (noX 2) (subL w20I1 w20u1 (w20l1 N N)):=
 sub_loop hc (w20hk1 N hc) w20o1 (n:=N) (fun x K=>loop_ind (w20l1 N) (fun _ _ _ _=>rfl) (fun n K ih x=>by
  have h:w20F1 N (w20n0 N) (fun v0 v1 v2 v3=>w20l1 N n (v0,v1,v2,v3) (fun y=>K (w20X1_0 y).1 (w20X1_0 y).2) (fun y=>K ((noX 1) y).1 ((noX 1) y).2) (fun y=>K ((noX 2) y).1 ((noX 2) y).2)) (fun y0=>K (w20X1_0 y0).1 (w20X1_0 y0).2) x.1 x.2.1 x.2.2.1 x.2.2.2=w20F1 N (w20s0 N) (fun v0 v1 v2 v3=>loopX (w20c N) Tryd.f20.ntmps (w20h1 N) w20b1 w20m1 w20w1 n (w20I1 (v0,v1,v2,v3)) K) (fun y0=>K (w20X1_0 y0).1 (w20X1_0 y0).2) x.1 x.2.1 x.2.2.1 x.2.2.2:=by rw [w20e0 N,show (fun v0 v1 v2 v3=>w20l1 N n (v0,v1,v2,v3) (fun y=>K (w20X1_0 y).1 (w20X1_0 y).2) (fun y=>K ((noX 1) y).1 ((noX 1) y).2) (fun y=>K ((noX 2) y).1 ((noX 2) y).2))=(fun v0 v1 v2 v3=>loopX (w20c N) Tryd.f20.ntmps (w20h1 N) w20b1 w20m1 w20w1 n (w20I1 (v0,v1,v2,v3)) K) from funext fun _=>funext fun _=>funext fun _=>funext fun _=>ih _]
  exact h.trans (w20q1 N (fun σ=>loopX (w20c N) Tryd.f20.ntmps (w20h1 N) w20b1 w20m1 w20w1 n σ K) K x)) N x K)
def w20G [Alg] (_:Nat) (_in0:(List UInt8)→(List Int)→(List UInt8)→Int→Bool→Int→((List UInt8)→(List Int)→(List UInt8)→Int→Int→O)→O) (in1:(List UInt8)→(List Int)→(List UInt8)→Int→((List UInt8)→O)→O) (s0:(List UInt8)) (l1:(List Int)):O:=
 in1 s0 l1 [] ((0:Int))
  (fun z31=>
   some (w20r0 z31))
def w20 [Alg] (N:Nat) (s0:(List UInt8)) (l1:(List Int)):O:=w20G N (w20n0 N) (w20n1 N) s0 l1
noncomputable def w20h [Alg] (N:Nat):Hint:=(.seq .d (.seq .d (.seq (.seq .d (.block (.sub w20m1 _ _ _ w20X1_0 (noX 1) (noX 2) (subL w20I1 w20u1 (w20l1 N N))))) .d)))
theorem w20hk (N:Nat) (hc:CxOk (w20c N)):HintOk (w20c N) Tryd.f20.ntmps (w20h N) w20b:=hk_of _ _ (And.intro trivial (And.intro trivial (And.intro (And.intro trivial (w20S1 N hc)) trivial)))
theorem w20q [Alg] (N:Nat) (s0:(List UInt8)) (l1:(List Int)):w20G N (w20s0 N) (w20s1 N) s0 l1=exec (w20c N) Tryd.f20.ntmps (w20h N) w20b ⟨argT 0 [.e .tx s0,.e (.sl (.i .i64)) l1],[],100⟩ (finX (w20c N) Tryd.f20 false):=by kernel_rfl
theorem w20does {N:Nat} (hc:CxOk (w20c N)) {s0:(List UInt8)} {l1:(List Int)} {r:Res} (h:w20 N s0 l1=some r):DoesR Tryd.prog 20 (([.e .tx s0,.e (.sl (.i .i64)) l1]:List X).map X.D) (HA []) r:=
 fun_ok hc (f:=20) (fn:=Tryd.f20) (code:=w20b) (by kernel_rfl) (by kernel_rfl) (w20hk N hc) (Nat.le_of_ble_eq_true (by kernel_rfl)) (ow:=false) ((w20q N s0 l1).symm.trans (by rw [w20e0 N,w20e1 N];exact h))
def w20un (r:Res):Option ((List UInt8)):=match r with
 | (x0,[])=>(match ue .tx x0 with | some a0=>some a0 | _=>none)
 | _=>none
theorem w20uo {r:Res} {d:(List UInt8)} (h:w20un r=some d):r=w20r0 (d):=by
 unfold w20un at h
 split at h
 ·split at h
  ·rename_i h0;cases h;rw [ue_some h0];rfl
  ·cases h
 ·cases h
def w20z (N:Nat) (s0:(List UInt8)) (l1:(List Int)):Option ((List UInt8)):=(w20 N s0 l1).bind w20un
theorem w20fin {N:Nat} (hc:CxOk (w20c N)) {s0:(List UInt8)} {l1:(List Int)} {d:(List UInt8)} (hd:w20z N s0 l1=some d):Does Tryd.prog 20 (([.e .tx s0,.e (.sl (.i .i64)) l1]:List X).map X.D) (HA []) (w20r0 (d)).1.D (HA (w20r0 (d)).2):=by
 obtain ⟨r,hr,hu⟩:=Option.bind_eq_some_iff.1 hd
 have:=w20does hc hr
 rw [w20uo hu] at this
 exact this
def w20p (N:Nat) (s0:(List UInt8)) (l1:(List Int)):Bool:=(w20z N s0 l1).isSome
def w20y0 (N:Nat) (s0:(List UInt8)) (l1:(List Int)):(List UInt8):=((w20z N s0 l1).getD [])
def w20e (N:Nat):Ent':=E2 .tx (.sl (.i .i64))  (fun x0 x1=>(w20p N x0 x1,w20r0 (w20y0 N x0 x1)))
theorem w20re {N:Nat} {s0:(List UInt8)} {l1:(List Int)} {d:(List UInt8)} (hd:w20z N s0 l1=some d):w20r0 (w20y0 N s0 l1)=w20r0 (d):=by unfold w20y0;rw [hd];rfl
theorem w20ok (N:Nat):EOk Tryd.prog 20 (w20e N):=EOk.e2 (fun x0 x1 h=>by
 have h:(w20z N x0 x1).isSome=true:=h
 obtain ⟨d,hd⟩:=Option.isSome_iff_exists.1 h
 have f:=w20fin (w20cx N) hd
 rw [← w20re hd] at f
 exact f)
def w21r0 (a0:(List UInt8)):Res:=(.e .tx a0,[])
noncomputable def w21L (N:Nat):List (Nat×Ent'):=[(46,w46e N)]
noncomputable def w21c (N:Nat):Cx:=⟨Tryd.prog,25,w21L N,[]⟩
noncomputable def w21b:Code:=Tryd.f21.body.getD .skip
theorem w21cx (N:Nat):CxOk (w21c N):=ctx_ok (by kernel_rfl) (.cons (by kernel_rfl) (w46ok N) .nil) .nil
def w21G [Alg] (N:Nat)  (s0:(List UInt8)) (at1 how2 by3:Int):O:=
 ck (w46p N at1 (IntKind.i64.wrap ((↑s0.length:Int)+(1:Int)))) <|
 ck (w46p N by3 (20:Int)) <|
 ck (slcOk (20:Nat) (some (w46y0 N by3 (20:Int))) none) <|
 ck (slcOk (slc lF3x0 (some (w46y0 N by3 (20:Int))) none).length none (some (1:Int))) <|
 ck (w46p N how2 (3:Int)) <|
 br (decide (w46y0 N how2 (3:Int)=(0:Int)))
  (ck (slcOk s0.length none (some (w46y0 N at1 (IntKind.i64.wrap ((↑s0.length:Int)+(1:Int)))))) <|
  ck (decide ((↑(slc s0 none (some (w46y0 N at1 (IntKind.i64.wrap ((↑s0.length:Int)+(1:Int)))))).length:Int)+(↑(slc (slc lF3x0 (some (w46y0 N by3 (20:Int))) none) none (some (1:Int))).length:Int)≤(9223372036854775807:Int))) <|
  ck (slcOk s0.length (some (w46y0 N at1 (IntKind.i64.wrap ((↑s0.length:Int)+(1:Int))))) none) <|
  ck (decide ((↑(slc s0 none (some (w46y0 N at1 (IntKind.i64.wrap ((↑s0.length:Int)+(1:Int)))))++slc (slc lF3x0 (some (w46y0 N by3 (20:Int))) none) none (some (1:Int))).length:Int)+(↑(slc s0 (some (w46y0 N at1 (IntKind.i64.wrap ((↑s0.length:Int)+(1:Int))))) none).length:Int)≤(9223372036854775807:Int))) <|
  some (w21r0 (slc s0 none (some (w46y0 N at1 (IntKind.i64.wrap ((↑s0.length:Int)+(1:Int)))))++slc (slc lF3x0 (some (w46y0 N by3 (20:Int))) none) none (some (1:Int))++slc s0 (some (w46y0 N at1 (IntKind.i64.wrap ((↑s0.length:Int)+(1:Int))))) none)))
  (br (decide (w46y0 N how2 (3:Int)=(1:Int)))
   (ck (slcOk s0.length none (some (w46y0 N at1 (IntKind.i64.wrap ((↑s0.length:Int)+(1:Int)))))) <|
   ck (decide ((↑(slc s0 none (some (w46y0 N at1 (IntKind.i64.wrap ((↑s0.length:Int)+(1:Int)))))).length:Int)+(↑(slc (slc lF3x0 (some (w46y0 N by3 (20:Int))) none) none (some (1:Int))).length:Int)≤(9223372036854775807:Int))) <|
   ck (slcOk s0.length (some (min (IntKind.i64.wrap (w46y0 N at1 (IntKind.i64.wrap ((↑s0.length:Int)+(1:Int)))+(1:Int))) (↑s0.length:Int))) none) <|
   ck (decide ((↑(slc s0 none (some (w46y0 N at1 (IntKind.i64.wrap ((↑s0.length:Int)+(1:Int)))))++slc (slc lF3x0 (some (w46y0 N by3 (20:Int))) none) none (some (1:Int))).length:Int)+(↑(slc s0 (some (min (IntKind.i64.wrap (w46y0 N at1 (IntKind.i64.wrap ((↑s0.length:Int)+(1:Int)))+(1:Int))) (↑s0.length:Int))) none).length:Int)≤(9223372036854775807:Int))) <|
   some (w21r0 (slc s0 none (some (w46y0 N at1 (IntKind.i64.wrap ((↑s0.length:Int)+(1:Int)))))++slc (slc lF3x0 (some (w46y0 N by3 (20:Int))) none) none (some (1:Int))++slc s0 (some (min (IntKind.i64.wrap (w46y0 N at1 (IntKind.i64.wrap ((↑s0.length:Int)+(1:Int)))+(1:Int))) (↑s0.length:Int))) none)))
   (ck (slcOk s0.length none (some (w46y0 N at1 (IntKind.i64.wrap ((↑s0.length:Int)+(1:Int)))))) <|
   ck (slcOk s0.length (some (min (IntKind.i64.wrap (w46y0 N at1 (IntKind.i64.wrap ((↑s0.length:Int)+(1:Int)))+(1:Int))) (↑s0.length:Int))) none) <|
   ck (decide ((↑(slc s0 none (some (w46y0 N at1 (IntKind.i64.wrap ((↑s0.length:Int)+(1:Int)))))).length:Int)+(↑(slc s0 (some (min (IntKind.i64.wrap (w46y0 N at1 (IntKind.i64.wrap ((↑s0.length:Int)+(1:Int)))+(1:Int))) (↑s0.length:Int))) none).length:Int)≤(9223372036854775807:Int))) <|
   some (w21r0 (slc s0 none (some (w46y0 N at1 (IntKind.i64.wrap ((↑s0.length:Int)+(1:Int)))))++slc s0 (some (min (IntKind.i64.wrap (w46y0 N at1 (IntKind.i64.wrap ((↑s0.length:Int)+(1:Int)))+(1:Int))) (↑s0.length:Int))) none))))
def w21 [Alg] (N:Nat) (s0:(List UInt8)) (at1 how2 by3:Int):O:=w21G N  s0 at1 how2 by3
noncomputable def w21h [Alg] (_:Nat):Hint:=.d
theorem w21hk (N:Nat):HintOk (w21c N) Tryd.f21.ntmps (w21h N) w21b:=hk_of _ _ trivial
theorem w21q [Alg] (N:Nat) (s0:(List UInt8)) (at1 how2 by3:Int):w21G N  s0 at1 how2 by3=exec (w21c N) Tryd.f21.ntmps (w21h N) w21b ⟨argT 0 [.e .tx s0,.e (.i .i64) at1,.e (.i .i64) how2,.e (.i .i64) by3],[],100⟩ (finX (w21c N) Tryd.f21 false):=by kernel_rfl
theorem w21does {N:Nat} (hc:CxOk (w21c N)) {s0:(List UInt8)} {at1 how2 by3:Int} {r:Res} (h:w21 N s0 at1 how2 by3=some r):DoesR Tryd.prog 21 (([.e .tx s0,.e (.i .i64) at1,.e (.i .i64) how2,.e (.i .i64) by3]:List X).map X.D) (HA []) r:=
 fun_ok hc (f:=21) (fn:=Tryd.f21) (code:=w21b) (by kernel_rfl) (by kernel_rfl) (w21hk N) (Nat.le_of_ble_eq_true (by kernel_rfl)) (ow:=false) ((w21q N s0 at1 how2 by3).symm.trans (by exact h))
def w21un (r:Res):Option ((List UInt8)):=match r with
 | (x0,[])=>(match ue .tx x0 with | some a0=>some a0 | _=>none)
 | _=>none
theorem w21uo {r:Res} {d:(List UInt8)} (h:w21un r=some d):r=w21r0 (d):=by
 unfold w21un at h
 split at h
 ·split at h
  ·rename_i h0;cases h;rw [ue_some h0];rfl
  ·cases h
 ·cases h
def w21z (N:Nat) (s0:(List UInt8)) (at1 how2 by3:Int):Option ((List UInt8)):=(w21 N s0 at1 how2 by3).bind w21un
theorem w21fin {N:Nat} (hc:CxOk (w21c N)) {s0:(List UInt8)} {at1 how2 by3:Int} {d:(List UInt8)} (hd:w21z N s0 at1 how2 by3=some d):Does Tryd.prog 21 (([.e .tx s0,.e (.i .i64) at1,.e (.i .i64) how2,.e (.i .i64) by3]:List X).map X.D) (HA []) (w21r0 (d)).1.D (HA (w21r0 (d)).2):=by
 obtain ⟨r,hr,hu⟩:=Option.bind_eq_some_iff.1 hd
 have:=w21does hc hr
 rw [w21uo hu] at this
 exact this
def w21p (N:Nat) (s0:(List UInt8)) (at1 how2 by3:Int):Bool:=(w21z N s0 at1 how2 by3).isSome
def w21y0 (N:Nat) (s0:(List UInt8)) (at1 how2 by3:Int):(List UInt8):=((w21z N s0 at1 how2 by3).getD [])
def w21e (N:Nat):Ent':=E4 .tx (.i .i64) (.i .i64) (.i .i64)  (fun x0 x1 x2 x3=>(w21p N x0 x1 x2 x3,w21r0 (w21y0 N x0 x1 x2 x3)))
theorem w21re {N:Nat} {s0:(List UInt8)} {at1 how2 by3:Int} {d:(List UInt8)} (hd:w21z N s0 at1 how2 by3=some d):w21r0 (w21y0 N s0 at1 how2 by3)=w21r0 (d):=by unfold w21y0;rw [hd];rfl
theorem w21ok (N:Nat):EOk Tryd.prog 21 (w21e N):=EOk.e4 (fun x0 x1 x2 x3 h=>by
 have h:(w21z N x0 x1 x2 x3).isSome=true:=h
 obtain ⟨d,hd⟩:=Option.isSome_iff_exists.1 h
 have f:=w21fin (w21cx N) hd
 rw [← w21re hd] at f
 exact f)
def w22r0 (a0:(List UInt8)):Res:=(.e .tx a0,[])
noncomputable def w22L (_:Nat):List (Nat×Ent'):=[]
noncomputable def w22c (N:Nat):Cx:=⟨Tryd.prog,25,w22L N,[]⟩
noncomputable def w22b:Code:=Tryd.f22.body.getD .skip
theorem w22cx (N:Nat):CxOk (w22c N):=ctx_ok (by kernel_rfl) .nil .nil
def w22G [Alg] (_:Nat)  (s0:(List UInt8)) (most1:Int):O:=
 br (decide (most1 < (↑s0.length:Int)))
  (ck (slcOk s0.length none (some most1)) <|
  some (w22r0 (slc s0 none (some most1))))
  (some (w22r0 s0))
def w22 [Alg] (N:Nat) (s0:(List UInt8)) (most1:Int):O:=w22G N  s0 most1
noncomputable def w22h [Alg] (_:Nat):Hint:=.d
theorem w22hk (N:Nat):HintOk (w22c N) Tryd.f22.ntmps (w22h N) w22b:=hk_of _ _ trivial
theorem w22q [Alg] (N:Nat) (s0:(List UInt8)) (most1:Int):w22G N  s0 most1=exec (w22c N) Tryd.f22.ntmps (w22h N) w22b ⟨argT 0 [.e .tx s0,.e (.i .i64) most1],[],100⟩ (finX (w22c N) Tryd.f22 false):=by kernel_rfl
theorem w22does {N:Nat} (hc:CxOk (w22c N)) {s0:(List UInt8)} {most1:Int} {r:Res} (h:w22 N s0 most1=some r):DoesR Tryd.prog 22 (([.e .tx s0,.e (.i .i64) most1]:List X).map X.D) (HA []) r:=
 fun_ok hc (f:=22) (fn:=Tryd.f22) (code:=w22b) (by kernel_rfl) (by kernel_rfl) (w22hk N) (Nat.le_of_ble_eq_true (by kernel_rfl)) (ow:=false) ((w22q N s0 most1).symm.trans (by exact h))
def w22un (r:Res):Option ((List UInt8)):=match r with
 | (x0,[])=>(match ue .tx x0 with | some a0=>some a0 | _=>none)
 | _=>none
theorem w22uo {r:Res} {d:(List UInt8)} (h:w22un r=some d):r=w22r0 (d):=by
 unfold w22un at h
 split at h
 ·split at h
  ·rename_i h0;cases h;rw [ue_some h0];rfl
  ·cases h
 ·cases h
def w22z (N:Nat) (s0:(List UInt8)) (most1:Int):Option ((List UInt8)):=(w22 N s0 most1).bind w22un
theorem w22fin {N:Nat} (hc:CxOk (w22c N)) {s0:(List UInt8)} {most1:Int} {d:(List UInt8)} (hd:w22z N s0 most1=some d):Does Tryd.prog 22 (([.e .tx s0,.e (.i .i64) most1]:List X).map X.D) (HA []) (w22r0 (d)).1.D (HA (w22r0 (d)).2):=by
 obtain ⟨r,hr,hu⟩:=Option.bind_eq_some_iff.1 hd
 have:=w22does hc hr
 rw [w22uo hu] at this
 exact this
def w22p (N:Nat) (s0:(List UInt8)) (most1:Int):Bool:=(w22z N s0 most1).isSome
def w22y0 (N:Nat) (s0:(List UInt8)) (most1:Int):(List UInt8):=((w22z N s0 most1).getD [])
def w22e (N:Nat):Ent':=E2 .tx (.i .i64)  (fun x0 x1=>(w22p N x0 x1,w22r0 (w22y0 N x0 x1)))
theorem w22re {N:Nat} {s0:(List UInt8)} {most1:Int} {d:(List UInt8)} (hd:w22z N s0 most1=some d):w22r0 (w22y0 N s0 most1)=w22r0 (d):=by unfold w22y0;rw [hd];rfl
theorem w22ok (N:Nat):EOk Tryd.prog 22 (w22e N):=EOk.e2 (fun x0 x1 h=>by
 have h:(w22z N x0 x1).isSome=true:=h
 obtain ⟨d,hd⟩:=Option.isSome_iff_exists.1 h
 have f:=w22fin (w22cx N) hd
 rw [← w22re hd] at f
 exact f)
end
end Go.Proofs
/- What functions do. -/
namespace Go.Proofs
noncomputable section
open Go.Ax Go.Ax.Alg Go.RowKit Go.Ab
open Go
abbrev w65T:=Nat×(Int→Int→(List Ex)→(List Int)→Option (Int×Bool))
abbrev w68T:=Nat×(Int→Int→(List Ex)→Int→Option (Bool))
end
end Go.Proofs
