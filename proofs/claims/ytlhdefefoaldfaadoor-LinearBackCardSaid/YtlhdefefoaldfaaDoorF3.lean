/- What functions do: the reference. Conditions are in the theorems. -/
import Derived.Test.YtlhdefefoaldfaaDoorE7
import Derived.Test.YtlhdefefoaldfaaDoorProg
import Derived.KernelRfl
import Derived.Test.YtlhdefefoaldfaaDoorF0
/- What functions do. -/
namespace Go.Proofs
noncomputable section
open Go.Ax Go.Ax.Alg Go.RowKit Go.Ab
open Go
def w46r0 (a0:Int):Res:=(.e (.i .i64) a0,[])
noncomputable def w46L (_:Nat):List (Nat×Ent'):=[]
noncomputable def w46c (N:Nat):Cx:=⟨Tryd.prog,25,w46L N,[]⟩
noncomputable def w46b:Code:=Tryd.f46.body.getD .skip
theorem w46cx (N:Nat):CxOk (w46c N):=ctx_ok (by kernel_rfl) .nil .nil
def w46G [Alg] (_:Nat)  (n0 most1:Int):O:=
 br (decide (n0 < (0:Int)))
  (br (decide (most1 < (1:Int)))
   (some (w46r0 ((0:Int))))
   (ck (decide (most1≠(0:Int))) <|
   some (w46r0 ((IntKind.i64.wrap (-IntKind.i64.wrap (n0+(1:Int)))).tmod most1))))
  (br (decide (most1 < (1:Int)))
   (some (w46r0 ((0:Int))))
   (ck (decide (most1≠(0:Int))) <|
   some (w46r0 (n0.tmod most1))))
def w46 [Alg] (N:Nat) (n0 most1:Int):O:=w46G N  n0 most1
noncomputable def w46h [Alg] (_:Nat):Hint:=.d
theorem w46hk (N:Nat):HintOk (w46c N) Tryd.f46.ntmps (w46h N) w46b:=hk_of _ _ trivial
theorem w46q [Alg] (N:Nat) (n0 most1:Int):w46G N  n0 most1=exec (w46c N) Tryd.f46.ntmps (w46h N) w46b ⟨argT 0 [.e (.i .i64) n0,.e (.i .i64) most1],[],100⟩ (finX (w46c N) Tryd.f46 false):=by kernel_rfl
theorem w46does {N:Nat} (hc:CxOk (w46c N)) {n0 most1:Int} {r:Res} (h:w46 N n0 most1=some r):DoesR Tryd.prog 46 (([.e (.i .i64) n0,.e (.i .i64) most1]:List X).map X.D) (HA []) r:=
 fun_ok hc (f:=46) (fn:=Tryd.f46) (code:=w46b) (by kernel_rfl) (by kernel_rfl) (w46hk N) (Nat.le_of_ble_eq_true (by kernel_rfl)) (ow:=false) ((w46q N n0 most1).symm.trans (by exact h))
def w46un (r:Res):Option (Int):=match r with
 | (x0,[])=>(match ue (.i .i64) x0 with | some a0=>some a0 | _=>none)
 | _=>none
theorem w46uo {r:Res} {d:Int} (h:w46un r=some d):r=w46r0 (d):=by
 unfold w46un at h
 split at h
 ·split at h
  ·rename_i h0;cases h;rw [ue_some h0];rfl
  ·cases h
 ·cases h
def w46z (N:Nat) (n0 most1:Int):Option (Int):=(w46 N n0 most1).bind w46un
theorem w46fin {N:Nat} (hc:CxOk (w46c N)) {n0 most1 d:Int} (hd:w46z N n0 most1=some d):Does Tryd.prog 46 (([.e (.i .i64) n0,.e (.i .i64) most1]:List X).map X.D) (HA []) (w46r0 (d)).1.D (HA (w46r0 (d)).2):=by
 obtain ⟨r,hr,hu⟩:=Option.bind_eq_some_iff.1 hd
 have:=w46does hc hr
 rw [w46uo hu] at this
 exact this
def w46p (N:Nat) (n0 most1:Int):Bool:=(w46z N n0 most1).isSome
def w46y0 (N:Nat) (n0 most1:Int):Int:=((w46z N n0 most1).getD 0)
def w46e (N:Nat):Ent':=E2 (.i .i64) (.i .i64)  (fun x0 x1=>(w46p N x0 x1,w46r0 (w46y0 N x0 x1)))
theorem w46re {N:Nat} {n0 most1 d:Int} (hd:w46z N n0 most1=some d):w46r0 (w46y0 N n0 most1)=w46r0 (d):=by unfold w46y0;rw [hd];rfl
theorem w46ok (N:Nat):EOk Tryd.prog 46 (w46e N):=EOk.e2 (fun x0 x1 h=>by
 have h:(w46z N x0 x1).isSome=true:=h
 obtain ⟨d,hd⟩:=Option.isSome_iff_exists.1 h
 have f:=w46fin (w46cx N) hd
 rw [← w46re hd] at f
 exact f)
def w60r0 (a0:Int):Res:=(.e (.i .i64) a0,[])
noncomputable def w60L (N:Nat):List (Nat×Ent'):=[(46,w46e N)]
noncomputable def w60c (N:Nat):Cx:=⟨Tryd.prog,25,w60L N,[]⟩
noncomputable def w60b:Code:=Tryd.f60.body.getD .skip
theorem w60cx (N:Nat):CxOk (w60c N):=ctx_ok (by kernel_rfl) (.cons (by kernel_rfl) (w46ok N) .nil) .nil
def w60G [Alg] (N:Nat)  (l0:(List Int)) (i1 most2:Int):O:=
 br (decide (i1 < (0:Int))||decide ((↑l0.length:Int)≤i1))
  (some (w60r0 ((0:Int))))
  (gx l0 i1 fun y0=>
  ck (w46p N y0 most2) <|
  some (w60r0 (w46y0 N y0 most2)))
def w60 [Alg] (N:Nat) (l0:(List Int)) (i1 most2:Int):O:=w60G N  l0 i1 most2
noncomputable def w60h [Alg] (_:Nat):Hint:=.d
theorem w60hk (N:Nat):HintOk (w60c N) Tryd.f60.ntmps (w60h N) w60b:=hk_of _ _ trivial
theorem w60q [Alg] (N:Nat) (l0:(List Int)) (i1 most2:Int):w60G N  l0 i1 most2=exec (w60c N) Tryd.f60.ntmps (w60h N) w60b ⟨argT 0 [.e (.sl (.i .i64)) l0,.e (.i .i64) i1,.e (.i .i64) most2],[],100⟩ (finX (w60c N) Tryd.f60 false):=by kernel_rfl
theorem w60does {N:Nat} (hc:CxOk (w60c N)) {l0:(List Int)} {i1 most2:Int} {r:Res} (h:w60 N l0 i1 most2=some r):DoesR Tryd.prog 60 (([.e (.sl (.i .i64)) l0,.e (.i .i64) i1,.e (.i .i64) most2]:List X).map X.D) (HA []) r:=
 fun_ok hc (f:=60) (fn:=Tryd.f60) (code:=w60b) (by kernel_rfl) (by kernel_rfl) (w60hk N) (Nat.le_of_ble_eq_true (by kernel_rfl)) (ow:=false) ((w60q N l0 i1 most2).symm.trans (by exact h))
def w60un (r:Res):Option (Int):=match r with
 | (x0,[])=>(match ue (.i .i64) x0 with | some a0=>some a0 | _=>none)
 | _=>none
theorem w60uo {r:Res} {d:Int} (h:w60un r=some d):r=w60r0 (d):=by
 unfold w60un at h
 split at h
 ·split at h
  ·rename_i h0;cases h;rw [ue_some h0];rfl
  ·cases h
 ·cases h
def w60z (N:Nat) (l0:(List Int)) (i1 most2:Int):Option (Int):=(w60 N l0 i1 most2).bind w60un
theorem w60fin {N:Nat} (hc:CxOk (w60c N)) {l0:(List Int)} {i1 most2 d:Int} (hd:w60z N l0 i1 most2=some d):Does Tryd.prog 60 (([.e (.sl (.i .i64)) l0,.e (.i .i64) i1,.e (.i .i64) most2]:List X).map X.D) (HA []) (w60r0 (d)).1.D (HA (w60r0 (d)).2):=by
 obtain ⟨r,hr,hu⟩:=Option.bind_eq_some_iff.1 hd
 have:=w60does hc hr
 rw [w60uo hu] at this
 exact this
def w60p (N:Nat) (l0:(List Int)) (i1 most2:Int):Bool:=(w60z N l0 i1 most2).isSome
def w60y0 (N:Nat) (l0:(List Int)) (i1 most2:Int):Int:=((w60z N l0 i1 most2).getD 0)
def w60e (N:Nat):Ent':=E3 (.sl (.i .i64)) (.i .i64) (.i .i64)  (fun x0 x1 x2=>(w60p N x0 x1 x2,w60r0 (w60y0 N x0 x1 x2)))
theorem w60re {N:Nat} {l0:(List Int)} {i1 most2 d:Int} (hd:w60z N l0 i1 most2=some d):w60r0 (w60y0 N l0 i1 most2)=w60r0 (d):=by unfold w60y0;rw [hd];rfl
theorem w60ok (N:Nat):EOk Tryd.prog 60 (w60e N):=EOk.e3 (fun x0 x1 x2 h=>by
 have h:(w60z N x0 x1 x2).isSome=true:=h
 obtain ⟨d,hd⟩:=Option.isSome_iff_exists.1 h
 have f:=w60fin (w60cx N) hd
 rw [← w60re hd] at f
 exact f)
def w48r0 (a0:Int) (a1:(List Int)) (a2:Int):Res:=(.e (.i .i64) a0,[(50,.box 69 [.e (.sl (.i .i64)) a1,.e (.i .i64) a2])])
noncomputable def w48L (N:Nat):List (Nat×Ent'):=[(60,w60e N)]
noncomputable def w48c (N:Nat):Cx:=⟨Tryd.prog,25,w48L N,[]⟩
noncomputable def w48b:Code:=Tryd.f48.body.getD .skip
theorem w48cx (N:Nat):CxOk (w48c N):=ctx_ok (by kernel_rfl) (.cons (by kernel_rfl) (w60ok N) .nil) .nil
def w48G [Alg] (N:Nat)  (n1:Int) (g0:(List Int)) (g1:Int):O:=
 ck (w60p N g0 (IntKind.i64.wrap (IntKind.i64.wrap (g1+(1:Int)) - (1:Int))) n1) <|
 some (w48r0 (w60y0 N g0 (IntKind.i64.wrap (IntKind.i64.wrap (g1+(1:Int)) - (1:Int))) n1) g0 (IntKind.i64.wrap (g1+(1:Int))))
def w48 [Alg] (N:Nat) (n1:Int) (g0:(List Int)) (g1:Int):O:=w48G N  n1 g0 g1
noncomputable def w48h [Alg] (_:Nat):Hint:=.d
theorem w48hk (N:Nat):HintOk (w48c N) Tryd.f48.ntmps (w48h N) w48b:=hk_of _ _ trivial
theorem w48q [Alg] (N:Nat) (n1:Int) (g0:(List Int)) (g1:Int):w48G N  n1 g0 g1=exec (w48c N) Tryd.f48.ntmps (w48h N) w48b ⟨argT 0 [.ref 50 0,.e (.i .i64) n1],[(50,.box 69 [.e (.sl (.i .i64)) g0,.e (.i .i64) g1])],100⟩ (finX (w48c N) Tryd.f48 false):=by kernel_rfl
theorem w48does {N:Nat} (hc:CxOk (w48c N)) {n1:Int} {g0:(List Int)} {g1:Int} {r:Res} (h:w48 N n1 g0 g1=some r):DoesR Tryd.prog 48 (([.ref 50 0,.e (.i .i64) n1]:List X).map X.D) (HA [(50,.box 69 [.e (.sl (.i .i64)) g0,.e (.i .i64) g1])]) r:=
 fun_ok hc (f:=48) (fn:=Tryd.f48) (code:=w48b) (by kernel_rfl) (by kernel_rfl) (w48hk N) (Nat.le_of_ble_eq_true (by kernel_rfl)) (ow:=false) ((w48q N n1 g0 g1).symm.trans (by exact h))
def w48un (r:Res):Option (Int×(List Int)×Int):=match r with
 | (x0,[(50,.box 69 [x1,x2])])=>(match ue (.i .i64) x0,ue (.sl (.i .i64)) x1,ue (.i .i64) x2 with | some a0,some a1,some a2=>some (a0,a1,a2) | _,_,_=>none)
 | _=>none
theorem w48uo {r:Res} {d:Int×(List Int)×Int} (h:w48un r=some d):r=w48r0 (d.1) (d.2.1) (d.2.2):=by
 unfold w48un at h
 split at h
 ·split at h
  ·rename_i h0 h1 h2;cases h;rw [ue_some h0,ue_some h1,ue_some h2];rfl
  ·cases h
 ·cases h
def w48z (N:Nat) (n1:Int) (g0:(List Int)) (g1:Int):Option (Int×(List Int)×Int):=(w48 N n1 g0 g1).bind w48un
theorem w48fin {N:Nat} (hc:CxOk (w48c N)) {n1:Int} {g0:(List Int)} {g1:Int} {d:Int×(List Int)×Int} (hd:w48z N n1 g0 g1=some d):Does Tryd.prog 48 (([.ref 50 0,.e (.i .i64) n1]:List X).map X.D) (HA [(50,.box 69 [.e (.sl (.i .i64)) g0,.e (.i .i64) g1])]) (w48r0 (d.1) (d.2.1) (d.2.2)).1.D (HA (w48r0 (d.1) (d.2.1) (d.2.2)).2):=by
 obtain ⟨r,hr,hu⟩:=Option.bind_eq_some_iff.1 hd
 have:=w48does hc hr
 rw [w48uo hu] at this
 exact this
def w48p (N:Nat) (n1:Int) (g0:(List Int)) (g1:Int):Bool:=(w48z N n1 g0 g1).isSome
def w48y0 (N:Nat) (n1:Int) (g0:(List Int)) (g1:Int):Int:=((w48z N n1 g0 g1).getD (0,[],0)).1
def w48y1 (N:Nat) (n1:Int) (g0:(List Int)) (g1:Int):(List Int):=((w48z N n1 g0 g1).getD (0,[],0)).2.1
def w48y2 (N:Nat) (n1:Int) (g0:(List Int)) (g1:Int):Int:=((w48z N n1 g0 g1).getD (0,[],0)).2.2
def w48in (xs:List X) (H:XH):Option (Int×(List Int)×Int):=match xs,H with
 | [.ref 50 0,x0],[(50,.box 69 [x1,x2])]=>(match ue (.i .i64) x0,ue (.sl (.i .i64)) x1,ue (.i .i64) x2 with | some a0,some a1,some a2=>some (a0,a1,a2) | _,_,_=>none)
 | _,_=>none
theorem w48io {xs:List X} {H:XH} {d:Int×(List Int)×Int} (h:w48in xs H=some d):xs=[.ref 50 0,.e (.i .i64) (d.1)]∧H=[(50,.box 69 [.e (.sl (.i .i64)) (d.2.1),.e (.i .i64) (d.2.2)])]:=by
 unfold w48in at h
 split at h
 ·split at h
  ·rename_i h0 h1 h2;cases h;rw [ue_some h0,ue_some h1,ue_some h2];exact ⟨rfl,rfl⟩
  ·cases h
 ·cases h
def w48e (N:Nat):Ent':=fun xs H=>match w48in xs H with | some d=>some (w48p N (d.1) (d.2.1) (d.2.2),w48r0 (w48y0 N (d.1) (d.2.1) (d.2.2)) (w48y1 N (d.1) (d.2.1) (d.2.2)) (w48y2 N (d.1) (d.2.1) (d.2.2))) | none=>none
theorem w48re {N:Nat} {n1:Int} {g0:(List Int)} {g1:Int} {d:Int×(List Int)×Int} (hd:w48z N n1 g0 g1=some d):w48r0 (w48y0 N n1 g0 g1) (w48y1 N n1 g0 g1) (w48y2 N n1 g0 g1)=w48r0 (d.1) (d.2.1) (d.2.2):=by unfold w48y0 w48y1 w48y2;rw [hd];rfl
theorem w48ok (N:Nat):EOk Tryd.prog 48 (w48e N):=fun xs H pre r he hp=>by
 unfold w48e at he
 split at he
 ·rename_i d hd
  have he:=Option.some.inj he
  have h1:=congrArg Prod.fst he
  have h2:=congrArg Prod.snd he
  simp only at h1 h2
  obtain ⟨e1,e2⟩:=w48io hd
  rw [e1,e2,← h2]
  have h:(w48z N (d.1) (d.2.1) (d.2.2)).isSome=true:=h1.trans hp
  obtain ⟨d',hd'⟩:=Option.isSome_iff_exists.1 h
  have f:=w48fin (w48cx N) hd'
  rw [← w48re hd'] at f
  exact f
 ·cases he
def w49r0 (a0 a1:Int) (a2:(List Ex)) (a3:(List Int)) (a4:Int):Res:=(.agg [.e (.i .i64) a0,.e (.i .i64) a1,.e (.sl .ex) a2],[(50,.box 69 [.e (.sl (.i .i64)) a3,.e (.i .i64) a4])])
def w49in (xs:List X) (H:XH):Option (Int×(List Int)×Int):=match xs,H with
 | [.ref 50 0,x0],[(50,.box 69 [x1,x2])]=>(match ue (.i .i64) x0,ue (.sl (.i .i64)) x1,ue (.i .i64) x2 with | some a0,some a1,some a2=>some (a0,a1,a2) | _,_,_=>none)
 | _,_=>none
theorem w49io {xs:List X} {H:XH} {d:Int×(List Int)×Int} (h:w49in xs H=some d):xs=[.ref 50 0,.e (.i .i64) (d.1)]∧H=[(50,.box 69 [.e (.sl (.i .i64)) (d.2.1),.e (.i .i64) (d.2.2)])]:=by
 unfold w49in at h
 split at h
 ·split at h
  ·rename_i h0 h1 h2;cases h;rw [ue_some h0,ue_some h1,ue_some h2];exact ⟨rfl,rfl⟩
  ·cases h
 ·cases h
abbrev w49T:=Nat×((Int→(List Int)→Int→Option (Int×Int×(List Ex)×(List Int)×Int)))
def w49E (N:w49T):Ent':=entR w49in (fun d=>(N.2 (d.1) (d.2.1) (d.2.2)).isSome) (fun d=>w49r0 (((N.2 (d.1) (d.2.1) (d.2.2)).getD (0,0,[],[],0)).1) (((N.2 (d.1) (d.2.1) (d.2.2)).getD (0,0,[],[],0)).2.1) (((N.2 (d.1) (d.2.1) (d.2.2)).getD (0,0,[],[],0)).2.2.1) (((N.2 (d.1) (d.2.1) (d.2.2)).getD (0,0,[],[],0)).2.2.2.1) (((N.2 (d.1) (d.2.1) (d.2.2)).getD (0,0,[],[],0)).2.2.2.2))
noncomputable def w49L (N:w49T):List (Nat×Ent'):=[(49,w49E N),(48,w48e N.1)]
noncomputable def w49c (N:w49T):Cx:=⟨Tryd.prog,25,w49L N,[]⟩
noncomputable def w49b:Code:=Tryd.f49.body.getD .skip
theorem w49cx (N:w49T) (hw49:EOk Tryd.prog 49 (w49E N)):CxOk (w49c N):=ctx_ok (by kernel_rfl) (.cons (by kernel_rfl) hw49 (.cons (by kernel_rfl) (w48ok N.1) .nil)) .nil
def w49F0 [Alg] (_:w49T)   (k0:Int→Int→(List Int)→Int→Int→Int→O) (x0_0 x0_1:Int) (x0_2:(List Int)) (x0_3 x0_4 x0_5:Int):O:=
 br (decide (x0_0≤(1:Int))||decide ((↑x0_2.length:Int) < x0_3))
  (ck true <|
  k0 x0_0 (x0_1.tmod (4:Int)) x0_2 x0_3 x0_4 x0_5)
  (k0 x0_0 x0_1 x0_2 x0_3 x0_4 x0_5)
noncomputable def w49b0:Code:=atC [1,1,0] w49b
def w49m0:Nm:=⟨[0,1,4,5],[],[]⟩
def w49I0 (x:Int×Int×(List Int)×Int×Int×Int):Sg:=⟨[(0,.ref 50 0),(1,.e (.i .i64) x.1),(4,.ref 0 0),(5,.e (.i .i64) x.2.1)],[(50,.box 69 [.e (.sl (.i .i64)) x.2.2.1,.e (.i .i64) x.2.2.2.1]),(0,.box 25 [.e (.i .i64) x.2.2.2.2.1,.e (.i .i64) x.2.2.2.2.2,.nilS])],100⟩
def w49u0 (σ:Sg):Int×Int×(List Int)×Int×Int×Int:=(lvT (.i .i64) 1 0 σ,lvT (.i .i64) 5 0 σ,lvH (.sl (.i .i64)) 50 0 σ,lvH (.i .i64) 50 1 σ,lvH (.i .i64) 0 0 σ,lvH (.i .i64) 0 1 σ)
theorem w49ui0:∀ x,w49u0 (w49I0 x)=x:=fun _=>by kernel_rfl
def w49X0_0 (y:Int×Int×(List Int)×Int×Int×Int):Exit×Sg:=(.normal,⟨[(0,.ref 50 0),(1,.e (.i .i64) y.1),(4,.ref 0 0),(5,.e (.i .i64) y.2.1)],[(50,.box 69 [.e (.sl (.i .i64)) y.2.2.1,.e (.i .i64) y.2.2.2.1]),(0,.box 25 [.e (.i .i64) y.2.2.2.2.1,.e (.i .i64) y.2.2.2.2.2,.nilS])],100⟩)
def w49v0_0 (_:Exit) (σ:Sg):Int×Int×(List Int)×Int×Int×Int:=(lvT (.i .i64) 1 0 σ,lvT (.i .i64) 5 0 σ,lvH (.sl (.i .i64)) 50 0 σ,lvH (.i .i64) 50 1 σ,lvH (.i .i64) 0 0 σ,lvH (.i .i64) 0 1 σ)
def w49w0:List (Exit×Nm):=[(.normal,⟨[0,1,4,5],[],[]⟩)]
theorem w49o0:Outs w49v0_0 (fun _ _=>()) (fun _ _=>()) w49X0_0 (noX 1) (noX 2) (exC .normal) (exC (.goto 1)) (exC (.goto 2)):=⟨fun _=>by kernel_rfl,fun _=>by kernel_rfl,fun _=>by kernel_rfl,fun _=>by kernel_rfl,fun _=>by kernel_rfl,fun _=>by kernel_rfl,exNe_ok (by kernel_rfl),exNe_ok (by kernel_rfl),exNe_ok (by kernel_rfl)⟩
def w49l0 [Alg] (N:w49T) (_:Nat) (x:Int×Int×(List Int)×Int×Int×Int) (k0:(Int×Int×(List Int)×Int×Int×Int)→O) (_:(Unit)→O) (_:(Unit)→O):O:=w49F0 N   (fun y0 y1 y2 y3 y4 y5=>k0 (y0,y1,y2,y3,y4,y5)) x.1 x.2.1 x.2.2.1 x.2.2.2.1 x.2.2.2.2.1 x.2.2.2.2.2
def w49n0 [Alg] (N:w49T) (a0 a1:Int) (a2:(List Int)) (a3 a4 a5:Int) (k0:Int→Int→(List Int)→Int→Int→Int→O):O:=w49l0 N N.1 (a0,a1,a2,a3,a4,a5) (fun y=>k0 y.1 y.2.1 y.2.2.1 y.2.2.2.1 y.2.2.2.2.1 y.2.2.2.2.2) (fun _=>none) (fun _=>none)
noncomputable def w49s0 [Alg] (N:w49T) (a0 a1:Int) (a2:(List Int)) (a3 a4 a5:Int) (k0:Int→Int→(List Int)→Int→Int→Int→O):O:=subL w49I0 w49u0 (w49l0 N N.1) (w49I0 (a0,a1,a2,a3,a4,a5)) (fun y=>k0 y.1 y.2.1 y.2.2.1 y.2.2.2.1 y.2.2.2.2.1 y.2.2.2.2.2) (fun _=>none) (fun _=>none)
theorem w49e0 [Alg] (N:w49T):w49s0 N=w49n0 N:=funext fun _=>funext fun _=>funext fun _=>funext fun _=>funext fun _=>funext fun _=>funext fun _=>subL_I w49ui0 _ _ _ _
noncomputable def w49h0 [Alg] (_:w49T):Hint:=.d
theorem w49hk0 (N:w49T):HintOk (w49c N) Tryd.f49.ntmps (w49h0 N) w49b0:=hk_of _ _ trivial
theorem w49q0 [Alg] (N:w49T) (K:Exit→Sg→O) (x:Int×Int×(List Int)×Int×Int×Int):w49F0 N   (fun y0 y1 y2 y3 y4 y5=>K (w49X0_0 (y0,y1,y2,y3,y4,y5)).1 (w49X0_0 (y0,y1,y2,y3,y4,y5)).2) x.1 x.2.1 x.2.2.1 x.2.2.2.1 x.2.2.2.2.1 x.2.2.2.2.2=exec (w49c N) Tryd.f49.ntmps (w49h0 N) w49b0 (w49I0 x) (partX w49w0 K):=by kernel_rfl
theorem w49S0 (N:w49T) (hc:CxOk (w49c N)):SubOk (w49c N) Tryd.f49.ntmps w49b0 w49X0_0 (noX 1) (noX 2) (subL w49I0 w49u0 (w49l0 N N.1)):=
 sub_part hc (w49hk0 N) w49o0 (fun x K=>by
  have h:w49F0 N   (fun y0 y1 y2 y3 y4 y5=>K (w49X0_0 (y0,y1,y2,y3,y4,y5)).1 (w49X0_0 (y0,y1,y2,y3,y4,y5)).2) x.1 x.2.1 x.2.2.1 x.2.2.2.1 x.2.2.2.2.1 x.2.2.2.2.2=w49F0 N   (fun y0 y1 y2 y3 y4 y5=>K (w49X0_0 (y0,y1,y2,y3,y4,y5)).1 (w49X0_0 (y0,y1,y2,y3,y4,y5)).2) x.1 x.2.1 x.2.2.1 x.2.2.2.1 x.2.2.2.2.1 x.2.2.2.2.2:=by rfl
  exact h.trans (w49q0 N K x))
def w49F1 [Alg] (_:w49T)   (k0:Int→Int→Int→Bool→(List Int)→Int→Int→Int→O) (x74_0 x74_1 x74_2:Int) (x74_3:(List Int)) (x74_4 x74_5 x74_6:Int):O:=
 br (decide (x74_2=(0:Int)))
  (k0 x74_0 x74_1 x74_2 (decide (x74_2=(0:Int))) x74_3 x74_4 x74_5 x74_6)
  (k0 x74_0 x74_1 x74_2 (decide (x74_2=(1:Int))) x74_3 x74_4 x74_5 x74_6)
noncomputable def w49b1:Code:=atC [1,1,1,0,1,0,0] w49b
def w49m1:Nm:=⟨[0,1,4,5,27],[],[]⟩
def w49I1 (x:Int×Int×Int×(List Int)×Int×Int×Int):Sg:=⟨[(0,.ref 50 0),(1,.e (.i .i64) x.1),(4,.ref 0 0),(5,.e (.i .i64) x.2.1),(27,.e (.i .i64) x.2.2.1)],[(50,.box 69 [.e (.sl (.i .i64)) x.2.2.2.1,.e (.i .i64) x.2.2.2.2.1]),(0,.box 25 [.e (.i .i64) x.2.2.2.2.2.1,.e (.i .i64) x.2.2.2.2.2.2,.nilS])],100⟩
def w49u1 (σ:Sg):Int×Int×Int×(List Int)×Int×Int×Int:=(lvT (.i .i64) 1 0 σ,lvT (.i .i64) 5 0 σ,lvT (.i .i64) 27 0 σ,lvH (.sl (.i .i64)) 50 0 σ,lvH (.i .i64) 50 1 σ,lvH (.i .i64) 0 0 σ,lvH (.i .i64) 0 1 σ)
theorem w49ui1:∀ x,w49u1 (w49I1 x)=x:=fun _=>by kernel_rfl
def w49X1_0 (y:Int×Int×Int×Bool×(List Int)×Int×Int×Int):Exit×Sg:=(.normal,⟨[(0,.ref 50 0),(1,.e (.i .i64) y.1),(4,.ref 0 0),(5,.e (.i .i64) y.2.1),(27,.e (.i .i64) y.2.2.1),(28,.e .bo y.2.2.2.1)],[(50,.box 69 [.e (.sl (.i .i64)) y.2.2.2.2.1,.e (.i .i64) y.2.2.2.2.2.1]),(0,.box 25 [.e (.i .i64) y.2.2.2.2.2.2.1,.e (.i .i64) y.2.2.2.2.2.2.2,.nilS])],100⟩)
def w49v1_0 (_:Exit) (σ:Sg):Int×Int×Int×Bool×(List Int)×Int×Int×Int:=(lvT (.i .i64) 1 0 σ,lvT (.i .i64) 5 0 σ,lvT (.i .i64) 27 0 σ,lvT .bo 28 0 σ,lvH (.sl (.i .i64)) 50 0 σ,lvH (.i .i64) 50 1 σ,lvH (.i .i64) 0 0 σ,lvH (.i .i64) 0 1 σ)
def w49w1:List (Exit×Nm):=[(.normal,⟨[0,1,4,5,27,28],[],[]⟩)]
theorem w49o1:Outs w49v1_0 (fun _ _=>()) (fun _ _=>()) w49X1_0 (noX 1) (noX 2) (exC .normal) (exC (.goto 1)) (exC (.goto 2)):=⟨fun _=>by kernel_rfl,fun _=>by kernel_rfl,fun _=>by kernel_rfl,fun _=>by kernel_rfl,fun _=>by kernel_rfl,fun _=>by kernel_rfl,exNe_ok (by kernel_rfl),exNe_ok (by kernel_rfl),exNe_ok (by kernel_rfl)⟩
def w49l1 [Alg] (N:w49T) (_:Nat) (x:Int×Int×Int×(List Int)×Int×Int×Int) (k0:(Int×Int×Int×Bool×(List Int)×Int×Int×Int)→O) (_:(Unit)→O) (_:(Unit)→O):O:=w49F1 N   (fun y0 y1 y2 y3 y4 y5 y6 y7=>k0 (y0,y1,y2,y3,y4,y5,y6,y7)) x.1 x.2.1 x.2.2.1 x.2.2.2.1 x.2.2.2.2.1 x.2.2.2.2.2.1 x.2.2.2.2.2.2
def w49n1 [Alg] (N:w49T) (a0 a1 a2:Int) (a3:(List Int)) (a4 a5 a6:Int) (k0:Int→Int→Int→Bool→(List Int)→Int→Int→Int→O):O:=w49l1 N N.1 (a0,a1,a2,a3,a4,a5,a6) (fun y=>k0 y.1 y.2.1 y.2.2.1 y.2.2.2.1 y.2.2.2.2.1 y.2.2.2.2.2.1 y.2.2.2.2.2.2.1 y.2.2.2.2.2.2.2) (fun _=>none) (fun _=>none)
noncomputable def w49s1 [Alg] (N:w49T) (a0 a1 a2:Int) (a3:(List Int)) (a4 a5 a6:Int) (k0:Int→Int→Int→Bool→(List Int)→Int→Int→Int→O):O:=subL w49I1 w49u1 (w49l1 N N.1) (w49I1 (a0,a1,a2,a3,a4,a5,a6)) (fun y=>k0 y.1 y.2.1 y.2.2.1 y.2.2.2.1 y.2.2.2.2.1 y.2.2.2.2.2.1 y.2.2.2.2.2.2.1 y.2.2.2.2.2.2.2) (fun _=>none) (fun _=>none)
theorem w49e1 [Alg] (N:w49T):w49s1 N=w49n1 N:=funext fun _=>funext fun _=>funext fun _=>funext fun _=>funext fun _=>funext fun _=>funext fun _=>funext fun _=>subL_I w49ui1 _ _ _ _
noncomputable def w49h1 [Alg] (_:w49T):Hint:=.d
theorem w49hk1 (N:w49T):HintOk (w49c N) Tryd.f49.ntmps (w49h1 N) w49b1:=hk_of _ _ trivial
theorem w49q1 [Alg] (N:w49T) (K:Exit→Sg→O) (x:Int×Int×Int×(List Int)×Int×Int×Int):w49F1 N   (fun y0 y1 y2 y3 y4 y5 y6 y7=>K (w49X1_0 (y0,y1,y2,y3,y4,y5,y6,y7)).1 (w49X1_0 (y0,y1,y2,y3,y4,y5,y6,y7)).2) x.1 x.2.1 x.2.2.1 x.2.2.2.1 x.2.2.2.2.1 x.2.2.2.2.2.1 x.2.2.2.2.2.2=exec (w49c N) Tryd.f49.ntmps (w49h1 N) w49b1 (w49I1 x) (partX w49w1 K):=by kernel_rfl
theorem w49S1 (N:w49T) (hc:CxOk (w49c N)):SubOk (w49c N) Tryd.f49.ntmps w49b1 w49X1_0 (noX 1) (noX 2) (subL w49I1 w49u1 (w49l1 N N.1)):=
 sub_part hc (w49hk1 N) w49o1 (fun x K=>by
  have h:w49F1 N   (fun y0 y1 y2 y3 y4 y5 y6 y7=>K (w49X1_0 (y0,y1,y2,y3,y4,y5,y6,y7)).1 (w49X1_0 (y0,y1,y2,y3,y4,y5,y6,y7)).2) x.1 x.2.1 x.2.2.1 x.2.2.2.1 x.2.2.2.2.1 x.2.2.2.2.2.1 x.2.2.2.2.2.2=w49F1 N   (fun y0 y1 y2 y3 y4 y5 y6 y7=>K (w49X1_0 (y0,y1,y2,y3,y4,y5,y6,y7)).1 (w49X1_0 (y0,y1,y2,y3,y4,y5,y6,y7)).2) x.1 x.2.1 x.2.2.1 x.2.2.2.1 x.2.2.2.2.1 x.2.2.2.2.2.1 x.2.2.2.2.2.2:=by rfl
  exact h.trans (w49q1 N K x))
def w49F2 [Alg] (_:w49T)   (k0:Int→Int→Int→Bool→(List Int)→Int→Int→Int→O) (x84_0 x84_1 x84_2:Int) (x84_3:(List Int)) (x84_4 x84_5 x84_6:Int):O:=
 br (decide (x84_2=(2:Int)))
  (k0 x84_0 x84_1 x84_2 (decide (x84_2=(2:Int))) x84_3 x84_4 x84_5 x84_6)
  (k0 x84_0 x84_1 x84_2 (decide (x84_2=(3:Int))) x84_3 x84_4 x84_5 x84_6)
noncomputable def w49b2:Code:=atC [1,1,1,0,1,0,1,1,0] w49b
def w49m2:Nm:=⟨[0,1,4,5,27],[],[]⟩
def w49I2 (x:Int×Int×Int×(List Int)×Int×Int×Int):Sg:=⟨[(0,.ref 50 0),(1,.e (.i .i64) x.1),(4,.ref 0 0),(5,.e (.i .i64) x.2.1),(27,.e (.i .i64) x.2.2.1)],[(50,.box 69 [.e (.sl (.i .i64)) x.2.2.2.1,.e (.i .i64) x.2.2.2.2.1]),(0,.box 25 [.e (.i .i64) x.2.2.2.2.2.1,.e (.i .i64) x.2.2.2.2.2.2,.nilS])],100⟩
def w49u2 (σ:Sg):Int×Int×Int×(List Int)×Int×Int×Int:=(lvT (.i .i64) 1 0 σ,lvT (.i .i64) 5 0 σ,lvT (.i .i64) 27 0 σ,lvH (.sl (.i .i64)) 50 0 σ,lvH (.i .i64) 50 1 σ,lvH (.i .i64) 0 0 σ,lvH (.i .i64) 0 1 σ)
theorem w49ui2:∀ x,w49u2 (w49I2 x)=x:=fun _=>by kernel_rfl
def w49X2_0 (y:Int×Int×Int×Bool×(List Int)×Int×Int×Int):Exit×Sg:=(.normal,⟨[(0,.ref 50 0),(1,.e (.i .i64) y.1),(4,.ref 0 0),(5,.e (.i .i64) y.2.1),(27,.e (.i .i64) y.2.2.1),(37,.e .bo y.2.2.2.1)],[(50,.box 69 [.e (.sl (.i .i64)) y.2.2.2.2.1,.e (.i .i64) y.2.2.2.2.2.1]),(0,.box 25 [.e (.i .i64) y.2.2.2.2.2.2.1,.e (.i .i64) y.2.2.2.2.2.2.2,.nilS])],100⟩)
def w49v2_0 (_:Exit) (σ:Sg):Int×Int×Int×Bool×(List Int)×Int×Int×Int:=(lvT (.i .i64) 1 0 σ,lvT (.i .i64) 5 0 σ,lvT (.i .i64) 27 0 σ,lvT .bo 37 0 σ,lvH (.sl (.i .i64)) 50 0 σ,lvH (.i .i64) 50 1 σ,lvH (.i .i64) 0 0 σ,lvH (.i .i64) 0 1 σ)
def w49w2:List (Exit×Nm):=[(.normal,⟨[0,1,4,5,27,37],[],[]⟩)]
theorem w49o2:Outs w49v2_0 (fun _ _=>()) (fun _ _=>()) w49X2_0 (noX 1) (noX 2) (exC .normal) (exC (.goto 1)) (exC (.goto 2)):=⟨fun _=>by kernel_rfl,fun _=>by kernel_rfl,fun _=>by kernel_rfl,fun _=>by kernel_rfl,fun _=>by kernel_rfl,fun _=>by kernel_rfl,exNe_ok (by kernel_rfl),exNe_ok (by kernel_rfl),exNe_ok (by kernel_rfl)⟩
def w49l2 [Alg] (N:w49T) (_:Nat) (x:Int×Int×Int×(List Int)×Int×Int×Int) (k0:(Int×Int×Int×Bool×(List Int)×Int×Int×Int)→O) (_:(Unit)→O) (_:(Unit)→O):O:=w49F2 N   (fun y0 y1 y2 y3 y4 y5 y6 y7=>k0 (y0,y1,y2,y3,y4,y5,y6,y7)) x.1 x.2.1 x.2.2.1 x.2.2.2.1 x.2.2.2.2.1 x.2.2.2.2.2.1 x.2.2.2.2.2.2
def w49n2 [Alg] (N:w49T) (a0 a1 a2:Int) (a3:(List Int)) (a4 a5 a6:Int) (k0:Int→Int→Int→Bool→(List Int)→Int→Int→Int→O):O:=w49l2 N N.1 (a0,a1,a2,a3,a4,a5,a6) (fun y=>k0 y.1 y.2.1 y.2.2.1 y.2.2.2.1 y.2.2.2.2.1 y.2.2.2.2.2.1 y.2.2.2.2.2.2.1 y.2.2.2.2.2.2.2) (fun _=>none) (fun _=>none)
noncomputable def w49s2 [Alg] (N:w49T) (a0 a1 a2:Int) (a3:(List Int)) (a4 a5 a6:Int) (k0:Int→Int→Int→Bool→(List Int)→Int→Int→Int→O):O:=subL w49I2 w49u2 (w49l2 N N.1) (w49I2 (a0,a1,a2,a3,a4,a5,a6)) (fun y=>k0 y.1 y.2.1 y.2.2.1 y.2.2.2.1 y.2.2.2.2.1 y.2.2.2.2.2.1 y.2.2.2.2.2.2.1 y.2.2.2.2.2.2.2) (fun _=>none) (fun _=>none)
theorem w49e2 [Alg] (N:w49T):w49s2 N=w49n2 N:=funext fun _=>funext fun _=>funext fun _=>funext fun _=>funext fun _=>funext fun _=>funext fun _=>funext fun _=>subL_I w49ui2 _ _ _ _
noncomputable def w49h2 [Alg] (_:w49T):Hint:=.d
theorem w49hk2 (N:w49T):HintOk (w49c N) Tryd.f49.ntmps (w49h2 N) w49b2:=hk_of _ _ trivial
theorem w49q2 [Alg] (N:w49T) (K:Exit→Sg→O) (x:Int×Int×Int×(List Int)×Int×Int×Int):w49F2 N   (fun y0 y1 y2 y3 y4 y5 y6 y7=>K (w49X2_0 (y0,y1,y2,y3,y4,y5,y6,y7)).1 (w49X2_0 (y0,y1,y2,y3,y4,y5,y6,y7)).2) x.1 x.2.1 x.2.2.1 x.2.2.2.1 x.2.2.2.2.1 x.2.2.2.2.2.1 x.2.2.2.2.2.2=exec (w49c N) Tryd.f49.ntmps (w49h2 N) w49b2 (w49I2 x) (partX w49w2 K):=by kernel_rfl
theorem w49S2 (N:w49T) (hc:CxOk (w49c N)):SubOk (w49c N) Tryd.f49.ntmps w49b2 w49X2_0 (noX 1) (noX 2) (subL w49I2 w49u2 (w49l2 N N.1)):=
 sub_part hc (w49hk2 N) w49o2 (fun x K=>by
  have h:w49F2 N   (fun y0 y1 y2 y3 y4 y5 y6 y7=>K (w49X2_0 (y0,y1,y2,y3,y4,y5,y6,y7)).1 (w49X2_0 (y0,y1,y2,y3,y4,y5,y6,y7)).2) x.1 x.2.1 x.2.2.1 x.2.2.2.1 x.2.2.2.2.1 x.2.2.2.2.2.1 x.2.2.2.2.2.2=w49F2 N   (fun y0 y1 y2 y3 y4 y5 y6 y7=>K (w49X2_0 (y0,y1,y2,y3,y4,y5,y6,y7)).1 (w49X2_0 (y0,y1,y2,y3,y4,y5,y6,y7)).2) x.1 x.2.1 x.2.2.1 x.2.2.2.1 x.2.2.2.2.1 x.2.2.2.2.2.1 x.2.2.2.2.2.2:=by rfl
  exact h.trans (w49q2 N K x))
def w49F3 [Alg] (N:w49T) (in1:Int→Int→Int→(List Int)→Int→Int→Int→(Int→Int→Int→Bool→(List Int)→Int→Int→Int→O)→O) (in2:Int→Int→Int→(List Int)→Int→Int→Int→(Int→Int→Int→Bool→(List Int)→Int→Int→Int→O)→O)  (k0:(List Int)→Int→Int→Int→(List Ex)→O) (k1:Int→Int→(List Int)→Int→Int→Int→O) (x7_0 x7_1:Int) (x7_2:(List Int)) (x7_3 x7_4 x7_5:Int):O:=
 in1 x7_0 x7_1 x7_1 x7_2 x7_3 x7_4 x7_5
  (fun z75 z76 z77 z78 z79 z80 z81 z82=>
   br z78
    (ck (w48p N.1 (6:Int) z79 z80) <|
    gx [(0:Int),(1:Int),(2:Int),(10:Int),(47:Int),(999999:Int)] (w48y0 N.1 (6:Int) z79 z80) fun y83=>
    k0 (w48y1 N.1 (6:Int) z79 z80) (w48y2 N.1 (6:Int) z79 z80) ((0:Int)) y83 [])
    (in2 z75 z76 z77 z79 z80 z81 z82
     (fun z85 z86 z87 z88 z89 z90 z91 z92=>
      br z88
       (ck (w48p N.1 (5:Int) z89 z90) <|
       gx [(0:Int),(1:Int),(2:Int),(23:Int),(25:Int)] (w48y0 N.1 (5:Int) z89 z90) fun y93=>
       k0 (w48y1 N.1 (5:Int) z89 z90) (w48y2 N.1 (5:Int) z89 z90) ((1:Int)) y93 [])
       (br (decide (z87=(4:Int)))
        (br (decide (z87=(4:Int)))
         (gx [(2:Int),(8:Int)] (IntKind.i64.wrap (z86 - (4:Int))) fun y94=>
         ck ((N.2 (IntKind.i64.wrap (z85 - (1:Int))) z89 z90).isSome) <|
         k0 (((N.2 (IntKind.i64.wrap (z85 - (1:Int))) z89 z90).getD ((0:Int),(0:Int),[],[],(0:Int))).2.2.2.1) (((N.2 (IntKind.i64.wrap (z85 - (1:Int))) z89 z90).getD ((0:Int),(0:Int),[],[],(0:Int))).2.2.2.2) y94 ((0:Int)) [Ex.mk ((N.2 (IntKind.i64.wrap (z85 - (1:Int))) z89 z90).getD ((0:Int),(0:Int),[],[],(0:Int))).1 ((N.2 (IntKind.i64.wrap (z85 - (1:Int))) z89 z90).getD ((0:Int),(0:Int),[],[],(0:Int))).2.1 ((N.2 (IntKind.i64.wrap (z85 - (1:Int))) z89 z90).getD ((0:Int),(0:Int),[],[],(0:Int))).2.2.1])
         (k1 z85 z86 z89 z90 z91 z92))
        (br (decide (z87=(5:Int)))
         (gx [(2:Int),(8:Int)] (IntKind.i64.wrap (z86 - (4:Int))) fun y95=>
         ck ((N.2 (IntKind.i64.wrap (z85 - (1:Int))) z89 z90).isSome) <|
         k0 (((N.2 (IntKind.i64.wrap (z85 - (1:Int))) z89 z90).getD ((0:Int),(0:Int),[],[],(0:Int))).2.2.2.1) (((N.2 (IntKind.i64.wrap (z85 - (1:Int))) z89 z90).getD ((0:Int),(0:Int),[],[],(0:Int))).2.2.2.2) y95 ((0:Int)) [Ex.mk ((N.2 (IntKind.i64.wrap (z85 - (1:Int))) z89 z90).getD ((0:Int),(0:Int),[],[],(0:Int))).1 ((N.2 (IntKind.i64.wrap (z85 - (1:Int))) z89 z90).getD ((0:Int),(0:Int),[],[],(0:Int))).2.1 ((N.2 (IntKind.i64.wrap (z85 - (1:Int))) z89 z90).getD ((0:Int),(0:Int),[],[],(0:Int))).2.2.1])
         (k1 z85 z86 z89 z90 z91 z92))))))
noncomputable def w49b3:Code:=atC [1,1,1,0] w49b
def w49m3:Nm:=⟨[0,1,4,5],[],[]⟩
def w49I3 (x:Int×Int×(List Int)×Int×Int×Int):Sg:=⟨[(0,.ref 50 0),(1,.e (.i .i64) x.1),(4,.ref 0 0),(5,.e (.i .i64) x.2.1)],[(50,.box 69 [.e (.sl (.i .i64)) x.2.2.1,.e (.i .i64) x.2.2.2.1]),(0,.box 25 [.e (.i .i64) x.2.2.2.2.1,.e (.i .i64) x.2.2.2.2.2,.nilS])],100⟩
def w49u3 (σ:Sg):Int×Int×(List Int)×Int×Int×Int:=(lvT (.i .i64) 1 0 σ,lvT (.i .i64) 5 0 σ,lvH (.sl (.i .i64)) 50 0 σ,lvH (.i .i64) 50 1 σ,lvH (.i .i64) 0 0 σ,lvH (.i .i64) 0 1 σ)
theorem w49ui3:∀ x,w49u3 (w49I3 x)=x:=fun _=>by kernel_rfl
def w49X3_0 (y:(List Int)×Int×Int×Int×(List Ex)):Exit×Sg:=(.ret,⟨[(4,.ref 0 0)],[(50,.box 69 [.e (.sl (.i .i64)) y.1,.e (.i .i64) y.2.1]),(0,.box 25 [.e (.i .i64) y.2.2.1,.e (.i .i64) y.2.2.2.1,.own 1]),(1,.row 25 .ex y.2.2.2.2 true)],100⟩)
def w49v3_0 (_:Exit) (σ:Sg):(List Int)×Int×Int×Int×(List Ex):=(lvH (.sl (.i .i64)) 50 0 σ,lvH (.i .i64) 50 1 σ,lvH (.i .i64) 0 0 σ,lvH (.i .i64) 0 1 σ,lvR .ex 1 σ)
def w49X3_1 (y:Int×Int×(List Int)×Int×Int×Int):Exit×Sg:=(.normal,⟨[(0,.ref 50 0),(1,.e (.i .i64) y.1),(4,.ref 0 0),(5,.e (.i .i64) y.2.1)],[(50,.box 69 [.e (.sl (.i .i64)) y.2.2.1,.e (.i .i64) y.2.2.2.1]),(0,.box 25 [.e (.i .i64) y.2.2.2.2.1,.e (.i .i64) y.2.2.2.2.2,.nilS])],100⟩)
def w49v3_1 (_:Exit) (σ:Sg):Int×Int×(List Int)×Int×Int×Int:=(lvT (.i .i64) 1 0 σ,lvT (.i .i64) 5 0 σ,lvH (.sl (.i .i64)) 50 0 σ,lvH (.i .i64) 50 1 σ,lvH (.i .i64) 0 0 σ,lvH (.i .i64) 0 1 σ)
def w49w3:List (Exit×Nm):=[(.ret,⟨[4],[],[.nilC 4 2 (.row 25 .ex [] true)]⟩),(.normal,⟨[0,1,4,5],[],[]⟩)]
theorem w49o3:Outs w49v3_0 w49v3_1 (fun _ _=>()) w49X3_0 w49X3_1 (noX 2) (exC .ret) (exC .normal) (exC (.goto 2)):=⟨fun _=>by kernel_rfl,fun _=>by kernel_rfl,fun _=>by kernel_rfl,fun _=>by kernel_rfl,fun _=>by kernel_rfl,fun _=>by kernel_rfl,exNe_ok (by kernel_rfl),exNe_ok (by kernel_rfl),exNe_ok (by kernel_rfl)⟩
def w49l3 [Alg] (N:w49T) (_:Nat) (x:Int×Int×(List Int)×Int×Int×Int) (k0:((List Int)×Int×Int×Int×(List Ex))→O) (k1:(Int×Int×(List Int)×Int×Int×Int)→O) (_:(Unit)→O):O:=w49F3 N (w49n1 N) (w49n2 N)  (fun y0 y1 y2 y3 y4=>k0 (y0,y1,y2,y3,y4)) (fun y0 y1 y2 y3 y4 y5=>k1 (y0,y1,y2,y3,y4,y5)) x.1 x.2.1 x.2.2.1 x.2.2.2.1 x.2.2.2.2.1 x.2.2.2.2.2
def w49n3 [Alg] (N:w49T) (a0 a1:Int) (a2:(List Int)) (a3 a4 a5:Int) (k0:(List Int)→Int→Int→Int→(List Ex)→O) (k1:Int→Int→(List Int)→Int→Int→Int→O):O:=w49l3 N N.1 (a0,a1,a2,a3,a4,a5) (fun y=>k0 y.1 y.2.1 y.2.2.1 y.2.2.2.1 y.2.2.2.2) (fun y=>k1 y.1 y.2.1 y.2.2.1 y.2.2.2.1 y.2.2.2.2.1 y.2.2.2.2.2) (fun _=>none)
noncomputable def w49s3 [Alg] (N:w49T) (a0 a1:Int) (a2:(List Int)) (a3 a4 a5:Int) (k0:(List Int)→Int→Int→Int→(List Ex)→O) (k1:Int→Int→(List Int)→Int→Int→Int→O):O:=subL w49I3 w49u3 (w49l3 N N.1) (w49I3 (a0,a1,a2,a3,a4,a5)) (fun y=>k0 y.1 y.2.1 y.2.2.1 y.2.2.2.1 y.2.2.2.2) (fun y=>k1 y.1 y.2.1 y.2.2.1 y.2.2.2.1 y.2.2.2.2.1 y.2.2.2.2.2) (fun _=>none)
theorem w49e3 [Alg] (N:w49T):w49s3 N=w49n3 N:=funext fun _=>funext fun _=>funext fun _=>funext fun _=>funext fun _=>funext fun _=>funext fun _=>funext fun _=>subL_I w49ui3 _ _ _ _
noncomputable def w49h3 [Alg] (N:w49T):Hint:=(.seq .d (.block (.seq (.sub w49m1 _ _ _ w49X1_0 (noX 1) (noX 2) (subL w49I1 w49u1 (w49l1 N N.1))) (.cond .d (.seq (.sub w49m2 _ _ _ w49X2_0 (noX 1) (noX 2) (subL w49I2 w49u2 (w49l2 N N.1))) (.cond .d (.seq .d (.cond (.seq (.reg [] [] [[],[],[],[],[],[],[],[],[50],[],[],[0]]) .d) .d))))))))
theorem w49hk3 (N:w49T) (hc:CxOk (w49c N)):HintOk (w49c N) Tryd.f49.ntmps (w49h3 N) w49b3:=hk_of _ _ (And.intro trivial (And.intro (w49S1 N hc) (And.intro trivial (And.intro (w49S2 N hc) (And.intro trivial (And.intro trivial (And.intro (And.intro trivial trivial) trivial)))))))
theorem w49q3 [Alg] (N:w49T) (K:Exit→Sg→O) (x:Int×Int×(List Int)×Int×Int×Int):w49F3 N (w49s1 N) (w49s2 N)  (fun y0 y1 y2 y3 y4=>K (w49X3_0 (y0,y1,y2,y3,y4)).1 (w49X3_0 (y0,y1,y2,y3,y4)).2) (fun y0 y1 y2 y3 y4 y5=>K (w49X3_1 (y0,y1,y2,y3,y4,y5)).1 (w49X3_1 (y0,y1,y2,y3,y4,y5)).2) x.1 x.2.1 x.2.2.1 x.2.2.2.1 x.2.2.2.2.1 x.2.2.2.2.2=exec (w49c N) Tryd.f49.ntmps (w49h3 N) w49b3 (w49I3 x) (partX w49w3 K):=by kernel_rfl
theorem w49S3 (N:w49T) (hc:CxOk (w49c N)):SubOk (w49c N) Tryd.f49.ntmps w49b3 w49X3_0 w49X3_1 (noX 2) (subL w49I3 w49u3 (w49l3 N N.1)):=
 sub_part hc (w49hk3 N hc) w49o3 (fun x K=>by
  have h:w49F3 N (w49n1 N) (w49n2 N)  (fun y0 y1 y2 y3 y4=>K (w49X3_0 (y0,y1,y2,y3,y4)).1 (w49X3_0 (y0,y1,y2,y3,y4)).2) (fun y0 y1 y2 y3 y4 y5=>K (w49X3_1 (y0,y1,y2,y3,y4,y5)).1 (w49X3_1 (y0,y1,y2,y3,y4,y5)).2) x.1 x.2.1 x.2.2.1 x.2.2.2.1 x.2.2.2.2.1 x.2.2.2.2.2=w49F3 N (w49s1 N) (w49s2 N)  (fun y0 y1 y2 y3 y4=>K (w49X3_0 (y0,y1,y2,y3,y4)).1 (w49X3_0 (y0,y1,y2,y3,y4)).2) (fun y0 y1 y2 y3 y4 y5=>K (w49X3_1 (y0,y1,y2,y3,y4,y5)).1 (w49X3_1 (y0,y1,y2,y3,y4,y5)).2) x.1 x.2.1 x.2.2.1 x.2.2.2.1 x.2.2.2.2.1 x.2.2.2.2.2:=by rw [w49e1 N,w49e2 N]
  exact h.trans (w49q3 N K x))
def w49G [Alg] (N:w49T) (in0:Int→Int→(List Int)→Int→Int→Int→(Int→Int→(List Int)→Int→Int→Int→O)→O) (_in1:Int→Int→Int→(List Int)→Int→Int→Int→(Int→Int→Int→Bool→(List Int)→Int→Int→Int→O)→O) (_in2:Int→Int→Int→(List Int)→Int→Int→Int→(Int→Int→Int→Bool→(List Int)→Int→Int→Int→O)→O) (in3:Int→Int→(List Int)→Int→Int→Int→((List Int)→Int→Int→Int→(List Ex)→O)→(Int→Int→(List Int)→Int→Int→Int→O)→O) (depth1:Int) (g0:(List Int)) (g1:Int):O:=
 ck (w48p N.1 (12:Int) g0 g1) <|
 in0 depth1 (w48y0 N.1 (12:Int) g0 g1) (w48y1 N.1 (12:Int) g0 g1) (w48y2 N.1 (12:Int) g0 g1) ((0:Int)) ((0:Int))
  (fun z1 z2 z3 z4 z5 z6=>
   in3 z1 z2 z3 z4 z5 z6
    (fun z96 z97 z98 z99 z100=>
     some (w49r0 (z98) (z99) (z100) z96 z97))
    (fun z101 z102 z103 z104 _ _=>
     gx [(3:Int),(4:Int),(5:Int),(6:Int),(7:Int),(4:Int)] (IntKind.i64.wrap (z102 - (6:Int))) fun y107=>
     ck ((N.2 (IntKind.i64.wrap (z101 - (1:Int))) z103 z104).isSome) <|
     ck ((N.2 (IntKind.i64.wrap (z101 - (1:Int))) ((N.2 (IntKind.i64.wrap (z101 - (1:Int))) z103 z104).getD ((0:Int),(0:Int),[],[],(0:Int))).2.2.2.1 ((N.2 (IntKind.i64.wrap (z101 - (1:Int))) z103 z104).getD ((0:Int),(0:Int),[],[],(0:Int))).2.2.2.2).isSome) <|
     some (w49r0 (y107) ((0:Int)) ([Ex.mk ((N.2 (IntKind.i64.wrap (z101 - (1:Int))) z103 z104).getD ((0:Int),(0:Int),[],[],(0:Int))).1 ((N.2 (IntKind.i64.wrap (z101 - (1:Int))) z103 z104).getD ((0:Int),(0:Int),[],[],(0:Int))).2.1 ((N.2 (IntKind.i64.wrap (z101 - (1:Int))) z103 z104).getD ((0:Int),(0:Int),[],[],(0:Int))).2.2.1,Ex.mk ((N.2 (IntKind.i64.wrap (z101 - (1:Int))) ((N.2 (IntKind.i64.wrap (z101 - (1:Int))) z103 z104).getD ((0:Int),(0:Int),[],[],(0:Int))).2.2.2.1 ((N.2 (IntKind.i64.wrap (z101 - (1:Int))) z103 z104).getD ((0:Int),(0:Int),[],[],(0:Int))).2.2.2.2).getD ((0:Int),(0:Int),[],[],(0:Int))).1 ((N.2 (IntKind.i64.wrap (z101 - (1:Int))) ((N.2 (IntKind.i64.wrap (z101 - (1:Int))) z103 z104).getD ((0:Int),(0:Int),[],[],(0:Int))).2.2.2.1 ((N.2 (IntKind.i64.wrap (z101 - (1:Int))) z103 z104).getD ((0:Int),(0:Int),[],[],(0:Int))).2.2.2.2).getD ((0:Int),(0:Int),[],[],(0:Int))).2.1 ((N.2 (IntKind.i64.wrap (z101 - (1:Int))) ((N.2 (IntKind.i64.wrap (z101 - (1:Int))) z103 z104).getD ((0:Int),(0:Int),[],[],(0:Int))).2.2.2.1 ((N.2 (IntKind.i64.wrap (z101 - (1:Int))) z103 z104).getD ((0:Int),(0:Int),[],[],(0:Int))).2.2.2.2).getD ((0:Int),(0:Int),[],[],(0:Int))).2.2.1]) (((N.2 (IntKind.i64.wrap (z101 - (1:Int))) ((N.2 (IntKind.i64.wrap (z101 - (1:Int))) z103 z104).getD ((0:Int),(0:Int),[],[],(0:Int))).2.2.2.1 ((N.2 (IntKind.i64.wrap (z101 - (1:Int))) z103 z104).getD ((0:Int),(0:Int),[],[],(0:Int))).2.2.2.2).getD ((0:Int),(0:Int),[],[],(0:Int))).2.2.2.1) (((N.2 (IntKind.i64.wrap (z101 - (1:Int))) ((N.2 (IntKind.i64.wrap (z101 - (1:Int))) z103 z104).getD ((0:Int),(0:Int),[],[],(0:Int))).2.2.2.1 ((N.2 (IntKind.i64.wrap (z101 - (1:Int))) z103 z104).getD ((0:Int),(0:Int),[],[],(0:Int))).2.2.2.2).getD ((0:Int),(0:Int),[],[],(0:Int))).2.2.2.2))))
def w49 [Alg] (N:w49T) (depth1:Int) (g0:(List Int)) (g1:Int):O:=w49G N (w49n0 N) (w49n1 N) (w49n2 N) (w49n3 N) depth1 g0 g1
noncomputable def w49h [Alg] (N:w49T):Hint:=(.seq .d (.seq .d (.seq (.sub w49m0 _ _ _ w49X0_0 (noX 1) (noX 2) (subL w49I0 w49u0 (w49l0 N N.1))) (.seq (.sub w49m3 _ _ _ w49X3_0 w49X3_1 (noX 2) (subL w49I3 w49u3 (w49l3 N N.1))) .d))))
theorem w49hk (N:w49T) (hc:CxOk (w49c N)):HintOk (w49c N) Tryd.f49.ntmps (w49h N) w49b:=hk_of _ _ (And.intro trivial (And.intro trivial (And.intro (w49S0 N hc) (And.intro (w49S3 N hc) trivial))))
theorem w49q [Alg] (N:w49T) (depth1:Int) (g0:(List Int)) (g1:Int):w49G N (w49s0 N) (w49s1 N) (w49s2 N) (w49s3 N) depth1 g0 g1=exec (w49c N) Tryd.f49.ntmps (w49h N) w49b ⟨argT 0 [.ref 50 0,.e (.i .i64) depth1],[(50,.box 69 [.e (.sl (.i .i64)) g0,.e (.i .i64) g1])],100⟩ (finX (w49c N) Tryd.f49 false):=by kernel_rfl
theorem w49does {N:w49T} (hc:CxOk (w49c N)) {depth1:Int} {g0:(List Int)} {g1:Int} {r:Res} (h:w49 N depth1 g0 g1=some r):DoesR Tryd.prog 49 (([.ref 50 0,.e (.i .i64) depth1]:List X).map X.D) (HA [(50,.box 69 [.e (.sl (.i .i64)) g0,.e (.i .i64) g1])]) r:=
 fun_ok hc (f:=49) (fn:=Tryd.f49) (code:=w49b) (by kernel_rfl) (by kernel_rfl) (w49hk N hc) (Nat.le_of_ble_eq_true (by kernel_rfl)) (ow:=false) ((w49q N depth1 g0 g1).symm.trans (by rw [w49e0 N,w49e1 N,w49e2 N,w49e3 N];exact h))
def w49un (r:Res):Option (Int×Int×(List Ex)×(List Int)×Int):=match r with
 | (.agg [x0,x1,x2],[(50,.box 69 [x3,x4])])=>(match ue (.i .i64) x0,ue (.i .i64) x1,ue (.sl .ex) x2,ue (.sl (.i .i64)) x3,ue (.i .i64) x4 with | some a0,some a1,some a2,some a3,some a4=>some (a0,a1,a2,a3,a4) | _,_,_,_,_=>none)
 | _=>none
theorem w49uo {r:Res} {d:Int×Int×(List Ex)×(List Int)×Int} (h:w49un r=some d):r=w49r0 (d.1) (d.2.1) (d.2.2.1) (d.2.2.2.1) (d.2.2.2.2):=by
 unfold w49un at h
 split at h
 ·split at h
  ·rename_i h0 h1 h2 h3 h4;cases h;rw [ue_some h0,ue_some h1,ue_some h2,ue_some h3,ue_some h4];rfl
  ·cases h
 ·cases h
def w49z (N:w49T) (depth1:Int) (g0:(List Int)) (g1:Int):Option (Int×Int×(List Ex)×(List Int)×Int):=(w49 N depth1 g0 g1).bind w49un
theorem w49fin {N:w49T} (hc:CxOk (w49c N)) {depth1:Int} {g0:(List Int)} {g1:Int} {d:Int×Int×(List Ex)×(List Int)×Int} (hd:w49z N depth1 g0 g1=some d):Does Tryd.prog 49 (([.ref 50 0,.e (.i .i64) depth1]:List X).map X.D) (HA [(50,.box 69 [.e (.sl (.i .i64)) g0,.e (.i .i64) g1])]) (w49r0 (d.1) (d.2.1) (d.2.2.1) (d.2.2.2.1) (d.2.2.2.2)).1.D (HA (w49r0 (d.1) (d.2.1) (d.2.2.1) (d.2.2.2.1) (d.2.2.2.2)).2):=by
 obtain ⟨r,hr,hu⟩:=Option.bind_eq_some_iff.1 hd
 have:=w49does hc hr
 rw [w49uo hu] at this
 exact this
def w49gY (N:Nat):Nat→(Int→(List Int)→Int→Option (Int×Int×(List Ex)×(List Int)×Int))
 | 0=>fun _ _ _=>none
 | n+1=>fun depth1 g0 g1=>w49z (N,w49gY N n) depth1 g0 g1
theorem w49gYok (N:Nat):∀ n,EOk Tryd.prog 49 (w49E (N,w49gY N n))
 | 0=>entR_ok w49io (fun _ h=>by cases h)
 | n+1=>
   have ih:=w49gYok N n
   entR_ok w49io (fun d h=>norStep (zz:=w49z (N,w49gY N n) (d.1) (d.2.1) (d.2.2)) (R:=fun y=>w49r0 (y.1) (y.2.1) (y.2.2.1) (y.2.2.2.1) (y.2.2.2.2)) (d0:=(0,0,[],[],0)) (fun _ hy=>w49fin (w49cx (N,w49gY N n) ih) hy) h)
def w49p (N:Nat) (depth1:Int) (g0:(List Int)) (g1:Int):Bool:=((w49gY N N) depth1 g0 g1).isSome
def w49y0 (N:Nat) (depth1:Int) (g0:(List Int)) (g1:Int):Int:=(((w49gY N N) depth1 g0 g1).getD (0,0,[],[],0)).1
def w49y1 (N:Nat) (depth1:Int) (g0:(List Int)) (g1:Int):Int:=(((w49gY N N) depth1 g0 g1).getD (0,0,[],[],0)).2.1
def w49y2 (N:Nat) (depth1:Int) (g0:(List Int)) (g1:Int):(List Ex):=(((w49gY N N) depth1 g0 g1).getD (0,0,[],[],0)).2.2.1
def w49y3 (N:Nat) (depth1:Int) (g0:(List Int)) (g1:Int):(List Int):=(((w49gY N N) depth1 g0 g1).getD (0,0,[],[],0)).2.2.2.1
def w49y4 (N:Nat) (depth1:Int) (g0:(List Int)) (g1:Int):Int:=(((w49gY N N) depth1 g0 g1).getD (0,0,[],[],0)).2.2.2.2
def w49e (N:Nat):Ent':=entR w49in (fun d=>w49p N (d.1) (d.2.1) (d.2.2)) (fun d=>w49r0 (w49y0 N (d.1) (d.2.1) (d.2.2)) (w49y1 N (d.1) (d.2.1) (d.2.2)) (w49y2 N (d.1) (d.2.1) (d.2.2)) (w49y3 N (d.1) (d.2.1) (d.2.2)) (w49y4 N (d.1) (d.2.1) (d.2.2)))
theorem w49ok (N:Nat):EOk Tryd.prog 49 (w49e N):=w49gYok N N
def w12r0 (a0 a1:Int) (a2:(List Ex)):Res:=(.agg [.e (.i .i64) a0,.e (.i .i64) a1,.e (.sl .ex) a2],[])
noncomputable def w12L (N:Nat):List (Nat×Ent'):=[(48,w48e N),(49,w49e N)]
noncomputable def w12c (N:Nat):Cx:=⟨Tryd.prog,25,w12L N,[]⟩
noncomputable def w12b:Code:=Tryd.f12.body.getD .skip
theorem w12cx (N:Nat):CxOk (w12c N):=ctx_ok (by kernel_rfl) (.cons (by kernel_rfl) (w48ok N) (.cons (by kernel_rfl) (w49ok N) .nil)) .nil
def w12G [Alg] (N:Nat)  (l0:(List Int)) (depth1:Int):O:=
 ck (w48p N (6:Int) l0 (0:Int)) <|
 br (decide ((1:Int) < w48y0 N (6:Int) l0 (0:Int))||decide (max (1:Int) (min (5:Int) depth1) < (2:Int)))
  (ck (w49p N (max (1:Int) (min (5:Int) depth1)) (w48y1 N (6:Int) l0 (0:Int)) (w48y2 N (6:Int) l0 (0:Int))) <|
  some (w12r0 ((w49y0 N (max (1:Int) (min (5:Int) depth1)) (w48y1 N (6:Int) l0 (0:Int)) (w48y2 N (6:Int) l0 (0:Int)))) ((w49y1 N (max (1:Int) (min (5:Int) depth1)) (w48y1 N (6:Int) l0 (0:Int)) (w48y2 N (6:Int) l0 (0:Int)))) ((w49y2 N (max (1:Int) (min (5:Int) depth1)) (w48y1 N (6:Int) l0 (0:Int)) (w48y2 N (6:Int) l0 (0:Int))))))
  (ck (w49p N (IntKind.i64.wrap (max (1:Int) (min (5:Int) depth1) - (1:Int))) (w48y1 N (6:Int) l0 (0:Int)) (w48y2 N (6:Int) l0 (0:Int))) <|
  ck (w49p N (IntKind.i64.wrap (max (1:Int) (min (5:Int) depth1) - (1:Int))) (w49y3 N (IntKind.i64.wrap (max (1:Int) (min (5:Int) depth1) - (1:Int))) (w48y1 N (6:Int) l0 (0:Int)) (w48y2 N (6:Int) l0 (0:Int))) (w49y4 N (IntKind.i64.wrap (max (1:Int) (min (5:Int) depth1) - (1:Int))) (w48y1 N (6:Int) l0 (0:Int)) (w48y2 N (6:Int) l0 (0:Int)))) <|
  some (w12r0 ((IntKind.i64.wrap ((9:Int)+w48y0 N (6:Int) l0 (0:Int)))) ((0:Int)) ([Ex.mk (w49y0 N (IntKind.i64.wrap (max (1:Int) (min (5:Int) depth1) - (1:Int))) (w48y1 N (6:Int) l0 (0:Int)) (w48y2 N (6:Int) l0 (0:Int))) (w49y1 N (IntKind.i64.wrap (max (1:Int) (min (5:Int) depth1) - (1:Int))) (w48y1 N (6:Int) l0 (0:Int)) (w48y2 N (6:Int) l0 (0:Int))) (w49y2 N (IntKind.i64.wrap (max (1:Int) (min (5:Int) depth1) - (1:Int))) (w48y1 N (6:Int) l0 (0:Int)) (w48y2 N (6:Int) l0 (0:Int))),Ex.mk (w49y0 N (IntKind.i64.wrap (max (1:Int) (min (5:Int) depth1) - (1:Int))) (w49y3 N (IntKind.i64.wrap (max (1:Int) (min (5:Int) depth1) - (1:Int))) (w48y1 N (6:Int) l0 (0:Int)) (w48y2 N (6:Int) l0 (0:Int))) (w49y4 N (IntKind.i64.wrap (max (1:Int) (min (5:Int) depth1) - (1:Int))) (w48y1 N (6:Int) l0 (0:Int)) (w48y2 N (6:Int) l0 (0:Int)))) (w49y1 N (IntKind.i64.wrap (max (1:Int) (min (5:Int) depth1) - (1:Int))) (w49y3 N (IntKind.i64.wrap (max (1:Int) (min (5:Int) depth1) - (1:Int))) (w48y1 N (6:Int) l0 (0:Int)) (w48y2 N (6:Int) l0 (0:Int))) (w49y4 N (IntKind.i64.wrap (max (1:Int) (min (5:Int) depth1) - (1:Int))) (w48y1 N (6:Int) l0 (0:Int)) (w48y2 N (6:Int) l0 (0:Int)))) (w49y2 N (IntKind.i64.wrap (max (1:Int) (min (5:Int) depth1) - (1:Int))) (w49y3 N (IntKind.i64.wrap (max (1:Int) (min (5:Int) depth1) - (1:Int))) (w48y1 N (6:Int) l0 (0:Int)) (w48y2 N (6:Int) l0 (0:Int))) (w49y4 N (IntKind.i64.wrap (max (1:Int) (min (5:Int) depth1) - (1:Int))) (w48y1 N (6:Int) l0 (0:Int)) (w48y2 N (6:Int) l0 (0:Int))))])))
def w12 [Alg] (N:Nat) (l0:(List Int)) (depth1:Int):O:=w12G N  l0 depth1
noncomputable def w12h [Alg] (_:Nat):Hint:=.d
theorem w12hk (N:Nat):HintOk (w12c N) Tryd.f12.ntmps (w12h N) w12b:=hk_of _ _ trivial
theorem w12q [Alg] (N:Nat) (l0:(List Int)) (depth1:Int):w12G N  l0 depth1=exec (w12c N) Tryd.f12.ntmps (w12h N) w12b ⟨argT 0 [.e (.sl (.i .i64)) l0,.e (.i .i64) depth1],[],100⟩ (finX (w12c N) Tryd.f12 false):=by kernel_rfl
theorem w12does {N:Nat} (hc:CxOk (w12c N)) {l0:(List Int)} {depth1:Int} {r:Res} (h:w12 N l0 depth1=some r):DoesR Tryd.prog 12 (([.e (.sl (.i .i64)) l0,.e (.i .i64) depth1]:List X).map X.D) (HA []) r:=
 fun_ok hc (f:=12) (fn:=Tryd.f12) (code:=w12b) (by kernel_rfl) (by kernel_rfl) (w12hk N) (Nat.le_of_ble_eq_true (by kernel_rfl)) (ow:=false) ((w12q N l0 depth1).symm.trans (by exact h))
def w12un (r:Res):Option (Int×Int×(List Ex)):=match r with
 | (.agg [x0,x1,x2],[])=>(match ue (.i .i64) x0,ue (.i .i64) x1,ue (.sl .ex) x2 with | some a0,some a1,some a2=>some (a0,a1,a2) | _,_,_=>none)
 | _=>none
theorem w12uo {r:Res} {d:Int×Int×(List Ex)} (h:w12un r=some d):r=w12r0 (d.1) (d.2.1) (d.2.2):=by
 unfold w12un at h
 split at h
 ·split at h
  ·rename_i h0 h1 h2;cases h;rw [ue_some h0,ue_some h1,ue_some h2];rfl
  ·cases h
 ·cases h
def w12z (N:Nat) (l0:(List Int)) (depth1:Int):Option (Int×Int×(List Ex)):=(w12 N l0 depth1).bind w12un
theorem w12fin {N:Nat} (hc:CxOk (w12c N)) {l0:(List Int)} {depth1:Int} {d:Int×Int×(List Ex)} (hd:w12z N l0 depth1=some d):Does Tryd.prog 12 (([.e (.sl (.i .i64)) l0,.e (.i .i64) depth1]:List X).map X.D) (HA []) (w12r0 (d.1) (d.2.1) (d.2.2)).1.D (HA (w12r0 (d.1) (d.2.1) (d.2.2)).2):=by
 obtain ⟨r,hr,hu⟩:=Option.bind_eq_some_iff.1 hd
 have:=w12does hc hr
 rw [w12uo hu] at this
 exact this
def w12p (N:Nat) (l0:(List Int)) (depth1:Int):Bool:=(w12z N l0 depth1).isSome
def w12y0 (N:Nat) (l0:(List Int)) (depth1:Int):Int:=((w12z N l0 depth1).getD (0,0,[])).1
def w12y1 (N:Nat) (l0:(List Int)) (depth1:Int):Int:=((w12z N l0 depth1).getD (0,0,[])).2.1
def w12y2 (N:Nat) (l0:(List Int)) (depth1:Int):(List Ex):=((w12z N l0 depth1).getD (0,0,[])).2.2
def w12e (N:Nat):Ent':=E2 (.sl (.i .i64)) (.i .i64)  (fun x0 x1=>(w12p N x0 x1,w12r0 (w12y0 N x0 x1) (w12y1 N x0 x1) (w12y2 N x0 x1)))
theorem w12re {N:Nat} {l0:(List Int)} {depth1:Int} {d:Int×Int×(List Ex)} (hd:w12z N l0 depth1=some d):w12r0 (w12y0 N l0 depth1) (w12y1 N l0 depth1) (w12y2 N l0 depth1)=w12r0 (d.1) (d.2.1) (d.2.2):=by unfold w12y0 w12y1 w12y2;rw [hd];rfl
theorem w12ok (N:Nat):EOk Tryd.prog 12 (w12e N):=EOk.e2 (fun x0 x1 h=>by
 have h:(w12z N x0 x1).isSome=true:=h
 obtain ⟨d,hd⟩:=Option.isSome_iff_exists.1 h
 have f:=w12fin (w12cx N) hd
 rw [← w12re hd] at f
 exact f)
abbrev w13T:=Nat×(Int→Int→(List Ex)→Int→Int→Int→Option (Int×Int×(List Ex)))
abbrev w33T:=Nat×(Int→Int→(List Ex)→Option (Int))
abbrev w67T:=Nat×(Int→Int→(List Ex)→Bool→Option (Bool))
abbrev w81T:=Nat×(Int→Option ((List UInt8)))
abbrev w51T:=Nat×((Int→Int→(List Ex)→Option ((List UInt8)))×(Int→Int→(List Ex)→Int→Option ((List UInt8))))
def w18r0 (a0:Bool):Res:=(.e .bo a0,[])
abbrev w18T:=Nat×(Int→Int→(List Ex)→Int→Int→(List Ex)→Option (Bool))
noncomputable def w18L (N:w18T):List (Nat×Ent'):=[(18,E2 .ex .ex  (fun x0 x1=>((N.2 (Ex.op x0) (Ex.num x0) (Ex.kids x0) (Ex.op x1) (Ex.num x1) (Ex.kids x1)).isSome,w18r0 (((N.2 (Ex.op x0) (Ex.num x0) (Ex.kids x0) (Ex.op x1) (Ex.num x1) (Ex.kids x1)).getD false)))))]
noncomputable def w18c (N:w18T):Cx:=⟨Tryd.prog,25,w18L N,[]⟩
noncomputable def w18b:Code:=Tryd.f18.body.getD .skip
theorem w18cx (N:w18T) (hs:EOk Tryd.prog 18 (E2 .ex .ex  (fun x0 x1=>((N.2 (Ex.op x0) (Ex.num x0) (Ex.kids x0) (Ex.op x1) (Ex.num x1) (Ex.kids x1)).isSome,w18r0 (((N.2 (Ex.op x0) (Ex.num x0) (Ex.kids x0) (Ex.op x1) (Ex.num x1) (Ex.kids x1)).getD false)))))):CxOk (w18c N):=ctx_ok (by kernel_rfl) (.cons (by kernel_rfl) hs .nil) .nil
def w18F0 [Alg] (N:w18T)  (self:Int→O) (k0:Bool→O) (k1:Unit→O) (_x0_1 _x0_2:Int) (x0_3:(List Ex)) (_x0_4 _x0_5:Int) (x0_6:(List Ex)) (x0_0:Int):O:=
 br (decide (x0_0 < (↑x0_3.length:Int)))
  (gx x0_3 x0_0 fun y5=>
  gx x0_6 x0_0 fun y6=>
  ck ((N.2 y5.op y5.num y5.kids y6.op y6.num y6.kids).isSome) <|
  br (!(N.2 y5.op y5.num y5.kids y6.op y6.num y6.kids).getD false)
   (k0 false)
   (self (IntKind.i64.wrap (x0_0+(1:Int)))))
  (k1 ())
noncomputable def w18b0:Code:=atC [1,1,0,1,0,0] w18b
def w18m0:Nm:=⟨[2,3,5],[],[]⟩
def w18I0 (x:Int×Int×Int×(List Ex)×Int×Int×(List Ex)):Sg:=⟨[(2,.ref 0 0),(3,.ref 1 0),(5,.e (.i .i64) x.1)],[(0,.box 25 [.e (.i .i64) x.2.1,.e (.i .i64) x.2.2.1,.e (.sl .ex) x.2.2.2.1]),(1,.box 25 [.e (.i .i64) x.2.2.2.2.1,.e (.i .i64) x.2.2.2.2.2.1,.e (.sl .ex) x.2.2.2.2.2.2])],100⟩
def w18u0 (σ:Sg):Int×Int×Int×(List Ex)×Int×Int×(List Ex):=(lvT (.i .i64) 5 0 σ,lvH (.i .i64) 0 0 σ,lvH (.i .i64) 0 1 σ,lvH (.sl .ex) 0 2 σ,lvH (.i .i64) 1 0 σ,lvH (.i .i64) 1 1 σ,lvH (.sl .ex) 1 2 σ)
theorem w18ui0:∀ x,w18u0 (w18I0 x)=x:=fun _=>by kernel_rfl
def w18X0_0 (y:Bool):Exit×Sg:=(.ret,⟨[(4,.e .bo y)],[],100⟩)
def w18v0_0 (_:Exit) (σ:Sg):Bool:=lvT .bo 4 0 σ
def w18X0_1 (_:Unit):Exit×Sg:=((.exit 0),⟨[],[],100⟩)
def w18v0_1 (_:Exit) (_:Sg):Unit:=()
def w18w0:List (Exit×Nm):=[(.ret,⟨[4],[],[]⟩),((.exit 0),⟨[],[],[]⟩)]
theorem w18o0:Outs w18v0_0 w18v0_1 (fun _ _=>()) w18X0_0 w18X0_1 (noX 2) (exC .ret) (exC (.exit 0)) (exC (.goto 2)):=⟨fun _=>by kernel_rfl,fun _=>by kernel_rfl,fun _=>by kernel_rfl,fun _=>by kernel_rfl,fun _=>by kernel_rfl,fun _=>by kernel_rfl,exNe_ok (by kernel_rfl),exNe_ok (by kernel_rfl),exNe_ok (by kernel_rfl)⟩
def w18l0 [Alg] (N:w18T):Nat→(Int×Int×Int×(List Ex)×Int×Int×(List Ex))→((Bool)→O)→((Unit)→O)→((Unit)→O)→O
 | 0,_,_,_,_=>none
 | n+1,x,k0,k1,k2=>w18F0 N  (fun v0=>w18l0 N n (v0,x.2.1,x.2.2.1,x.2.2.2.1,x.2.2.2.2.1,x.2.2.2.2.2.1,x.2.2.2.2.2.2) k0 k1 k2) (fun y0=>k0 y0) (fun (_:Unit)=>k1 ()) x.2.1 x.2.2.1 x.2.2.2.1 x.2.2.2.2.1 x.2.2.2.2.2.1 x.2.2.2.2.2.2 x.1
def w18n0 [Alg] (N:w18T) (a0 a1 a2:Int) (a3:(List Ex)) (a4 a5:Int) (a6:(List Ex)) (k0:Bool→O) (k1:Unit→O):O:=w18l0 N N.1 (a0,a1,a2,a3,a4,a5,a6) (fun y=>k0 y) (fun y=>k1 y) (fun _=>none)
noncomputable def w18s0 [Alg] (N:w18T) (a0 a1 a2:Int) (a3:(List Ex)) (a4 a5:Int) (a6:(List Ex)) (k0:Bool→O) (k1:Unit→O):O:=subL w18I0 w18u0 (w18l0 N N.1) (w18I0 (a0,a1,a2,a3,a4,a5,a6)) (fun y=>k0 y) (fun y=>k1 y) (fun _=>none)
theorem w18e0 [Alg] (N:w18T):w18s0 N=w18n0 N:=funext fun _=>funext fun _=>funext fun _=>funext fun _=>funext fun _=>funext fun _=>funext fun _=>funext fun _=>funext fun _=>subL_I w18ui0 _ _ _ _
noncomputable def w18h0 [Alg] (_:w18T):Hint:=.d
theorem w18hk0 (N:w18T):HintOk (w18c N) Tryd.f18.ntmps (w18h0 N) w18b0:=hk_of _ _ trivial
theorem w18q0 [Alg] (N:w18T) (self:Sg→O) (K:Exit→Sg→O) (x:Int×Int×Int×(List Ex)×Int×Int×(List Ex)):w18F0 N  (fun v0=>self (w18I0 (v0,x.2.1,x.2.2.1,x.2.2.2.1,x.2.2.2.2.1,x.2.2.2.2.2.1,x.2.2.2.2.2.2))) (fun y0=>K (w18X0_0 y0).1 (w18X0_0 y0).2) (fun (_:Unit)=>K (w18X0_1 ()).1 (w18X0_1 ()).2) x.2.1 x.2.2.1 x.2.2.2.1 x.2.2.2.2.1 x.2.2.2.2.2.1 x.2.2.2.2.2.2 x.1=exec (w18c N) Tryd.f18.ntmps (w18h0 N) w18b0 (w18I0 x) (roundX w18m0 w18w0 self K):=by kernel_rfl
theorem w18S0 (N:w18T) (hc:CxOk (w18c N)):SubOk (w18c N) Tryd.f18.ntmps (.loop w18b0) w18X0_0 w18X0_1 (noX 2) (subL w18I0 w18u0 (w18l0 N N.1)):=
 sub_loop hc (w18hk0 N) w18o0 (n:=N.1) (fun x K=>loop_ind (w18l0 N) (fun _ _ _ _=>rfl) (fun n K ih x=>by
  have h:w18F0 N  (fun v0=>w18l0 N n (v0,x.2.1,x.2.2.1,x.2.2.2.1,x.2.2.2.2.1,x.2.2.2.2.2.1,x.2.2.2.2.2.2) (fun y=>K (w18X0_0 y).1 (w18X0_0 y).2) (fun y=>K (w18X0_1 y).1 (w18X0_1 y).2) (fun y=>K ((noX 2) y).1 ((noX 2) y).2)) (fun y0=>K (w18X0_0 y0).1 (w18X0_0 y0).2) (fun (_:Unit)=>K (w18X0_1 ()).1 (w18X0_1 ()).2) x.2.1 x.2.2.1 x.2.2.2.1 x.2.2.2.2.1 x.2.2.2.2.2.1 x.2.2.2.2.2.2 x.1=w18F0 N  (fun v0=>loopX (w18c N) Tryd.f18.ntmps (w18h0 N) w18b0 w18m0 w18w0 n (w18I0 (v0,x.2.1,x.2.2.1,x.2.2.2.1,x.2.2.2.2.1,x.2.2.2.2.2.1,x.2.2.2.2.2.2)) K) (fun y0=>K (w18X0_0 y0).1 (w18X0_0 y0).2) (fun (_:Unit)=>K (w18X0_1 ()).1 (w18X0_1 ()).2) x.2.1 x.2.2.1 x.2.2.2.1 x.2.2.2.2.1 x.2.2.2.2.2.1 x.2.2.2.2.2.2 x.1:=by rw [ show (fun v0=>w18l0 N n (v0,x.2.1,x.2.2.1,x.2.2.2.1,x.2.2.2.2.1,x.2.2.2.2.2.1,x.2.2.2.2.2.2) (fun y=>K (w18X0_0 y).1 (w18X0_0 y).2) (fun y=>K (w18X0_1 y).1 (w18X0_1 y).2) (fun y=>K ((noX 2) y).1 ((noX 2) y).2))=(fun v0=>loopX (w18c N) Tryd.f18.ntmps (w18h0 N) w18b0 w18m0 w18w0 n (w18I0 (v0,x.2.1,x.2.2.1,x.2.2.2.1,x.2.2.2.2.1,x.2.2.2.2.2.1,x.2.2.2.2.2.2)) K) from funext fun _=>ih _]
  exact h.trans (w18q0 N (fun σ=>loopX (w18c N) Tryd.f18.ntmps (w18h0 N) w18b0 w18m0 w18w0 n σ K) K x)) N.1 x K)
def w18G [Alg] (_:w18T) (in0:Int→Int→Int→(List Ex)→Int→Int→(List Ex)→(Bool→O)→(Unit→O)→O) (a0_0 a0_1:Int) (a0_2:(List Ex)) (b1_0 b1_1:Int) (b1_2:(List Ex)):O:=
 br (decide (a0_0≠b1_0)||decide (a0_1≠b1_1)||decide ((↑a0_2.length:Int)≠(↑b1_2.length:Int)))
  (some (w18r0 false))
  (in0 ((0:Int)) a0_0 a0_1 a0_2 b1_0 b1_1 b1_2
   (fun z7=>
    some (w18r0 z7))
   (fun (_:Unit)=>
    some (w18r0 true)))
def w18 [Alg] (N:w18T) (a0_0 a0_1:Int) (a0_2:(List Ex)) (b1_0 b1_1:Int) (b1_2:(List Ex)):O:=w18G N (w18n0 N) a0_0 a0_1 a0_2 b1_0 b1_1 b1_2
noncomputable def w18h [Alg] (N:w18T):Hint:=(.seq .d (.seq .d (.seq (.seq .d (.block (.sub w18m0 _ _ _ w18X0_0 w18X0_1 (noX 2) (subL w18I0 w18u0 (w18l0 N N.1))))) .d)))
theorem w18hk (N:w18T) (hc:CxOk (w18c N)):HintOk (w18c N) Tryd.f18.ntmps (w18h N) w18b:=hk_of _ _ (And.intro trivial (And.intro trivial (And.intro (And.intro trivial (w18S0 N hc)) trivial)))
theorem w18q [Alg] (N:w18T) (a0_0 a0_1:Int) (a0_2:(List Ex)) (b1_0 b1_1:Int) (b1_2:(List Ex)):w18G N (w18s0 N) a0_0 a0_1 a0_2 b1_0 b1_1 b1_2=exec (w18c N) Tryd.f18.ntmps (w18h N) w18b ⟨argT 0 [.agg [.e (.i .i64) a0_0,.e (.i .i64) a0_1,.e (.sl .ex) a0_2],.agg [.e (.i .i64) b1_0,.e (.i .i64) b1_1,.e (.sl .ex) b1_2]],[],100⟩ (finX (w18c N) Tryd.f18 false):=by kernel_rfl
theorem w18does {N:w18T} (hc:CxOk (w18c N)) {a0_0 a0_1:Int} {a0_2:(List Ex)} {b1_0 b1_1:Int} {b1_2:(List Ex)} {r:Res} (h:w18 N a0_0 a0_1 a0_2 b1_0 b1_1 b1_2=some r):DoesR Tryd.prog 18 (([.agg [.e (.i .i64) a0_0,.e (.i .i64) a0_1,.e (.sl .ex) a0_2],.agg [.e (.i .i64) b1_0,.e (.i .i64) b1_1,.e (.sl .ex) b1_2]]:List X).map X.D) (HA []) r:=
 fun_ok hc (f:=18) (fn:=Tryd.f18) (code:=w18b) (by kernel_rfl) (by kernel_rfl) (w18hk N hc) (Nat.le_of_ble_eq_true (by kernel_rfl)) (ow:=false) ((w18q N a0_0 a0_1 a0_2 b1_0 b1_1 b1_2).symm.trans (by rw [w18e0 N];exact h))
def w18un (r:Res):Option (Bool):=match r with
 | (x0,[])=>(match ue .bo x0 with | some a0=>some a0 | _=>none)
 | _=>none
theorem w18uo {r:Res} {d:Bool} (h:w18un r=some d):r=w18r0 (d):=by
 unfold w18un at h
 split at h
 ·split at h
  ·rename_i h0;cases h;rw [ue_some h0];rfl
  ·cases h
 ·cases h
def w18z (N:w18T) (a0_0 a0_1:Int) (a0_2:(List Ex)) (b1_0 b1_1:Int) (b1_2:(List Ex)):Option (Bool):=(w18 N a0_0 a0_1 a0_2 b1_0 b1_1 b1_2).bind w18un
theorem w18fin {N:w18T} (hc:CxOk (w18c N)) {a0_0 a0_1:Int} {a0_2:(List Ex)} {b1_0 b1_1:Int} {b1_2:(List Ex)} {d:Bool} (hd:w18z N a0_0 a0_1 a0_2 b1_0 b1_1 b1_2=some d):Does Tryd.prog 18 (([.agg [.e (.i .i64) a0_0,.e (.i .i64) a0_1,.e (.sl .ex) a0_2],.agg [.e (.i .i64) b1_0,.e (.i .i64) b1_1,.e (.sl .ex) b1_2]]:List X).map X.D) (HA []) (w18r0 (d)).1.D (HA (w18r0 (d)).2):=by
 obtain ⟨r,hr,hu⟩:=Option.bind_eq_some_iff.1 hd
 have:=w18does hc hr
 rw [w18uo hu] at this
 exact this
def w18Y (N:Nat):Nat→Int→Int→(List Ex)→Int→Int→(List Ex)→Option (Bool)
 | 0,_,_,_,_,_,_=>none
 | n+1,a0_0,a0_1,a0_2,b1_0,b1_1,b1_2=>w18z (N,w18Y N n) a0_0 a0_1 a0_2 b1_0 b1_1 b1_2
theorem w18Yok (N:Nat):∀ n,EOk Tryd.prog 18 (E2 .ex .ex  (fun x0 x1=>((w18Y N n (Ex.op x0) (Ex.num x0) (Ex.kids x0) (Ex.op x1) (Ex.num x1) (Ex.kids x1)).isSome,w18r0 (((w18Y N n (Ex.op x0) (Ex.num x0) (Ex.kids x0) (Ex.op x1) (Ex.num x1) (Ex.kids x1)).getD false)))))
 | 0=>EOk.e2 (fun _ _ h=>by cases h)
 | n+1=>EOk.e2 (fun x0 x1 h=>by
   obtain ⟨d,hd⟩:=Option.isSome_iff_exists.1 h
   have hd':w18Y N (n+1) (Ex.op x0) (Ex.num x0) (Ex.kids x0) (Ex.op x1) (Ex.num x1) (Ex.kids x1)=some d:=hd
   have e:w18r0 (((w18Y N (n+1) (Ex.op x0) (Ex.num x0) (Ex.kids x0) (Ex.op x1) (Ex.num x1) (Ex.kids x1)).getD false))=w18r0 (d):=by rw [hd'];rfl
   show Does _ _ _ _ (w18r0 (((w18Y N (n+1) (Ex.op x0) (Ex.num x0) (Ex.kids x0) (Ex.op x1) (Ex.num x1) (Ex.kids x1)).getD false))).1.D (HA (w18r0 (((w18Y N (n+1) (Ex.op x0) (Ex.num x0) (Ex.kids x0) (Ex.op x1) (Ex.num x1) (Ex.kids x1)).getD false))).2)
   rw [e]
   exact w18fin (N:=(N,w18Y N n)) (w18cx (N,w18Y N n) (w18Yok N n)) hd')
def w18p (N:Nat) (a0_0 a0_1:Int) (a0_2:(List Ex)) (b1_0 b1_1:Int) (b1_2:(List Ex)):Bool:=(w18Y N N a0_0 a0_1 a0_2 b1_0 b1_1 b1_2).isSome
def w18y0 (N:Nat) (a0_0 a0_1:Int) (a0_2:(List Ex)) (b1_0 b1_1:Int) (b1_2:(List Ex)):Bool:=((w18Y N N a0_0 a0_1 a0_2 b1_0 b1_1 b1_2).getD false)
def w18e (N:Nat):Ent':=E2 .ex .ex  (fun x0 x1=>(w18p N (Ex.op x0) (Ex.num x0) (Ex.kids x0) (Ex.op x1) (Ex.num x1) (Ex.kids x1),w18r0 (w18y0 N (Ex.op x0) (Ex.num x0) (Ex.kids x0) (Ex.op x1) (Ex.num x1) (Ex.kids x1))))
theorem w18ok (N:Nat):EOk Tryd.prog 18 (w18e N):=w18Yok N N
end
end Go.Proofs
/- What functions do. -/
namespace Go.Proofs
noncomputable section
open Go.Ax Go.Ax.Alg Go.RowKit Go.Ab
open Go
abbrev w65T:=Nat×(Int→Int→(List Ex)→(List Int)→Option (Int×Bool))
def w36r0 (a0:Bool):Res:=(.e .bo a0,[])
noncomputable def w36L (_:Nat):List (Nat×Ent'):=[]
noncomputable def w36c (N:Nat):Cx:=⟨Tryd.prog,25,w36L N,[]⟩
noncomputable def w36b:Code:=Tryd.f36.body.getD .skip
theorem w36cx (N:Nat):CxOk (w36c N):=ctx_ok (by kernel_rfl) .nil .nil
def w36F0 [Alg] (_:Nat)  (self:Int→O) (k0:Bool→O) (k1:Unit→O) (x0_0 x0_1:(List Int)) (x0_2:Int):O:=
 br (decide (x0_2 < (↑x0_0.length:Int)))
  (gx x0_0 x0_2 fun y5=>
  gx x0_1 x0_2 fun y6=>
  br (decide (y5≠y6))
   (k0 false)
   (self (IntKind.i64.wrap (x0_2+(1:Int)))))
  (k1 ())
noncomputable def w36b0:Code:=atC [1,1,0,1,0,0] w36b
def w36m0:Nm:=⟨[0,1,5],[],[]⟩
def w36I0 (x:(List Int)×(List Int)×Int):Sg:=⟨[(0,.e (.sl (.i .i64)) x.1),(1,.e (.sl (.i .i64)) x.2.1),(5,.e (.i .i64) x.2.2)],[],100⟩
def w36u0 (σ:Sg):(List Int)×(List Int)×Int:=(lvT (.sl (.i .i64)) 0 0 σ,lvT (.sl (.i .i64)) 1 0 σ,lvT (.i .i64) 5 0 σ)
theorem w36ui0:∀ x,w36u0 (w36I0 x)=x:=fun _=>by kernel_rfl
def w36X0_0 (y:Bool):Exit×Sg:=(.ret,⟨[(4,.e .bo y)],[],100⟩)
def w36v0_0 (_:Exit) (σ:Sg):Bool:=lvT .bo 4 0 σ
def w36X0_1 (_:Unit):Exit×Sg:=((.exit 0),⟨[],[],100⟩)
def w36v0_1 (_:Exit) (_:Sg):Unit:=()
def w36w0:List (Exit×Nm):=[(.ret,⟨[4],[],[]⟩),((.exit 0),⟨[],[],[]⟩)]
theorem w36o0:Outs w36v0_0 w36v0_1 (fun _ _=>()) w36X0_0 w36X0_1 (noX 2) (exC .ret) (exC (.exit 0)) (exC (.goto 2)):=⟨fun _=>by kernel_rfl,fun _=>by kernel_rfl,fun _=>by kernel_rfl,fun _=>by kernel_rfl,fun _=>by kernel_rfl,fun _=>by kernel_rfl,exNe_ok (by kernel_rfl),exNe_ok (by kernel_rfl),exNe_ok (by kernel_rfl)⟩
def w36l0 [Alg] (N:Nat):Nat→((List Int)×(List Int)×Int)→((Bool)→O)→((Unit)→O)→((Unit)→O)→O
 | 0,_,_,_,_=>none
 | n+1,x,k0,k1,k2=>w36F0 N  (fun v0=>w36l0 N n (x.1,x.2.1,v0) k0 k1 k2) (fun y0=>k0 y0) (fun (_:Unit)=>k1 ()) x.1 x.2.1 x.2.2
def w36n0 [Alg] (N:Nat) (a0 a1:(List Int)) (a2:Int) (k0:Bool→O) (k1:Unit→O):O:=w36l0 N N (a0,a1,a2) (fun y=>k0 y) (fun y=>k1 y) (fun _=>none)
noncomputable def w36s0 [Alg] (N:Nat) (a0 a1:(List Int)) (a2:Int) (k0:Bool→O) (k1:Unit→O):O:=subL w36I0 w36u0 (w36l0 N N) (w36I0 (a0,a1,a2)) (fun y=>k0 y) (fun y=>k1 y) (fun _=>none)
theorem w36e0 [Alg] (N:Nat):w36s0 N=w36n0 N:=funext fun _=>funext fun _=>funext fun _=>funext fun _=>funext fun _=>subL_I w36ui0 _ _ _ _
noncomputable def w36h0 [Alg] (_:Nat):Hint:=.d
theorem w36hk0 (N:Nat):HintOk (w36c N) Tryd.f36.ntmps (w36h0 N) w36b0:=hk_of _ _ trivial
theorem w36q0 [Alg] (N:Nat) (self:Sg→O) (K:Exit→Sg→O) (x:(List Int)×(List Int)×Int):w36F0 N  (fun v0=>self (w36I0 (x.1,x.2.1,v0))) (fun y0=>K (w36X0_0 y0).1 (w36X0_0 y0).2) (fun (_:Unit)=>K (w36X0_1 ()).1 (w36X0_1 ()).2) x.1 x.2.1 x.2.2=exec (w36c N) Tryd.f36.ntmps (w36h0 N) w36b0 (w36I0 x) (roundX w36m0 w36w0 self K):=by kernel_rfl
theorem w36S0 (N:Nat) (hc:CxOk (w36c N)):SubOk (w36c N) Tryd.f36.ntmps (.loop w36b0) w36X0_0 w36X0_1 (noX 2) (subL w36I0 w36u0 (w36l0 N N)):=
 sub_loop hc (w36hk0 N) w36o0 (n:=N) (fun x K=>loop_ind (w36l0 N) (fun _ _ _ _=>rfl) (fun n K ih x=>by
  have h:w36F0 N  (fun v0=>w36l0 N n (x.1,x.2.1,v0) (fun y=>K (w36X0_0 y).1 (w36X0_0 y).2) (fun y=>K (w36X0_1 y).1 (w36X0_1 y).2) (fun y=>K ((noX 2) y).1 ((noX 2) y).2)) (fun y0=>K (w36X0_0 y0).1 (w36X0_0 y0).2) (fun (_:Unit)=>K (w36X0_1 ()).1 (w36X0_1 ()).2) x.1 x.2.1 x.2.2=w36F0 N  (fun v0=>loopX (w36c N) Tryd.f36.ntmps (w36h0 N) w36b0 w36m0 w36w0 n (w36I0 (x.1,x.2.1,v0)) K) (fun y0=>K (w36X0_0 y0).1 (w36X0_0 y0).2) (fun (_:Unit)=>K (w36X0_1 ()).1 (w36X0_1 ()).2) x.1 x.2.1 x.2.2:=by rw [ show (fun v0=>w36l0 N n (x.1,x.2.1,v0) (fun y=>K (w36X0_0 y).1 (w36X0_0 y).2) (fun y=>K (w36X0_1 y).1 (w36X0_1 y).2) (fun y=>K ((noX 2) y).1 ((noX 2) y).2))=(fun v0=>loopX (w36c N) Tryd.f36.ntmps (w36h0 N) w36b0 w36m0 w36w0 n (w36I0 (x.1,x.2.1,v0)) K) from funext fun _=>ih _]
  exact h.trans (w36q0 N (fun σ=>loopX (w36c N) Tryd.f36.ntmps (w36h0 N) w36b0 w36m0 w36w0 n σ K) K x)) N x K)
def w36G [Alg] (_:Nat) (in0:(List Int)→(List Int)→Int→(Bool→O)→(Unit→O)→O) (a0 b1:(List Int)):O:=
 br (decide ((↑a0.length:Int)≠(↑b1.length:Int)))
  (some (w36r0 false))
  (in0 a0 b1 ((0:Int))
   (fun z7=>
    some (w36r0 z7))
   (fun (_:Unit)=>
    some (w36r0 true)))
def w36 [Alg] (N:Nat) (a0 b1:(List Int)):O:=w36G N (w36n0 N) a0 b1
noncomputable def w36h [Alg] (N:Nat):Hint:=(.seq .d (.seq .d (.seq (.seq .d (.block (.sub w36m0 _ _ _ w36X0_0 w36X0_1 (noX 2) (subL w36I0 w36u0 (w36l0 N N))))) .d)))
theorem w36hk (N:Nat) (hc:CxOk (w36c N)):HintOk (w36c N) Tryd.f36.ntmps (w36h N) w36b:=hk_of _ _ (And.intro trivial (And.intro trivial (And.intro (And.intro trivial (w36S0 N hc)) trivial)))
theorem w36q [Alg] (N:Nat) (a0 b1:(List Int)):w36G N (w36s0 N) a0 b1=exec (w36c N) Tryd.f36.ntmps (w36h N) w36b ⟨argT 0 [.e (.sl (.i .i64)) a0,.e (.sl (.i .i64)) b1],[],100⟩ (finX (w36c N) Tryd.f36 false):=by kernel_rfl
theorem w36does {N:Nat} (hc:CxOk (w36c N)) {a0 b1:(List Int)} {r:Res} (h:w36 N a0 b1=some r):DoesR Tryd.prog 36 (([.e (.sl (.i .i64)) a0,.e (.sl (.i .i64)) b1]:List X).map X.D) (HA []) r:=
 fun_ok hc (f:=36) (fn:=Tryd.f36) (code:=w36b) (by kernel_rfl) (by kernel_rfl) (w36hk N hc) (Nat.le_of_ble_eq_true (by kernel_rfl)) (ow:=false) ((w36q N a0 b1).symm.trans (by rw [w36e0 N];exact h))
def w36un (r:Res):Option (Bool):=match r with
 | (x0,[])=>(match ue .bo x0 with | some a0=>some a0 | _=>none)
 | _=>none
theorem w36uo {r:Res} {d:Bool} (h:w36un r=some d):r=w36r0 (d):=by
 unfold w36un at h
 split at h
 ·split at h
  ·rename_i h0;cases h;rw [ue_some h0];rfl
  ·cases h
 ·cases h
def w36z (N:Nat) (a0 b1:(List Int)):Option (Bool):=(w36 N a0 b1).bind w36un
theorem w36fin {N:Nat} (hc:CxOk (w36c N)) {a0 b1:(List Int)} {d:Bool} (hd:w36z N a0 b1=some d):Does Tryd.prog 36 (([.e (.sl (.i .i64)) a0,.e (.sl (.i .i64)) b1]:List X).map X.D) (HA []) (w36r0 (d)).1.D (HA (w36r0 (d)).2):=by
 obtain ⟨r,hr,hu⟩:=Option.bind_eq_some_iff.1 hd
 have:=w36does hc hr
 rw [w36uo hu] at this
 exact this
def w36p (N:Nat) (a0 b1:(List Int)):Bool:=(w36z N a0 b1).isSome
def w36y0 (N:Nat) (a0 b1:(List Int)):Bool:=((w36z N a0 b1).getD false)
def w36e (N:Nat):Ent':=E2 (.sl (.i .i64)) (.sl (.i .i64))  (fun x0 x1=>(w36p N x0 x1,w36r0 (w36y0 N x0 x1)))
theorem w36re {N:Nat} {a0 b1:(List Int)} {d:Bool} (hd:w36z N a0 b1=some d):w36r0 (w36y0 N a0 b1)=w36r0 (d):=by unfold w36y0;rw [hd];rfl
theorem w36ok (N:Nat):EOk Tryd.prog 36 (w36e N):=EOk.e2 (fun x0 x1 h=>by
 have h:(w36z N x0 x1).isSome=true:=h
 obtain ⟨d,hd⟩:=Option.isSome_iff_exists.1 h
 have f:=w36fin (w36cx N) hd
 rw [← w36re hd] at f
 exact f)
abbrev w68T:=Nat×(Int→Int→(List Ex)→Int→Option (Bool))
end
end Go.Proofs
