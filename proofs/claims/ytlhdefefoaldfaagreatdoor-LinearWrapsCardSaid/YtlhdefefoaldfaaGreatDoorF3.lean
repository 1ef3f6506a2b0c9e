/- What functions do: the reference. Conditions are in the theorems. -/
import Derived.Test.YtlhdefefoaldfaaGreatDoorE7
import Derived.Test.YtlhdefefoaldfaaGreatDoorProg
import Derived.KernelRfl
import Derived.Test.YtlhdefefoaldfaaGreatDoorF0
/- What functions do. -/
namespace Go.Proofs
noncomputable section
open Go.Ax Go.Ax.Alg Go.RowKit Go.Ab
open Go
def w23r0 (a0:Int):Res:=(.e (.i .i64) a0,[])
noncomputable def w23L (_:Nat):List (Nat×Ent'):=[]
noncomputable def w23c (N:Nat):Cx:=⟨Tryz.prog,25,w23L N,[]⟩
noncomputable def w23b:Code:=Tryz.f23.body.getD .skip
theorem w23cx (N:Nat):CxOk (w23c N):=ctx_ok (by kernel_rfl) .nil .nil
def w23G [Alg] (_:Nat)  (n0 most1:Int):O:=
 br (decide (n0 < (0:Int)))
  (br (decide (most1 < (1:Int)))
   (some (w23r0 ((0:Int))))
   (ck (decide (most1≠(0:Int))) <|
   some (w23r0 ((IntKind.i64.wrap (-IntKind.i64.wrap (n0+(1:Int)))).tmod most1))))
  (br (decide (most1 < (1:Int)))
   (some (w23r0 ((0:Int))))
   (ck (decide (most1≠(0:Int))) <|
   some (w23r0 (n0.tmod most1))))
def w23 [Alg] (N:Nat) (n0 most1:Int):O:=w23G N  n0 most1
noncomputable def w23h [Alg] (_:Nat):Hint:=.d
theorem w23hk (N:Nat):HintOk (w23c N) Tryz.f23.ntmps (w23h N) w23b:=hk_of _ _ trivial
theorem w23q [Alg] (N:Nat) (n0 most1:Int):w23G N  n0 most1=exec (w23c N) Tryz.f23.ntmps (w23h N) w23b ⟨argT 0 [.e (.i .i64) n0,.e (.i .i64) most1],[],100⟩ (finX (w23c N) Tryz.f23 false):=by kernel_rfl
theorem w23does {N:Nat} (hc:CxOk (w23c N)) {n0 most1:Int} {r:Res} (h:w23 N n0 most1=some r):DoesR Tryz.prog 23 (([.e (.i .i64) n0,.e (.i .i64) most1]:List X).map X.D) (HA []) r:=
 fun_ok hc (f:=23) (fn:=Tryz.f23) (code:=w23b) (by kernel_rfl) (by kernel_rfl) (w23hk N) (Nat.le_of_ble_eq_true (by kernel_rfl)) (ow:=false) ((w23q N n0 most1).symm.trans (by exact h))
def w23un (r:Res):Option (Int):=match r with
 | (x0,[])=>(match ue (.i .i64) x0 with | some a0=>some a0 | _=>none)
 | _=>none
theorem w23uo {r:Res} {d:Int} (h:w23un r=some d):r=w23r0 (d):=by
 unfold w23un at h
 split at h
 ·split at h
  ·rename_i h0;cases h;rw [ue_some h0];rfl
  ·cases h
 ·cases h
def w23z (N:Nat) (n0 most1:Int):Option (Int):=(w23 N n0 most1).bind w23un
theorem w23fin {N:Nat} (hc:CxOk (w23c N)) {n0 most1 d:Int} (hd:w23z N n0 most1=some d):Does Tryz.prog 23 (([.e (.i .i64) n0,.e (.i .i64) most1]:List X).map X.D) (HA []) (w23r0 (d)).1.D (HA (w23r0 (d)).2):=by
 obtain ⟨r,hr,hu⟩:=Option.bind_eq_some_iff.1 hd
 have:=w23does hc hr
 rw [w23uo hu] at this
 exact this
def w23p (N:Nat) (n0 most1:Int):Bool:=(w23z N n0 most1).isSome
def w23y0 (N:Nat) (n0 most1:Int):Int:=((w23z N n0 most1).getD 0)
def w23e (N:Nat):Ent':=E2 (.i .i64) (.i .i64)  (fun x0 x1=>(w23p N x0 x1,w23r0 (w23y0 N x0 x1)))
theorem w23re {N:Nat} {n0 most1 d:Int} (hd:w23z N n0 most1=some d):w23r0 (w23y0 N n0 most1)=w23r0 (d):=by unfold w23y0;rw [hd];rfl
theorem w23ok (N:Nat):EOk Tryz.prog 23 (w23e N):=EOk.e2 (fun x0 x1 h=>by
 have h:(w23z N x0 x1).isSome=true:=h
 obtain ⟨d,hd⟩:=Option.isSome_iff_exists.1 h
 have f:=w23fin (w23cx N) hd
 rw [← w23re hd] at f
 exact f)
def w85r0 (a0:Int):Res:=(.e (.i .i64) a0,[])
noncomputable def w85L (N:Nat):List (Nat×Ent'):=[(23,w23e N)]
noncomputable def w85c (N:Nat):Cx:=⟨Tryz.prog,25,w85L N,[]⟩
noncomputable def w85b:Code:=Tryz.f85.body.getD .skip
theorem w85cx (N:Nat):CxOk (w85c N):=ctx_ok (by kernel_rfl) (.cons (by kernel_rfl) (w23ok N) .nil) .nil
def w85G [Alg] (N:Nat)  (l0:(List Int)) (i1 most2:Int):O:=
 br (decide (i1 < (0:Int))||decide ((↑l0.length:Int)≤i1))
  (some (w85r0 ((0:Int))))
  (gx l0 i1 fun y0=>
  ck (w23p N y0 most2) <|
  some (w85r0 (w23y0 N y0 most2)))
def w85 [Alg] (N:Nat) (l0:(List Int)) (i1 most2:Int):O:=w85G N  l0 i1 most2
noncomputable def w85h [Alg] (_:Nat):Hint:=.d
theorem w85hk (N:Nat):HintOk (w85c N) Tryz.f85.ntmps (w85h N) w85b:=hk_of _ _ trivial
theorem w85q [Alg] (N:Nat) (l0:(List Int)) (i1 most2:Int):w85G N  l0 i1 most2=exec (w85c N) Tryz.f85.ntmps (w85h N) w85b ⟨argT 0 [.e (.sl (.i .i64)) l0,.e (.i .i64) i1,.e (.i .i64) most2],[],100⟩ (finX (w85c N) Tryz.f85 false):=by kernel_rfl
theorem w85does {N:Nat} (hc:CxOk (w85c N)) {l0:(List Int)} {i1 most2:Int} {r:Res} (h:w85 N l0 i1 most2=some r):DoesR Tryz.prog 85 (([.e (.sl (.i .i64)) l0,.e (.i .i64) i1,.e (.i .i64) most2]:List X).map X.D) (HA []) r:=
 fun_ok hc (f:=85) (fn:=Tryz.f85) (code:=w85b) (by kernel_rfl) (by kernel_rfl) (w85hk N) (Nat.le_of_ble_eq_true (by kernel_rfl)) (ow:=false) ((w85q N l0 i1 most2).symm.trans (by exact h))
def w85un (r:Res):Option (Int):=match r with
 | (x0,[])=>(match ue (.i .i64) x0 with | some a0=>some a0 | _=>none)
 | _=>none
theorem w85uo {r:Res} {d:Int} (h:w85un r=some d):r=w85r0 (d):=by
 unfold w85un at h
 split at h
 ·split at h
  ·rename_i h0;cases h;rw [ue_some h0];rfl
  ·cases h
 ·cases h
def w85z (N:Nat) (l0:(List Int)) (i1 most2:Int):Option (Int):=(w85 N l0 i1 most2).bind w85un
theorem w85fin {N:Nat} (hc:CxOk (w85c N)) {l0:(List Int)} {i1 most2 d:Int} (hd:w85z N l0 i1 most2=some d):Does Tryz.prog 85 (([.e (.sl (.i .i64)) l0,.e (.i .i64) i1,.e (.i .i64) most2]:List X).map X.D) (HA []) (w85r0 (d)).1.D (HA (w85r0 (d)).2):=by
 obtain ⟨r,hr,hu⟩:=Option.bind_eq_some_iff.1 hd
 have:=w85does hc hr
 rw [w85uo hu] at this
 exact this
def w85p (N:Nat) (l0:(List Int)) (i1 most2:Int):Bool:=(w85z N l0 i1 most2).isSome
def w85y0 (N:Nat) (l0:(List Int)) (i1 most2:Int):Int:=((w85z N l0 i1 most2).getD 0)
def w85e (N:Nat):Ent':=E3 (.sl (.i .i64)) (.i .i64) (.i .i64)  (fun x0 x1 x2=>(w85p N x0 x1 x2,w85r0 (w85y0 N x0 x1 x2)))
theorem w85re {N:Nat} {l0:(List Int)} {i1 most2 d:Int} (hd:w85z N l0 i1 most2=some d):w85r0 (w85y0 N l0 i1 most2)=w85r0 (d):=by unfold w85y0;rw [hd];rfl
theorem w85ok (N:Nat):EOk Tryz.prog 85 (w85e N):=EOk.e3 (fun x0 x1 x2 h=>by
 have h:(w85z N x0 x1 x2).isSome=true:=h
 obtain ⟨d,hd⟩:=Option.isSome_iff_exists.1 h
 have f:=w85fin (w85cx N) hd
 rw [← w85re hd] at f
 exact f)
def w55r0 (a0:Int) (a1:(List Int)) (a2:Int):Res:=(.e (.i .i64) a0,[(50,.box 77 [.e (.sl (.i .i64)) a1,.e (.i .i64) a2])])
noncomputable def w55L (N:Nat):List (Nat×Ent'):=[(85,w85e N)]
noncomputable def w55c (N:Nat):Cx:=⟨Tryz.prog,25,w55L N,[]⟩
noncomputable def w55b:Code:=Tryz.f55.body.getD .skip
theorem w55cx (N:Nat):CxOk (w55c N):=ctx_ok (by kernel_rfl) (.cons (by kernel_rfl) (w85ok N) .nil) .nil
def w55G [Alg] (N:Nat)  (n1:Int) (g0:(List Int)) (g1:Int):O:=
 ck (w85p N g0 (IntKind.i64.wrap (IntKind.i64.wrap (g1+(1:Int)) - (1:Int))) n1) <|
 some (w55r0 (w85y0 N g0 (IntKind.i64.wrap (IntKind.i64.wrap (g1+(1:Int)) - (1:Int))) n1) g0 (IntKind.i64.wrap (g1+(1:Int))))
def w55 [Alg] (N:Nat) (n1:Int) (g0:(List Int)) (g1:Int):O:=w55G N  n1 g0 g1
noncomputable def w55h [Alg] (_:Nat):Hint:=.d
theorem w55hk (N:Nat):HintOk (w55c N) Tryz.f55.ntmps (w55h N) w55b:=hk_of _ _ trivial
theorem w55q [Alg] (N:Nat) (n1:Int) (g0:(List Int)) (g1:Int):w55G N  n1 g0 g1=exec (w55c N) Tryz.f55.ntmps (w55h N) w55b ⟨argT 0 [.ref 50 0,.e (.i .i64) n1],[(50,.box 77 [.e (.sl (.i .i64)) g0,.e (.i .i64) g1])],100⟩ (finX (w55c N) Tryz.f55 false):=by kernel_rfl
theorem w55does {N:Nat} (hc:CxOk (w55c N)) {n1:Int} {g0:(List Int)} {g1:Int} {r:Res} (h:w55 N n1 g0 g1=some r):DoesR Tryz.prog 55 (([.ref 50 0,.e (.i .i64) n1]:List X).map X.D) (HA [(50,.box 77 [.e (.sl (.i .i64)) g0,.e (.i .i64) g1])]) r:=
 fun_ok hc (f:=55) (fn:=Tryz.f55) (code:=w55b) (by kernel_rfl) (by kernel_rfl) (w55hk N) (Nat.le_of_ble_eq_true (by kernel_rfl)) (ow:=false) ((w55q N n1 g0 g1).symm.trans (by exact h))
def w55un (r:Res):Option (Int×(List Int)×Int):=match r with
 | (x0,[(50,.box 77 [x1,x2])])=>(match ue (.i .i64) x0,ue (.sl (.i .i64)) x1,ue (.i .i64) x2 with | some a0,some a1,some a2=>some (a0,a1,a2) | _,_,_=>none)
 | _=>none
theorem w55uo {r:Res} {d:Int×(List Int)×Int} (h:w55un r=some d):r=w55r0 (d.1) (d.2.1) (d.2.2):=by
 unfold w55un at h
 split at h
 ·split at h
  ·rename_i h0 h1 h2;cases h;rw [ue_some h0,ue_some h1,ue_some h2];rfl
  ·cases h
 ·cases h
def w55z (N:Nat) (n1:Int) (g0:(List Int)) (g1:Int):Option (Int×(List Int)×Int):=(w55 N n1 g0 g1).bind w55un
theorem w55fin {N:Nat} (hc:CxOk (w55c N)) {n1:Int} {g0:(List Int)} {g1:Int} {d:Int×(List Int)×Int} (hd:w55z N n1 g0 g1=some d):Does Tryz.prog 55 (([.ref 50 0,.e (.i .i64) n1]:List X).map X.D) (HA [(50,.box 77 [.e (.sl (.i .i64)) g0,.e (.i .i64) g1])]) (w55r0 (d.1) (d.2.1) (d.2.2)).1.D (HA (w55r0 (d.1) (d.2.1) (d.2.2)).2):=by
 obtain ⟨r,hr,hu⟩:=Option.bind_eq_some_iff.1 hd
 have:=w55does hc hr
 rw [w55uo hu] at this
 exact this
def w55p (N:Nat) (n1:Int) (g0:(List Int)) (g1:Int):Bool:=(w55z N n1 g0 g1).isSome
def w55y0 (N:Nat) (n1:Int) (g0:(List Int)) (g1:Int):Int:=((w55z N n1 g0 g1).getD (0,[],0)).1
def w55y1 (N:Nat) (n1:Int) (g0:(List Int)) (g1:Int):(List Int):=((w55z N n1 g0 g1).getD (0,[],0)).2.1
def w55y2 (N:Nat) (n1:Int) (g0:(List Int)) (g1:Int):Int:=((w55z N n1 g0 g1).getD (0,[],0)).2.2
def w55in (xs:List X) (H:XH):Option (Int×(List Int)×Int):=match xs,H with
 | [.ref 50 0,x0],[(50,.box 77 [x1,x2])]=>(match ue (.i .i64) x0,ue (.sl (.i .i64)) x1,ue (.i .i64) x2 with | some a0,some a1,some a2=>some (a0,a1,a2) | _,_,_=>none)
 | _,_=>none
theorem w55io {xs:List X} {H:XH} {d:Int×(List Int)×Int} (h:w55in xs H=some d):xs=[.ref 50 0,.e (.i .i64) (d.1)]∧H=[(50,.box 77 [.e (.sl (.i .i64)) (d.2.1),.e (.i .i64) (d.2.2)])]:=by
 unfold w55in at h
 split at h
 ·split at h
  ·rename_i h0 h1 h2;cases h;rw [ue_some h0,ue_some h1,ue_some h2];exact ⟨rfl,rfl⟩
  ·cases h
 ·cases h
def w55e (N:Nat):Ent':=fun xs H=>match w55in xs H with | some d=>some (w55p N (d.1) (d.2.1) (d.2.2),w55r0 (w55y0 N (d.1) (d.2.1) (d.2.2)) (w55y1 N (d.1) (d.2.1) (d.2.2)) (w55y2 N (d.1) (d.2.1) (d.2.2))) | none=>none
theorem w55re {N:Nat} {n1:Int} {g0:(List Int)} {g1:Int} {d:Int×(List Int)×Int} (hd:w55z N n1 g0 g1=some d):w55r0 (w55y0 N n1 g0 g1) (w55y1 N n1 g0 g1) (w55y2 N n1 g0 g1)=w55r0 (d.1) (d.2.1) (d.2.2):=by unfold w55y0 w55y1 w55y2;rw [hd];rfl
theorem w55ok (N:Nat):EOk Tryz.prog 55 (w55e N):=fun xs H pre r he hp=>by
 unfold w55e at he
 split at he
 ·rename_i d hd
  have he:=Option.some.inj he
  have h1:=congrArg Prod.fst he
  have h2:=congrArg Prod.snd he
  simp only at h1 h2
  obtain ⟨e1,e2⟩:=w55io hd
  rw [e1,e2,← h2]
  have h:(w55z N (d.1) (d.2.1) (d.2.2)).isSome=true:=h1.trans hp
  obtain ⟨d',hd'⟩:=Option.isSome_iff_exists.1 h
  have f:=w55fin (w55cx N) hd'
  rw [← w55re hd'] at f
  exact f
 ·cases he
def w56r0 (a0 a1:Int) (a2:(List Ex)) (a3:(List Int)) (a4:Int):Res:=(.agg [.e (.i .i64) a0,.e (.i .i64) a1,.e (.sl .ex) a2],[(50,.box 77 [.e (.sl (.i .i64)) a3,.e (.i .i64) a4])])
def w56in (xs:List X) (H:XH):Option (Int×(List Int)×Int):=match xs,H with
 | [.ref 50 0,x0],[(50,.box 77 [x1,x2])]=>(match ue (.i .i64) x0,ue (.sl (.i .i64)) x1,ue (.i .i64) x2 with | some a0,some a1,some a2=>some (a0,a1,a2) | _,_,_=>none)
 | _,_=>none
theorem w56io {xs:List X} {H:XH} {d:Int×(List Int)×Int} (h:w56in xs H=some d):xs=[.ref 50 0,.e (.i .i64) (d.1)]∧H=[(50,.box 77 [.e (.sl (.i .i64)) (d.2.1),.e (.i .i64) (d.2.2)])]:=by
 unfold w56in at h
 split at h
 ·split at h
  ·rename_i h0 h1 h2;cases h;rw [ue_some h0,ue_some h1,ue_some h2];exact ⟨rfl,rfl⟩
  ·cases h
 ·cases h
abbrev w56T:=Nat×((Int→(List Int)→Int→Option (Int×Int×(List Ex)×(List Int)×Int)))
def w56E (N:w56T):Ent':=entR w56in (fun d=>(N.2 (d.1) (d.2.1) (d.2.2)).isSome) (fun d=>w56r0 (((N.2 (d.1) (d.2.1) (d.2.2)).getD (0,0,[],[],0)).1) (((N.2 (d.1) (d.2.1) (d.2.2)).getD (0,0,[],[],0)).2.1) (((N.2 (d.1) (d.2.1) (d.2.2)).getD (0,0,[],[],0)).2.2.1) (((N.2 (d.1) (d.2.1) (d.2.2)).getD (0,0,[],[],0)).2.2.2.1) (((N.2 (d.1) (d.2.1) (d.2.2)).getD (0,0,[],[],0)).2.2.2.2))
noncomputable def w56L (N:w56T):List (Nat×Ent'):=[(56,w56E N),(55,w55e N.1)]
noncomputable def w56c (N:w56T):Cx:=⟨Tryz.prog,25,w56L N,[]⟩
noncomputable def w56b:Code:=Tryz.f56.body.getD .skip
theorem w56cx (N:w56T) (hw49:EOk Tryz.prog 56 (w56E N)):CxOk (w56c N):=ctx_ok (by kernel_rfl) (.cons (by kernel_rfl) hw49 (.cons (by kernel_rfl) (w55ok N.1) .nil)) .nil
def w56F0 [Alg] (_:w56T)   (k0:Int→Int→(List Int)→Int→Int→Int→O) (x0_0 x0_1:Int) (x0_2:(List Int)) (x0_3 x0_4 x0_5:Int):O:=
 br (decide (x0_0≤(1:Int))||decide ((↑x0_2.length:Int) < x0_3))
  (ck true <|
  k0 x0_0 (x0_1.tmod (4:Int)) x0_2 x0_3 x0_4 x0_5)
  (k0 x0_0 x0_1 x0_2 x0_3 x0_4 x0_5)
noncomputable def w56b0:Code:=atC [1,1,0] w56b
def w56m0:Nm:=⟨[0,1,4,5],[],[]⟩
def w56I0 (x:Int×Int×(List Int)×Int×Int×Int):Sg:=⟨[(0,.ref 50 0),(1,.e (.i .i64) x.1),(4,.ref 0 0),(5,.e (.i .i64) x.2.1)],[(50,.box 77 [.e (.sl (.i .i64)) x.2.2.1,.e (.i .i64) x.2.2.2.1]),(0,.box 25 [.e (.i .i64) x.2.2.2.2.1,.e (.i .i64) x.2.2.2.2.2,.nilS])],100⟩
def w56u0 (σ:Sg):Int×Int×(List Int)×Int×Int×Int:=(lvT (.i .i64) 1 0 σ,lvT (.i .i64) 5 0 σ,lvH (.sl (.i .i64)) 50 0 σ,lvH (.i .i64) 50 1 σ,lvH (.i .i64) 0 0 σ,lvH (.i .i64) 0 1 σ)
theorem w56ui0:∀ x,w56u0 (w56I0 x)=x:=fun _=>by kernel_rfl
def w56X0_0 (y:Int×Int×(List Int)×Int×Int×Int):Exit×Sg:=(.normal,⟨[(0,.ref 50 0),(1,.e (.i .i64) y.1),(4,.ref 0 0),(5,.e (.i .i64) y.2.1)],[(50,.box 77 [.e (.sl (.i .i64)) y.2.2.1,.e (.i .i64) y.2.2.2.1]),(0,.box 25 [.e (.i .i64) y.2.2.2.2.1,.e (.i .i64) y.2.2.2.2.2,.nilS])],100⟩)
def w56v0_0 (_:Exit) (σ:Sg):Int×Int×(List Int)×Int×Int×Int:=(lvT (.i .i64) 1 0 σ,lvT (.i .i64) 5 0 σ,lvH (.sl (.i .i64)) 50 0 σ,lvH (.i .i64) 50 1 σ,lvH (.i .i64) 0 0 σ,lvH (.i .i64) 0 1 σ)
def w56w0:List (Exit×Nm):=[(.normal,⟨[0,1,4,5],[],[]⟩)]
theorem w56o0:Outs w56v0_0 (fun _ _=>()) (fun _ _=>()) w56X0_0 (noX 1) (noX 2) (exC .normal) (exC (.goto 1)) (exC (.goto 2)):=⟨fun _=>by kernel_rfl,fun _=>by kernel_rfl,fun _=>by kernel_rfl,fun _=>by kernel_rfl,fun _=>by kernel_rfl,fun _=>by kernel_rfl,exNe_ok (by kernel_rfl),exNe_ok (by kernel_rfl),exNe_ok (by kernel_rfl)⟩
def w56l0 [Alg] (N:w56T) (_:Nat) (x:Int×Int×(List Int)×Int×Int×Int) (k0:(Int×Int×(List Int)×Int×Int×Int)→O) (_:(Unit)→O) (_:(Unit)→O):O:=w56F0 N   (fun y0 y1 y2 y3 y4 y5=>k0 (y0,y1,y2,y3,y4,y5)) x.1 x.2.1 x.2.2.1 x.2.2.2.1 x.2.2.2.2.1 x.2.2.2.2.2
def w56n0 [Alg] (N:w56T) (a0 a1:Int) (a2:(List Int)) (a3 a4 a5:Int) (k0:Int→Int→(List Int)→Int→Int→Int→O):O:=w56l0 N N.1 (a0,a1,a2,a3,a4,a5) (fun y=>k0 y.1 y.2.1 y.2.2.1 y.2.2.2.1 y.2.2.2.2.1 y.2.2.2.2.2) (fun _=>none) (fun _=>none)
noncomputable def w56s0 [Alg] (N:w56T) (a0 a1:Int) (a2:(List Int)) (a3 a4 a5:Int) (k0:Int→Int→(List Int)→Int→Int→Int→O):O:=subL w56I0 w56u0 (w56l0 N N.1) (w56I0 (a0,a1,a2,a3,a4,a5)) (fun y=>k0 y.1 y.2.1 y.2.2.1 y.2.2.2.1 y.2.2.2.2.1 y.2.2.2.2.2) (fun _=>none) (fun _=>none)
theorem w56e0 [Alg] (N:w56T):w56s0 N=w56n0 N:=funext fun _=>funext fun _=>funext fun _=>funext fun _=>funext fun _=>funext fun _=>funext fun _=>subL_I w56ui0 _ _ _ _
noncomputable def w56h0 [Alg] (_:w56T):Hint:=.d
theorem w56hk0 (N:w56T):HintOk (w56c N) Tryz.f56.ntmps (w56h0 N) w56b0:=hk_of _ _ trivial
theorem w56q0 [Alg] (N:w56T) (K:Exit→Sg→O) (x:Int×Int×(List Int)×Int×Int×Int):w56F0 N   (fun y0 y1 y2 y3 y4 y5=>K (w56X0_0 (y0,y1,y2,y3,y4,y5)).1 (w56X0_0 (y0,y1,y2,y3,y4,y5)).2) x.1 x.2.1 x.2.2.1 x.2.2.2.1 x.2.2.2.2.1 x.2.2.2.2.2=exec (w56c N) Tryz.f56.ntmps (w56h0 N) w56b0 (w56I0 x) (partX w56w0 K):=by kernel_rfl
theorem w56S0 (N:w56T) (hc:CxOk (w56c N)):SubOk (w56c N) Tryz.f56.ntmps w56b0 w56X0_0 (noX 1) (noX 2) (subL w56I0 w56u0 (w56l0 N N.1)):=
 sub_part hc (w56hk0 N) w56o0 (fun x K=>by
  have h:w56F0 N   (fun y0 y1 y2 y3 y4 y5=>K (w56X0_0 (y0,y1,y2,y3,y4,y5)).1 (w56X0_0 (y0,y1,y2,y3,y4,y5)).2) x.1 x.2.1 x.2.2.1 x.2.2.2.1 x.2.2.2.2.1 x.2.2.2.2.2=w56F0 N   (fun y0 y1 y2 y3 y4 y5=>K (w56X0_0 (y0,y1,y2,y3,y4,y5)).1 (w56X0_0 (y0,y1,y2,y3,y4,y5)).2) x.1 x.2.1 x.2.2.1 x.2.2.2.1 x.2.2.2.2.1 x.2.2.2.2.2:=by rfl
  exact h.trans (w56q0 N K x))
def w56F1 [Alg] (_:w56T)   (k0:Int→Int→Int→Bool→(List Int)→Int→Int→Int→O) (x74_0 x74_1 x74_2:Int) (x74_3:(List Int)) (x74_4 x74_5 x74_6:Int):O:=
 br (decide (x74_2=(0:Int)))
  (k0 x74_0 x74_1 x74_2 (decide (x74_2=(0:Int))) x74_3 x74_4 x74_5 x74_6)
  (k0 x74_0 x74_1 x74_2 (decide (x74_2=(1:Int))) x74_3 x74_4 x74_5 x74_6)
noncomputable def w56b1:Code:=atC [1,1,1,0,1,0,0] w56b
def w56m1:Nm:=⟨[0,1,4,5,27],[],[]⟩
def w56I1 (x:Int×Int×Int×(List Int)×Int×Int×Int):Sg:=⟨[(0,.ref 50 0),(1,.e (.i .i64) x.1),(4,.ref 0 0),(5,.e (.i .i64) x.2.1),(27,.e (.i .i64) x.2.2.1)],[(50,.box 77 [.e (.sl (.i .i64)) x.2.2.2.1,.e (.i .i64) x.2.2.2.2.1]),(0,.box 25 [.e (.i .i64) x.2.2.2.2.2.1,.e (.i .i64) x.2.2.2.2.2.2,.nilS])],100⟩
def w56u1 (σ:Sg):Int×Int×Int×(List Int)×Int×Int×Int:=(lvT (.i .i64) 1 0 σ,lvT (.i .i64) 5 0 σ,lvT (.i .i64) 27 0 σ,lvH (.sl (.i .i64)) 50 0 σ,lvH (.i .i64) 50 1 σ,lvH (.i .i64) 0 0 σ,lvH (.i .i64) 0 1 σ)
theorem w56ui1:∀ x,w56u1 (w56I1 x)=x:=fun _=>by kernel_rfl
def w56X1_0 (y:Int×Int×Int×Bool×(List Int)×Int×Int×Int):Exit×Sg:=(.normal,⟨[(0,.ref 50 0),(1,.e (.i .i64) y.1),(4,.ref 0 0),(5,.e (.i .i64) y.2.1),(27,.e (.i .i64) y.2.2.1),(28,.e .bo y.2.2.2.1)],[(50,.box 77 [.e (.sl (.i .i64)) y.2.2.2.2.1,.e (.i .i64) y.2.2.2.2.2.1]),(0,.box 25 [.e (.i .i64) y.2.2.2.2.2.2.1,.e (.i .i64) y.2.2.2.2.2.2.2,.nilS])],100⟩)
def w56v1_0 (_:Exit) (σ:Sg):Int×Int×Int×Bool×(List Int)×Int×Int×Int:=(lvT (.i .i64) 1 0 σ,lvT (.i .i64) 5 0 σ,lvT (.i .i64) 27 0 σ,lvT .bo 28 0 σ,lvH (.sl (.i .i64)) 50 0 σ,lvH (.i .i64) 50 1 σ,lvH (.i .i64) 0 0 σ,lvH (.i .i64) 0 1 σ)
def w56w1:List (Exit×Nm):=[(.normal,⟨[0,1,4,5,27,28],[],[]⟩)]
theorem w56o1:Outs w56v1_0 (fun _ _=>()) (fun _ _=>()) w56X1_0 (noX 1) (noX 2) (exC .normal) (exC (.goto 1)) (exC (.goto 2)):=⟨fun _=>by kernel_rfl,fun _=>by kernel_rfl,fun _=>by kernel_rfl,fun _=>by kernel_rfl,fun _=>by kernel_rfl,fun _=>by kernel_rfl,exNe_ok (by kernel_rfl),exNe_ok (by kernel_rfl),exNe_ok (by kernel_rfl)⟩
def w56l1 [Alg] (N:w56T) (_:Nat) (x:Int×Int×Int×(List Int)×Int×Int×Int) (k0:(Int×Int×Int×Bool×(List Int)×Int×Int×Int)→O) (_:(Unit)→O) (_:(Unit)→O):O:=w56F1 N   (fun y0 y1 y2 y3 y4 y5 y6 y7=>k0 (y0,y1,y2,y3,y4,y5,y6,y7)) x.1 x.2.1 x.2.2.1 x.2.2.2.1 x.2.2.2.2.1 x.2.2.2.2.2.1 x.2.2.2.2.2.2
def w56n1 [Alg] (N:w56T) (a0 a1 a2:Int) (a3:(List Int)) (a4 a5 a6:Int) (k0:Int→Int→Int→Bool→(List Int)→Int→Int→Int→O):O:=w56l1 N N.1 (a0,a1,a2,a3,a4,a5,a6) (fun y=>k0 y.1 y.2.1 y.2.2.1 y.2.2.2.1 y.2.2.2.2.1 y.2.2.2.2.2.1 y.2.2.2.2.2.2.1 y.2.2.2.2.2.2.2) (fun _=>none) (fun _=>none)
noncomputable def w56s1 [Alg] (N:w56T) (a0 a1 a2:Int) (a3:(List Int)) (a4 a5 a6:Int) (k0:Int→Int→Int→Bool→(List Int)→Int→Int→Int→O):O:=subL w56I1 w56u1 (w56l1 N N.1) (w56I1 (a0,a1,a2,a3,a4,a5,a6)) (fun y=>k0 y.1 y.2.1 y.2.2.1 y.2.2.2.1 y.2.2.2.2.1 y.2.2.2.2.2.1 y.2.2.2.2.2.2.1 y.2.2.2.2.2.2.2) (fun _=>none) (fun _=>none)
theorem w56e1 [Alg] (N:w56T):w56s1 N=w56n1 N:=funext fun _=>funext fun _=>funext fun _=>funext fun _=>funext fun _=>funext fun _=>funext fun _=>funext fun _=>subL_I w56ui1 _ _ _ _
noncomputable def w56h1 [Alg] (_:w56T):Hint:=.d
theorem w56hk1 (N:w56T):HintOk (w56c N) Tryz.f56.ntmps (w56h1 N) w56b1:=hk_of _ _ trivial
theorem w56q1 [Alg] (N:w56T) (K:Exit→Sg→O) (x:Int×Int×Int×(List Int)×Int×Int×Int):w56F1 N   (fun y0 y1 y2 y3 y4 y5 y6 y7=>K (w56X1_0 (y0,y1,y2,y3,y4,y5,y6,y7)).1 (w56X1_0 (y0,y1,y2,y3,y4,y5,y6,y7)).2) x.1 x.2.1 x.2.2.1 x.2.2.2.1 x.2.2.2.2.1 x.2.2.2.2.2.1 x.2.2.2.2.2.2=exec (w56c N) Tryz.f56.ntmps (w56h1 N) w56b1 (w56I1 x) (partX w56w1 K):=by kernel_rfl
theorem w56S1 (N:w56T) (hc:CxOk (w56c N)):SubOk (w56c N) Tryz.f56.ntmps w56b1 w56X1_0 (noX 1) (noX 2) (subL w56I1 w56u1 (w56l1 N N.1)):=
 sub_part hc (w56hk1 N) w56o1 (fun x K=>by
  have h:w56F1 N   (fun y0 y1 y2 y3 y4 y5 y6 y7=>K (w56X1_0 (y0,y1,y2,y3,y4,y5,y6,y7)).1 (w56X1_0 (y0,y1,y2,y3,y4,y5,y6,y7)).2) x.1 x.2.1 x.2.2.1 x.2.2.2.1 x.2.2.2.2.1 x.2.2.2.2.2.1 x.2.2.2.2.2.2=w56F1 N   (fun y0 y1 y2 y3 y4 y5 y6 y7=>K (w56X1_0 (y0,y1,y2,y3,y4,y5,y6,y7)).1 (w56X1_0 (y0,y1,y2,y3,y4,y5,y6,y7)).2) x.1 x.2.1 x.2.2.1 x.2.2.2.1 x.2.2.2.2.1 x.2.2.2.2.2.1 x.2.2.2.2.2.2:=by rfl
  exact h.trans (w56q1 N K x))
def w56F2 [Alg] (_:w56T)   (k0:Int→Int→Int→Bool→(List Int)→Int→Int→Int→O) (x84_0 x84_1 x84_2:Int) (x84_3:(List Int)) (x84_4 x84_5 x84_6:Int):O:=
 br (decide (x84_2=(2:Int)))
  (k0 x84_0 x84_1 x84_2 (decide (x84_2=(2:Int))) x84_3 x84_4 x84_5 x84_6)
  (k0 x84_0 x84_1 x84_2 (decide (x84_2=(3:Int))) x84_3 x84_4 x84_5 x84_6)
noncomputable def w56b2:Code:=atC [1,1,1,0,1,0,1,1,0] w56b
def w56m2:Nm:=⟨[0,1,4,5,27],[],[]⟩
def w56I2 (x:Int×Int×Int×(List Int)×Int×Int×Int):Sg:=⟨[(0,.ref 50 0),(1,.e (.i .i64) x.1),(4,.ref 0 0),(5,.e (.i .i64) x.2.1),(27,.e (.i .i64) x.2.2.1)],[(50,.box 77 [.e (.sl (.i .i64)) x.2.2.2.1,.e (.i .i64) x.2.2.2.2.1]),(0,.box 25 [.e (.i .i64) x.2.2.2.2.2.1,.e (.i .i64) x.2.2.2.2.2.2,.nilS])],100⟩
def w56u2 (σ:Sg):Int×Int×Int×(List Int)×Int×Int×Int:=(lvT (.i .i64) 1 0 σ,lvT (.i .i64) 5 0 σ,lvT (.i .i64) 27 0 σ,lvH (.sl (.i .i64)) 50 0 σ,lvH (.i .i64) 50 1 σ,lvH (.i .i64) 0 0 σ,lvH (.i .i64) 0 1 σ)
theorem w56ui2:∀ x,w56u2 (w56I2 x)=x:=fun _=>by kernel_rfl
def w56X2_0 (y:Int×Int×Int×Bool×(List Int)×Int×Int×Int):Exit×Sg:=(.normal,⟨[(0,.ref 50 0),(1,.e (.i .i64) y.1),(4,.ref 0 0),(5,.e (.i .i64) y.2.1),(27,.e (.i .i64) y.2.2.1),(37,.e .bo y.2.2.2.1)],[(50,.box 77 [.e (.sl (.i .i64)) y.2.2.2.2.1,.e (.i .i64) y.2.2.2.2.2.1]),(0,.box 25 [.e (.i .i64) y.2.2.2.2.2.2.1,.e (.i .i64) y.2.2.2.2.2.2.2,.nilS])],100⟩)
def w56v2_0 (_:Exit) (σ:Sg):Int×Int×Int×Bool×(List Int)×Int×Int×Int:=(lvT (.i .i64) 1 0 σ,lvT (.i .i64) 5 0 σ,lvT (.i .i64) 27 0 σ,lvT .bo 37 0 σ,lvH (.sl (.i .i64)) 50 0 σ,lvH (.i .i64) 50 1 σ,lvH (.i .i64) 0 0 σ,lvH (.i .i64) 0 1 σ)
def w56w2:List (Exit×Nm):=[(.normal,⟨[0,1,4,5,27,37],[],[]⟩)]
theorem w56o2:Outs w56v2_0 (fun _ _=>()) (fun _ _=>()) w56X2_0 (noX 1) (noX 2) (exC .normal) (exC (.goto 1)) (exC (.goto 2)):=⟨fun _=>by kernel_rfl,fun _=>by kernel_rfl,fun _=>by kernel_rfl,fun _=>by kernel_rfl,fun _=>by kernel_rfl,fun _=>by kernel_rfl,exNe_ok (by kernel_rfl),exNe_ok (by kernel_rfl),exNe_ok (by kernel_rfl)⟩
def w56l2 [Alg] (N:w56T) (_:Nat) (x:Int×Int×Int×(List Int)×Int×Int×Int) (k0:(Int×Int×Int×Bool×(List Int)×Int×Int×Int)→O) (_:(Unit)→O) (_:(Unit)→O):O:=w56F2 N   (fun y0 y1 y2 y3 y4 y5 y6 y7=>k0 (y0,y1,y2,y3,y4,y5,y6,y7)) x.1 x.2.1 x.2.2.1 x.2.2.2.1 x.2.2.2.2.1 x.2.2.2.2.2.1 x.2.2.2.2.2.2
def w56n2 [Alg] (N:w56T) (a0 a1 a2:Int) (a3:(List Int)) (a4 a5 a6:Int) (k0:Int→Int→Int→Bool→(List Int)→Int→Int→Int→O):O:=w56l2 N N.1 (a0,a1,a2,a3,a4,a5,a6) (fun y=>k0 y.1 y.2.1 y.2.2.1 y.2.2.2.1 y.2.2.2.2.1 y.2.2.2.2.2.1 y.2.2.2.2.2.2.1 y.2.2.2.2.2.2.2) (fun _=>none) (fun _=>none)
noncomputable def w56s2 [Alg] (N:w56T) (a0 a1 a2:Int) (a3:(List Int)) (a4 a5 a6:Int) (k0:Int→Int→Int→Bool→(List Int)→Int→Int→Int→O):O:=subL w56I2 w56u2 (w56l2 N N.1) (w56I2 (a0,a1,a2,a3,a4,a5,a6)) (fun y=>k0 y.1 y.2.1 y.2.2.1 y.2.2.2.1 y.2.2.2.2.1 y.2.2.2.2.2.1 y.2.2.2.2.2.2.1 y.2.2.2.2.2.2.2) (fun _=>none) (fun _=>none)
theorem w56e2 [Alg] (N:w56T):w56s2 N=w56n2 N:=funext fun _=>funext fun _=>funext fun _=>funext fun _=>funext fun _=>funext fun _=>funext fun _=>funext fun _=>subL_I w56ui2 _ _ _ _
noncomputable def w56h2 [Alg] (_:w56T):Hint:=.d
theorem w56hk2 (N:w56T):HintOk (w56c N) Tryz.f56.ntmps (w56h2 N) w56b2:=hk_of _ _ trivial
theorem w56q2 [Alg] (N:w56T) (K:Exit→Sg→O) (x:Int×Int×Int×(List Int)×Int×Int×Int):w56F2 N   (fun y0 y1 y2 y3 y4 y5 y6 y7=>K (w56X2_0 (y0,y1,y2,y3,y4,y5,y6,y7)).1 (w56X2_0 (y0,y1,y2,y3,y4,y5,y6,y7)).2) x.1 x.2.1 x.2.2.1 x.2.2.2.1 x.2.2.2.2.1 x.2.2.2.2.2.1 x.2.2.2.2.2.2=exec (w56c N) Tryz.f56.ntmps (w56h2 N) w56b2 (w56I2 x) (partX w56w2 K):=by kernel_rfl
theorem w56S2 (N:w56T) (hc:CxOk (w56c N)):SubOk (w56c N) Tryz.f56.ntmps w56b2 w56X2_0 (noX 1) (noX 2) (subL w56I2 w56u2 (w56l2 N N.1)):=
 sub_part hc (w56hk2 N) w56o2 (fun x K=>by
  have h:w56F2 N   (fun y0 y1 y2 y3 y4 y5 y6 y7=>K (w56X2_0 (y0,y1,y2,y3,y4,y5,y6,y7)).1 (w56X2_0 (y0,y1,y2,y3,y4,y5,y6,y7)).2) x.1 x.2.1 x.2.2.1 x.2.2.2.1 x.2.2.2.2.1 x.2.2.2.2.2.1 x.2.2.2.2.2.2=w56F2 N   (fun y0 y1 y2 y3 y4 y5 y6 y7=>K (w56X2_0 (y0,y1,y2,y3,y4,y5,y6,y7)).1 (w56X2_0 (y0,y1,y2,y3,y4,y5,y6,y7)).2) x.1 x.2.1 x.2.2.1 x.2.2.2.1 x.2.2.2.2.1 x.2.2.2.2.2.1 x.2.2.2.2.2.2:=by rfl
  exact h.trans (w56q2 N K x))
def w56F3 [Alg] (N:w56T) (in1:Int→Int→Int→(List Int)→Int→Int→Int→(Int→Int→Int→Bool→(List Int)→Int→Int→Int→O)→O) (in2:Int→Int→Int→(List Int)→Int→Int→Int→(Int→Int→Int→Bool→(List Int)→Int→Int→Int→O)→O)  (k0:(List Int)→Int→Int→Int→(List Ex)→O) (k1:Int→Int→(List Int)→Int→Int→Int→O) (x7_0 x7_1:Int) (x7_2:(List Int)) (x7_3 x7_4 x7_5:Int):O:=
 in1 x7_0 x7_1 x7_1 x7_2 x7_3 x7_4 x7_5
  (fun z75 z76 z77 z78 z79 z80 z81 z82=>
   br z78
    (ck (w55p N.1 (6:Int) z79 z80) <|
    gx [(0:Int),(1:Int),(2:Int),(10:Int),(47:Int),(999999:Int)] (w55y0 N.1 (6:Int) z79 z80) fun y83=>
    k0 (w55y1 N.1 (6:Int) z79 z80) (w55y2 N.1 (6:Int) z79 z80) ((0:Int)) y83 [])
    (in2 z75 z76 z77 z79 z80 z81 z82
     (fun z85 z86 z87 z88 z89 z90 z91 z92=>
      br z88
       (ck (w55p N.1 (5:Int) z89 z90) <|
       gx [(0:Int),(1:Int),(2:Int),(23:Int),(25:Int)] (w55y0 N.1 (5:Int) z89 z90) fun y93=>
       k0 (w55y1 N.1 (5:Int) z89 z90) (w55y2 N.1 (5:Int) z89 z90) ((1:Int)) y93 [])
       (br (decide (z87=(4:Int)))
        (br (decide (z87=(4:Int)))
         (gx [(2:Int),(8:Int)] (IntKind.i64.wrap (z86 - (4:Int))) fun y94=>
         ck ((N.2 (IntKind.i64.wrap (z85 - (1:Int))) z89 z90).isSome) <|
         k0 (((N.2 (IntKind.i64.wrap (z85 - (1:Int))) z89 z90).getD ((0:Int),(0:Int),[],[],(0:Int))).2.2.2.1) (((N.2 (IntKind.i64.wrap (z85 - (1:Int))) z89 z90).getD ((0:Int),(0:Int),[],[],(0:Int))).2.2.2.2) y94 ((0:Int)) [Ex.mk ((N.2 (IntKind.i64.wrap (z85 - (1:Int))) z89 z90).getD ((0:Int),(0:Int),[],[],(0:Int))).1 ((N.2 (IntKind.i64.wrap (z85 - (1:Int))) z89 z90).getD ((0:Int),(0:Int),[],[],(0:Int))).2.1 ((N.2 (IntKind.i64.wrap (z85 - (1:Int))) z89 z90).getD ((0:Int),(0:Int),[],[],(0:Int))).2.2.1])
         (k1 z85 z86 z89 z90 z91 z92))
        (br (decide (z87=(5:Int)))
         (gx [(2:Int),(8:Int)] (IntKind.i64.wrap (z86 - (4:Int))) fun y95=>
         ck ((N.2 (IntKind.i64.wrap (z85 - (1:Int))) z89 z90).isSome) <|
         k0 (((N.2 (IntKind.i64.wrap (z85 - (1:Int))) z89 z90).getD ((0:Int),(0:Int),[],[],(0:Int))).2.2.2.1) (((N.2 (IntKind.i64.wrap (z85 - (1:Int))) z89 z90).getD ((0:Int),(0:Int),[],[],(0:Int))).2.2.2.2) y95 ((0:Int)) [Ex.mk ((N.2 (IntKind.i64.wrap (z85 - (1:Int))) z89 z90).getD ((0:Int),(0:Int),[],[],(0:Int))).1 ((N.2 (IntKind.i64.wrap (z85 - (1:Int))) z89 z90).getD ((0:Int),(0:Int),[],[],(0:Int))).2.1 ((N.2 (IntKind.i64.wrap (z85 - (1:Int))) z89 z90).getD ((0:Int),(0:Int),[],[],(0:Int))).2.2.1])
         (k1 z85 z86 z89 z90 z91 z92))))))
noncomputable def w56b3:Code:=atC [1,1,1,0] w56b
def w56m3:Nm:=⟨[0,1,4,5],[],[]⟩
def w56I3 (x:Int×Int×(List Int)×Int×Int×Int):Sg:=⟨[(0,.ref 50 0),(1,.e (.i .i64) x.1),(4,.ref 0 0),(5,.e (.i .i64) x.2.1)],[(50,.box 77 [.e (.sl (.i .i64)) x.2.2.1,.e (.i .i64) x.2.2.2.1]),(0,.box 25 [.e (.i .i64) x.2.2.2.2.1,.e (.i .i64) x.2.2.2.2.2,.nilS])],100⟩
def w56u3 (σ:Sg):Int×Int×(List Int)×Int×Int×Int:=(lvT (.i .i64) 1 0 σ,lvT (.i .i64) 5 0 σ,lvH (.sl (.i .i64)) 50 0 σ,lvH (.i .i64) 50 1 σ,lvH (.i .i64) 0 0 σ,lvH (.i .i64) 0 1 σ)
theorem w56ui3:∀ x,w56u3 (w56I3 x)=x:=fun _=>by kernel_rfl
def w56X3_0 (y:(List Int)×Int×Int×Int×(List Ex)):Exit×Sg:=(.ret,⟨[(4,.ref 0 0)],[(50,.box 77 [.e (.sl (.i .i64)) y.1,.e (.i .i64) y.2.1]),(0,.box 25 [.e (.i .i64) y.2.2.1,.e (.i .i64) y.2.2.2.1,.own 1]),(1,.row 25 .ex y.2.2.2.2 true)],100⟩)
def w56v3_0 (_:Exit) (σ:Sg):(List Int)×Int×Int×Int×(List Ex):=(lvH (.sl (.i .i64)) 50 0 σ,lvH (.i .i64) 50 1 σ,lvH (.i .i64) 0 0 σ,lvH (.i .i64) 0 1 σ,lvR .ex 1 σ)
def w56X3_1 (y:Int×Int×(List Int)×Int×Int×Int):Exit×Sg:=(.normal,⟨[(0,.ref 50 0),(1,.e (.i .i64) y.1),(4,.ref 0 0),(5,.e (.i .i64) y.2.1)],[(50,.box 77 [.e (.sl (.i .i64)) y.2.2.1,.e (.i .i64) y.2.2.2.1]),(0,.box 25 [.e (.i .i64) y.2.2.2.2.1,.e (.i .i64) y.2.2.2.2.2,.nilS])],100⟩)
def w56v3_1 (_:Exit) (σ:Sg):Int×Int×(List Int)×Int×Int×Int:=(lvT (.i .i64) 1 0 σ,lvT (.i .i64) 5 0 σ,lvH (.sl (.i .i64)) 50 0 σ,lvH (.i .i64) 50 1 σ,lvH (.i .i64) 0 0 σ,lvH (.i .i64) 0 1 σ)
def w56w3:List (Exit×Nm):=[(.ret,⟨[4],[],[.nilC 4 2 (.row 25 .ex [] true)]⟩),(.normal,⟨[0,1,4,5],[],[]⟩)]
theorem w56o3:Outs w56v3_0 w56v3_1 (fun _ _=>()) w56X3_0 w56X3_1 (noX 2) (exC .ret) (exC .normal) (exC (.goto 2)):=⟨fun _=>by kernel_rfl,fun _=>by kernel_rfl,fun _=>by kernel_rfl,fun _=>by kernel_rfl,fun _=>by kernel_rfl,fun _=>by kernel_rfl,exNe_ok (by kernel_rfl),exNe_ok (by kernel_rfl),exNe_ok (by kernel_rfl)⟩
def w56l3 [Alg] (N:w56T) (_:Nat) (x:Int×Int×(List Int)×Int×Int×Int) (k0:((List Int)×Int×Int×Int×(List Ex))→O) (k1:(Int×Int×(List Int)×Int×Int×Int)→O) (_:(Unit)→O):O:=w56F3 N (w56n1 N) (w56n2 N)  (fun y0 y1 y2 y3 y4=>k0 (y0,y1,y2,y3,y4)) (fun y0 y1 y2 y3 y4 y5=>k1 (y0,y1,y2,y3,y4,y5)) x.1 x.2.1 x.2.2.1 x.2.2.2.1 x.2.2.2.2.1 x.2.2.2.2.2
def w56n3 [Alg] (N:w56T) (a0 a1:Int) (a2:(List Int)) (a3 a4 a5:Int) (k0:(List Int)→Int→Int→Int→(List Ex)→O) (k1:Int→Int→(List Int)→Int→Int→Int→O):O:=w56l3 N N.1 (a0,a1,a2,a3,a4,a5) (fun y=>k0 y.1 y.2.1 y.2.2.1 y.2.2.2.1 y.2.2.2.2) (fun y=>k1 y.1 y.2.1 y.2.2.1 y.2.2.2.1 y.2.2.2.2.1 y.2.2.2.2.2) (fun _=>none)
noncomputable def w56s3 [Alg] (N:w56T) (a0 a1:Int) (a2:(List Int)) (a3 a4 a5:Int) (k0:(List Int)→Int→Int→Int→(List Ex)→O) (k1:Int→Int→(List Int)→Int→Int→Int→O):O:=subL w56I3 w56u3 (w56l3 N N.1) (w56I3 (a0,a1,a2,a3,a4,a5)) (fun y=>k0 y.1 y.2.1 y.2.2.1 y.2.2.2.1 y.2.2.2.2) (fun y=>k1 y.1 y.2.1 y.2.2.1 y.2.2.2.1 y.2.2.2.2.1 y.2.2.2.2.2) (fun _=>none)
theorem w56e3 [Alg] (N:w56T):w56s3 N=w56n3 N:=funext fun _=>funext fun _=>funext fun _=>funext fun _=>funext fun _=>funext fun _=>funext fun _=>funext fun _=>subL_I w56ui3 _ _ _ _
noncomputable def w56h3 [Alg] (N:w56T):Hint:=(.seq .d (.block (.seq (.sub w56m1 _ _ _ w56X1_0 (noX 1) (noX 2) (subL w56I1 w56u1 (w56l1 N N.1))) (.cond .d (.seq (.sub w56m2 _ _ _ w56X2_0 (noX 1) (noX 2) (subL w56I2 w56u2 (w56l2 N N.1))) (.cond .d (.seq .d (.cond (.seq (.reg [] [] [[],[],[],[],[],[],[],[],[50],[],[],[0]]) .d) .d))))))))
theorem w56hk3 (N:w56T) (hc:CxOk (w56c N)):HintOk (w56c N) Tryz.f56.ntmps (w56h3 N) w56b3:=hk_of _ _ (And.intro trivial (And.intro (w56S1 N hc) (And.intro trivial (And.intro (w56S2 N hc) (And.intro trivial (And.intro trivial (And.intro (And.intro trivial trivial) trivial)))))))
theorem w56q3 [Alg] (N:w56T) (K:Exit→Sg→O) (x:Int×Int×(List Int)×Int×Int×Int):w56F3 N (w56s1 N) (w56s2 N)  (fun y0 y1 y2 y3 y4=>K (w56X3_0 (y0,y1,y2,y3,y4)).1 (w56X3_0 (y0,y1,y2,y3,y4)).2) (fun y0 y1 y2 y3 y4 y5=>K (w56X3_1 (y0,y1,y2,y3,y4,y5)).1 (w56X3_1 (y0,y1,y2,y3,y4,y5)).2) x.1 x.2.1 x.2.2.1 x.2.2.2.1 x.2.2.2.2.1 x.2.2.2.2.2=exec (w56c N) Tryz.f56.ntmps (w56h3 N) w56b3 (w56I3 x) (partX w56w3 K):=by kernel_rfl
theorem w56S3 (N:w56T) (hc:CxOk (w56c N)):SubOk (w56c N) Tryz.f56.ntmps w56b3 w56X3_0 w56X3_1 (noX 2) (subL w56I3 w56u3 (w56l3 N N.1)):=
 sub_part hc (w56hk3 N hc) w56o3 (fun x K=>by
  have h:w56F3 N (w56n1 N) (w56n2 N)  (fun y0 y1 y2 y3 y4=>K (w56X3_0 (y0,y1,y2,y3,y4)).1 (w56X3_0 (y0,y1,y2,y3,y4)).2) (fun y0 y1 y2 y3 y4 y5=>K (w56X3_1 (y0,y1,y2,y3,y4,y5)).1 (w56X3_1 (y0,y1,y2,y3,y4,y5)).2) x.1 x.2.1 x.2.2.1 x.2.2.2.1 x.2.2.2.2.1 x.2.2.2.2.2=w56F3 N (w56s1 N) (w56s2 N)  (fun y0 y1 y2 y3 y4=>K (w56X3_0 (y0,y1,y2,y3,y4)).1 (w56X3_0 (y0,y1,y2,y3,y4)).2) (fun y0 y1 y2 y3 y4 y5=>K (w56X3_1 (y0,y1,y2,y3,y4,y5)).1 (w56X3_1 (y0,y1,y2,y3,y4,y5)).2) x.1 x.2.1 x.2.2.1 x.2.2.2.1 x.2.2.2.2.1 x.2.2.2.2.2:=by rw [w56e1 N,w56e2 N]
  exact h.trans (w56q3 N K x))
def w56G [Alg] (N:w56T) (in0:Int→Int→(List Int)→Int→Int→Int→(Int→Int→(List Int)→Int→Int→Int→O)→O) (_in1:Int→Int→Int→(List Int)→Int→Int→Int→(Int→Int→Int→Bool→(List Int)→Int→Int→Int→O)→O) (_in2:Int→Int→Int→(List Int)→Int→Int→Int→(Int→Int→Int→Bool→(List Int)→Int→Int→Int→O)→O) (in3:Int→Int→(List Int)→Int→Int→Int→((List Int)→Int→Int→Int→(List Ex)→O)→(Int→Int→(List Int)→Int→Int→Int→O)→O) (depth1:Int) (g0:(List Int)) (g1:Int):O:=
 ck (w55p N.1 (12:Int) g0 g1) <|
 in0 depth1 (w55y0 N.1 (12:Int) g0 g1) (w55y1 N.1 (12:Int) g0 g1) (w55y2 N.1 (12:Int) g0 g1) ((0:Int)) ((0:Int))
  (fun z1 z2 z3 z4 z5 z6=>
   in3 z1 z2 z3 z4 z5 z6
    (fun z96 z97 z98 z99 z100=>
     some (w56r0 (z98) (z99) (z100) z96 z97))
    (fun z101 z102 z103 z104 _ _=>
     gx [(3:Int),(4:Int),(5:Int),(6:Int),(7:Int),(4:Int)] (IntKind.i64.wrap (z102 - (6:Int))) fun y107=>
     ck ((N.2 (IntKind.i64.wrap (z101 - (1:Int))) z103 z104).isSome) <|
     ck ((N.2 (IntKind.i64.wrap (z101 - (1:Int))) ((N.2 (IntKind.i64.wrap (z101 - (1:Int))) z103 z104).getD ((0:Int),(0:Int),[],[],(0:Int))).2.2.2.1 ((N.2 (IntKind.i64.wrap (z101 - (1:Int))) z103 z104).getD ((0:Int),(0:Int),[],[],(0:Int))).2.2.2.2).isSome) <|
     some (w56r0 (y107) ((0:Int)) ([Ex.mk ((N.2 (IntKind.i64.wrap (z101 - (1:Int))) z103 z104).getD ((0:Int),(0:Int),[],[],(0:Int))).1 ((N.2 (IntKind.i64.wrap (z101 - (1:Int))) z103 z104).getD ((0:Int),(0:Int),[],[],(0:Int))).2.1 ((N.2 (IntKind.i64.wrap (z101 - (1:Int))) z103 z104).getD ((0:Int),(0:Int),[],[],(0:Int))).2.2.1,Ex.mk ((N.2 (IntKind.i64.wrap (z101 - (1:Int))) ((N.2 (IntKind.i64.wrap (z101 - (1:Int))) z103 z104).getD ((0:Int),(0:Int),[],[],(0:Int))).2.2.2.1 ((N.2 (IntKind.i64.wrap (z101 - (1:Int))) z103 z104).getD ((0:Int),(0:Int),[],[],(0:Int))).2.2.2.2).getD ((0:Int),(0:Int),[],[],(0:Int))).1 ((N.2 (IntKind.i64.wrap (z101 - (1:Int))) ((N.2 (IntKind.i64.wrap (z101 - (1:Int))) z103 z104).getD ((0:Int),(0:Int),[],[],(0:Int))).2.2.2.1 ((N.2 (IntKind.i64.wrap (z101 - (1:Int))) z103 z104).getD ((0:Int),(0:Int),[],[],(0:Int))).2.2.2.2).getD ((0:Int),(0:Int),[],[],(0:Int))).2.1 ((N.2 (IntKind.i64.wrap (z101 - (1:Int))) ((N.2 (IntKind.i64.wrap (z101 - (1:Int))) z103 z104).getD ((0:Int),(0:Int),[],[],(0:Int))).2.2.2.1 ((N.2 (IntKind.i64.wrap (z101 - (1:Int))) z103 z104).getD ((0:Int),(0:Int),[],[],(0:Int))).2.2.2.2).getD ((0:Int),(0:Int),[],[],(0:Int))).2.2.1]) (((N.2 (IntKind.i64.wrap (z101 - (1:Int))) ((N.2 (IntKind.i64.wrap (z101 - (1:Int))) z103 z104).getD ((0:Int),(0:Int),[],[],(0:Int))).2.2.2.1 ((N.2 (IntKind.i64.wrap (z101 - (1:Int))) z103 z104).getD ((0:Int),(0:Int),[],[],(0:Int))).2.2.2.2).getD ((0:Int),(0:Int),[],[],(0:Int))).2.2.2.1) (((N.2 (IntKind.i64.wrap (z101 - (1:Int))) ((N.2 (IntKind.i64.wrap (z101 - (1:Int))) z103 z104).getD ((0:Int),(0:Int),[],[],(0:Int))).2.2.2.1 ((N.2 (IntKind.i64.wrap (z101 - (1:Int))) z103 z104).getD ((0:Int),(0:Int),[],[],(0:Int))).2.2.2.2).getD ((0:Int),(0:Int),[],[],(0:Int))).2.2.2.2))))
def w56 [Alg] (N:w56T) (depth1:Int) (g0:(List Int)) (g1:Int):O:=w56G N (w56n0 N) (w56n1 N) (w56n2 N) (w56n3 N) depth1 g0 g1
noncomputable def w56h [Alg] (N:w56T):Hint:=(.seq .d (.seq .d (.seq (.sub w56m0 _ _ _ w56X0_0 (noX 1) (noX 2) (subL w56I0 w56u0 (w56l0 N N.1))) (.seq (.sub w56m3 _ _ _ w56X3_0 w56X3_1 (noX 2) (subL w56I3 w56u3 (w56l3 N N.1))) .d))))
theorem w56hk (N:w56T) (hc:CxOk (w56c N)):HintOk (w56c N) Tryz.f56.ntmps (w56h N) w56b:=hk_of _ _ (And.intro trivial (And.intro trivial (And.intro (w56S0 N hc) (And.intro (w56S3 N hc) trivial))))
theorem w56q [Alg] (N:w56T) (depth1:Int) (g0:(List Int)) (g1:Int):w56G N (w56s0 N) (w56s1 N) (w56s2 N) (w56s3 N) depth1 g0 g1=exec (w56c N) Tryz.f56.ntmps (w56h N) w56b ⟨argT 0 [.ref 50 0,.e (.i .i64) depth1],[(50,.box 77 [.e (.sl (.i .i64)) g0,.e (.i .i64) g1])],100⟩ (finX (w56c N) Tryz.f56 false):=by kernel_rfl
theorem w56does {N:w56T} (hc:CxOk (w56c N)) {depth1:Int} {g0:(List Int)} {g1:Int} {r:Res} (h:w56 N depth1 g0 g1=some r):DoesR Tryz.prog 56 (([.ref 50 0,.e (.i .i64) depth1]:List X).map X.D) (HA [(50,.box 77 [.e (.sl (.i .i64)) g0,.e (.i .i64) g1])]) r:=
 fun_ok hc (f:=56) (fn:=Tryz.f56) (code:=w56b) (by kernel_rfl) (by kernel_rfl) (w56hk N hc) (Nat.le_of_ble_eq_true (by kernel_rfl)) (ow:=false) ((w56q N depth1 g0 g1).symm.trans (by rw [w56e0 N,w56e1 N,w56e2 N,w56e3 N];exact h))
def w56un (r:Res):Option (Int×Int×(List Ex)×(List Int)×Int):=match r with
 | (.agg [x0,x1,x2],[(50,.box 77 [x3,x4])])=>(match ue (.i .i64) x0,ue (.i .i64) x1,ue (.sl .ex) x2,ue (.sl (.i .i64)) x3,ue (.i .i64) x4 with | some a0,some a1,some a2,some a3,some a4=>some (a0,a1,a2,a3,a4) | _,_,_,_,_=>none)
 | _=>none
theorem w56uo {r:Res} {d:Int×Int×(List Ex)×(List Int)×Int} (h:w56un r=some d):r=w56r0 (d.1) (d.2.1) (d.2.2.1) (d.2.2.2.1) (d.2.2.2.2):=by
 unfold w56un at h
 split at h
 ·split at h
  ·rename_i h0 h1 h2 h3 h4;cases h;rw [ue_some h0,ue_some h1,ue_some h2,ue_some h3,ue_some h4];rfl
  ·cases h
 ·cases h
def w56z (N:w56T) (depth1:Int) (g0:(List Int)) (g1:Int):Option (Int×Int×(List Ex)×(List Int)×Int):=(w56 N depth1 g0 g1).bind w56un
theorem w56fin {N:w56T} (hc:CxOk (w56c N)) {depth1:Int} {g0:(List Int)} {g1:Int} {d:Int×Int×(List Ex)×(List Int)×Int} (hd:w56z N depth1 g0 g1=some d):Does Tryz.prog 56 (([.ref 50 0,.e (.i .i64) depth1]:List X).map X.D) (HA [(50,.box 77 [.e (.sl (.i .i64)) g0,.e (.i .i64) g1])]) (w56r0 (d.1) (d.2.1) (d.2.2.1) (d.2.2.2.1) (d.2.2.2.2)).1.D (HA (w56r0 (d.1) (d.2.1) (d.2.2.1) (d.2.2.2.1) (d.2.2.2.2)).2):=by
 obtain ⟨r,hr,hu⟩:=Option.bind_eq_some_iff.1 hd
 have:=w56does hc hr
 rw [w56uo hu] at this
 exact this
def w56gY (N:Nat):Nat→(Int→(List Int)→Int→Option (Int×Int×(List Ex)×(List Int)×Int))
 | 0=>fun _ _ _=>none
 | n+1=>fun depth1 g0 g1=>w56z (N,w56gY N n) depth1 g0 g1
theorem w56gYok (N:Nat):∀ n,EOk Tryz.prog 56 (w56E (N,w56gY N n))
 | 0=>entR_ok w56io (fun _ h=>by cases h)
 | n+1=>
   have ih:=w56gYok N n
   entR_ok w56io (fun d h=>norStep (zz:=w56z (N,w56gY N n) (d.1) (d.2.1) (d.2.2)) (R:=fun y=>w56r0 (y.1) (y.2.1) (y.2.2.1) (y.2.2.2.1) (y.2.2.2.2)) (d0:=(0,0,[],[],0)) (fun _ hy=>w56fin (w56cx (N,w56gY N n) ih) hy) h)
def w56p (N:Nat) (depth1:Int) (g0:(List Int)) (g1:Int):Bool:=((w56gY N N) depth1 g0 g1).isSome
def w56y0 (N:Nat) (depth1:Int) (g0:(List Int)) (g1:Int):Int:=(((w56gY N N) depth1 g0 g1).getD (0,0,[],[],0)).1
def w56y1 (N:Nat) (depth1:Int) (g0:(List Int)) (g1:Int):Int:=(((w56gY N N) depth1 g0 g1).getD (0,0,[],[],0)).2.1
def w56y2 (N:Nat) (depth1:Int) (g0:(List Int)) (g1:Int):(List Ex):=(((w56gY N N) depth1 g0 g1).getD (0,0,[],[],0)).2.2.1
def w56y3 (N:Nat) (depth1:Int) (g0:(List Int)) (g1:Int):(List Int):=(((w56gY N N) depth1 g0 g1).getD (0,0,[],[],0)).2.2.2.1
def w56y4 (N:Nat) (depth1:Int) (g0:(List Int)) (g1:Int):Int:=(((w56gY N N) depth1 g0 g1).getD (0,0,[],[],0)).2.2.2.2
def w56e (N:Nat):Ent':=entR w56in (fun d=>w56p N (d.1) (d.2.1) (d.2.2)) (fun d=>w56r0 (w56y0 N (d.1) (d.2.1) (d.2.2)) (w56y1 N (d.1) (d.2.1) (d.2.2)) (w56y2 N (d.1) (d.2.1) (d.2.2)) (w56y3 N (d.1) (d.2.1) (d.2.2)) (w56y4 N (d.1) (d.2.1) (d.2.2)))
theorem w56ok (N:Nat):EOk Tryz.prog 56 (w56e N):=w56gYok N N
def w33r0 (a0 a1:Int) (a2:(List Ex)):Res:=(.agg [.e (.i .i64) a0,.e (.i .i64) a1,.e (.sl .ex) a2],[])
noncomputable def w33L (N:Nat):List (Nat×Ent'):=[(55,w55e N),(56,w56e N)]
noncomputable def w33c (N:Nat):Cx:=⟨Tryz.prog,25,w33L N,[]⟩
noncomputable def w33b:Code:=Tryz.f33.body.getD .skip
theorem w33cx (N:Nat):CxOk (w33c N):=ctx_ok (by kernel_rfl) (.cons (by kernel_rfl) (w55ok N) (.cons (by kernel_rfl) (w56ok N) .nil)) .nil
def w33G [Alg] (N:Nat)  (l0:(List Int)) (depth1:Int):O:=
 ck (w55p N (6:Int) l0 (0:Int)) <|
 br (decide ((1:Int) < w55y0 N (6:Int) l0 (0:Int))||decide (max (1:Int) (min (5:Int) depth1) < (2:Int)))
  (ck (w56p N (max (1:Int) (min (5:Int) depth1)) (w55y1 N (6:Int) l0 (0:Int)) (w55y2 N (6:Int) l0 (0:Int))) <|
  some (w33r0 ((w56y0 N (max (1:Int) (min (5:Int) depth1)) (w55y1 N (6:Int) l0 (0:Int)) (w55y2 N (6:Int) l0 (0:Int)))) ((w56y1 N (max (1:Int) (min (5:Int) depth1)) (w55y1 N (6:Int) l0 (0:Int)) (w55y2 N (6:Int) l0 (0:Int)))) ((w56y2 N (max (1:Int) (min (5:Int) depth1)) (w55y1 N (6:Int) l0 (0:Int)) (w55y2 N (6:Int) l0 (0:Int))))))
  (ck (w56p N (IntKind.i64.wrap (max (1:Int) (min (5:Int) depth1) - (1:Int))) (w55y1 N (6:Int) l0 (0:Int)) (w55y2 N (6:Int) l0 (0:Int))) <|
  ck (w56p N (IntKind.i64.wrap (max (1:Int) (min (5:Int) depth1) - (1:Int))) (w56y3 N (IntKind.i64.wrap (max (1:Int) (min (5:Int) depth1) - (1:Int))) (w55y1 N (6:Int) l0 (0:Int)) (w55y2 N (6:Int) l0 (0:Int))) (w56y4 N (IntKind.i64.wrap (max (1:Int) (min (5:Int) depth1) - (1:Int))) (w55y1 N (6:Int) l0 (0:Int)) (w55y2 N (6:Int) l0 (0:Int)))) <|
  some (w33r0 ((IntKind.i64.wrap ((9:Int)+w55y0 N (6:Int) l0 (0:Int)))) ((0:Int)) ([Ex.mk (w56y0 N (IntKind.i64.wrap (max (1:Int) (min (5:Int) depth1) - (1:Int))) (w55y1 N (6:Int) l0 (0:Int)) (w55y2 N (6:Int) l0 (0:Int))) (w56y1 N (IntKind.i64.wrap (max (1:Int) (min (5:Int) depth1) - (1:Int))) (w55y1 N (6:Int) l0 (0:Int)) (w55y2 N (6:Int) l0 (0:Int))) (w56y2 N (IntKind.i64.wrap (max (1:Int) (min (5:Int) depth1) - (1:Int))) (w55y1 N (6:Int) l0 (0:Int)) (w55y2 N (6:Int) l0 (0:Int))),Ex.mk (w56y0 N (IntKind.i64.wrap (max (1:Int) (min (5:Int) depth1) - (1:Int))) (w56y3 N (IntKind.i64.wrap (max (1:Int) (min (5:Int) depth1) - (1:Int))) (w55y1 N (6:Int) l0 (0:Int)) (w55y2 N (6:Int) l0 (0:Int))) (w56y4 N (IntKind.i64.wrap (max (1:Int) (min (5:Int) depth1) - (1:Int))) (w55y1 N (6:Int) l0 (0:Int)) (w55y2 N (6:Int) l0 (0:Int)))) (w56y1 N (IntKind.i64.wrap (max (1:Int) (min (5:Int) depth1) - (1:Int))) (w56y3 N (IntKind.i64.wrap (max (1:Int) (min (5:Int) depth1) - (1:Int))) (w55y1 N (6:Int) l0 (0:Int)) (w55y2 N (6:Int) l0 (0:Int))) (w56y4 N (IntKind.i64.wrap (max (1:Int) (min (5:Int) depth1) - (1:Int))) (w55y1 N (6:Int) l0 (0:Int)) (w55y2 N (6:Int) l0 (0:Int)))) (w56y2 N (IntKind.i64.wrap (max (1:Int) (min (5:Int) depth1) - (1:Int))) (w56y3 N (IntKind.i64.wrap (max (1:Int) (min (5:Int) depth1) - (1:Int))) (w55y1 N (6:Int) l0 (0:Int)) (w55y2 N (6:Int) l0 (0:Int))) (w56y4 N (IntKind.i64.wrap (max (1:Int) (min (5:Int) depth1) - (1:Int))) (w55y1 N (6:Int) l0 (0:Int)) (w55y2 N (6:Int) l0 (0:Int))))])))
def w33 [Alg] (N:Nat) (l0:(List Int)) (depth1:Int):O:=w33G N  l0 depth1
noncomputable def w33h [Alg] (_:Nat):Hint:=.d
theorem w33hk (N:Nat):HintOk (w33c N) Tryz.f33.ntmps (w33h N) w33b:=hk_of _ _ trivial
theorem w33q [Alg] (N:Nat) (l0:(List Int)) (depth1:Int):w33G N  l0 depth1=exec (w33c N) Tryz.f33.ntmps (w33h N) w33b ⟨argT 0 [.e (.sl (.i .i64)) l0,.e (.i .i64) depth1],[],100⟩ (finX (w33c N) Tryz.f33 false):=by kernel_rfl
theorem w33does {N:Nat} (hc:CxOk (w33c N)) {l0:(List Int)} {depth1:Int} {r:Res} (h:w33 N l0 depth1=some r):DoesR Tryz.prog 33 (([.e (.sl (.i .i64)) l0,.e (.i .i64) depth1]:List X).map X.D) (HA []) r:=
 fun_ok hc (f:=33) (fn:=Tryz.f33) (code:=w33b) (by kernel_rfl) (by kernel_rfl) (w33hk N) (Nat.le_of_ble_eq_true (by kernel_rfl)) (ow:=false) ((w33q N l0 depth1).symm.trans (by exact h))
def w33un (r:Res):Option (Int×Int×(List Ex)):=match r with
 | (.agg [x0,x1,x2],[])=>(match ue (.i .i64) x0,ue (.i .i64) x1,ue (.sl .ex) x2 with | some a0,some a1,some a2=>some (a0,a1,a2) | _,_,_=>none)
 | _=>none
theorem w33uo {r:Res} {d:Int×Int×(List Ex)} (h:w33un r=some d):r=w33r0 (d.1) (d.2.1) (d.2.2):=by
 unfold w33un at h
 split at h
 ·split at h
  ·rename_i h0 h1 h2;cases h;rw [ue_some h0,ue_some h1,ue_some h2];rfl
  ·cases h
 ·cases h
def w33z (N:Nat) (l0:(List Int)) (depth1:Int):Option (Int×Int×(List Ex)):=(w33 N l0 depth1).bind w33un
theorem w33fin {N:Nat} (hc:CxOk (w33c N)) {l0:(List Int)} {depth1:Int} {d:Int×Int×(List Ex)} (hd:w33z N l0 depth1=some d):Does Tryz.prog 33 (([.e (.sl (.i .i64)) l0,.e (.i .i64) depth1]:List X).map X.D) (HA []) (w33r0 (d.1) (d.2.1) (d.2.2)).1.D (HA (w33r0 (d.1) (d.2.1) (d.2.2)).2):=by
 obtain ⟨r,hr,hu⟩:=Option.bind_eq_some_iff.1 hd
 have:=w33does hc hr
 rw [w33uo hu] at this
 exact this
def w33p (N:Nat) (l0:(List Int)) (depth1:Int):Bool:=(w33z N l0 depth1).isSome
def w33y0 (N:Nat) (l0:(List Int)) (depth1:Int):Int:=((w33z N l0 depth1).getD (0,0,[])).1
def w33y1 (N:Nat) (l0:(List Int)) (depth1:Int):Int:=((w33z N l0 depth1).getD (0,0,[])).2.1
def w33y2 (N:Nat) (l0:(List Int)) (depth1:Int):(List Ex):=((w33z N l0 depth1).getD (0,0,[])).2.2
def w33e (N:Nat):Ent':=E2 (.sl (.i .i64)) (.i .i64)  (fun x0 x1=>(w33p N x0 x1,w33r0 (w33y0 N x0 x1) (w33y1 N x0 x1) (w33y2 N x0 x1)))
theorem w33re {N:Nat} {l0:(List Int)} {depth1:Int} {d:Int×Int×(List Ex)} (hd:w33z N l0 depth1=some d):w33r0 (w33y0 N l0 depth1) (w33y1 N l0 depth1) (w33y2 N l0 depth1)=w33r0 (d.1) (d.2.1) (d.2.2):=by unfold w33y0 w33y1 w33y2;rw [hd];rfl
theorem w33ok (N:Nat):EOk Tryz.prog 33 (w33e N):=EOk.e2 (fun x0 x1 h=>by
 have h:(w33z N x0 x1).isSome=true:=h
 obtain ⟨d,hd⟩:=Option.isSome_iff_exists.1 h
 have f:=w33fin (w33cx N) hd
 rw [← w33re hd] at f
 exact f)
def w9r0 (a0 a1:Int) (a2:(List Ex)):Res:=(.agg [.e (.i .i64) a0,.e (.i .i64) a1,.e (.sl .ex) a2],[])
abbrev w9T:=Nat×(Int→Int→(List Ex)→Int→Int→Int→Option (Int×Int×(List Ex)))
noncomputable def w9L (N:w9T):List (Nat×Ent'):=[(9,E4 .ex (.i .i64) (.i .i64) (.i .i64)  (fun x0 x1 x2 x3=>((N.2 (Ex.op x0) (Ex.num x0) (Ex.kids x0) x1 x2 x3).isSome,w9r0 (((N.2 (Ex.op x0) (Ex.num x0) (Ex.kids x0) x1 x2 x3).getD (0,0,[])).1) (((N.2 (Ex.op x0) (Ex.num x0) (Ex.kids x0) x1 x2 x3).getD (0,0,[])).2.1) (((N.2 (Ex.op x0) (Ex.num x0) (Ex.kids x0) x1 x2 x3).getD (0,0,[])).2.2)))),(23,w23e N.1)]
noncomputable def w9c (N:w9T):Cx:=⟨Tryz.prog,25,w9L N,[]⟩
noncomputable def w9b:Code:=Tryz.f9.body.getD .skip
theorem w9cx (N:w9T) (hs:EOk Tryz.prog 9 (E4 .ex (.i .i64) (.i .i64) (.i .i64)  (fun x0 x1 x2 x3=>((N.2 (Ex.op x0) (Ex.num x0) (Ex.kids x0) x1 x2 x3).isSome,w9r0 (((N.2 (Ex.op x0) (Ex.num x0) (Ex.kids x0) x1 x2 x3).getD (0,0,[])).1) (((N.2 (Ex.op x0) (Ex.num x0) (Ex.kids x0) x1 x2 x3).getD (0,0,[])).2.1) (((N.2 (Ex.op x0) (Ex.num x0) (Ex.kids x0) x1 x2 x3).getD (0,0,[])).2.2))))):CxOk (w9c N):=ctx_ok (by kernel_rfl) (.cons (by kernel_rfl) hs (.cons (by kernel_rfl) (w23ok N.1) .nil)) .nil
def w9G [Alg] (N:w9T)  (A B:Int) (C:(List Ex)) (at1 how2 by3:Int):O:=
 ck (w23p N.1 at1 (IntKind.i64.wrap ((↑C.length:Int)+(1:Int)))) <|
 br (decide (w23y0 N.1 at1 (IntKind.i64.wrap ((↑C.length:Int)+(1:Int))) < (↑C.length:Int)))
  (ck (lim ([]++C).length (40:Nat)) <|
  ck (decide ((0:Int)≤w23y0 N.1 at1 (IntKind.i64.wrap ((↑C.length:Int)+(1:Int)))∧w23y0 N.1 at1 (IntKind.i64.wrap ((↑C.length:Int)+(1:Int))) < (↑([]++C).length:Int))) <|
  gn ([]++C) ((w23y0 N.1 at1 (IntKind.i64.wrap ((↑C.length:Int)+(1:Int)))).toNat) fun y0=>
  ck (decide (IntKind.i64.wrap ((↑C.length:Int)+(1:Int))≠(0:Int))) <|
  ck ((N.2 y0.op y0.num y0.kids (IntKind.i64.wrap (at1.tdiv (IntKind.i64.wrap ((↑C.length:Int)+(1:Int))))) how2 by3).isSome) <|
  ck (decide ((0:Int)≤w23y0 N.1 at1 (IntKind.i64.wrap ((↑C.length:Int)+(1:Int)))∧w23y0 N.1 at1 (IntKind.i64.wrap ((↑C.length:Int)+(1:Int))) < (↑([]++C).length:Int))) <|
  gn ([]++C) ((w23y0 N.1 at1 (IntKind.i64.wrap ((↑C.length:Int)+(1:Int)))).toNat) fun _=>
  some (w9r0 (A) (B) ((([]++C).set (w23y0 N.1 at1 (IntKind.i64.wrap ((↑C.length:Int)+(1:Int)))).toNat (Ex.mk ((N.2 y0.op y0.num y0.kids (IntKind.i64.wrap (at1.tdiv (IntKind.i64.wrap ((↑C.length:Int)+(1:Int))))) how2 by3).getD ((0:Int),(0:Int),[])).1 ((N.2 y0.op y0.num y0.kids (IntKind.i64.wrap (at1.tdiv (IntKind.i64.wrap ((↑C.length:Int)+(1:Int))))) how2 by3).getD ((0:Int),(0:Int),[])).2.1 ((N.2 y0.op y0.num y0.kids (IntKind.i64.wrap (at1.tdiv (IntKind.i64.wrap ((↑C.length:Int)+(1:Int))))) how2 by3).getD ((0:Int),(0:Int),[])).2.2)))))
  (ck (w23p N.1 how2 (4:Int)) <|
  br (decide (w23y0 N.1 how2 (4:Int)=(0:Int)))
   (ck (w23p N.1 by3 (14:Int)) <|
   some (w9r0 ((IntKind.i64.wrap (w23y0 N.1 by3 (14:Int) - (1:Int)))) (B) (C)))
   (br (decide (w23y0 N.1 how2 (4:Int)=(1:Int)))
    (ck (w23p N.1 by3 (6:Int)) <|
    ck (decide ((0:Int)≤w23y0 N.1 by3 (6:Int)∧w23y0 N.1 by3 (6:Int) < (6:Int))) <|
    gn [(-1:Int),(0:Int),(25:Int),(26:Int),(999999:Int),(1000000:Int)] ((w23y0 N.1 by3 (6:Int)).toNat) fun y2=>
    some (w9r0 (A) (y2) (C)))
    (br (decide (w23y0 N.1 how2 (4:Int)=(2:Int)))
     (ck (lim ([]++C).length (40:Nat)) <|
     ck (lim ([]++C++[Ex.mk (0:Int) (1:Int) []]).length (40:Nat)) <|
     some (w9r0 (A) (B) (([]++C++[Ex.mk (0:Int) (1:Int) []]))))
     (ck true <|
     ck (slcOk C.length none (some (IntKind.i64.wrap ((↑C.length:Int).tdiv (2:Int))))) <|
     some (w9r0 (A) (B) ((slc C none (some (IntKind.i64.wrap ((↑C.length:Int).tdiv (2:Int)))))))))))
def w9 [Alg] (N:w9T) (A B:Int) (C:(List Ex)) (at1 how2 by3:Int):O:=w9G N  A B C at1 how2 by3
noncomputable def w9h [Alg] (_:w9T):Hint:=(.seq .d (.seq .d (.seq (.seq .d (.cond (.seq (.reg [0,3] [] []) (.seq (.reg [] [] [[],[],[],[],[],[],[],[],[],[],[],[],[],[],[],[],[236]]) .d)) .d)) (.seq (.seq .d (.block (.seq .d (.cond .d (.seq .d (.cond (.reg [0] [] []) (.seq .d (.cond (.reg [0,3,5,6] [] []) .d)))))))) .d))))
theorem w9hk (N:w9T):HintOk (w9c N) Tryz.f9.ntmps (w9h N) w9b:=hk_of _ _ (And.intro trivial (And.intro trivial (And.intro (And.intro trivial (And.intro (And.intro trivial (And.intro trivial trivial)) trivial)) (And.intro (And.intro trivial (And.intro trivial (And.intro trivial (And.intro trivial (And.intro trivial (And.intro trivial (And.intro trivial trivial))))))) trivial))))
theorem w9q [Alg] (N:w9T) (A B:Int) (C:(List Ex)) (at1 how2 by3:Int):w9G N  A B C at1 how2 by3=exec (w9c N) Tryz.f9.ntmps (w9h N) w9b ⟨argT 0 [.agg [.e (.i .i64) A,.e (.i .i64) B,.e (.sl .ex) C],.e (.i .i64) at1,.e (.i .i64) how2,.e (.i .i64) by3],[],100⟩ (finX (w9c N) Tryz.f9 false):=by kernel_rfl
theorem w9does {N:w9T} (hc:CxOk (w9c N)) {A B:Int} {C:(List Ex)} {at1 how2 by3:Int} {r:Res} (h:w9 N A B C at1 how2 by3=some r):DoesR Tryz.prog 9 (([.agg [.e (.i .i64) A,.e (.i .i64) B,.e (.sl .ex) C],.e (.i .i64) at1,.e (.i .i64) how2,.e (.i .i64) by3]:List X).map X.D) (HA []) r:=
 fun_ok hc (f:=9) (fn:=Tryz.f9) (code:=w9b) (by kernel_rfl) (by kernel_rfl) (w9hk N) (Nat.le_of_ble_eq_true (by kernel_rfl)) (ow:=false) ((w9q N A B C at1 how2 by3).symm.trans (by exact h))
def w9un (r:Res):Option (Int×Int×(List Ex)):=match r with
 | (.agg [x0,x1,x2],[])=>(match ue (.i .i64) x0,ue (.i .i64) x1,ue (.sl .ex) x2 with | some a0,some a1,some a2=>some (a0,a1,a2) | _,_,_=>none)
 | _=>none
theorem w9uo {r:Res} {d:Int×Int×(List Ex)} (h:w9un r=some d):r=w9r0 (d.1) (d.2.1) (d.2.2):=by
 unfold w9un at h
 split at h
 ·split at h
  ·rename_i h0 h1 h2;cases h;rw [ue_some h0,ue_some h1,ue_some h2];rfl
  ·cases h
 ·cases h
def w9z (N:w9T) (A B:Int) (C:(List Ex)) (at1 how2 by3:Int):Option (Int×Int×(List Ex)):=(w9 N A B C at1 how2 by3).bind w9un
theorem w9fin {N:w9T} (hc:CxOk (w9c N)) {A B:Int} {C:(List Ex)} {at1 how2 by3:Int} {d:Int×Int×(List Ex)} (hd:w9z N A B C at1 how2 by3=some d):Does Tryz.prog 9 (([.agg [.e (.i .i64) A,.e (.i .i64) B,.e (.sl .ex) C],.e (.i .i64) at1,.e (.i .i64) how2,.e (.i .i64) by3]:List X).map X.D) (HA []) (w9r0 (d.1) (d.2.1) (d.2.2)).1.D (HA (w9r0 (d.1) (d.2.1) (d.2.2)).2):=by
 obtain ⟨r,hr,hu⟩:=Option.bind_eq_some_iff.1 hd
 have:=w9does hc hr
 rw [w9uo hu] at this
 exact this
def w9Y (N:Nat):Nat→Int→Int→(List Ex)→Int→Int→Int→Option (Int×Int×(List Ex))
 | 0,_,_,_,_,_,_=>none
 | n+1,A,B,C,at1,how2,by3=>w9z (N,w9Y N n) A B C at1 how2 by3
theorem w9Yok (N:Nat):∀ n,EOk Tryz.prog 9 (E4 .ex (.i .i64) (.i .i64) (.i .i64)  (fun x0 x1 x2 x3=>((w9Y N n (Ex.op x0) (Ex.num x0) (Ex.kids x0) x1 x2 x3).isSome,w9r0 (((w9Y N n (Ex.op x0) (Ex.num x0) (Ex.kids x0) x1 x2 x3).getD (0,0,[])).1) (((w9Y N n (Ex.op x0) (Ex.num x0) (Ex.kids x0) x1 x2 x3).getD (0,0,[])).2.1) (((w9Y N n (Ex.op x0) (Ex.num x0) (Ex.kids x0) x1 x2 x3).getD (0,0,[])).2.2))))
 | 0=>EOk.e4 (fun _ _ _ _ h=>by cases h)
 | n+1=>EOk.e4 (fun x0 x1 x2 x3 h=>by
   obtain ⟨d,hd⟩:=Option.isSome_iff_exists.1 h
   have hd':w9Y N (n+1) (Ex.op x0) (Ex.num x0) (Ex.kids x0) x1 x2 x3=some d:=hd
   have e:w9r0 (((w9Y N (n+1) (Ex.op x0) (Ex.num x0) (Ex.kids x0) x1 x2 x3).getD (0,0,[])).1) (((w9Y N (n+1) (Ex.op x0) (Ex.num x0) (Ex.kids x0) x1 x2 x3).getD (0,0,[])).2.1) (((w9Y N (n+1) (Ex.op x0) (Ex.num x0) (Ex.kids x0) x1 x2 x3).getD (0,0,[])).2.2)=w9r0 (d.1) (d.2.1) (d.2.2):=by rw [hd'];rfl
   show Does _ _ _ _ (w9r0 (((w9Y N (n+1) (Ex.op x0) (Ex.num x0) (Ex.kids x0) x1 x2 x3).getD (0,0,[])).1) (((w9Y N (n+1) (Ex.op x0) (Ex.num x0) (Ex.kids x0) x1 x2 x3).getD (0,0,[])).2.1) (((w9Y N (n+1) (Ex.op x0) (Ex.num x0) (Ex.kids x0) x1 x2 x3).getD (0,0,[])).2.2)).1.D (HA (w9r0 (((w9Y N (n+1) (Ex.op x0) (Ex.num x0) (Ex.kids x0) x1 x2 x3).getD (0,0,[])).1) (((w9Y N (n+1) (Ex.op x0) (Ex.num x0) (Ex.kids x0) x1 x2 x3).getD (0,0,[])).2.1) (((w9Y N (n+1) (Ex.op x0) (Ex.num x0) (Ex.kids x0) x1 x2 x3).getD (0,0,[])).2.2)).2)
   rw [e]
   exact w9fin (N:=(N,w9Y N n)) (w9cx (N,w9Y N n) (w9Yok N n)) hd')
def w9p (N:Nat) (A B:Int) (C:(List Ex)) (at1 how2 by3:Int):Bool:=(w9Y N N A B C at1 how2 by3).isSome
def w9y0 (N:Nat) (A B:Int) (C:(List Ex)) (at1 how2 by3:Int):Int:=((w9Y N N A B C at1 how2 by3).getD (0,0,[])).1
def w9y1 (N:Nat) (A B:Int) (C:(List Ex)) (at1 how2 by3:Int):Int:=((w9Y N N A B C at1 how2 by3).getD (0,0,[])).2.1
def w9y2 (N:Nat) (A B:Int) (C:(List Ex)) (at1 how2 by3:Int):(List Ex):=((w9Y N N A B C at1 how2 by3).getD (0,0,[])).2.2
def w9e (N:Nat):Ent':=E4 .ex (.i .i64) (.i .i64) (.i .i64)  (fun x0 x1 x2 x3=>(w9p N (Ex.op x0) (Ex.num x0) (Ex.kids x0) x1 x2 x3,w9r0 (w9y0 N (Ex.op x0) (Ex.num x0) (Ex.kids x0) x1 x2 x3) (w9y1 N (Ex.op x0) (Ex.num x0) (Ex.kids x0) x1 x2 x3) (w9y2 N (Ex.op x0) (Ex.num x0) (Ex.kids x0) x1 x2 x3)))
theorem w9ok (N:Nat):EOk Tryz.prog 9 (w9e N):=w9Yok N N
def w62r0 (a0:Int):Res:=(.e (.i .i64) a0,[])
abbrev w62T:=Nat×(Int→Int→(List Ex)→Option (Int))
noncomputable def w62L (N:w62T):List (Nat×Ent'):=[(62,E1 .ex  (fun x0=>((N.2 (Ex.op x0) (Ex.num x0) (Ex.kids x0)).isSome,w62r0 (((N.2 (Ex.op x0) (Ex.num x0) (Ex.kids x0)).getD 0)))))]
noncomputable def w62c (N:w62T):Cx:=⟨Tryz.prog,25,w62L N,[]⟩
noncomputable def w62b:Code:=Tryz.f62.body.getD .skip
theorem w62cx (N:w62T) (hs:EOk Tryz.prog 62 (E1 .ex  (fun x0=>((N.2 (Ex.op x0) (Ex.num x0) (Ex.kids x0)).isSome,w62r0 (((N.2 (Ex.op x0) (Ex.num x0) (Ex.kids x0)).getD 0)))))):CxOk (w62c N):=ctx_ok (by kernel_rfl) (.cons (by kernel_rfl) hs .nil) .nil
def w62F0 [Alg] (N:w62T)  (self:Int→Int→O) (k0:Int→O) (_x0_2 _x0_3:Int) (x0_4:(List Ex)) (x0_0 x0_1:Int):O:=
 br (decide (x0_1 < (↑x0_4.length:Int)))
  (gx x0_4 x0_1 fun y3=>
  ck ((N.2 y3.op y3.num y3.kids).isSome) <|
  self (IntKind.i64.wrap (x0_0+(N.2 y3.op y3.num y3.kids).getD (0:Int))) (IntKind.i64.wrap (x0_1+(1:Int))))
  (k0 x0_0)
noncomputable def w62b0:Code:=atC [1,1,0,1,0,0] w62b
def w62m0:Nm:=⟨[1,3,4],[],[]⟩
def w62I0 (x:Int×Int×Int×Int×(List Ex)):Sg:=⟨[(1,.ref 0 0),(3,.e (.i .i64) x.1),(4,.e (.i .i64) x.2.1)],[(0,.box 25 [.e (.i .i64) x.2.2.1,.e (.i .i64) x.2.2.2.1,.e (.sl .ex) x.2.2.2.2])],100⟩
def w62u0 (σ:Sg):Int×Int×Int×Int×(List Ex):=(lvT (.i .i64) 3 0 σ,lvT (.i .i64) 4 0 σ,lvH (.i .i64) 0 0 σ,lvH (.i .i64) 0 1 σ,lvH (.sl .ex) 0 2 σ)
theorem w62ui0:∀ x,w62u0 (w62I0 x)=x:=fun _=>by kernel_rfl
def w62X0_0 (y:Int):Exit×Sg:=((.exit 0),⟨[(3,.e (.i .i64) y)],[],100⟩)
def w62v0_0 (_:Exit) (σ:Sg):Int:=lvT (.i .i64) 3 0 σ
def w62w0:List (Exit×Nm):=[((.exit 0),⟨[3],[],[]⟩)]
theorem w62o0:Outs w62v0_0 (fun _ _=>()) (fun _ _=>()) w62X0_0 (noX 1) (noX 2) (exC (.exit 0)) (exC (.goto 1)) (exC (.goto 2)):=⟨fun _=>by kernel_rfl,fun _=>by kernel_rfl,fun _=>by kernel_rfl,fun _=>by kernel_rfl,fun _=>by kernel_rfl,fun _=>by kernel_rfl,exNe_ok (by kernel_rfl),exNe_ok (by kernel_rfl),exNe_ok (by kernel_rfl)⟩
def w62l0 [Alg] (N:w62T):Nat→(Int×Int×Int×Int×(List Ex))→((Int)→O)→((Unit)→O)→((Unit)→O)→O
 | 0,_,_,_,_=>none
 | n+1,x,k0,k1,k2=>w62F0 N  (fun v0 v1=>w62l0 N n (v0,v1,x.2.2.1,x.2.2.2.1,x.2.2.2.2) k0 k1 k2) (fun y0=>k0 y0) x.2.2.1 x.2.2.2.1 x.2.2.2.2 x.1 x.2.1
def w62n0 [Alg] (N:w62T) (a0 a1 a2 a3:Int) (a4:(List Ex)) (k0:Int→O):O:=w62l0 N N.1 (a0,a1,a2,a3,a4) (fun y=>k0 y) (fun _=>none) (fun _=>none)
noncomputable def w62s0 [Alg] (N:w62T) (a0 a1 a2 a3:Int) (a4:(List Ex)) (k0:Int→O):O:=subL w62I0 w62u0 (w62l0 N N.1) (w62I0 (a0,a1,a2,a3,a4)) (fun y=>k0 y) (fun _=>none) (fun _=>none)
theorem w62e0 [Alg] (N:w62T):w62s0 N=w62n0 N:=funext fun _=>funext fun _=>funext fun _=>funext fun _=>funext fun _=>funext fun _=>subL_I w62ui0 _ _ _ _
noncomputable def w62h0 [Alg] (_:w62T):Hint:=.d
theorem w62hk0 (N:w62T):HintOk (w62c N) Tryz.f62.ntmps (w62h0 N) w62b0:=hk_of _ _ trivial
theorem w62q0 [Alg] (N:w62T) (self:Sg→O) (K:Exit→Sg→O) (x:Int×Int×Int×Int×(List Ex)):w62F0 N  (fun v0 v1=>self (w62I0 (v0,v1,x.2.2.1,x.2.2.2.1,x.2.2.2.2))) (fun y0=>K (w62X0_0 y0).1 (w62X0_0 y0).2) x.2.2.1 x.2.2.2.1 x.2.2.2.2 x.1 x.2.1=exec (w62c N) Tryz.f62.ntmps (w62h0 N) w62b0 (w62I0 x) (roundX w62m0 w62w0 self K):=by kernel_rfl
theorem w62S0 (N:w62T) (hc:CxOk (w62c N)):SubOk (w62c N) Tryz.f62.ntmps (.loop w62b0) w62X0_0 (noX 1) (noX 2) (subL w62I0 w62u0 (w62l0 N N.1)):=
 sub_loop hc (w62hk0 N) w62o0 (n:=N.1) (fun x K=>loop_ind (w62l0 N) (fun _ _ _ _=>rfl) (fun n K ih x=>by
  have h:w62F0 N  (fun v0 v1=>w62l0 N n (v0,v1,x.2.2.1,x.2.2.2.1,x.2.2.2.2) (fun y=>K (w62X0_0 y).1 (w62X0_0 y).2) (fun y=>K ((noX 1) y).1 ((noX 1) y).2) (fun y=>K ((noX 2) y).1 ((noX 2) y).2)) (fun y0=>K (w62X0_0 y0).1 (w62X0_0 y0).2) x.2.2.1 x.2.2.2.1 x.2.2.2.2 x.1 x.2.1=w62F0 N  (fun v0 v1=>loopX (w62c N) Tryz.f62.ntmps (w62h0 N) w62b0 w62m0 w62w0 n (w62I0 (v0,v1,x.2.2.1,x.2.2.2.1,x.2.2.2.2)) K) (fun y0=>K (w62X0_0 y0).1 (w62X0_0 y0).2) x.2.2.1 x.2.2.2.1 x.2.2.2.2 x.1 x.2.1:=by rw [ show (fun v0 v1=>w62l0 N n (v0,v1,x.2.2.1,x.2.2.2.1,x.2.2.2.2) (fun y=>K (w62X0_0 y).1 (w62X0_0 y).2) (fun y=>K ((noX 1) y).1 ((noX 1) y).2) (fun y=>K ((noX 2) y).1 ((noX 2) y).2))=(fun v0 v1=>loopX (w62c N) Tryz.f62.ntmps (w62h0 N) w62b0 w62m0 w62w0 n (w62I0 (v0,v1,x.2.2.1,x.2.2.2.1,x.2.2.2.2)) K) from funext fun _=>funext fun _=>ih _]
  exact h.trans (w62q0 N (fun σ=>loopX (w62c N) Tryz.f62.ntmps (w62h0 N) w62b0 w62m0 w62w0 n σ K) K x)) N.1 x K)
def w62G [Alg] (_:w62T) (in0:Int→Int→Int→Int→(List Ex)→(Int→O)→O) (A B:Int) (C:(List Ex)):O:=
 in0 ((1:Int)) ((0:Int)) A B C
  (fun z4=>
   some (w62r0 z4))
def w62 [Alg] (N:w62T) (A B:Int) (C:(List Ex)):O:=w62G N (w62n0 N) A B C
noncomputable def w62h [Alg] (N:w62T):Hint:=(.seq .d (.seq .d (.seq (.seq .d (.block (.sub w62m0 _ _ _ w62X0_0 (noX 1) (noX 2) (subL w62I0 w62u0 (w62l0 N N.1))))) .d)))
theorem w62hk (N:w62T) (hc:CxOk (w62c N)):HintOk (w62c N) Tryz.f62.ntmps (w62h N) w62b:=hk_of _ _ (And.intro trivial (And.intro trivial (And.intro (And.intro trivial (w62S0 N hc)) trivial)))
theorem w62q [Alg] (N:w62T) (A B:Int) (C:(List Ex)):w62G N (w62s0 N) A B C=exec (w62c N) Tryz.f62.ntmps (w62h N) w62b ⟨argT 0 [.agg [.e (.i .i64) A,.e (.i .i64) B,.e (.sl .ex) C]],[],100⟩ (finX (w62c N) Tryz.f62 false):=by kernel_rfl
theorem w62does {N:w62T} (hc:CxOk (w62c N)) {A B:Int} {C:(List Ex)} {r:Res} (h:w62 N A B C=some r):DoesR Tryz.prog 62 (([.agg [.e (.i .i64) A,.e (.i .i64) B,.e (.sl .ex) C]]:List X).map X.D) (HA []) r:=
 fun_ok hc (f:=62) (fn:=Tryz.f62) (code:=w62b) (by kernel_rfl) (by kernel_rfl) (w62hk N hc) (Nat.le_of_ble_eq_true (by kernel_rfl)) (ow:=false) ((w62q N A B C).symm.trans (by rw [w62e0 N];exact h))
def w62un (r:Res):Option (Int):=match r with
 | (x0,[])=>(match ue (.i .i64) x0 with | some a0=>some a0 | _=>none)
 | _=>none
theorem w62uo {r:Res} {d:Int} (h:w62un r=some d):r=w62r0 (d):=by
 unfold w62un at h
 split at h
 ·split at h
  ·rename_i h0;cases h;rw [ue_some h0];rfl
  ·cases h
 ·cases h
def w62z (N:w62T) (A B:Int) (C:(List Ex)):Option (Int):=(w62 N A B C).bind w62un
theorem w62fin {N:w62T} (hc:CxOk (w62c N)) {A B:Int} {C:(List Ex)} {d:Int} (hd:w62z N A B C=some d):Does Tryz.prog 62 (([.agg [.e (.i .i64) A,.e (.i .i64) B,.e (.sl .ex) C]]:List X).map X.D) (HA []) (w62r0 (d)).1.D (HA (w62r0 (d)).2):=by
 obtain ⟨r,hr,hu⟩:=Option.bind_eq_some_iff.1 hd
 have:=w62does hc hr
 rw [w62uo hu] at this
 exact this
def w62Y (N:Nat):Nat→Int→Int→(List Ex)→Option (Int)
 | 0,_,_,_=>none
 | n+1,A,B,C=>w62z (N,w62Y N n) A B C
theorem w62Yok (N:Nat):∀ n,EOk Tryz.prog 62 (E1 .ex  (fun x0=>((w62Y N n (Ex.op x0) (Ex.num x0) (Ex.kids x0)).isSome,w62r0 (((w62Y N n (Ex.op x0) (Ex.num x0) (Ex.kids x0)).getD 0)))))
 | 0=>EOk.e1 (fun _ h=>by cases h)
 | n+1=>EOk.e1 (fun x0 h=>by
   obtain ⟨d,hd⟩:=Option.isSome_iff_exists.1 h
   have hd':w62Y N (n+1) (Ex.op x0) (Ex.num x0) (Ex.kids x0)=some d:=hd
   have e:w62r0 (((w62Y N (n+1) (Ex.op x0) (Ex.num x0) (Ex.kids x0)).getD 0))=w62r0 (d):=by rw [hd'];rfl
   show Does _ _ _ _ (w62r0 (((w62Y N (n+1) (Ex.op x0) (Ex.num x0) (Ex.kids x0)).getD 0))).1.D (HA (w62r0 (((w62Y N (n+1) (Ex.op x0) (Ex.num x0) (Ex.kids x0)).getD 0))).2)
   rw [e]
   exact w62fin (N:=(N,w62Y N n)) (w62cx (N,w62Y N n) (w62Yok N n)) hd')
def w62p (N:Nat) (A B:Int) (C:(List Ex)):Bool:=(w62Y N N A B C).isSome
def w62y0 (N:Nat) (A B:Int) (C:(List Ex)):Int:=((w62Y N N A B C).getD 0)
def w62e (N:Nat):Ent':=E1 .ex  (fun x0=>(w62p N (Ex.op x0) (Ex.num x0) (Ex.kids x0),w62r0 (w62y0 N (Ex.op x0) (Ex.num x0) (Ex.kids x0))))
theorem w62ok (N:Nat):EOk Tryz.prog 62 (w62e N):=w62Yok N N
def w63r0 (a0:Int):Res:=(.e (.i .i64) a0,[])
noncomputable def w63L (N:w62T):List (Nat×Ent'):=[(63,E1 .ex  (fun x0=>((N.2 (Ex.op x0) (Ex.num x0) (Ex.kids x0)).isSome,w63r0 (((N.2 (Ex.op x0) (Ex.num x0) (Ex.kids x0)).getD 0)))))]
noncomputable def w63c (N:w62T):Cx:=⟨Tryz.prog,25,w63L N,[]⟩
noncomputable def w63b:Code:=Tryz.f63.body.getD .skip
theorem w63cx (N:w62T) (hs:EOk Tryz.prog 63 (E1 .ex  (fun x0=>((N.2 (Ex.op x0) (Ex.num x0) (Ex.kids x0)).isSome,w63r0 (((N.2 (Ex.op x0) (Ex.num x0) (Ex.kids x0)).getD 0)))))):CxOk (w63c N):=ctx_ok (by kernel_rfl) (.cons (by kernel_rfl) hs .nil) .nil
def w63F0 [Alg] (N:w62T)  (self:Int→Int→O) (k0:Int→O) (_x0_2 _x0_3:Int) (x0_4:(List Ex)) (x0_0 x0_1:Int):O:=
 br (decide (x0_1 < (↑x0_4.length:Int)))
  (gx x0_4 x0_1 fun y3=>
  ck ((N.2 y3.op y3.num y3.kids).isSome) <|
  self (max x0_0 ((N.2 y3.op y3.num y3.kids).getD (0:Int))) (IntKind.i64.wrap (x0_1+(1:Int))))
  (k0 x0_0)
noncomputable def w63b0:Code:=atC [1,1,0,1,0,0] w63b
def w63m0:Nm:=⟨[1,3,4],[],[]⟩
def w63I0 (x:Int×Int×Int×Int×(List Ex)):Sg:=⟨[(1,.ref 0 0),(3,.e (.i .i64) x.1),(4,.e (.i .i64) x.2.1)],[(0,.box 25 [.e (.i .i64) x.2.2.1,.e (.i .i64) x.2.2.2.1,.e (.sl .ex) x.2.2.2.2])],100⟩
def w63u0 (σ:Sg):Int×Int×Int×Int×(List Ex):=(lvT (.i .i64) 3 0 σ,lvT (.i .i64) 4 0 σ,lvH (.i .i64) 0 0 σ,lvH (.i .i64) 0 1 σ,lvH (.sl .ex) 0 2 σ)
theorem w63ui0:∀ x,w63u0 (w63I0 x)=x:=fun _=>by kernel_rfl
def w63X0_0 (y:Int):Exit×Sg:=((.exit 0),⟨[(3,.e (.i .i64) y)],[],100⟩)
def w63v0_0 (_:Exit) (σ:Sg):Int:=lvT (.i .i64) 3 0 σ
def w63w0:List (Exit×Nm):=[((.exit 0),⟨[3],[],[]⟩)]
theorem w63o0:Outs w63v0_0 (fun _ _=>()) (fun _ _=>()) w63X0_0 (noX 1) (noX 2) (exC (.exit 0)) (exC (.goto 1)) (exC (.goto 2)):=⟨fun _=>by kernel_rfl,fun _=>by kernel_rfl,fun _=>by kernel_rfl,fun _=>by kernel_rfl,fun _=>by kernel_rfl,fun _=>by kernel_rfl,exNe_ok (by kernel_rfl),exNe_ok (by kernel_rfl),exNe_ok (by kernel_rfl)⟩
def w63l0 [Alg] (N:w62T):Nat→(Int×Int×Int×Int×(List Ex))→((Int)→O)→((Unit)→O)→((Unit)→O)→O
 | 0,_,_,_,_=>none
 | n+1,x,k0,k1,k2=>w63F0 N  (fun v0 v1=>w63l0 N n (v0,v1,x.2.2.1,x.2.2.2.1,x.2.2.2.2) k0 k1 k2) (fun y0=>k0 y0) x.2.2.1 x.2.2.2.1 x.2.2.2.2 x.1 x.2.1
def w63n0 [Alg] (N:w62T) (a0 a1 a2 a3:Int) (a4:(List Ex)) (k0:Int→O):O:=w63l0 N N.1 (a0,a1,a2,a3,a4) (fun y=>k0 y) (fun _=>none) (fun _=>none)
noncomputable def w63s0 [Alg] (N:w62T) (a0 a1 a2 a3:Int) (a4:(List Ex)) (k0:Int→O):O:=subL w63I0 w63u0 (w63l0 N N.1) (w63I0 (a0,a1,a2,a3,a4)) (fun y=>k0 y) (fun _=>none) (fun _=>none)
theorem w63e0 [Alg] (N:w62T):w63s0 N=w63n0 N:=funext fun _=>funext fun _=>funext fun _=>funext fun _=>funext fun _=>funext fun _=>subL_I w63ui0 _ _ _ _
noncomputable def w63h0 [Alg] (_:w62T):Hint:=.d
theorem w63hk0 (N:w62T):HintOk (w63c N) Tryz.f63.ntmps (w63h0 N) w63b0:=hk_of _ _ trivial
theorem w63q0 [Alg] (N:w62T) (self:Sg→O) (K:Exit→Sg→O) (x:Int×Int×Int×Int×(List Ex)):w63F0 N  (fun v0 v1=>self (w63I0 (v0,v1,x.2.2.1,x.2.2.2.1,x.2.2.2.2))) (fun y0=>K (w63X0_0 y0).1 (w63X0_0 y0).2) x.2.2.1 x.2.2.2.1 x.2.2.2.2 x.1 x.2.1=exec (w63c N) Tryz.f63.ntmps (w63h0 N) w63b0 (w63I0 x) (roundX w63m0 w63w0 self K):=by kernel_rfl
theorem w63S0 (N:w62T) (hc:CxOk (w63c N)):SubOk (w63c N) Tryz.f63.ntmps (.loop w63b0) w63X0_0 (noX 1) (noX 2) (subL w63I0 w63u0 (w63l0 N N.1)):=
 sub_loop hc (w63hk0 N) w63o0 (n:=N.1) (fun x K=>loop_ind (w63l0 N) (fun _ _ _ _=>rfl) (fun n K ih x=>by
  have h:w63F0 N  (fun v0 v1=>w63l0 N n (v0,v1,x.2.2.1,x.2.2.2.1,x.2.2.2.2) (fun y=>K (w63X0_0 y).1 (w63X0_0 y).2) (fun y=>K ((noX 1) y).1 ((noX 1) y).2) (fun y=>K ((noX 2) y).1 ((noX 2) y).2)) (fun y0=>K (w63X0_0 y0).1 (w63X0_0 y0).2) x.2.2.1 x.2.2.2.1 x.2.2.2.2 x.1 x.2.1=w63F0 N  (fun v0 v1=>loopX (w63c N) Tryz.f63.ntmps (w63h0 N) w63b0 w63m0 w63w0 n (w63I0 (v0,v1,x.2.2.1,x.2.2.2.1,x.2.2.2.2)) K) (fun y0=>K (w63X0_0 y0).1 (w63X0_0 y0).2) x.2.2.1 x.2.2.2.1 x.2.2.2.2 x.1 x.2.1:=by rw [ show (fun v0 v1=>w63l0 N n (v0,v1,x.2.2.1,x.2.2.2.1,x.2.2.2.2) (fun y=>K (w63X0_0 y).1 (w63X0_0 y).2) (fun y=>K ((noX 1) y).1 ((noX 1) y).2) (fun y=>K ((noX 2) y).1 ((noX 2) y).2))=(fun v0 v1=>loopX (w63c N) Tryz.f63.ntmps (w63h0 N) w63b0 w63m0 w63w0 n (w63I0 (v0,v1,x.2.2.1,x.2.2.2.1,x.2.2.2.2)) K) from funext fun _=>funext fun _=>ih _]
  exact h.trans (w63q0 N (fun σ=>loopX (w63c N) Tryz.f63.ntmps (w63h0 N) w63b0 w63m0 w63w0 n σ K) K x)) N.1 x K)
def w63G [Alg] (_:w62T) (in0:Int→Int→Int→Int→(List Ex)→(Int→O)→O) (A B:Int) (C:(List Ex)):O:=
 in0 ((0:Int)) ((0:Int)) A B C
  (fun z4=>
   some (w63r0 (IntKind.i64.wrap (z4+(1:Int)))))
def w63 [Alg] (N:w62T) (A B:Int) (C:(List Ex)):O:=w63G N (w63n0 N) A B C
noncomputable def w63h [Alg] (N:w62T):Hint:=(.seq .d (.seq .d (.seq (.seq .d (.block (.sub w63m0 _ _ _ w63X0_0 (noX 1) (noX 2) (subL w63I0 w63u0 (w63l0 N N.1))))) .d)))
theorem w63hk (N:w62T) (hc:CxOk (w63c N)):HintOk (w63c N) Tryz.f63.ntmps (w63h N) w63b:=hk_of _ _ (And.intro trivial (And.intro trivial (And.intro (And.intro trivial (w63S0 N hc)) trivial)))
theorem w63q [Alg] (N:w62T) (A B:Int) (C:(List Ex)):w63G N (w63s0 N) A B C=exec (w63c N) Tryz.f63.ntmps (w63h N) w63b ⟨argT 0 [.agg [.e (.i .i64) A,.e (.i .i64) B,.e (.sl .ex) C]],[],100⟩ (finX (w63c N) Tryz.f63 false):=by kernel_rfl
theorem w63does {N:w62T} (hc:CxOk (w63c N)) {A B:Int} {C:(List Ex)} {r:Res} (h:w63 N A B C=some r):DoesR Tryz.prog 63 (([.agg [.e (.i .i64) A,.e (.i .i64) B,.e (.sl .ex) C]]:List X).map X.D) (HA []) r:=
 fun_ok hc (f:=63) (fn:=Tryz.f63) (code:=w63b) (by kernel_rfl) (by kernel_rfl) (w63hk N hc) (Nat.le_of_ble_eq_true (by kernel_rfl)) (ow:=false) ((w63q N A B C).symm.trans (by rw [w63e0 N];exact h))
def w63un (r:Res):Option (Int):=match r with
 | (x0,[])=>(match ue (.i .i64) x0 with | some a0=>some a0 | _=>none)
 | _=>none
theorem w63uo {r:Res} {d:Int} (h:w63un r=some d):r=w63r0 (d):=by
 unfold w63un at h
 split at h
 ·split at h
  ·rename_i h0;cases h;rw [ue_some h0];rfl
  ·cases h
 ·cases h
def w63z (N:w62T) (A B:Int) (C:(List Ex)):Option (Int):=(w63 N A B C).bind w63un
theorem w63fin {N:w62T} (hc:CxOk (w63c N)) {A B:Int} {C:(List Ex)} {d:Int} (hd:w63z N A B C=some d):Does Tryz.prog 63 (([.agg [.e (.i .i64) A,.e (.i .i64) B,.e (.sl .ex) C]]:List X).map X.D) (HA []) (w63r0 (d)).1.D (HA (w63r0 (d)).2):=by
 obtain ⟨r,hr,hu⟩:=Option.bind_eq_some_iff.1 hd
 have:=w63does hc hr
 rw [w63uo hu] at this
 exact this
def w63Y (N:Nat):Nat→Int→Int→(List Ex)→Option (Int)
 | 0,_,_,_=>none
 | n+1,A,B,C=>w63z (N,w63Y N n) A B C
theorem w63Yok (N:Nat):∀ n,EOk Tryz.prog 63 (E1 .ex  (fun x0=>((w63Y N n (Ex.op x0) (Ex.num x0) (Ex.kids x0)).isSome,w63r0 (((w63Y N n (Ex.op x0) (Ex.num x0) (Ex.kids x0)).getD 0)))))
 | 0=>EOk.e1 (fun _ h=>by cases h)
 | n+1=>EOk.e1 (fun x0 h=>by
   obtain ⟨d,hd⟩:=Option.isSome_iff_exists.1 h
   have hd':w63Y N (n+1) (Ex.op x0) (Ex.num x0) (Ex.kids x0)=some d:=hd
   have e:w63r0 (((w63Y N (n+1) (Ex.op x0) (Ex.num x0) (Ex.kids x0)).getD 0))=w63r0 (d):=by rw [hd'];rfl
   show Does _ _ _ _ (w63r0 (((w63Y N (n+1) (Ex.op x0) (Ex.num x0) (Ex.kids x0)).getD 0))).1.D (HA (w63r0 (((w63Y N (n+1) (Ex.op x0) (Ex.num x0) (Ex.kids x0)).getD 0))).2)
   rw [e]
   exact w63fin (N:=(N,w63Y N n)) (w63cx (N,w63Y N n) (w63Yok N n)) hd')
def w63p (N:Nat) (A B:Int) (C:(List Ex)):Bool:=(w63Y N N A B C).isSome
def w63y0 (N:Nat) (A B:Int) (C:(List Ex)):Int:=((w63Y N N A B C).getD 0)
def w63e (N:Nat):Ent':=E1 .ex  (fun x0=>(w63p N (Ex.op x0) (Ex.num x0) (Ex.kids x0),w63r0 (w63y0 N (Ex.op x0) (Ex.num x0) (Ex.kids x0))))
theorem w63ok (N:Nat):EOk Tryz.prog 63 (w63e N):=w63Yok N N
def w91r0 (a0:Int):Res:=(.e (.i .i64) a0,[])
noncomputable def w91L (_:Nat):List (Nat×Ent'):=[]
noncomputable def w91c (N:Nat):Cx:=⟨Tryz.prog,25,w91L N,[]⟩
noncomputable def w91b:Code:=Tryz.f91.body.getD .skip
theorem w91cx (N:Nat):CxOk (w91c N):=ctx_ok (by kernel_rfl) .nil .nil
def w91F0 [Alg] (_:Nat)   (k0:Int→Bool→O) (x17_0:Int):O:=
 br (decide (x17_0=(0:Int)))
  (k0 x17_0 (decide (x17_0=(0:Int))))
  (k0 x17_0 (decide (x17_0=(1:Int))))
noncomputable def w91b0:Code:=atC [1,0,1,0,0] w91b
def w91m0:Nm:=⟨[3],[],[]⟩
def w91I0 (x:Int):Sg:=⟨[(3,.e (.i .i64) x)],[],100⟩
def w91u0 (σ:Sg):Int:=lvT (.i .i64) 3 0 σ
theorem w91ui0:∀ x,w91u0 (w91I0 x)=x:=fun _=>by kernel_rfl
def w91X0_0 (y:Int×Bool):Exit×Sg:=(.normal,⟨[(3,.e (.i .i64) y.1),(4,.e .bo y.2)],[],100⟩)
def w91v0_0 (_:Exit) (σ:Sg):Int×Bool:=(lvT (.i .i64) 3 0 σ,lvT .bo 4 0 σ)
def w91w0:List (Exit×Nm):=[(.normal,⟨[3,4],[],[]⟩)]
theorem w91o0:Outs w91v0_0 (fun _ _=>()) (fun _ _=>()) w91X0_0 (noX 1) (noX 2) (exC .normal) (exC (.goto 1)) (exC (.goto 2)):=⟨fun _=>by kernel_rfl,fun _=>by kernel_rfl,fun _=>by kernel_rfl,fun _=>by kernel_rfl,fun _=>by kernel_rfl,fun _=>by kernel_rfl,exNe_ok (by kernel_rfl),exNe_ok (by kernel_rfl),exNe_ok (by kernel_rfl)⟩
def w91l0 [Alg] (N _:Nat) (x:Int) (k0:(Int×Bool)→O) (_:(Unit)→O) (_:(Unit)→O):O:=w91F0 N   (fun y0 y1=>k0 (y0,y1)) x
def w91n0 [Alg] (N:Nat) (a0:Int) (k0:Int→Bool→O):O:=w91l0 N N a0 (fun y=>k0 y.1 y.2) (fun _=>none) (fun _=>none)
noncomputable def w91s0 [Alg] (N:Nat) (a0:Int) (k0:Int→Bool→O):O:=subL w91I0 w91u0 (w91l0 N N) (w91I0 a0) (fun y=>k0 y.1 y.2) (fun _=>none) (fun _=>none)
theorem w91e0 [Alg] (N:Nat):w91s0 N=w91n0 N:=funext fun _=>funext fun _=>subL_I w91ui0 _ _ _ _
noncomputable def w91h0 [Alg] (_:Nat):Hint:=.d
theorem w91hk0 (N:Nat):HintOk (w91c N) Tryz.f91.ntmps (w91h0 N) w91b0:=hk_of _ _ trivial
theorem w91q0 [Alg] (N:Nat) (K:Exit→Sg→O) (x:Int):w91F0 N   (fun y0 y1=>K (w91X0_0 (y0,y1)).1 (w91X0_0 (y0,y1)).2) x=exec (w91c N) Tryz.f91.ntmps (w91h0 N) w91b0 (w91I0 x) (partX w91w0 K):=by kernel_rfl
theorem w91S0 (N:Nat) (hc:CxOk (w91c N)):SubOk (w91c N) Tryz.f91.ntmps w91b0 w91X0_0 (noX 1) (noX 2) (subL w91I0 w91u0 (w91l0 N N)):=
 sub_part hc (w91hk0 N) w91o0 (fun x K=>by
  have h:w91F0 N   (fun y0 y1=>K (w91X0_0 (y0,y1)).1 (w91X0_0 (y0,y1)).2) x=w91F0 N   (fun y0 y1=>K (w91X0_0 (y0,y1)).1 (w91X0_0 (y0,y1)).2) x:=by rfl
  exact h.trans (w91q0 N K x))
def w91F1 [Alg] (_:Nat)   (k0:Int→Bool→O) (x20_0:Int):O:=
 br (decide (x20_0=(2:Int)))
  (k0 x20_0 (decide (x20_0=(2:Int))))
  (k0 x20_0 (decide (x20_0=(8:Int))))
noncomputable def w91b1:Code:=atC [1,0,1,0,1,1,0] w91b
def w91m1:Nm:=⟨[3],[],[]⟩
def w91I1 (x:Int):Sg:=⟨[(3,.e (.i .i64) x)],[],100⟩
def w91u1 (σ:Sg):Int:=lvT (.i .i64) 3 0 σ
theorem w91ui1:∀ x,w91u1 (w91I1 x)=x:=fun _=>by kernel_rfl
def w91X1_0 (y:Int×Bool):Exit×Sg:=(.normal,⟨[(3,.e (.i .i64) y.1),(7,.e .bo y.2)],[],100⟩)
def w91v1_0 (_:Exit) (σ:Sg):Int×Bool:=(lvT (.i .i64) 3 0 σ,lvT .bo 7 0 σ)
def w91w1:List (Exit×Nm):=[(.normal,⟨[3,7],[],[]⟩)]
theorem w91o1:Outs w91v1_0 (fun _ _=>()) (fun _ _=>()) w91X1_0 (noX 1) (noX 2) (exC .normal) (exC (.goto 1)) (exC (.goto 2)):=⟨fun _=>by kernel_rfl,fun _=>by kernel_rfl,fun _=>by kernel_rfl,fun _=>by kernel_rfl,fun _=>by kernel_rfl,fun _=>by kernel_rfl,exNe_ok (by kernel_rfl),exNe_ok (by kernel_rfl),exNe_ok (by kernel_rfl)⟩
def w91l1 [Alg] (N _:Nat) (x:Int) (k0:(Int×Bool)→O) (_:(Unit)→O) (_:(Unit)→O):O:=w91F1 N   (fun y0 y1=>k0 (y0,y1)) x
def w91n1 [Alg] (N:Nat) (a0:Int) (k0:Int→Bool→O):O:=w91l1 N N a0 (fun y=>k0 y.1 y.2) (fun _=>none) (fun _=>none)
noncomputable def w91s1 [Alg] (N:Nat) (a0:Int) (k0:Int→Bool→O):O:=subL w91I1 w91u1 (w91l1 N N) (w91I1 a0) (fun y=>k0 y.1 y.2) (fun _=>none) (fun _=>none)
theorem w91e1 [Alg] (N:Nat):w91s1 N=w91n1 N:=funext fun _=>funext fun _=>subL_I w91ui1 _ _ _ _
noncomputable def w91h1 [Alg] (_:Nat):Hint:=.d
theorem w91hk1 (N:Nat):HintOk (w91c N) Tryz.f91.ntmps (w91h1 N) w91b1:=hk_of _ _ trivial
theorem w91q1 [Alg] (N:Nat) (K:Exit→Sg→O) (x:Int):w91F1 N   (fun y0 y1=>K (w91X1_0 (y0,y1)).1 (w91X1_0 (y0,y1)).2) x=exec (w91c N) Tryz.f91.ntmps (w91h1 N) w91b1 (w91I1 x) (partX w91w1 K):=by kernel_rfl
theorem w91S1 (N:Nat) (hc:CxOk (w91c N)):SubOk (w91c N) Tryz.f91.ntmps w91b1 w91X1_0 (noX 1) (noX 2) (subL w91I1 w91u1 (w91l1 N N)):=
 sub_part hc (w91hk1 N) w91o1 (fun x K=>by
  have h:w91F1 N   (fun y0 y1=>K (w91X1_0 (y0,y1)).1 (w91X1_0 (y0,y1)).2) x=w91F1 N   (fun y0 y1=>K (w91X1_0 (y0,y1)).1 (w91X1_0 (y0,y1)).2) x:=by rfl
  exact h.trans (w91q1 N K x))
def w91F2 [Alg] (_:Nat)   (k0:Bool→O) (x23_0:Int):O:=
 br (decide (x23_0=(3:Int)))
  (k0 (decide (x23_0=(3:Int))))
  (br (decide (x23_0=(4:Int)))
   (k0 (decide (x23_0=(4:Int))))
   (br (decide (x23_0=(5:Int)))
    (k0 (decide (x23_0=(5:Int))))
    (br (decide (x23_0=(6:Int)))
     (k0 (decide (x23_0=(6:Int))))
     (br (decide (x23_0=(7:Int)))
      (k0 (decide (x23_0=(7:Int))))
      (br (decide (x23_0=(9:Int)))
       (k0 (decide (x23_0=(9:Int))))
       (k0 (decide (x23_0=(10:Int)))))))))
noncomputable def w91b2:Code:=atC [1,0,1,0,1,1,1,1,0] w91b
def w91m2:Nm:=⟨[3],[],[]⟩
def w91I2 (x:Int):Sg:=⟨[(3,.e (.i .i64) x)],[],100⟩
def w91u2 (σ:Sg):Int:=lvT (.i .i64) 3 0 σ
theorem w91ui2:∀ x,w91u2 (w91I2 x)=x:=fun _=>by kernel_rfl
def w91X2_0 (y:Bool):Exit×Sg:=(.normal,⟨[(10,.e .bo y)],[],100⟩)
def w91v2_0 (_:Exit) (σ:Sg):Bool:=lvT .bo 10 0 σ
def w91w2:List (Exit×Nm):=[(.normal,⟨[10],[],[]⟩)]
theorem w91o2:Outs w91v2_0 (fun _ _=>()) (fun _ _=>()) w91X2_0 (noX 1) (noX 2) (exC .normal) (exC (.goto 1)) (exC (.goto 2)):=⟨fun _=>by kernel_rfl,fun _=>by kernel_rfl,fun _=>by kernel_rfl,fun _=>by kernel_rfl,fun _=>by kernel_rfl,fun _=>by kernel_rfl,exNe_ok (by kernel_rfl),exNe_ok (by kernel_rfl),exNe_ok (by kernel_rfl)⟩
def w91l2 [Alg] (N _:Nat) (x:Int) (k0:(Bool)→O) (_:(Unit)→O) (_:(Unit)→O):O:=w91F2 N   (fun y0=>k0 y0) x
def w91n2 [Alg] (N:Nat) (a0:Int) (k0:Bool→O):O:=w91l2 N N a0 (fun y=>k0 y) (fun _=>none) (fun _=>none)
noncomputable def w91s2 [Alg] (N:Nat) (a0:Int) (k0:Bool→O):O:=subL w91I2 w91u2 (w91l2 N N) (w91I2 a0) (fun y=>k0 y) (fun _=>none) (fun _=>none)
theorem w91e2 [Alg] (N:Nat):w91s2 N=w91n2 N:=funext fun _=>funext fun _=>subL_I w91ui2 _ _ _ _
noncomputable def w91h2 [Alg] (_:Nat):Hint:=.d
theorem w91hk2 (N:Nat):HintOk (w91c N) Tryz.f91.ntmps (w91h2 N) w91b2:=hk_of _ _ trivial
theorem w91q2 [Alg] (N:Nat) (K:Exit→Sg→O) (x:Int):w91F2 N   (fun y0=>K (w91X2_0 y0).1 (w91X2_0 y0).2) x=exec (w91c N) Tryz.f91.ntmps (w91h2 N) w91b2 (w91I2 x) (partX w91w2 K):=by kernel_rfl
theorem w91S2 (N:Nat) (hc:CxOk (w91c N)):SubOk (w91c N) Tryz.f91.ntmps w91b2 w91X2_0 (noX 1) (noX 2) (subL w91I2 w91u2 (w91l2 N N)):=
 sub_part hc (w91hk2 N) w91o2 (fun x K=>by
  have h:w91F2 N   (fun y0=>K (w91X2_0 y0).1 (w91X2_0 y0).2) x=w91F2 N   (fun y0=>K (w91X2_0 y0).1 (w91X2_0 y0).2) x:=by rfl
  exact h.trans (w91q2 N K x))
def w91F3 [Alg] (_:Nat) (in0:Int→(Int→Bool→O)→O) (in1:Int→(Int→Bool→O)→O) (in2:Int→(Bool→O)→O)  (k0:Int→O) (k1:Unit→O) (x0_0:Int):O:=
 in0 x0_0
  (fun z18 z19=>
   br z19
    (k0 ((0:Int)))
    (in1 z18
     (fun z21 z22=>
      br z22
       (k0 ((1:Int)))
       (in2 z21
        (fun z24=>
         br z24
          (k0 ((2:Int)))
          (k1 ()))))))
noncomputable def w91b3:Code:=atC [1,0] w91b
def w91m3:Nm:=⟨[0],[],[]⟩
def w91I3 (x:Int):Sg:=⟨[(0,.e (.i .i64) x)],[],100⟩
def w91u3 (σ:Sg):Int:=lvT (.i .i64) 0 0 σ
theorem w91ui3:∀ x,w91u3 (w91I3 x)=x:=fun _=>by kernel_rfl
def w91X3_0 (y:Int):Exit×Sg:=(.ret,⟨[(2,.e (.i .i64) y)],[],100⟩)
def w91v3_0 (_:Exit) (σ:Sg):Int:=lvT (.i .i64) 2 0 σ
def w91X3_1 (_:Unit):Exit×Sg:=(.normal,⟨[],[],100⟩)
def w91v3_1 (_:Exit) (_:Sg):Unit:=()
def w91w3:List (Exit×Nm):=[(.ret,⟨[2],[],[]⟩),(.normal,⟨[],[],[]⟩)]
theorem w91o3:Outs w91v3_0 w91v3_1 (fun _ _=>()) w91X3_0 w91X3_1 (noX 2) (exC .ret) (exC .normal) (exC (.goto 2)):=⟨fun _=>by kernel_rfl,fun _=>by kernel_rfl,fun _=>by kernel_rfl,fun _=>by kernel_rfl,fun _=>by kernel_rfl,fun _=>by kernel_rfl,exNe_ok (by kernel_rfl),exNe_ok (by kernel_rfl),exNe_ok (by kernel_rfl)⟩
def w91l3 [Alg] (N _:Nat) (x:Int) (k0:(Int)→O) (k1:(Unit)→O) (_:(Unit)→O):O:=w91F3 N (w91n0 N) (w91n1 N) (w91n2 N)  (fun y0=>k0 y0) (fun (_:Unit)=>k1 ()) x
def w91n3 [Alg] (N:Nat) (a0:Int) (k0:Int→O) (k1:Unit→O):O:=w91l3 N N a0 (fun y=>k0 y) (fun y=>k1 y) (fun _=>none)
noncomputable def w91s3 [Alg] (N:Nat) (a0:Int) (k0:Int→O) (k1:Unit→O):O:=subL w91I3 w91u3 (w91l3 N N) (w91I3 a0) (fun y=>k0 y) (fun y=>k1 y) (fun _=>none)
theorem w91e3 [Alg] (N:Nat):w91s3 N=w91n3 N:=funext fun _=>funext fun _=>funext fun _=>subL_I w91ui3 _ _ _ _
noncomputable def w91h3 [Alg] (N:Nat):Hint:=(.seq .d (.block (.seq (.sub w91m0 _ _ _ w91X0_0 (noX 1) (noX 2) (subL w91I0 w91u0 (w91l0 N N))) (.cond .d (.seq (.sub w91m1 _ _ _ w91X1_0 (noX 1) (noX 2) (subL w91I1 w91u1 (w91l1 N N))) (.cond .d (.seq (.sub w91m2 _ _ _ w91X2_0 (noX 1) (noX 2) (subL w91I2 w91u2 (w91l2 N N))) .d)))))))
theorem w91hk3 (N:Nat) (hc:CxOk (w91c N)):HintOk (w91c N) Tryz.f91.ntmps (w91h3 N) w91b3:=hk_of _ _ (And.intro trivial (And.intro (w91S0 N hc) (And.intro trivial (And.intro (w91S1 N hc) (And.intro trivial (And.intro (w91S2 N hc) trivial))))))
theorem w91q3 [Alg] (N:Nat) (K:Exit→Sg→O) (x:Int):w91F3 N (w91s0 N) (w91s1 N) (w91s2 N)  (fun y0=>K (w91X3_0 y0).1 (w91X3_0 y0).2) (fun (_:Unit)=>K (w91X3_1 ()).1 (w91X3_1 ()).2) x=exec (w91c N) Tryz.f91.ntmps (w91h3 N) w91b3 (w91I3 x) (partX w91w3 K):=by kernel_rfl
theorem w91S3 (N:Nat) (hc:CxOk (w91c N)):SubOk (w91c N) Tryz.f91.ntmps w91b3 w91X3_0 w91X3_1 (noX 2) (subL w91I3 w91u3 (w91l3 N N)):=
 sub_part hc (w91hk3 N hc) w91o3 (fun x K=>by
  have h:w91F3 N (w91n0 N) (w91n1 N) (w91n2 N)  (fun y0=>K (w91X3_0 y0).1 (w91X3_0 y0).2) (fun (_:Unit)=>K (w91X3_1 ()).1 (w91X3_1 ()).2) x=w91F3 N (w91s0 N) (w91s1 N) (w91s2 N)  (fun y0=>K (w91X3_0 y0).1 (w91X3_0 y0).2) (fun (_:Unit)=>K (w91X3_1 ()).1 (w91X3_1 ()).2) x:=by rw [w91e0 N,w91e1 N,w91e2 N]
  exact h.trans (w91q3 N K x))
def w91G [Alg] (_:Nat) (_in0:Int→(Int→Bool→O)→O) (_in1:Int→(Int→Bool→O)→O) (_in2:Int→(Bool→O)→O) (in3:Int→(Int→O)→(Unit→O)→O) (op0:Int):O:=
 in3 op0
  (fun z25=>
   some (w91r0 z25))
  (fun (_:Unit)=>
   some (w91r0 ((-1:Int))))
def w91 [Alg] (N:Nat) (op0:Int):O:=w91G N (w91n0 N) (w91n1 N) (w91n2 N) (w91n3 N) op0
noncomputable def w91h [Alg] (N:Nat):Hint:=(.seq .d (.seq (.sub w91m3 _ _ _ w91X3_0 w91X3_1 (noX 2) (subL w91I3 w91u3 (w91l3 N N))) .d))
theorem w91hk (N:Nat) (hc:CxOk (w91c N)):HintOk (w91c N) Tryz.f91.ntmps (w91h N) w91b:=hk_of _ _ (And.intro trivial (And.intro (w91S3 N hc) trivial))
theorem w91q [Alg] (N:Nat) (op0:Int):w91G N (w91s0 N) (w91s1 N) (w91s2 N) (w91s3 N) op0=exec (w91c N) Tryz.f91.ntmps (w91h N) w91b ⟨argT 0 [.e (.i .i64) op0],[],100⟩ (finX (w91c N) Tryz.f91 false):=by kernel_rfl
theorem w91does {N:Nat} (hc:CxOk (w91c N)) {op0:Int} {r:Res} (h:w91 N op0=some r):DoesR Tryz.prog 91 (([.e (.i .i64) op0]:List X).map X.D) (HA []) r:=
 fun_ok hc (f:=91) (fn:=Tryz.f91) (code:=w91b) (by kernel_rfl) (by kernel_rfl) (w91hk N hc) (Nat.le_of_ble_eq_true (by kernel_rfl)) (ow:=false) ((w91q N op0).symm.trans (by rw [w91e0 N,w91e1 N,w91e2 N,w91e3 N];exact h))
def w91un (r:Res):Option (Int):=match r with
 | (x0,[])=>(match ue (.i .i64) x0 with | some a0=>some a0 | _=>none)
 | _=>none
theorem w91uo {r:Res} {d:Int} (h:w91un r=some d):r=w91r0 (d):=by
 unfold w91un at h
 split at h
 ·split at h
  ·rename_i h0;cases h;rw [ue_some h0];rfl
  ·cases h
 ·cases h
def w91z (N:Nat) (op0:Int):Option (Int):=(w91 N op0).bind w91un
theorem w91fin {N:Nat} (hc:CxOk (w91c N)) {op0 d:Int} (hd:w91z N op0=some d):Does Tryz.prog 91 (([.e (.i .i64) op0]:List X).map X.D) (HA []) (w91r0 (d)).1.D (HA (w91r0 (d)).2):=by
 obtain ⟨r,hr,hu⟩:=Option.bind_eq_some_iff.1 hd
 have:=w91does hc hr
 rw [w91uo hu] at this
 exact this
def w91p (N:Nat) (op0:Int):Bool:=(w91z N op0).isSome
def w91y0 (N:Nat) (op0:Int):Int:=((w91z N op0).getD 0)
def w91e (N:Nat):Ent':=E1 (.i .i64)  (fun x0=>(w91p N x0,w91r0 (w91y0 N x0)))
theorem w91re {N:Nat} {op0 d:Int} (hd:w91z N op0=some d):w91r0 (w91y0 N op0)=w91r0 (d):=by unfold w91y0;rw [hd];rfl
theorem w91ok (N:Nat):EOk Tryz.prog 91 (w91e N):=EOk.e1 (fun x0 h=>by
 have h:(w91z N x0).isSome=true:=h
 obtain ⟨d,hd⟩:=Option.isSome_iff_exists.1 h
 have f:=w91fin (w91cx N) hd
 rw [← w91re hd] at f
 exact f)
def w64r0 (a0:Bool):Res:=(.e .bo a0,[])
abbrev w64T:=Nat×(Int→Int→(List Ex)→Bool→Option (Bool))
noncomputable def w64L (N:w64T):List (Nat×Ent'):=[(64,E2 .ex .bo  (fun x0 x1=>((N.2 (Ex.op x0) (Ex.num x0) (Ex.kids x0) x1).isSome,w64r0 (((N.2 (Ex.op x0) (Ex.num x0) (Ex.kids x0) x1).getD false))))),(91,w91e N.1)]
noncomputable def w64c (N:w64T):Cx:=⟨Tryz.prog,25,w64L N,[]⟩
noncomputable def w64b:Code:=Tryz.f64.body.getD .skip
theorem w64cx (N:w64T) (hs:EOk Tryz.prog 64 (E2 .ex .bo  (fun x0 x1=>((N.2 (Ex.op x0) (Ex.num x0) (Ex.kids x0) x1).isSome,w64r0 (((N.2 (Ex.op x0) (Ex.num x0) (Ex.kids x0) x1).getD false)))))):CxOk (w64c N):=ctx_ok (by kernel_rfl) (.cons (by kernel_rfl) hs (.cons (by kernel_rfl) (w91ok N.1) .nil)) .nil
def w64F0 [Alg] (_:w64T)   (k0:Int→Int→Int→(List Ex)→O) (x0_0 x0_1 x0_2:Int) (x0_3:(List Ex)):O:=
 br (decide (x0_1=(0:Int)))
  (k0 ((999999:Int)) x0_1 x0_2 x0_3)
  (k0 x0_0 x0_1 x0_2 x0_3)
noncomputable def w64b0:Code:=atC [1,1,1,0] w64b
def w64m0:Nm:=⟨[2,5],[],[]⟩
def w64I0 (x:Int×Int×Int×(List Ex)):Sg:=⟨[(2,.ref 0 0),(5,.e (.i .i64) x.1)],[(0,.box 25 [.e (.i .i64) x.2.1,.e (.i .i64) x.2.2.1,.e (.sl .ex) x.2.2.2])],100⟩
def w64u0 (σ:Sg):Int×Int×Int×(List Ex):=(lvT (.i .i64) 5 0 σ,lvH (.i .i64) 0 0 σ,lvH (.i .i64) 0 1 σ,lvH (.sl .ex) 0 2 σ)
theorem w64ui0:∀ x,w64u0 (w64I0 x)=x:=fun _=>by kernel_rfl
def w64X0_0 (y:Int×Int×Int×(List Ex)):Exit×Sg:=(.normal,⟨[(2,.ref 0 0),(5,.e (.i .i64) y.1)],[(0,.box 25 [.e (.i .i64) y.2.1,.e (.i .i64) y.2.2.1,.e (.sl .ex) y.2.2.2])],100⟩)
def w64v0_0 (_:Exit) (σ:Sg):Int×Int×Int×(List Ex):=(lvT (.i .i64) 5 0 σ,lvH (.i .i64) 0 0 σ,lvH (.i .i64) 0 1 σ,lvH (.sl .ex) 0 2 σ)
def w64w0:List (Exit×Nm):=[(.normal,⟨[2,5],[],[]⟩)]
theorem w64o0:Outs w64v0_0 (fun _ _=>()) (fun _ _=>()) w64X0_0 (noX 1) (noX 2) (exC .normal) (exC (.goto 1)) (exC (.goto 2)):=⟨fun _=>by kernel_rfl,fun _=>by kernel_rfl,fun _=>by kernel_rfl,fun _=>by kernel_rfl,fun _=>by kernel_rfl,fun _=>by kernel_rfl,exNe_ok (by kernel_rfl),exNe_ok (by kernel_rfl),exNe_ok (by kernel_rfl)⟩
def w64l0 [Alg] (N:w64T) (_:Nat) (x:Int×Int×Int×(List Ex)) (k0:(Int×Int×Int×(List Ex))→O) (_:(Unit)→O) (_:(Unit)→O):O:=w64F0 N   (fun y0 y1 y2 y3=>k0 (y0,y1,y2,y3)) x.1 x.2.1 x.2.2.1 x.2.2.2
def w64n0 [Alg] (N:w64T) (a0 a1 a2:Int) (a3:(List Ex)) (k0:Int→Int→Int→(List Ex)→O):O:=w64l0 N N.1 (a0,a1,a2,a3) (fun y=>k0 y.1 y.2.1 y.2.2.1 y.2.2.2) (fun _=>none) (fun _=>none)
noncomputable def w64s0 [Alg] (N:w64T) (a0 a1 a2:Int) (a3:(List Ex)) (k0:Int→Int→Int→(List Ex)→O):O:=subL w64I0 w64u0 (w64l0 N N.1) (w64I0 (a0,a1,a2,a3)) (fun y=>k0 y.1 y.2.1 y.2.2.1 y.2.2.2) (fun _=>none) (fun _=>none)
theorem w64e0 [Alg] (N:w64T):w64s0 N=w64n0 N:=funext fun _=>funext fun _=>funext fun _=>funext fun _=>funext fun _=>subL_I w64ui0 _ _ _ _
noncomputable def w64h0 [Alg] (_:w64T):Hint:=.d
theorem w64hk0 (N:w64T):HintOk (w64c N) Tryz.f64.ntmps (w64h0 N) w64b0:=hk_of _ _ trivial
theorem w64q0 [Alg] (N:w64T) (K:Exit→Sg→O) (x:Int×Int×Int×(List Ex)):w64F0 N   (fun y0 y1 y2 y3=>K (w64X0_0 (y0,y1,y2,y3)).1 (w64X0_0 (y0,y1,y2,y3)).2) x.1 x.2.1 x.2.2.1 x.2.2.2=exec (w64c N) Tryz.f64.ntmps (w64h0 N) w64b0 (w64I0 x) (partX w64w0 K):=by kernel_rfl
theorem w64S0 (N:w64T) (hc:CxOk (w64c N)):SubOk (w64c N) Tryz.f64.ntmps w64b0 w64X0_0 (noX 1) (noX 2) (subL w64I0 w64u0 (w64l0 N N.1)):=
 sub_part hc (w64hk0 N) w64o0 (fun x K=>by
  have h:w64F0 N   (fun y0 y1 y2 y3=>K (w64X0_0 (y0,y1,y2,y3)).1 (w64X0_0 (y0,y1,y2,y3)).2) x.1 x.2.1 x.2.2.1 x.2.2.2=w64F0 N   (fun y0 y1 y2 y3=>K (w64X0_0 (y0,y1,y2,y3)).1 (w64X0_0 (y0,y1,y2,y3)).2) x.1 x.2.1 x.2.2.1 x.2.2.2:=by rfl
  exact h.trans (w64q0 N K x))
def w64F1 [Alg] (_:w64T)   (k0:Int→Int→Int→(List Ex)→O) (x5_0 x5_1 x5_2:Int) (x5_3:(List Ex)):O:=
 br (decide (x5_1=(1:Int)))
  (k0 ((25:Int)) x5_1 x5_2 x5_3)
  (k0 x5_0 x5_1 x5_2 x5_3)
noncomputable def w64b1:Code:=atC [1,1,1,1,0] w64b
def w64m1:Nm:=⟨[2,5],[],[]⟩
def w64I1 (x:Int×Int×Int×(List Ex)):Sg:=⟨[(2,.ref 0 0),(5,.e (.i .i64) x.1)],[(0,.box 25 [.e (.i .i64) x.2.1,.e (.i .i64) x.2.2.1,.e (.sl .ex) x.2.2.2])],100⟩
def w64u1 (σ:Sg):Int×Int×Int×(List Ex):=(lvT (.i .i64) 5 0 σ,lvH (.i .i64) 0 0 σ,lvH (.i .i64) 0 1 σ,lvH (.sl .ex) 0 2 σ)
theorem w64ui1:∀ x,w64u1 (w64I1 x)=x:=fun _=>by kernel_rfl
def w64X1_0 (y:Int×Int×Int×(List Ex)):Exit×Sg:=(.normal,⟨[(2,.ref 0 0),(5,.e (.i .i64) y.1)],[(0,.box 25 [.e (.i .i64) y.2.1,.e (.i .i64) y.2.2.1,.e (.sl .ex) y.2.2.2])],100⟩)
def w64v1_0 (_:Exit) (σ:Sg):Int×Int×Int×(List Ex):=(lvT (.i .i64) 5 0 σ,lvH (.i .i64) 0 0 σ,lvH (.i .i64) 0 1 σ,lvH (.sl .ex) 0 2 σ)
def w64w1:List (Exit×Nm):=[(.normal,⟨[2,5],[],[]⟩)]
theorem w64o1:Outs w64v1_0 (fun _ _=>()) (fun _ _=>()) w64X1_0 (noX 1) (noX 2) (exC .normal) (exC (.goto 1)) (exC (.goto 2)):=⟨fun _=>by kernel_rfl,fun _=>by kernel_rfl,fun _=>by kernel_rfl,fun _=>by kernel_rfl,fun _=>by kernel_rfl,fun _=>by kernel_rfl,exNe_ok (by kernel_rfl),exNe_ok (by kernel_rfl),exNe_ok (by kernel_rfl)⟩
def w64l1 [Alg] (N:w64T) (_:Nat) (x:Int×Int×Int×(List Ex)) (k0:(Int×Int×Int×(List Ex))→O) (_:(Unit)→O) (_:(Unit)→O):O:=w64F1 N   (fun y0 y1 y2 y3=>k0 (y0,y1,y2,y3)) x.1 x.2.1 x.2.2.1 x.2.2.2
def w64n1 [Alg] (N:w64T) (a0 a1 a2:Int) (a3:(List Ex)) (k0:Int→Int→Int→(List Ex)→O):O:=w64l1 N N.1 (a0,a1,a2,a3) (fun y=>k0 y.1 y.2.1 y.2.2.1 y.2.2.2) (fun _=>none) (fun _=>none)
noncomputable def w64s1 [Alg] (N:w64T) (a0 a1 a2:Int) (a3:(List Ex)) (k0:Int→Int→Int→(List Ex)→O):O:=subL w64I1 w64u1 (w64l1 N N.1) (w64I1 (a0,a1,a2,a3)) (fun y=>k0 y.1 y.2.1 y.2.2.1 y.2.2.2) (fun _=>none) (fun _=>none)
theorem w64e1 [Alg] (N:w64T):w64s1 N=w64n1 N:=funext fun _=>funext fun _=>funext fun _=>funext fun _=>funext fun _=>subL_I w64ui1 _ _ _ _
noncomputable def w64h1 [Alg] (_:w64T):Hint:=.d
theorem w64hk1 (N:w64T):HintOk (w64c N) Tryz.f64.ntmps (w64h1 N) w64b1:=hk_of _ _ trivial
theorem w64q1 [Alg] (N:w64T) (K:Exit→Sg→O) (x:Int×Int×Int×(List Ex)):w64F1 N   (fun y0 y1 y2 y3=>K (w64X1_0 (y0,y1,y2,y3)).1 (w64X1_0 (y0,y1,y2,y3)).2) x.1 x.2.1 x.2.2.1 x.2.2.2=exec (w64c N) Tryz.f64.ntmps (w64h1 N) w64b1 (w64I1 x) (partX w64w1 K):=by kernel_rfl
theorem w64S1 (N:w64T) (hc:CxOk (w64c N)):SubOk (w64c N) Tryz.f64.ntmps w64b1 w64X1_0 (noX 1) (noX 2) (subL w64I1 w64u1 (w64l1 N N.1)):=
 sub_part hc (w64hk1 N) w64o1 (fun x K=>by
  have h:w64F1 N   (fun y0 y1 y2 y3=>K (w64X1_0 (y0,y1,y2,y3)).1 (w64X1_0 (y0,y1,y2,y3)).2) x.1 x.2.1 x.2.2.1 x.2.2.2=w64F1 N   (fun y0 y1 y2 y3=>K (w64X1_0 (y0,y1,y2,y3)).1 (w64X1_0 (y0,y1,y2,y3)).2) x.1 x.2.1 x.2.2.1 x.2.2.2:=by rfl
  exact h.trans (w64q1 N K x))
def w64F2 [Alg] (N:w64T)  (self:Int→O) (k0:Bool→O) (k1:Unit→O) (_x10_1 _x10_2:Int) (x10_3:(List Ex)) (x10_0:Int):O:=
 br (decide (x10_0 < (↑x10_3.length:Int)))
  (gx x10_3 x10_0 fun y13=>
  ck ((N.2 y13.op y13.num y13.kids false).isSome) <|
  br (!(N.2 y13.op y13.num y13.kids false).getD false)
   (k0 false)
   (self (IntKind.i64.wrap (x10_0+(1:Int)))))
  (k1 ())
noncomputable def w64b2:Code:=atC [1,1,1,1,1,1,0,1,0,0] w64b
def w64m2:Nm:=⟨[2,6],[],[]⟩
def w64I2 (x:Int×Int×Int×(List Ex)):Sg:=⟨[(2,.ref 0 0),(6,.e (.i .i64) x.1)],[(0,.box 25 [.e (.i .i64) x.2.1,.e (.i .i64) x.2.2.1,.e (.sl .ex) x.2.2.2])],100⟩
def w64u2 (σ:Sg):Int×Int×Int×(List Ex):=(lvT (.i .i64) 6 0 σ,lvH (.i .i64) 0 0 σ,lvH (.i .i64) 0 1 σ,lvH (.sl .ex) 0 2 σ)
theorem w64ui2:∀ x,w64u2 (w64I2 x)=x:=fun _=>by kernel_rfl
def w64X2_0 (y:Bool):Exit×Sg:=(.ret,⟨[(4,.e .bo y)],[],100⟩)
def w64v2_0 (_:Exit) (σ:Sg):Bool:=lvT .bo 4 0 σ
def w64X2_1 (_:Unit):Exit×Sg:=((.exit 0),⟨[],[],100⟩)
def w64v2_1 (_:Exit) (_:Sg):Unit:=()
def w64w2:List (Exit×Nm):=[(.ret,⟨[4],[],[]⟩),((.exit 0),⟨[],[],[]⟩)]
theorem w64o2:Outs w64v2_0 w64v2_1 (fun _ _=>()) w64X2_0 w64X2_1 (noX 2) (exC .ret) (exC (.exit 0)) (exC (.goto 2)):=⟨fun _=>by kernel_rfl,fun _=>by kernel_rfl,fun _=>by kernel_rfl,fun _=>by kernel_rfl,fun _=>by kernel_rfl,fun _=>by kernel_rfl,exNe_ok (by kernel_rfl),exNe_ok (by kernel_rfl),exNe_ok (by kernel_rfl)⟩
def w64l2 [Alg] (N:w64T):Nat→(Int×Int×Int×(List Ex))→((Bool)→O)→((Unit)→O)→((Unit)→O)→O
 | 0,_,_,_,_=>none
 | n+1,x,k0,k1,k2=>w64F2 N  (fun v0=>w64l2 N n (v0,x.2.1,x.2.2.1,x.2.2.2) k0 k1 k2) (fun y0=>k0 y0) (fun (_:Unit)=>k1 ()) x.2.1 x.2.2.1 x.2.2.2 x.1
def w64n2 [Alg] (N:w64T) (a0 a1 a2:Int) (a3:(List Ex)) (k0:Bool→O) (k1:Unit→O):O:=w64l2 N N.1 (a0,a1,a2,a3) (fun y=>k0 y) (fun y=>k1 y) (fun _=>none)
noncomputable def w64s2 [Alg] (N:w64T) (a0 a1 a2:Int) (a3:(List Ex)) (k0:Bool→O) (k1:Unit→O):O:=subL w64I2 w64u2 (w64l2 N N.1) (w64I2 (a0,a1,a2,a3)) (fun y=>k0 y) (fun y=>k1 y) (fun _=>none)
theorem w64e2 [Alg] (N:w64T):w64s2 N=w64n2 N:=funext fun _=>funext fun _=>funext fun _=>funext fun _=>funext fun _=>funext fun _=>subL_I w64ui2 _ _ _ _
noncomputable def w64h2 [Alg] (_:w64T):Hint:=.d
theorem w64hk2 (N:w64T):HintOk (w64c N) Tryz.f64.ntmps (w64h2 N) w64b2:=hk_of _ _ trivial
theorem w64q2 [Alg] (N:w64T) (self:Sg→O) (K:Exit→Sg→O) (x:Int×Int×Int×(List Ex)):w64F2 N  (fun v0=>self (w64I2 (v0,x.2.1,x.2.2.1,x.2.2.2))) (fun y0=>K (w64X2_0 y0).1 (w64X2_0 y0).2) (fun (_:Unit)=>K (w64X2_1 ()).1 (w64X2_1 ()).2) x.2.1 x.2.2.1 x.2.2.2 x.1=exec (w64c N) Tryz.f64.ntmps (w64h2 N) w64b2 (w64I2 x) (roundX w64m2 w64w2 self K):=by kernel_rfl
theorem w64S2 (N:w64T) (hc:CxOk (w64c N)):SubOk (w64c N) Tryz.f64.ntmps (.loop w64b2) w64X2_0 w64X2_1 (noX 2) (subL w64I2 w64u2 (w64l2 N N.1)):=
 sub_loop hc (w64hk2 N) w64o2 (n:=N.1) (fun x K=>loop_ind (w64l2 N) (fun _ _ _ _=>rfl) (fun n K ih x=>by
  have h:w64F2 N  (fun v0=>w64l2 N n (v0,x.2.1,x.2.2.1,x.2.2.2) (fun y=>K (w64X2_0 y).1 (w64X2_0 y).2) (fun y=>K (w64X2_1 y).1 (w64X2_1 y).2) (fun y=>K ((noX 2) y).1 ((noX 2) y).2)) (fun y0=>K (w64X2_0 y0).1 (w64X2_0 y0).2) (fun (_:Unit)=>K (w64X2_1 ()).1 (w64X2_1 ()).2) x.2.1 x.2.2.1 x.2.2.2 x.1=w64F2 N  (fun v0=>loopX (w64c N) Tryz.f64.ntmps (w64h2 N) w64b2 w64m2 w64w2 n (w64I2 (v0,x.2.1,x.2.2.1,x.2.2.2)) K) (fun y0=>K (w64X2_0 y0).1 (w64X2_0 y0).2) (fun (_:Unit)=>K (w64X2_1 ()).1 (w64X2_1 ()).2) x.2.1 x.2.2.1 x.2.2.2 x.1:=by rw [ show (fun v0=>w64l2 N n (v0,x.2.1,x.2.2.1,x.2.2.2) (fun y=>K (w64X2_0 y).1 (w64X2_0 y).2) (fun y=>K (w64X2_1 y).1 (w64X2_1 y).2) (fun y=>K ((noX 2) y).1 ((noX 2) y).2))=(fun v0=>loopX (w64c N) Tryz.f64.ntmps (w64h2 N) w64b2 w64m2 w64w2 n (w64I2 (v0,x.2.1,x.2.2.1,x.2.2.2)) K) from funext fun _=>ih _]
  exact h.trans (w64q2 N (fun σ=>loopX (w64c N) Tryz.f64.ntmps (w64h2 N) w64b2 w64m2 w64w2 n σ K) K x)) N.1 x K)
def w64G [Alg] (N:w64T) (in0:Int→Int→Int→(List Ex)→(Int→Int→Int→(List Ex)→O)→O) (in1:Int→Int→Int→(List Ex)→(Int→Int→Int→(List Ex)→O)→O) (in2:Int→Int→Int→(List Ex)→(Bool→O)→(Unit→O)→O) (A B:Int) (C:(List Ex)) (root1:Bool):O:=
 ck (w91p N.1 A) <|
 br (decide ((↑C.length:Int)≠w91y0 N.1 A)||!root1&&decide ((9:Int)≤A))
  (some (w64r0 false))
  (in0 ((0:Int)) A B C
   (fun z1 z2 z3 z4=>
    in1 z1 z2 z3 z4
     (fun z6 z7 z8 z9=>
      br (decide (z8 < (0:Int))||decide (z6 < z8))
       (some (w64r0 false))
       (in2 ((0:Int)) z7 z8 z9
        (fun z14=>
         some (w64r0 z14))
        (fun (_:Unit)=>
         some (w64r0 true))))))
def w64 [Alg] (N:w64T) (A B:Int) (C:(List Ex)) (root1:Bool):O:=w64G N (w64n0 N) (w64n1 N) (w64n2 N) A B C root1
noncomputable def w64h [Alg] (N:w64T):Hint:=(.seq .d (.seq .d (.seq .d (.seq (.sub w64m0 _ _ _ w64X0_0 (noX 1) (noX 2) (subL w64I0 w64u0 (w64l0 N N.1))) (.seq (.sub w64m1 _ _ _ w64X1_0 (noX 1) (noX 2) (subL w64I1 w64u1 (w64l1 N N.1))) (.seq .d (.seq (.seq .d (.block (.sub w64m2 _ _ _ w64X2_0 w64X2_1 (noX 2) (subL w64I2 w64u2 (w64l2 N N.1))))) .d)))))))
theorem w64hk (N:w64T) (hc:CxOk (w64c N)):HintOk (w64c N) Tryz.f64.ntmps (w64h N) w64b:=hk_of _ _ (And.intro trivial (And.intro trivial (And.intro trivial (And.intro (w64S0 N hc) (And.intro (w64S1 N hc) (And.intro trivial (And.intro (And.intro trivial (w64S2 N hc)) trivial)))))))
theorem w64q [Alg] (N:w64T) (A B:Int) (C:(List Ex)) (root1:Bool):w64G N (w64s0 N) (w64s1 N) (w64s2 N) A B C root1=exec (w64c N) Tryz.f64.ntmps (w64h N) w64b ⟨argT 0 [.agg [.e (.i .i64) A,.e (.i .i64) B,.e (.sl .ex) C],.e .bo root1],[],100⟩ (finX (w64c N) Tryz.f64 false):=by kernel_rfl
theorem w64does {N:w64T} (hc:CxOk (w64c N)) {A B:Int} {C:(List Ex)} {root1:Bool} {r:Res} (h:w64 N A B C root1=some r):DoesR Tryz.prog 64 (([.agg [.e (.i .i64) A,.e (.i .i64) B,.e (.sl .ex) C],.e .bo root1]:List X).map X.D) (HA []) r:=
 fun_ok hc (f:=64) (fn:=Tryz.f64) (code:=w64b) (by kernel_rfl) (by kernel_rfl) (w64hk N hc) (Nat.le_of_ble_eq_true (by kernel_rfl)) (ow:=false) ((w64q N A B C root1).symm.trans (by rw [w64e0 N,w64e1 N,w64e2 N];exact h))
def w64un (r:Res):Option (Bool):=match r with
 | (x0,[])=>(match ue .bo x0 with | some a0=>some a0 | _=>none)
 | _=>none
theorem w64uo {r:Res} {d:Bool} (h:w64un r=some d):r=w64r0 (d):=by
 unfold w64un at h
 split at h
 ·split at h
  ·rename_i h0;cases h;rw [ue_some h0];rfl
  ·cases h
 ·cases h
def w64z (N:w64T) (A B:Int) (C:(List Ex)) (root1:Bool):Option (Bool):=(w64 N A B C root1).bind w64un
theorem w64fin {N:w64T} (hc:CxOk (w64c N)) {A B:Int} {C:(List Ex)} {root1 d:Bool} (hd:w64z N A B C root1=some d):Does Tryz.prog 64 (([.agg [.e (.i .i64) A,.e (.i .i64) B,.e (.sl .ex) C],.e .bo root1]:List X).map X.D) (HA []) (w64r0 (d)).1.D (HA (w64r0 (d)).2):=by
 obtain ⟨r,hr,hu⟩:=Option.bind_eq_some_iff.1 hd
 have:=w64does hc hr
 rw [w64uo hu] at this
 exact this
def w64Y (N:Nat):Nat→Int→Int→(List Ex)→Bool→Option (Bool)
 | 0,_,_,_,_=>none
 | n+1,A,B,C,root1=>w64z (N,w64Y N n) A B C root1
theorem w64Yok (N:Nat):∀ n,EOk Tryz.prog 64 (E2 .ex .bo  (fun x0 x1=>((w64Y N n (Ex.op x0) (Ex.num x0) (Ex.kids x0) x1).isSome,w64r0 (((w64Y N n (Ex.op x0) (Ex.num x0) (Ex.kids x0) x1).getD false)))))
 | 0=>EOk.e2 (fun _ _ h=>by cases h)
 | n+1=>EOk.e2 (fun x0 x1 h=>by
   obtain ⟨d,hd⟩:=Option.isSome_iff_exists.1 h
   have hd':w64Y N (n+1) (Ex.op x0) (Ex.num x0) (Ex.kids x0) x1=some d:=hd
   have e:w64r0 (((w64Y N (n+1) (Ex.op x0) (Ex.num x0) (Ex.kids x0) x1).getD false))=w64r0 (d):=by rw [hd'];rfl
   show Does _ _ _ _ (w64r0 (((w64Y N (n+1) (Ex.op x0) (Ex.num x0) (Ex.kids x0) x1).getD false))).1.D (HA (w64r0 (((w64Y N (n+1) (Ex.op x0) (Ex.num x0) (Ex.kids x0) x1).getD false))).2)
   rw [e]
   exact w64fin (N:=(N,w64Y N n)) (w64cx (N,w64Y N n) (w64Yok N n)) hd')
def w64p (N:Nat) (A B:Int) (C:(List Ex)) (root1:Bool):Bool:=(w64Y N N A B C root1).isSome
def w64y0 (N:Nat) (A B:Int) (C:(List Ex)) (root1:Bool):Bool:=((w64Y N N A B C root1).getD false)
def w64e (N:Nat):Ent':=E2 .ex .bo  (fun x0 x1=>(w64p N (Ex.op x0) (Ex.num x0) (Ex.kids x0) x1,w64r0 (w64y0 N (Ex.op x0) (Ex.num x0) (Ex.kids x0) x1)))
theorem w64ok (N:Nat):EOk Tryz.prog 64 (w64e N):=w64Yok N N
def w36r0 (a0:Int):Res:=(.e (.i .i64) a0,[])
noncomputable def w36L (N:Nat):List (Nat×Ent'):=[(62,w62e N),(63,w63e N),(64,w64e N)]
noncomputable def w36c (N:Nat):Cx:=⟨Tryz.prog,25,w36L N,[]⟩
noncomputable def w36b:Code:=Tryz.f36.body.getD .skip
theorem w36cx (N:Nat):CxOk (w36c N):=ctx_ok (by kernel_rfl) (.cons (by kernel_rfl) (w62ok N) (.cons (by kernel_rfl) (w63ok N) (.cons (by kernel_rfl) (w64ok N) .nil))) .nil
def w36G [Alg] (N:Nat)  (A B:Int) (C:(List Ex)):O:=
 ck (w62p N A B C) <|
 ck (!!decide ((256:Int) < w62y0 N A B C)||w63p N A B C) <|
 br (decide ((256:Int) < w62y0 N A B C)||decide ((16:Int) < w63y0 N A B C))
  (some (w36r0 ((4:Int))))
  (ck (w64p N A B C true) <|
  br (!w64y0 N A B C true)
   (some (w36r0 ((1:Int))))
   (some (w36r0 ((0:Int)))))
def w36 [Alg] (N:Nat) (A B:Int) (C:(List Ex)):O:=w36G N  A B C
noncomputable def w36h [Alg] (_:Nat):Hint:=.d
theorem w36hk (N:Nat):HintOk (w36c N) Tryz.f36.ntmps (w36h N) w36b:=hk_of _ _ trivial
theorem w36q [Alg] (N:Nat) (A B:Int) (C:(List Ex)):w36G N  A B C=exec (w36c N) Tryz.f36.ntmps (w36h N) w36b ⟨argT 0 [.agg [.e (.i .i64) A,.e (.i .i64) B,.e (.sl .ex) C]],[],100⟩ (finX (w36c N) Tryz.f36 false):=by kernel_rfl
theorem w36does {N:Nat} (hc:CxOk (w36c N)) {A B:Int} {C:(List Ex)} {r:Res} (h:w36 N A B C=some r):DoesR Tryz.prog 36 (([.agg [.e (.i .i64) A,.e (.i .i64) B,.e (.sl .ex) C]]:List X).map X.D) (HA []) r:=
 fun_ok hc (f:=36) (fn:=Tryz.f36) (code:=w36b) (by kernel_rfl) (by kernel_rfl) (w36hk N) (Nat.le_of_ble_eq_true (by kernel_rfl)) (ow:=false) ((w36q N A B C).symm.trans (by exact h))
def w36un (r:Res):Option (Int):=match r with
 | (x0,[])=>(match ue (.i .i64) x0 with | some a0=>some a0 | _=>none)
 | _=>none
theorem w36uo {r:Res} {d:Int} (h:w36un r=some d):r=w36r0 (d):=by
 unfold w36un at h
 split at h
 ·split at h
  ·rename_i h0;cases h;rw [ue_some h0];rfl
  ·cases h
 ·cases h
def w36z (N:Nat) (A B:Int) (C:(List Ex)):Option (Int):=(w36 N A B C).bind w36un
theorem w36fin {N:Nat} (hc:CxOk (w36c N)) {A B:Int} {C:(List Ex)} {d:Int} (hd:w36z N A B C=some d):Does Tryz.prog 36 (([.agg [.e (.i .i64) A,.e (.i .i64) B,.e (.sl .ex) C]]:List X).map X.D) (HA []) (w36r0 (d)).1.D (HA (w36r0 (d)).2):=by
 obtain ⟨r,hr,hu⟩:=Option.bind_eq_some_iff.1 hd
 have:=w36does hc hr
 rw [w36uo hu] at this
 exact this
def w36p (N:Nat) (A B:Int) (C:(List Ex)):Bool:=(w36z N A B C).isSome
def w36y0 (N:Nat) (A B:Int) (C:(List Ex)):Int:=((w36z N A B C).getD 0)
def w36e (N:Nat):Ent':=E1 .ex  (fun x0=>(w36p N (Ex.op x0) (Ex.num x0) (Ex.kids x0),w36r0 (w36y0 N (Ex.op x0) (Ex.num x0) (Ex.kids x0))))
theorem w36re {N:Nat} {A B:Int} {C:(List Ex)} {d:Int} (hd:w36z N A B C=some d):w36r0 (w36y0 N A B C)=w36r0 (d):=by unfold w36y0;rw [hd];rfl
theorem w36ok (N:Nat):EOk Tryz.prog 36 (w36e N):=EOk.e1 (fun x0 h=>by
 have h:(w36z N (Ex.op x0) (Ex.num x0) (Ex.kids x0)).isSome=true:=h
 obtain ⟨d,hd⟩:=Option.isSome_iff_exists.1 h
 have f:=w36fin (w36cx N) hd
 rw [← w36re hd] at f
 exact f)
def w92r0 (a0:(List UInt8)):Res:=(.e .tx a0,[])
abbrev w92T:=Nat×(Int→Option ((List UInt8)))
noncomputable def w92L (N:w92T):List (Nat×Ent'):=[(92,E1 (.i .i64)  (fun x0=>((N.2 x0).isSome,w92r0 (((N.2 x0).getD [])))))]
noncomputable def w92c (N:w92T):Cx:=⟨Tryz.prog,25,w92L N,[]⟩
noncomputable def w92b:Code:=Tryz.f92.body.getD .skip
theorem w92cx (N:w92T) (hs:EOk Tryz.prog 92 (E1 (.i .i64)  (fun x0=>((N.2 x0).isSome,w92r0 (((N.2 x0).getD [])))))):CxOk (w92c N):=ctx_ok (by kernel_rfl) (.cons (by kernel_rfl) hs .nil) .nil
def w92G [Alg] (N:w92T)  (n0:Int):O:=
 br (decide (n0 < (10:Int)))
  (some (w92r0 [u8of (IntKind.i64.wrap ((48:Int)+n0))]))
  (ck true <|
  ck ((N.2 (IntKind.i64.wrap (n0.tdiv (10:Int)))).isSome) <|
  ck true <|
  ck (decide ((↑((N.2 (IntKind.i64.wrap (n0.tdiv (10:Int)))).getD []).length:Int)+(↑[u8of (IntKind.i64.wrap ((48:Int)+n0.tmod (10:Int)))].length:Int)≤(9223372036854775807:Int))) <|
  some (w92r0 ((N.2 (IntKind.i64.wrap (n0.tdiv (10:Int)))).getD []++[u8of (IntKind.i64.wrap ((48:Int)+n0.tmod (10:Int)))])))
def w92 [Alg] (N:w92T) (n0:Int):O:=w92G N  n0
noncomputable def w92h [Alg] (_:w92T):Hint:=.d
theorem w92hk (N:w92T):HintOk (w92c N) Tryz.f92.ntmps (w92h N) w92b:=hk_of _ _ trivial
theorem w92q [Alg] (N:w92T) (n0:Int):w92G N  n0=exec (w92c N) Tryz.f92.ntmps (w92h N) w92b ⟨argT 0 [.e (.i .i64) n0],[],100⟩ (finX (w92c N) Tryz.f92 false):=by kernel_rfl
theorem w92does {N:w92T} (hc:CxOk (w92c N)) {n0:Int} {r:Res} (h:w92 N n0=some r):DoesR Tryz.prog 92 (([.e (.i .i64) n0]:List X).map X.D) (HA []) r:=
 fun_ok hc (f:=92) (fn:=Tryz.f92) (code:=w92b) (by kernel_rfl) (by kernel_rfl) (w92hk N) (Nat.le_of_ble_eq_true (by kernel_rfl)) (ow:=false) ((w92q N n0).symm.trans (by exact h))
def w92un (r:Res):Option ((List UInt8)):=match r with
 | (x0,[])=>(match ue .tx x0 with | some a0=>some a0 | _=>none)
 | _=>none
theorem w92uo {r:Res} {d:(List UInt8)} (h:w92un r=some d):r=w92r0 (d):=by
 unfold w92un at h
 split at h
 ·split at h
  ·rename_i h0;cases h;rw [ue_some h0];rfl
  ·cases h
 ·cases h
def w92z (N:w92T) (n0:Int):Option ((List UInt8)):=(w92 N n0).bind w92un
theorem w92fin {N:w92T} (hc:CxOk (w92c N)) {n0:Int} {d:(List UInt8)} (hd:w92z N n0=some d):Does Tryz.prog 92 (([.e (.i .i64) n0]:List X).map X.D) (HA []) (w92r0 (d)).1.D (HA (w92r0 (d)).2):=by
 obtain ⟨r,hr,hu⟩:=Option.bind_eq_some_iff.1 hd
 have:=w92does hc hr
 rw [w92uo hu] at this
 exact this
def w92Y (N:Nat):Nat→Int→Option ((List UInt8))
 | 0,_=>none
 | n+1,n0=>w92z (N,w92Y N n) n0
theorem w92Yok (N:Nat):∀ n,EOk Tryz.prog 92 (E1 (.i .i64)  (fun x0=>((w92Y N n x0).isSome,w92r0 (((w92Y N n x0).getD [])))))
 | 0=>EOk.e1 (fun _ h=>by cases h)
 | n+1=>EOk.e1 (fun x0 h=>by
   obtain ⟨d,hd⟩:=Option.isSome_iff_exists.1 h
   have hd':w92Y N (n+1) x0=some d:=hd
   have e:w92r0 (((w92Y N (n+1) x0).getD []))=w92r0 (d):=by rw [hd'];rfl
   show Does _ _ _ _ (w92r0 (((w92Y N (n+1) x0).getD []))).1.D (HA (w92r0 (((w92Y N (n+1) x0).getD []))).2)
   rw [e]
   exact w92fin (N:=(N,w92Y N n)) (w92cx (N,w92Y N n) (w92Yok N n)) hd')
def w92p (N:Nat) (n0:Int):Bool:=(w92Y N N n0).isSome
def w92y0 (N:Nat) (n0:Int):(List UInt8):=((w92Y N N n0).getD [])
def w92e (N:Nat):Ent':=E1 (.i .i64)  (fun x0=>(w92p N x0,w92r0 (w92y0 N x0)))
theorem w92ok (N:Nat):EOk Tryz.prog 92 (w92e N):=w92Yok N N
def w94r0 (a0:Int):Res:=(.e (.i .i64) a0,[])
noncomputable def w94L (_:Nat):List (Nat×Ent'):=[]
noncomputable def w94c (N:Nat):Cx:=⟨Tryz.prog,25,w94L N,[]⟩
noncomputable def w94b:Code:=Tryz.f94.body.getD .skip
theorem w94cx (N:Nat):CxOk (w94c N):=ctx_ok (by kernel_rfl) .nil .nil
def w94F0 [Alg] (_:Nat)   (k0:Int→Bool→O) (x13_0:Int):O:=
 br (decide (x13_0=(9:Int)))
  (k0 x13_0 (decide (x13_0=(9:Int))))
  (k0 x13_0 (decide (x13_0=(10:Int))))
noncomputable def w94b0:Code:=atC [1,0,1,0,0] w94b
def w94m0:Nm:=⟨[3],[],[]⟩
def w94I0 (x:Int):Sg:=⟨[(3,.e (.i .i64) x)],[],100⟩
def w94u0 (σ:Sg):Int:=lvT (.i .i64) 3 0 σ
theorem w94ui0:∀ x,w94u0 (w94I0 x)=x:=fun _=>by kernel_rfl
def w94X0_0 (y:Int×Bool):Exit×Sg:=(.normal,⟨[(3,.e (.i .i64) y.1),(4,.e .bo y.2)],[],100⟩)
def w94v0_0 (_:Exit) (σ:Sg):Int×Bool:=(lvT (.i .i64) 3 0 σ,lvT .bo 4 0 σ)
def w94w0:List (Exit×Nm):=[(.normal,⟨[3,4],[],[]⟩)]
theorem w94o0:Outs w94v0_0 (fun _ _=>()) (fun _ _=>()) w94X0_0 (noX 1) (noX 2) (exC .normal) (exC (.goto 1)) (exC (.goto 2)):=⟨fun _=>by kernel_rfl,fun _=>by kernel_rfl,fun _=>by kernel_rfl,fun _=>by kernel_rfl,fun _=>by kernel_rfl,fun _=>by kernel_rfl,exNe_ok (by kernel_rfl),exNe_ok (by kernel_rfl),exNe_ok (by kernel_rfl)⟩
def w94l0 [Alg] (N _:Nat) (x:Int) (k0:(Int×Bool)→O) (_:(Unit)→O) (_:(Unit)→O):O:=w94F0 N   (fun y0 y1=>k0 (y0,y1)) x
def w94n0 [Alg] (N:Nat) (a0:Int) (k0:Int→Bool→O):O:=w94l0 N N a0 (fun y=>k0 y.1 y.2) (fun _=>none) (fun _=>none)
noncomputable def w94s0 [Alg] (N:Nat) (a0:Int) (k0:Int→Bool→O):O:=subL w94I0 w94u0 (w94l0 N N) (w94I0 a0) (fun y=>k0 y.1 y.2) (fun _=>none) (fun _=>none)
theorem w94e0 [Alg] (N:Nat):w94s0 N=w94n0 N:=funext fun _=>funext fun _=>subL_I w94ui0 _ _ _ _
noncomputable def w94h0 [Alg] (_:Nat):Hint:=.d
theorem w94hk0 (N:Nat):HintOk (w94c N) Tryz.f94.ntmps (w94h0 N) w94b0:=hk_of _ _ trivial
theorem w94q0 [Alg] (N:Nat) (K:Exit→Sg→O) (x:Int):w94F0 N   (fun y0 y1=>K (w94X0_0 (y0,y1)).1 (w94X0_0 (y0,y1)).2) x=exec (w94c N) Tryz.f94.ntmps (w94h0 N) w94b0 (w94I0 x) (partX w94w0 K):=by kernel_rfl
theorem w94S0 (N:Nat) (hc:CxOk (w94c N)):SubOk (w94c N) Tryz.f94.ntmps w94b0 w94X0_0 (noX 1) (noX 2) (subL w94I0 w94u0 (w94l0 N N)):=
 sub_part hc (w94hk0 N) w94o0 (fun x K=>by
  have h:w94F0 N   (fun y0 y1=>K (w94X0_0 (y0,y1)).1 (w94X0_0 (y0,y1)).2) x=w94F0 N   (fun y0 y1=>K (w94X0_0 (y0,y1)).1 (w94X0_0 (y0,y1)).2) x:=by rfl
  exact h.trans (w94q0 N K x))
def w94F1 [Alg] (_:Nat)   (k0:Int→Bool→O) (x16_0:Int):O:=
 br (decide (x16_0=(3:Int)))
  (k0 x16_0 (decide (x16_0=(3:Int))))
  (k0 x16_0 (decide (x16_0=(4:Int))))
noncomputable def w94b1:Code:=atC [1,0,1,0,1,1,0] w94b
def w94m1:Nm:=⟨[3],[],[]⟩
def w94I1 (x:Int):Sg:=⟨[(3,.e (.i .i64) x)],[],100⟩
def w94u1 (σ:Sg):Int:=lvT (.i .i64) 3 0 σ
theorem w94ui1:∀ x,w94u1 (w94I1 x)=x:=fun _=>by kernel_rfl
def w94X1_0 (y:Int×Bool):Exit×Sg:=(.normal,⟨[(3,.e (.i .i64) y.1),(7,.e .bo y.2)],[],100⟩)
def w94v1_0 (_:Exit) (σ:Sg):Int×Bool:=(lvT (.i .i64) 3 0 σ,lvT .bo 7 0 σ)
def w94w1:List (Exit×Nm):=[(.normal,⟨[3,7],[],[]⟩)]
theorem w94o1:Outs w94v1_0 (fun _ _=>()) (fun _ _=>()) w94X1_0 (noX 1) (noX 2) (exC .normal) (exC (.goto 1)) (exC (.goto 2)):=⟨fun _=>by kernel_rfl,fun _=>by kernel_rfl,fun _=>by kernel_rfl,fun _=>by kernel_rfl,fun _=>by kernel_rfl,fun _=>by kernel_rfl,exNe_ok (by kernel_rfl),exNe_ok (by kernel_rfl),exNe_ok (by kernel_rfl)⟩
def w94l1 [Alg] (N _:Nat) (x:Int) (k0:(Int×Bool)→O) (_:(Unit)→O) (_:(Unit)→O):O:=w94F1 N   (fun y0 y1=>k0 (y0,y1)) x
def w94n1 [Alg] (N:Nat) (a0:Int) (k0:Int→Bool→O):O:=w94l1 N N a0 (fun y=>k0 y.1 y.2) (fun _=>none) (fun _=>none)
noncomputable def w94s1 [Alg] (N:Nat) (a0:Int) (k0:Int→Bool→O):O:=subL w94I1 w94u1 (w94l1 N N) (w94I1 a0) (fun y=>k0 y.1 y.2) (fun _=>none) (fun _=>none)
theorem w94e1 [Alg] (N:Nat):w94s1 N=w94n1 N:=funext fun _=>funext fun _=>subL_I w94ui1 _ _ _ _
noncomputable def w94h1 [Alg] (_:Nat):Hint:=.d
theorem w94hk1 (N:Nat):HintOk (w94c N) Tryz.f94.ntmps (w94h1 N) w94b1:=hk_of _ _ trivial
theorem w94q1 [Alg] (N:Nat) (K:Exit→Sg→O) (x:Int):w94F1 N   (fun y0 y1=>K (w94X1_0 (y0,y1)).1 (w94X1_0 (y0,y1)).2) x=exec (w94c N) Tryz.f94.ntmps (w94h1 N) w94b1 (w94I1 x) (partX w94w1 K):=by kernel_rfl
theorem w94S1 (N:Nat) (hc:CxOk (w94c N)):SubOk (w94c N) Tryz.f94.ntmps w94b1 w94X1_0 (noX 1) (noX 2) (subL w94I1 w94u1 (w94l1 N N)):=
 sub_part hc (w94hk1 N) w94o1 (fun x K=>by
  have h:w94F1 N   (fun y0 y1=>K (w94X1_0 (y0,y1)).1 (w94X1_0 (y0,y1)).2) x=w94F1 N   (fun y0 y1=>K (w94X1_0 (y0,y1)).1 (w94X1_0 (y0,y1)).2) x:=by rfl
  exact h.trans (w94q1 N K x))
def w94F2 [Alg] (_:Nat) (in0:Int→(Int→Bool→O)→O) (in1:Int→(Int→Bool→O)→O)  (k0:Int→O) (k1:Unit→O) (x0_0:Int):O:=
 in0 x0_0
  (fun z14 z15=>
   br z15
    (k0 ((0:Int)))
    (in1 z14
     (fun z17 z18=>
      br z18
       (k0 ((1:Int)))
       (br (decide (z17=(5:Int)))
        (br (decide (z17=(5:Int)))
         (k0 ((2:Int)))
         (br (decide (z17=(2:Int)))
          (br (decide (z17=(2:Int)))
           (k0 ((3:Int)))
           (k1 ()))
          (br (decide (z17=(7:Int)))
           (k0 ((3:Int)))
           (k1 ()))))
        (br (decide (z17=(6:Int)))
         (k0 ((2:Int)))
         (br (decide (z17=(2:Int)))
          (br (decide (z17=(2:Int)))
           (k0 ((3:Int)))
           (k1 ()))
          (br (decide (z17=(7:Int)))
           (k0 ((3:Int)))
           (k1 ()))))))))
noncomputable def w94b2:Code:=atC [1,0] w94b
def w94m2:Nm:=⟨[0],[],[]⟩
def w94I2 (x:Int):Sg:=⟨[(0,.e (.i .i64) x)],[],100⟩
def w94u2 (σ:Sg):Int:=lvT (.i .i64) 0 0 σ
theorem w94ui2:∀ x,w94u2 (w94I2 x)=x:=fun _=>by kernel_rfl
def w94X2_0 (y:Int):Exit×Sg:=(.ret,⟨[(2,.e (.i .i64) y)],[],100⟩)
def w94v2_0 (_:Exit) (σ:Sg):Int:=lvT (.i .i64) 2 0 σ
def w94X2_1 (_:Unit):Exit×Sg:=(.normal,⟨[],[],100⟩)
def w94v2_1 (_:Exit) (_:Sg):Unit:=()
def w94w2:List (Exit×Nm):=[(.ret,⟨[2],[],[]⟩),(.normal,⟨[],[],[]⟩)]
theorem w94o2:Outs w94v2_0 w94v2_1 (fun _ _=>()) w94X2_0 w94X2_1 (noX 2) (exC .ret) (exC .normal) (exC (.goto 2)):=⟨fun _=>by kernel_rfl,fun _=>by kernel_rfl,fun _=>by kernel_rfl,fun _=>by kernel_rfl,fun _=>by kernel_rfl,fun _=>by kernel_rfl,exNe_ok (by kernel_rfl),exNe_ok (by kernel_rfl),exNe_ok (by kernel_rfl)⟩
def w94l2 [Alg] (N _:Nat) (x:Int) (k0:(Int)→O) (k1:(Unit)→O) (_:(Unit)→O):O:=w94F2 N (w94n0 N) (w94n1 N)  (fun y0=>k0 y0) (fun (_:Unit)=>k1 ()) x
def w94n2 [Alg] (N:Nat) (a0:Int) (k0:Int→O) (k1:Unit→O):O:=w94l2 N N a0 (fun y=>k0 y) (fun y=>k1 y) (fun _=>none)
noncomputable def w94s2 [Alg] (N:Nat) (a0:Int) (k0:Int→O) (k1:Unit→O):O:=subL w94I2 w94u2 (w94l2 N N) (w94I2 a0) (fun y=>k0 y) (fun y=>k1 y) (fun _=>none)
theorem w94e2 [Alg] (N:Nat):w94s2 N=w94n2 N:=funext fun _=>funext fun _=>funext fun _=>subL_I w94ui2 _ _ _ _
noncomputable def w94h2 [Alg] (N:Nat):Hint:=(.seq .d (.block (.seq (.sub w94m0 _ _ _ w94X0_0 (noX 1) (noX 2) (subL w94I0 w94u0 (w94l0 N N))) (.cond .d (.seq (.sub w94m1 _ _ _ w94X1_0 (noX 1) (noX 2) (subL w94I1 w94u1 (w94l1 N N))) .d)))))
theorem w94hk2 (N:Nat) (hc:CxOk (w94c N)):HintOk (w94c N) Tryz.f94.ntmps (w94h2 N) w94b2:=hk_of _ _ (And.intro trivial (And.intro (w94S0 N hc) (And.intro trivial (And.intro (w94S1 N hc) trivial))))
theorem w94q2 [Alg] (N:Nat) (K:Exit→Sg→O) (x:Int):w94F2 N (w94s0 N) (w94s1 N)  (fun y0=>K (w94X2_0 y0).1 (w94X2_0 y0).2) (fun (_:Unit)=>K (w94X2_1 ()).1 (w94X2_1 ()).2) x=exec (w94c N) Tryz.f94.ntmps (w94h2 N) w94b2 (w94I2 x) (partX w94w2 K):=by kernel_rfl
theorem w94S2 (N:Nat) (hc:CxOk (w94c N)):SubOk (w94c N) Tryz.f94.ntmps w94b2 w94X2_0 w94X2_1 (noX 2) (subL w94I2 w94u2 (w94l2 N N)):=
 sub_part hc (w94hk2 N hc) w94o2 (fun x K=>by
  have h:w94F2 N (w94n0 N) (w94n1 N)  (fun y0=>K (w94X2_0 y0).1 (w94X2_0 y0).2) (fun (_:Unit)=>K (w94X2_1 ()).1 (w94X2_1 ()).2) x=w94F2 N (w94s0 N) (w94s1 N)  (fun y0=>K (w94X2_0 y0).1 (w94X2_0 y0).2) (fun (_:Unit)=>K (w94X2_1 ()).1 (w94X2_1 ()).2) x:=by rw [w94e0 N,w94e1 N]
  exact h.trans (w94q2 N K x))
def w94G [Alg] (_:Nat) (_in0:Int→(Int→Bool→O)→O) (_in1:Int→(Int→Bool→O)→O) (in2:Int→(Int→O)→(Unit→O)→O) (op0:Int):O:=
 in2 op0
  (fun z19=>
   some (w94r0 z19))
  (fun (_:Unit)=>
   some (w94r0 ((4:Int))))
def w94 [Alg] (N:Nat) (op0:Int):O:=w94G N (w94n0 N) (w94n1 N) (w94n2 N) op0
noncomputable def w94h [Alg] (N:Nat):Hint:=(.seq .d (.seq (.sub w94m2 _ _ _ w94X2_0 w94X2_1 (noX 2) (subL w94I2 w94u2 (w94l2 N N))) .d))
theorem w94hk (N:Nat) (hc:CxOk (w94c N)):HintOk (w94c N) Tryz.f94.ntmps (w94h N) w94b:=hk_of _ _ (And.intro trivial (And.intro (w94S2 N hc) trivial))
theorem w94q [Alg] (N:Nat) (op0:Int):w94G N (w94s0 N) (w94s1 N) (w94s2 N) op0=exec (w94c N) Tryz.f94.ntmps (w94h N) w94b ⟨argT 0 [.e (.i .i64) op0],[],100⟩ (finX (w94c N) Tryz.f94 false):=by kernel_rfl
theorem w94does {N:Nat} (hc:CxOk (w94c N)) {op0:Int} {r:Res} (h:w94 N op0=some r):DoesR Tryz.prog 94 (([.e (.i .i64) op0]:List X).map X.D) (HA []) r:=
 fun_ok hc (f:=94) (fn:=Tryz.f94) (code:=w94b) (by kernel_rfl) (by kernel_rfl) (w94hk N hc) (Nat.le_of_ble_eq_true (by kernel_rfl)) (ow:=false) ((w94q N op0).symm.trans (by rw [w94e0 N,w94e1 N,w94e2 N];exact h))
def w94un (r:Res):Option (Int):=match r with
 | (x0,[])=>(match ue (.i .i64) x0 with | some a0=>some a0 | _=>none)
 | _=>none
theorem w94uo {r:Res} {d:Int} (h:w94un r=some d):r=w94r0 (d):=by
 unfold w94un at h
 split at h
 ·split at h
  ·rename_i h0;cases h;rw [ue_some h0];rfl
  ·cases h
 ·cases h
def w94z (N:Nat) (op0:Int):Option (Int):=(w94 N op0).bind w94un
theorem w94fin {N:Nat} (hc:CxOk (w94c N)) {op0 d:Int} (hd:w94z N op0=some d):Does Tryz.prog 94 (([.e (.i .i64) op0]:List X).map X.D) (HA []) (w94r0 (d)).1.D (HA (w94r0 (d)).2):=by
 obtain ⟨r,hr,hu⟩:=Option.bind_eq_some_iff.1 hd
 have:=w94does hc hr
 rw [w94uo hu] at this
 exact this
def w94p (N:Nat) (op0:Int):Bool:=(w94z N op0).isSome
def w94y0 (N:Nat) (op0:Int):Int:=((w94z N op0).getD 0)
def w94e (N:Nat):Ent':=E1 (.i .i64)  (fun x0=>(w94p N x0,w94r0 (w94y0 N x0)))
theorem w94re {N:Nat} {op0 d:Int} (hd:w94z N op0=some d):w94r0 (w94y0 N op0)=w94r0 (d):=by unfold w94y0;rw [hd];rfl
theorem w94ok (N:Nat):EOk Tryz.prog 94 (w94e N):=EOk.e1 (fun x0 h=>by
 have h:(w94z N x0).isSome=true:=h
 obtain ⟨d,hd⟩:=Option.isSome_iff_exists.1 h
 have f:=w94fin (w94cx N) hd
 rw [← w94re hd] at f
 exact f)
def w95r0 (a0:(List UInt8)):Res:=(.e .tx a0,[])
noncomputable def w95L (_:Nat):List (Nat×Ent'):=[]
noncomputable def w95c (N:Nat):Cx:=⟨Tryz.prog,25,w95L N,[]⟩
noncomputable def w95b:Code:=Tryz.f95.body.getD .skip
theorem w95cx (N:Nat):CxOk (w95c N):=ctx_ok (by kernel_rfl) .nil .nil
def w95G [Alg] (_:Nat)  (op0:Int):O:=
 br (decide (op0=(3:Int)))
  (some (w95r0 [(43:UInt8)]))
  (br (decide (op0=(4:Int)))
   (some (w95r0 [(45:UInt8)]))
   (br (decide (op0=(5:Int)))
    (some (w95r0 [(42:UInt8)]))
    (br (decide (op0=(6:Int)))
     (some (w95r0 [(47:UInt8)]))
     (br (decide (op0=(7:Int)))
      (some (w95r0 [(94:UInt8)]))
      (br (decide (op0=(9:Int)))
       (some (w95r0 [(61:UInt8)]))
       (some (w95r0 [(60:UInt8)])))))))
def w95 [Alg] (N:Nat) (op0:Int):O:=w95G N  op0
noncomputable def w95h [Alg] (_:Nat):Hint:=.d
theorem w95hk (N:Nat):HintOk (w95c N) Tryz.f95.ntmps (w95h N) w95b:=hk_of _ _ trivial
theorem w95q [Alg] (N:Nat) (op0:Int):w95G N  op0=exec (w95c N) Tryz.f95.ntmps (w95h N) w95b ⟨argT 0 [.e (.i .i64) op0],[],100⟩ (finX (w95c N) Tryz.f95 false):=by kernel_rfl
theorem w95does {N:Nat} (hc:CxOk (w95c N)) {op0:Int} {r:Res} (h:w95 N op0=some r):DoesR Tryz.prog 95 (([.e (.i .i64) op0]:List X).map X.D) (HA []) r:=
 fun_ok hc (f:=95) (fn:=Tryz.f95) (code:=w95b) (by kernel_rfl) (by kernel_rfl) (w95hk N) (Nat.le_of_ble_eq_true (by kernel_rfl)) (ow:=false) ((w95q N op0).symm.trans (by exact h))
def w95un (r:Res):Option ((List UInt8)):=match r with
 | (x0,[])=>(match ue .tx x0 with | some a0=>some a0 | _=>none)
 | _=>none
theorem w95uo {r:Res} {d:(List UInt8)} (h:w95un r=some d):r=w95r0 (d):=by
 unfold w95un at h
 split at h
 ·split at h
  ·rename_i h0;cases h;rw [ue_some h0];rfl
  ·cases h
 ·cases h
def w95z (N:Nat) (op0:Int):Option ((List UInt8)):=(w95 N op0).bind w95un
theorem w95fin {N:Nat} (hc:CxOk (w95c N)) {op0:Int} {d:(List UInt8)} (hd:w95z N op0=some d):Does Tryz.prog 95 (([.e (.i .i64) op0]:List X).map X.D) (HA []) (w95r0 (d)).1.D (HA (w95r0 (d)).2):=by
 obtain ⟨r,hr,hu⟩:=Option.bind_eq_some_iff.1 hd
 have:=w95does hc hr
 rw [w95uo hu] at this
 exact this
def w95p (N:Nat) (op0:Int):Bool:=(w95z N op0).isSome
def w95y0 (N:Nat) (op0:Int):(List UInt8):=((w95z N op0).getD [])
def w95e (N:Nat):Ent':=E1 (.i .i64)  (fun x0=>(w95p N x0,w95r0 (w95y0 N x0)))
theorem w95re {N:Nat} {op0:Int} {d:(List UInt8)} (hd:w95z N op0=some d):w95r0 (w95y0 N op0)=w95r0 (d):=by unfold w95y0;rw [hd];rfl
theorem w95ok (N:Nat):EOk Tryz.prog 95 (w95e N):=EOk.e1 (fun x0 h=>by
 have h:(w95z N x0).isSome=true:=h
 obtain ⟨d,hd⟩:=Option.isSome_iff_exists.1 h
 have f:=w95fin (w95cx N) hd
 rw [← w95re hd] at f
 exact f)
def w71r0 (a0:(List UInt8)):Res:=(.e .tx a0,[])
def w71in (xs:List X) (H:XH):Option (Int×Int×(List Ex)):=match xs,H with
 | [.agg [x0,x1,x2]],[]=>(match ue (.i .i64) x0,ue (.i .i64) x1,ue (.sl .ex) x2 with | some a0,some a1,some a2=>some (a0,a1,a2) | _,_,_=>none)
 | _,_=>none
theorem w71io {xs:List X} {H:XH} {d:Int×Int×(List Ex)} (h:w71in xs H=some d):xs=[.agg [.e (.i .i64) (d.1),.e (.i .i64) (d.2.1),.e (.sl .ex) (d.2.2)]]∧H=[]:=by
 unfold w71in at h
 split at h
 ·split at h
  ·rename_i h0 h1 h2;cases h;rw [ue_some h0,ue_some h1,ue_some h2];exact ⟨rfl,rfl⟩
  ·cases h
 ·cases h
abbrev w71T:=Nat×((Int→Int→(List Ex)→Option ((List UInt8)))×(Int→Int→(List Ex)→Int→Option ((List UInt8))))
def w71E (N:w71T):Ent':=entR w71in (fun d=>(N.2.1 (d.1) (d.2.1) (d.2.2)).isSome) (fun d=>w71r0 (((N.2.1 (d.1) (d.2.1) (d.2.2)).getD [])))
def w93r0 (a0:(List UInt8)):Res:=(.e .tx a0,[])
def w93in (xs:List X) (H:XH):Option (Int×Int×(List Ex)×Int):=match xs,H with
 | [.agg [x0,x1,x2],x3],[]=>(match ue (.i .i64) x0,ue (.i .i64) x1,ue (.sl .ex) x2,ue (.i .i64) x3 with | some a0,some a1,some a2,some a3=>some (a0,a1,a2,a3) | _,_,_,_=>none)
 | _,_=>none
theorem w93io {xs:List X} {H:XH} {d:Int×Int×(List Ex)×Int} (h:w93in xs H=some d):xs=[.agg [.e (.i .i64) (d.1),.e (.i .i64) (d.2.1),.e (.sl .ex) (d.2.2.1)],.e (.i .i64) (d.2.2.2)]∧H=[]:=by
 unfold w93in at h
 split at h
 ·split at h
  ·rename_i h0 h1 h2 h3;cases h;rw [ue_some h0,ue_some h1,ue_some h2,ue_some h3];exact ⟨rfl,rfl⟩
  ·cases h
 ·cases h
def w93E (N:w71T):Ent':=entR w93in (fun d=>(N.2.2 (d.1) (d.2.1) (d.2.2.1) (d.2.2.2)).isSome) (fun d=>w93r0 (((N.2.2 (d.1) (d.2.1) (d.2.2.1) (d.2.2.2)).getD [])))
noncomputable def w71L (N:w71T):List (Nat×Ent'):=[(71,w71E N),(93,w93E N),(92,w92e N.1),(94,w94e N.1),(95,w95e N.1)]
noncomputable def w71c (N:w71T):Cx:=⟨Tryz.prog,25,w71L N,[]⟩
noncomputable def w71b:Code:=Tryz.f71.body.getD .skip
theorem w71cx (N:w71T) (hw51:EOk Tryz.prog 71 (w71E N)) (hw82:EOk Tryz.prog 93 (w93E N)):CxOk (w71c N):=ctx_ok (by kernel_rfl) (.cons (by kernel_rfl) hw51 (.cons (by kernel_rfl) hw82 (.cons (by kernel_rfl) (w92ok N.1) (.cons (by kernel_rfl) (w94ok N.1) (.cons (by kernel_rfl) (w95ok N.1) .nil))))) .nil
def w71F0 [Alg] (_:w71T)   (k0:Int→Int→Int→Int→(List Ex)→O) (x4_0 x4_1 x4_2 x4_3:Int) (x4_4:(List Ex)):O:=
 br (decide (x4_0=(0:Int)))
  (k0 x4_0 ((1:Int)) x4_2 x4_3 x4_4)
  (k0 x4_0 x4_1 x4_2 x4_3 x4_4)
noncomputable def w71b0:Code:=atC [1,1,1,1,0] w71b
def w71m0:Nm:=⟨[1,3,4],[],[]⟩
def w71I0 (x:Int×Int×Int×Int×(List Ex)):Sg:=⟨[(1,.ref 0 0),(3,.e (.i .i64) x.1),(4,.e (.i .i64) x.2.1)],[(0,.box 25 [.e (.i .i64) x.2.2.1,.e (.i .i64) x.2.2.2.1,.e (.sl .ex) x.2.2.2.2])],100⟩
def w71u0 (σ:Sg):Int×Int×Int×Int×(List Ex):=(lvT (.i .i64) 3 0 σ,lvT (.i .i64) 4 0 σ,lvH (.i .i64) 0 0 σ,lvH (.i .i64) 0 1 σ,lvH (.sl .ex) 0 2 σ)
theorem w71ui0:∀ x,w71u0 (w71I0 x)=x:=fun _=>by kernel_rfl
def w71X0_0 (y:Int×Int×Int×Int×(List Ex)):Exit×Sg:=(.normal,⟨[(1,.ref 0 0),(3,.e (.i .i64) y.1),(4,.e (.i .i64) y.2.1)],[(0,.box 25 [.e (.i .i64) y.2.2.1,.e (.i .i64) y.2.2.2.1,.e (.sl .ex) y.2.2.2.2])],100⟩)
def w71v0_0 (_:Exit) (σ:Sg):Int×Int×Int×Int×(List Ex):=(lvT (.i .i64) 3 0 σ,lvT (.i .i64) 4 0 σ,lvH (.i .i64) 0 0 σ,lvH (.i .i64) 0 1 σ,lvH (.sl .ex) 0 2 σ)
def w71w0:List (Exit×Nm):=[(.normal,⟨[1,3,4],[],[]⟩)]
theorem w71o0:Outs w71v0_0 (fun _ _=>()) (fun _ _=>()) w71X0_0 (noX 1) (noX 2) (exC .normal) (exC (.goto 1)) (exC (.goto 2)):=⟨fun _=>by kernel_rfl,fun _=>by kernel_rfl,fun _=>by kernel_rfl,fun _=>by kernel_rfl,fun _=>by kernel_rfl,fun _=>by kernel_rfl,exNe_ok (by kernel_rfl),exNe_ok (by kernel_rfl),exNe_ok (by kernel_rfl)⟩
def w71l0 [Alg] (N:w71T) (_:Nat) (x:Int×Int×Int×Int×(List Ex)) (k0:(Int×Int×Int×Int×(List Ex))→O) (_:(Unit)→O) (_:(Unit)→O):O:=w71F0 N   (fun y0 y1 y2 y3 y4=>k0 (y0,y1,y2,y3,y4)) x.1 x.2.1 x.2.2.1 x.2.2.2.1 x.2.2.2.2
def w71n0 [Alg] (N:w71T) (a0 a1 a2 a3:Int) (a4:(List Ex)) (k0:Int→Int→Int→Int→(List Ex)→O):O:=w71l0 N N.1 (a0,a1,a2,a3,a4) (fun y=>k0 y.1 y.2.1 y.2.2.1 y.2.2.2.1 y.2.2.2.2) (fun _=>none) (fun _=>none)
noncomputable def w71s0 [Alg] (N:w71T) (a0 a1 a2 a3:Int) (a4:(List Ex)) (k0:Int→Int→Int→Int→(List Ex)→O):O:=subL w71I0 w71u0 (w71l0 N N.1) (w71I0 (a0,a1,a2,a3,a4)) (fun y=>k0 y.1 y.2.1 y.2.2.1 y.2.2.2.1 y.2.2.2.2) (fun _=>none) (fun _=>none)
theorem w71e0 [Alg] (N:w71T):w71s0 N=w71n0 N:=funext fun _=>funext fun _=>funext fun _=>funext fun _=>funext fun _=>funext fun _=>subL_I w71ui0 _ _ _ _
noncomputable def w71h0 [Alg] (_:w71T):Hint:=.d
theorem w71hk0 (N:w71T):HintOk (w71c N) Tryz.f71.ntmps (w71h0 N) w71b0:=hk_of _ _ trivial
theorem w71q0 [Alg] (N:w71T) (K:Exit→Sg→O) (x:Int×Int×Int×Int×(List Ex)):w71F0 N   (fun y0 y1 y2 y3 y4=>K (w71X0_0 (y0,y1,y2,y3,y4)).1 (w71X0_0 (y0,y1,y2,y3,y4)).2) x.1 x.2.1 x.2.2.1 x.2.2.2.1 x.2.2.2.2=exec (w71c N) Tryz.f71.ntmps (w71h0 N) w71b0 (w71I0 x) (partX w71w0 K):=by kernel_rfl
theorem w71S0 (N:w71T) (hc:CxOk (w71c N)):SubOk (w71c N) Tryz.f71.ntmps w71b0 w71X0_0 (noX 1) (noX 2) (subL w71I0 w71u0 (w71l0 N N.1)):=
 sub_part hc (w71hk0 N) w71o0 (fun x K=>by
  have h:w71F0 N   (fun y0 y1 y2 y3 y4=>K (w71X0_0 (y0,y1,y2,y3,y4)).1 (w71X0_0 (y0,y1,y2,y3,y4)).2) x.1 x.2.1 x.2.2.1 x.2.2.2.1 x.2.2.2.2=w71F0 N   (fun y0 y1 y2 y3 y4=>K (w71X0_0 (y0,y1,y2,y3,y4)).1 (w71X0_0 (y0,y1,y2,y3,y4)).2) x.1 x.2.1 x.2.2.1 x.2.2.2.1 x.2.2.2.2:=by rfl
  exact h.trans (w71q0 N K x))
def w71G [Alg] (N:w71T) (in0:Int→Int→Int→Int→(List Ex)→(Int→Int→Int→Int→(List Ex)→O)→O) (A B:Int) (C:(List Ex)):O:=
 br (decide (A=(0:Int)))
  (ck (w92p N.1 B) <|
  some (w71r0 (w92y0 N.1 B)))
  (br (decide (A=(1:Int)))
   (some (w71r0 [u8of (IntKind.i64.wrap ((97:Int)+B))]))
   (br (decide (A=(2:Int)))
    (gx C ((0:Int)) fun y0=>
    ck ((N.snd.2 y0.op y0.num y0.kids (3:Int)).isSome) <|
    ck (decide ((1:Int)+(↑((N.snd.2 y0.op y0.num y0.kids (3:Int)).getD []).length:Int)≤(9223372036854775807:Int))) <|
    some (w71r0 ([(45:UInt8)]++(N.snd.2 y0.op y0.num y0.kids (3:Int)).getD [])))
    (br (decide (A=(8:Int)))
     (gx C ((0:Int)) fun y1=>
     ck ((N.snd.2 y1.op y1.num y1.kids (1:Int)).isSome) <|
     ck (decide ((2:Int)+(↑((N.snd.2 y1.op y1.num y1.kids (1:Int)).getD []).length:Int)≤(9223372036854775807:Int))) <|
     ck (decide ((↑([(82:UInt8),(40:UInt8)]++(N.snd.2 y1.op y1.num y1.kids (1:Int)).getD []).length:Int)+(1:Int)≤(9223372036854775807:Int))) <|
     some (w71r0 ([(82:UInt8),(40:UInt8)]++(N.snd.2 y1.op y1.num y1.kids (1:Int)).getD []++[(41:UInt8)])))
     (br (decide (A=(7:Int)))
      (gx C ((0:Int)) fun y2=>
      ck ((N.snd.2 y2.op y2.num y2.kids (4:Int)).isSome) <|
      ck (decide ((↑((N.snd.2 y2.op y2.num y2.kids (4:Int)).getD []).length:Int)+(1:Int)≤(9223372036854775807:Int))) <|
      gx C ((1:Int)) fun y3=>
      ck ((N.snd.2 y3.op y3.num y3.kids (3:Int)).isSome) <|
      ck (decide ((↑((N.snd.2 y2.op y2.num y2.kids (4:Int)).getD []++[(94:UInt8)]).length:Int)+(↑((N.snd.2 y3.op y3.num y3.kids (3:Int)).getD []).length:Int)≤(9223372036854775807:Int))) <|
      some (w71r0 ((N.snd.2 y2.op y2.num y2.kids (4:Int)).getD []++[(94:UInt8)]++(N.snd.2 y3.op y3.num y3.kids (3:Int)).getD [])))
      (ck (w94p N.1 A) <|
      in0 (w94y0 N.1 A) (w94y0 N.1 A) A B C
       (fun z5 z6 z7 _ z9=>
        gx z9 ((0:Int)) fun y10=>
        ck ((N.snd.2 y10.op y10.num y10.kids z6).isSome) <|
        ck (w95p N.1 z7) <|
        ck (decide ((↑((N.snd.2 y10.op y10.num y10.kids z6).getD []).length:Int)+(↑(w95y0 N.1 z7).length:Int)≤(9223372036854775807:Int))) <|
        gx z9 ((1:Int)) fun y11=>
        ck ((N.snd.2 y11.op y11.num y11.kids (IntKind.i64.wrap (z5+(1:Int)))).isSome) <|
        ck (decide ((↑((N.snd.2 y10.op y10.num y10.kids z6).getD []++w95y0 N.1 z7).length:Int)+(↑((N.snd.2 y11.op y11.num y11.kids (IntKind.i64.wrap (z5+(1:Int)))).getD []).length:Int)≤(9223372036854775807:Int))) <|
        some (w71r0 ((N.snd.2 y10.op y10.num y10.kids z6).getD []++w95y0 N.1 z7++(N.snd.2 y11.op y11.num y11.kids (IntKind.i64.wrap (z5+(1:Int)))).getD []))))))))
def w71 [Alg] (N:w71T) (A B:Int) (C:(List Ex)):O:=w71G N (w71n0 N) A B C
noncomputable def w71h [Alg] (N:w71T):Hint:=(.seq .d (.seq .d (.seq .d (.seq .d (.seq (.sub w71m0 _ _ _ w71X0_0 (noX 1) (noX 2) (subL w71I0 w71u0 (w71l0 N N.1))) .d)))))
theorem w71hk (N:w71T) (hc:CxOk (w71c N)):HintOk (w71c N) Tryz.f71.ntmps (w71h N) w71b:=hk_of _ _ (And.intro trivial (And.intro trivial (And.intro trivial (And.intro trivial (And.intro (w71S0 N hc) trivial)))))
theorem w71q [Alg] (N:w71T) (A B:Int) (C:(List Ex)):w71G N (w71s0 N) A B C=exec (w71c N) Tryz.f71.ntmps (w71h N) w71b ⟨argT 0 [.agg [.e (.i .i64) A,.e (.i .i64) B,.e (.sl .ex) C]],[],100⟩ (finX (w71c N) Tryz.f71 false):=by kernel_rfl
theorem w71does {N:w71T} (hc:CxOk (w71c N)) {A B:Int} {C:(List Ex)} {r:Res} (h:w71 N A B C=some r):DoesR Tryz.prog 71 (([.agg [.e (.i .i64) A,.e (.i .i64) B,.e (.sl .ex) C]]:List X).map X.D) (HA []) r:=
 fun_ok hc (f:=71) (fn:=Tryz.f71) (code:=w71b) (by kernel_rfl) (by kernel_rfl) (w71hk N hc) (Nat.le_of_ble_eq_true (by kernel_rfl)) (ow:=false) ((w71q N A B C).symm.trans (by rw [w71e0 N];exact h))
def w71un (r:Res):Option ((List UInt8)):=match r with
 | (x0,[])=>(match ue .tx x0 with | some a0=>some a0 | _=>none)
 | _=>none
theorem w71uo {r:Res} {d:(List UInt8)} (h:w71un r=some d):r=w71r0 (d):=by
 unfold w71un at h
 split at h
 ·split at h
  ·rename_i h0;cases h;rw [ue_some h0];rfl
  ·cases h
 ·cases h
def w71z (N:w71T) (A B:Int) (C:(List Ex)):Option ((List UInt8)):=(w71 N A B C).bind w71un
theorem w71fin {N:w71T} (hc:CxOk (w71c N)) {A B:Int} {C:(List Ex)} {d:(List UInt8)} (hd:w71z N A B C=some d):Does Tryz.prog 71 (([.agg [.e (.i .i64) A,.e (.i .i64) B,.e (.sl .ex) C]]:List X).map X.D) (HA []) (w71r0 (d)).1.D (HA (w71r0 (d)).2):=by
 obtain ⟨r,hr,hu⟩:=Option.bind_eq_some_iff.1 hd
 have:=w71does hc hr
 rw [w71uo hu] at this
 exact this
noncomputable def w93L (N:w71T):List (Nat×Ent'):=[(71,w71E N),(93,w93E N),(94,w94e N.1)]
noncomputable def w93c (N:w71T):Cx:=⟨Tryz.prog,25,w93L N,[]⟩
noncomputable def w93b:Code:=Tryz.f93.body.getD .skip
theorem w93cx (N:w71T) (hw51:EOk Tryz.prog 71 (w71E N)) (hw82:EOk Tryz.prog 93 (w93E N)):CxOk (w93c N):=ctx_ok (by kernel_rfl) (.cons (by kernel_rfl) hw51 (.cons (by kernel_rfl) hw82 (.cons (by kernel_rfl) (w94ok N.1) .nil))) .nil
def w93G [Alg] (N:w71T)  (A B:Int) (C:(List Ex)) (level1:Int):O:=
 ck ((N.snd.1 A B C).isSome) <|
 ck (w94p N.1 A) <|
 br (decide (w94y0 N.1 A < level1))
  (ck (decide ((1:Int)+(↑((N.snd.1 A B C).getD []).length:Int)≤(9223372036854775807:Int))) <|
  ck (decide ((↑([(40:UInt8)]++(N.snd.1 A B C).getD []).length:Int)+(1:Int)≤(9223372036854775807:Int))) <|
  some (w93r0 ([(40:UInt8)]++(N.snd.1 A B C).getD []++[(41:UInt8)])))
  (some (w93r0 ((N.snd.1 A B C).getD [])))
def w93 [Alg] (N:w71T) (A B:Int) (C:(List Ex)) (level1:Int):O:=w93G N  A B C level1
noncomputable def w93h [Alg] (_:w71T):Hint:=.d
theorem w93hk (N:w71T):HintOk (w93c N) Tryz.f93.ntmps (w93h N) w93b:=hk_of _ _ trivial
theorem w93q [Alg] (N:w71T) (A B:Int) (C:(List Ex)) (level1:Int):w93G N  A B C level1=exec (w93c N) Tryz.f93.ntmps (w93h N) w93b ⟨argT 0 [.agg [.e (.i .i64) A,.e (.i .i64) B,.e (.sl .ex) C],.e (.i .i64) level1],[],100⟩ (finX (w93c N) Tryz.f93 false):=by kernel_rfl
theorem w93does {N:w71T} (hc:CxOk (w93c N)) {A B:Int} {C:(List Ex)} {level1:Int} {r:Res} (h:w93 N A B C level1=some r):DoesR Tryz.prog 93 (([.agg [.e (.i .i64) A,.e (.i .i64) B,.e (.sl .ex) C],.e (.i .i64) level1]:List X).map X.D) (HA []) r:=
 fun_ok hc (f:=93) (fn:=Tryz.f93) (code:=w93b) (by kernel_rfl) (by kernel_rfl) (w93hk N) (Nat.le_of_ble_eq_true (by kernel_rfl)) (ow:=false) ((w93q N A B C level1).symm.trans (by exact h))
def w93un (r:Res):Option ((List UInt8)):=match r with
 | (x0,[])=>(match ue .tx x0 with | some a0=>some a0 | _=>none)
 | _=>none
theorem w93uo {r:Res} {d:(List UInt8)} (h:w93un r=some d):r=w93r0 (d):=by
 unfold w93un at h
 split at h
 ·split at h
  ·rename_i h0;cases h;rw [ue_some h0];rfl
  ·cases h
 ·cases h
def w93z (N:w71T) (A B:Int) (C:(List Ex)) (level1:Int):Option ((List UInt8)):=(w93 N A B C level1).bind w93un
theorem w93fin {N:w71T} (hc:CxOk (w93c N)) {A B:Int} {C:(List Ex)} {level1:Int} {d:(List UInt8)} (hd:w93z N A B C level1=some d):Does Tryz.prog 93 (([.agg [.e (.i .i64) A,.e (.i .i64) B,.e (.sl .ex) C],.e (.i .i64) level1]:List X).map X.D) (HA []) (w93r0 (d)).1.D (HA (w93r0 (d)).2):=by
 obtain ⟨r,hr,hu⟩:=Option.bind_eq_some_iff.1 hd
 have:=w93does hc hr
 rw [w93uo hu] at this
 exact this
def w71gY (N:Nat):Nat→(Int→Int→(List Ex)→Option ((List UInt8)))×(Int→Int→(List Ex)→Int→Option ((List UInt8)))
 | 0=>(fun _ _ _=>none,fun _ _ _ _=>none)
 | n+1=>(fun A B C=>w71z (N,w71gY N n) A B C,fun A B C level1=>w93z (N,w71gY N n) A B C level1)
theorem w71gYok (N:Nat):∀ n,EOk Tryz.prog 71 (w71E (N,w71gY N n))∧EOk Tryz.prog 93 (w93E (N,w71gY N n))
 | 0=>⟨entR_ok w71io (fun _ h=>by cases h),entR_ok w93io (fun _ h=>by cases h)⟩
 | n+1=>
   have ih:=w71gYok N n
   ⟨entR_ok w71io (fun d h=>norStep (zz:=w71z (N,w71gY N n) (d.1) (d.2.1) (d.2.2)) (R:=fun y=>w71r0 (y)) (d0:=[]) (fun _ hy=>w71fin (w71cx (N,w71gY N n) ih.1 ih.2) hy) h),entR_ok w93io (fun d h=>norStep (zz:=w93z (N,w71gY N n) (d.1) (d.2.1) (d.2.2.1) (d.2.2.2)) (R:=fun y=>w93r0 (y)) (d0:=[]) (fun _ hy=>w93fin (w93cx (N,w71gY N n) ih.1 ih.2) hy) h)⟩
def w71p (N:Nat) (A B:Int) (C:(List Ex)):Bool:=((w71gY N N).1 A B C).isSome
def w71y0 (N:Nat) (A B:Int) (C:(List Ex)):(List UInt8):=(((w71gY N N).1 A B C).getD [])
def w71e (N:Nat):Ent':=entR w71in (fun d=>w71p N (d.1) (d.2.1) (d.2.2)) (fun d=>w71r0 (w71y0 N (d.1) (d.2.1) (d.2.2)))
theorem w71ok (N:Nat):EOk Tryz.prog 71 (w71e N):=(w71gYok N N).1
def w38r0 (a0:(List UInt8)):Res:=(.e .tx a0,[])
noncomputable def w38L (N:Nat):List (Nat×Ent'):=[(36,w36e N),(71,w71e N)]
noncomputable def w38c (N:Nat):Cx:=⟨Tryz.prog,25,w38L N,[]⟩
noncomputable def w38b:Code:=Tryz.f38.body.getD .skip
theorem w38cx (N:Nat):CxOk (w38c N):=ctx_ok (by kernel_rfl) (.cons (by kernel_rfl) (w36ok N) (.cons (by kernel_rfl) (w71ok N) .nil)) .nil
def w38G [Alg] (N:Nat)  (A B:Int) (C:(List Ex)):O:=
 ck (w36p N A B C) <|
 br (decide (w36y0 N A B C≠(0:Int)))
  (some (w38r0 []))
  (ck (w71p N A B C) <|
  some (w38r0 (w71y0 N A B C)))
def w38 [Alg] (N:Nat) (A B:Int) (C:(List Ex)):O:=w38G N  A B C
noncomputable def w38h [Alg] (_:Nat):Hint:=.d
theorem w38hk (N:Nat):HintOk (w38c N) Tryz.f38.ntmps (w38h N) w38b:=hk_of _ _ trivial
theorem w38q [Alg] (N:Nat) (A B:Int) (C:(List Ex)):w38G N  A B C=exec (w38c N) Tryz.f38.ntmps (w38h N) w38b ⟨argT 0 [.agg [.e (.i .i64) A,.e (.i .i64) B,.e (.sl .ex) C]],[],100⟩ (finX (w38c N) Tryz.f38 false):=by kernel_rfl
theorem w38does {N:Nat} (hc:CxOk (w38c N)) {A B:Int} {C:(List Ex)} {r:Res} (h:w38 N A B C=some r):DoesR Tryz.prog 38 (([.agg [.e (.i .i64) A,.e (.i .i64) B,.e (.sl .ex) C]]:List X).map X.D) (HA []) r:=
 fun_ok hc (f:=38) (fn:=Tryz.f38) (code:=w38b) (by kernel_rfl) (by kernel_rfl) (w38hk N) (Nat.le_of_ble_eq_true (by kernel_rfl)) (ow:=false) ((w38q N A B C).symm.trans (by exact h))
def w38un (r:Res):Option ((List UInt8)):=match r with
 | (x0,[])=>(match ue .tx x0 with | some a0=>some a0 | _=>none)
 | _=>none
theorem w38uo {r:Res} {d:(List UInt8)} (h:w38un r=some d):r=w38r0 (d):=by
 unfold w38un at h
 split at h
 ·split at h
  ·rename_i h0;cases h;rw [ue_some h0];rfl
  ·cases h
 ·cases h
def w38z (N:Nat) (A B:Int) (C:(List Ex)):Option ((List UInt8)):=(w38 N A B C).bind w38un
theorem w38fin {N:Nat} (hc:CxOk (w38c N)) {A B:Int} {C:(List Ex)} {d:(List UInt8)} (hd:w38z N A B C=some d):Does Tryz.prog 38 (([.agg [.e (.i .i64) A,.e (.i .i64) B,.e (.sl .ex) C]]:List X).map X.D) (HA []) (w38r0 (d)).1.D (HA (w38r0 (d)).2):=by
 obtain ⟨r,hr,hu⟩:=Option.bind_eq_some_iff.1 hd
 have:=w38does hc hr
 rw [w38uo hu] at this
 exact this
def w38p (N:Nat) (A B:Int) (C:(List Ex)):Bool:=(w38z N A B C).isSome
def w38y0 (N:Nat) (A B:Int) (C:(List Ex)):(List UInt8):=((w38z N A B C).getD [])
def w38e (N:Nat):Ent':=E1 .ex  (fun x0=>(w38p N (Ex.op x0) (Ex.num x0) (Ex.kids x0),w38r0 (w38y0 N (Ex.op x0) (Ex.num x0) (Ex.kids x0))))
theorem w38re {N:Nat} {A B:Int} {C:(List Ex)} {d:(List UInt8)} (hd:w38z N A B C=some d):w38r0 (w38y0 N A B C)=w38r0 (d):=by unfold w38y0;rw [hd];rfl
theorem w38ok (N:Nat):EOk Tryz.prog 38 (w38e N):=EOk.e1 (fun x0 h=>by
 have h:(w38z N (Ex.op x0) (Ex.num x0) (Ex.kids x0)).isSome=true:=h
 obtain ⟨d,hd⟩:=Option.isSome_iff_exists.1 h
 have f:=w38fin (w38cx N) hd
 rw [← w38re hd] at f
 exact f)
def w22r0 (a0:Bool):Res:=(.e .bo a0,[])
abbrev w22T:=Nat×(Int→Int→(List Ex)→Int→Int→(List Ex)→Option (Bool))
noncomputable def w22L (N:w22T):List (Nat×Ent'):=[(22,E2 .ex .ex  (fun x0 x1=>((N.2 (Ex.op x0) (Ex.num x0) (Ex.kids x0) (Ex.op x1) (Ex.num x1) (Ex.kids x1)).isSome,w22r0 (((N.2 (Ex.op x0) (Ex.num x0) (Ex.kids x0) (Ex.op x1) (Ex.num x1) (Ex.kids x1)).getD false)))))]
noncomputable def w22c (N:w22T):Cx:=⟨Tryz.prog,25,w22L N,[]⟩
noncomputable def w22b:Code:=Tryz.f22.body.getD .skip
theorem w22cx (N:w22T) (hs:EOk Tryz.prog 22 (E2 .ex .ex  (fun x0 x1=>((N.2 (Ex.op x0) (Ex.num x0) (Ex.kids x0) (Ex.op x1) (Ex.num x1) (Ex.kids x1)).isSome,w22r0 (((N.2 (Ex.op x0) (Ex.num x0) (Ex.kids x0) (Ex.op x1) (Ex.num x1) (Ex.kids x1)).getD false)))))):CxOk (w22c N):=ctx_ok (by kernel_rfl) (.cons (by kernel_rfl) hs .nil) .nil
def w22F0 [Alg] (N:w22T)  (self:Int→O) (k0:Bool→O) (k1:Unit→O) (_x0_1 _x0_2:Int) (x0_3:(List Ex)) (_x0_4 _x0_5:Int) (x0_6:(List Ex)) (x0_0:Int):O:=
 br (decide (x0_0 < (↑x0_3.length:Int)))
  (gx x0_3 x0_0 fun y5=>
  gx x0_6 x0_0 fun y6=>
  ck ((N.2 y5.op y5.num y5.kids y6.op y6.num y6.kids).isSome) <|
  br (!(N.2 y5.op y5.num y5.kids y6.op y6.num y6.kids).getD false)
   (k0 false)
   (self (IntKind.i64.wrap (x0_0+(1:Int)))))
  (k1 ())
noncomputable def w22b0:Code:=atC [1,1,0,1,0,0] w22b
def w22m0:Nm:=⟨[2,3,5],[],[]⟩
def w22I0 (x:Int×Int×Int×(List Ex)×Int×Int×(List Ex)):Sg:=⟨[(2,.ref 0 0),(3,.ref 1 0),(5,.e (.i .i64) x.1)],[(0,.box 25 [.e (.i .i64) x.2.1,.e (.i .i64) x.2.2.1,.e (.sl .ex) x.2.2.2.1]),(1,.box 25 [.e (.i .i64) x.2.2.2.2.1,.e (.i .i64) x.2.2.2.2.2.1,.e (.sl .ex) x.2.2.2.2.2.2])],100⟩
def w22u0 (σ:Sg):Int×Int×Int×(List Ex)×Int×Int×(List Ex):=(lvT (.i .i64) 5 0 σ,lvH (.i .i64) 0 0 σ,lvH (.i .i64) 0 1 σ,lvH (.sl .ex) 0 2 σ,lvH (.i .i64) 1 0 σ,lvH (.i .i64) 1 1 σ,lvH (.sl .ex) 1 2 σ)
theorem w22ui0:∀ x,w22u0 (w22I0 x)=x:=fun _=>by kernel_rfl
def w22X0_0 (y:Bool):Exit×Sg:=(.ret,⟨[(4,.e .bo y)],[],100⟩)
def w22v0_0 (_:Exit) (σ:Sg):Bool:=lvT .bo 4 0 σ
def w22X0_1 (_:Unit):Exit×Sg:=((.exit 0),⟨[],[],100⟩)
def w22v0_1 (_:Exit) (_:Sg):Unit:=()
def w22w0:List (Exit×Nm):=[(.ret,⟨[4],[],[]⟩),((.exit 0),⟨[],[],[]⟩)]
theorem w22o0:Outs w22v0_0 w22v0_1 (fun _ _=>()) w22X0_0 w22X0_1 (noX 2) (exC .ret) (exC (.exit 0)) (exC (.goto 2)):=⟨fun _=>by kernel_rfl,fun _=>by kernel_rfl,fun _=>by kernel_rfl,fun _=>by kernel_rfl,fun _=>by kernel_rfl,fun _=>by kernel_rfl,exNe_ok (by kernel_rfl),exNe_ok (by kernel_rfl),exNe_ok (by kernel_rfl)⟩
def w22l0 [Alg] (N:w22T):Nat→(Int×Int×Int×(List Ex)×Int×Int×(List Ex))→((Bool)→O)→((Unit)→O)→((Unit)→O)→O
 | 0,_,_,_,_=>none
 | n+1,x,k0,k1,k2=>w22F0 N  (fun v0=>w22l0 N n (v0,x.2.1,x.2.2.1,x.2.2.2.1,x.2.2.2.2.1,x.2.2.2.2.2.1,x.2.2.2.2.2.2) k0 k1 k2) (fun y0=>k0 y0) (fun (_:Unit)=>k1 ()) x.2.1 x.2.2.1 x.2.2.2.1 x.2.2.2.2.1 x.2.2.2.2.2.1 x.2.2.2.2.2.2 x.1
def w22n0 [Alg] (N:w22T) (a0 a1 a2:Int) (a3:(List Ex)) (a4 a5:Int) (a6:(List Ex)) (k0:Bool→O) (k1:Unit→O):O:=w22l0 N N.1 (a0,a1,a2,a3,a4,a5,a6) (fun y=>k0 y) (fun y=>k1 y) (fun _=>none)
noncomputable def w22s0 [Alg] (N:w22T) (a0 a1 a2:Int) (a3:(List Ex)) (a4 a5:Int) (a6:(List Ex)) (k0:Bool→O) (k1:Unit→O):O:=subL w22I0 w22u0 (w22l0 N N.1) (w22I0 (a0,a1,a2,a3,a4,a5,a6)) (fun y=>k0 y) (fun y=>k1 y) (fun _=>none)
theorem w22e0 [Alg] (N:w22T):w22s0 N=w22n0 N:=funext fun _=>funext fun _=>funext fun _=>funext fun _=>funext fun _=>funext fun _=>funext fun _=>funext fun _=>funext fun _=>subL_I w22ui0 _ _ _ _
noncomputable def w22h0 [Alg] (_:w22T):Hint:=.d
theorem w22hk0 (N:w22T):HintOk (w22c N) Tryz.f22.ntmps (w22h0 N) w22b0:=hk_of _ _ trivial
theorem w22q0 [Alg] (N:w22T) (self:Sg→O) (K:Exit→Sg→O) (x:Int×Int×Int×(List Ex)×Int×Int×(List Ex)):w22F0 N  (fun v0=>self (w22I0 (v0,x.2.1,x.2.2.1,x.2.2.2.1,x.2.2.2.2.1,x.2.2.2.2.2.1,x.2.2.2.2.2.2))) (fun y0=>K (w22X0_0 y0).1 (w22X0_0 y0).2) (fun (_:Unit)=>K (w22X0_1 ()).1 (w22X0_1 ()).2) x.2.1 x.2.2.1 x.2.2.2.1 x.2.2.2.2.1 x.2.2.2.2.2.1 x.2.2.2.2.2.2 x.1=exec (w22c N) Tryz.f22.ntmps (w22h0 N) w22b0 (w22I0 x) (roundX w22m0 w22w0 self K):=by kernel_rfl
theorem w22S0 (N:w22T) (hc:CxOk (w22c N)):SubOk (w22c N) Tryz.f22.ntmps (.loop w22b0) w22X0_0 w22X0_1 (noX 2) (subL w22I0 w22u0 (w22l0 N N.1)):=
 sub_loop hc (w22hk0 N) w22o0 (n:=N.1) (fun x K=>loop_ind (w22l0 N) (fun _ _ _ _=>rfl) (fun n K ih x=>by
  have h:w22F0 N  (fun v0=>w22l0 N n (v0,x.2.1,x.2.2.1,x.2.2.2.1,x.2.2.2.2.1,x.2.2.2.2.2.1,x.2.2.2.2.2.2) (fun y=>K (w22X0_0 y).1 (w22X0_0 y).2) (fun y=>K (w22X0_1 y).1 (w22X0_1 y).2) (fun y=>K ((noX 2) y).1 ((noX 2) y).2)) (fun y0=>K (w22X0_0 y0).1 (w22X0_0 y0).2) (fun (_:Unit)=>K (w22X0_1 ()).1 (w22X0_1 ()).2) x.2.1 x.2.2.1 x.2.2.2.1 x.2.2.2.2.1 x.2.2.2.2.2.1 x.2.2.2.2.2.2 x.1=w22F0 N  (fun v0=>loopX (w22c N) Tryz.f22.ntmps (w22h0 N) w22b0 w22m0 w22w0 n (w22I0 (v0,x.2.1,x.2.2.1,x.2.2.2.1,x.2.2.2.2.1,x.2.2.2.2.2.1,x.2.2.2.2.2.2)) K) (fun y0=>K (w22X0_0 y0).1 (w22X0_0 y0).2) (fun (_:Unit)=>K (w22X0_1 ()).1 (w22X0_1 ()).2) x.2.1 x.2.2.1 x.2.2.2.1 x.2.2.2.2.1 x.2.2.2.2.2.1 x.2.2.2.2.2.2 x.1:=by rw [ show (fun v0=>w22l0 N n (v0,x.2.1,x.2.2.1,x.2.2.2.1,x.2.2.2.2.1,x.2.2.2.2.2.1,x.2.2.2.2.2.2) (fun y=>K (w22X0_0 y).1 (w22X0_0 y).2) (fun y=>K (w22X0_1 y).1 (w22X0_1 y).2) (fun y=>K ((noX 2) y).1 ((noX 2) y).2))=(fun v0=>loopX (w22c N) Tryz.f22.ntmps (w22h0 N) w22b0 w22m0 w22w0 n (w22I0 (v0,x.2.1,x.2.2.1,x.2.2.2.1,x.2.2.2.2.1,x.2.2.2.2.2.1,x.2.2.2.2.2.2)) K) from funext fun _=>ih _]
  exact h.trans (w22q0 N (fun σ=>loopX (w22c N) Tryz.f22.ntmps (w22h0 N) w22b0 w22m0 w22w0 n σ K) K x)) N.1 x K)
def w22G [Alg] (_:w22T) (in0:Int→Int→Int→(List Ex)→Int→Int→(List Ex)→(Bool→O)→(Unit→O)→O) (a0_0 a0_1:Int) (a0_2:(List Ex)) (b1_0 b1_1:Int) (b1_2:(List Ex)):O:=
 br (decide (a0_0≠b1_0)||decide (a0_1≠b1_1)||decide ((↑a0_2.length:Int)≠(↑b1_2.length:Int)))
  (some (w22r0 false))
  (in0 ((0:Int)) a0_0 a0_1 a0_2 b1_0 b1_1 b1_2
   (fun z7=>
    some (w22r0 z7))
   (fun (_:Unit)=>
    some (w22r0 true)))
def w22 [Alg] (N:w22T) (a0_0 a0_1:Int) (a0_2:(List Ex)) (b1_0 b1_1:Int) (b1_2:(List Ex)):O:=w22G N (w22n0 N) a0_0 a0_1 a0_2 b1_0 b1_1 b1_2
noncomputable def w22h [Alg] (N:w22T):Hint:=(.seq .d (.seq .d (.seq (.seq .d (.block (.sub w22m0 _ _ _ w22X0_0 w22X0_1 (noX 2) (subL w22I0 w22u0 (w22l0 N N.1))))) .d)))
theorem w22hk (N:w22T) (hc:CxOk (w22c N)):HintOk (w22c N) Tryz.f22.ntmps (w22h N) w22b:=hk_of _ _ (And.intro trivial (And.intro trivial (And.intro (And.intro trivial (w22S0 N hc)) trivial)))
theorem w22q [Alg] (N:w22T) (a0_0 a0_1:Int) (a0_2:(List Ex)) (b1_0 b1_1:Int) (b1_2:(List Ex)):w22G N (w22s0 N) a0_0 a0_1 a0_2 b1_0 b1_1 b1_2=exec (w22c N) Tryz.f22.ntmps (w22h N) w22b ⟨argT 0 [.agg [.e (.i .i64) a0_0,.e (.i .i64) a0_1,.e (.sl .ex) a0_2],.agg [.e (.i .i64) b1_0,.e (.i .i64) b1_1,.e (.sl .ex) b1_2]],[],100⟩ (finX (w22c N) Tryz.f22 false):=by kernel_rfl
theorem w22does {N:w22T} (hc:CxOk (w22c N)) {a0_0 a0_1:Int} {a0_2:(List Ex)} {b1_0 b1_1:Int} {b1_2:(List Ex)} {r:Res} (h:w22 N a0_0 a0_1 a0_2 b1_0 b1_1 b1_2=some r):DoesR Tryz.prog 22 (([.agg [.e (.i .i64) a0_0,.e (.i .i64) a0_1,.e (.sl .ex) a0_2],.agg [.e (.i .i64) b1_0,.e (.i .i64) b1_1,.e (.sl .ex) b1_2]]:List X).map X.D) (HA []) r:=
 fun_ok hc (f:=22) (fn:=Tryz.f22) (code:=w22b) (by kernel_rfl) (by kernel_rfl) (w22hk N hc) (Nat.le_of_ble_eq_true (by kernel_rfl)) (ow:=false) ((w22q N a0_0 a0_1 a0_2 b1_0 b1_1 b1_2).symm.trans (by rw [w22e0 N];exact h))
def w22un (r:Res):Option (Bool):=match r with
 | (x0,[])=>(match ue .bo x0 with | some a0=>some a0 | _=>none)
 | _=>none
theorem w22uo {r:Res} {d:Bool} (h:w22un r=some d):r=w22r0 (d):=by
 unfold w22un at h
 split at h
 ·split at h
  ·rename_i h0;cases h;rw [ue_some h0];rfl
  ·cases h
 ·cases h
def w22z (N:w22T) (a0_0 a0_1:Int) (a0_2:(List Ex)) (b1_0 b1_1:Int) (b1_2:(List Ex)):Option (Bool):=(w22 N a0_0 a0_1 a0_2 b1_0 b1_1 b1_2).bind w22un
theorem w22fin {N:w22T} (hc:CxOk (w22c N)) {a0_0 a0_1:Int} {a0_2:(List Ex)} {b1_0 b1_1:Int} {b1_2:(List Ex)} {d:Bool} (hd:w22z N a0_0 a0_1 a0_2 b1_0 b1_1 b1_2=some d):Does Tryz.prog 22 (([.agg [.e (.i .i64) a0_0,.e (.i .i64) a0_1,.e (.sl .ex) a0_2],.agg [.e (.i .i64) b1_0,.e (.i .i64) b1_1,.e (.sl .ex) b1_2]]:List X).map X.D) (HA []) (w22r0 (d)).1.D (HA (w22r0 (d)).2):=by
 obtain ⟨r,hr,hu⟩:=Option.bind_eq_some_iff.1 hd
 have:=w22does hc hr
 rw [w22uo hu] at this
 exact this
def w22Y (N:Nat):Nat→Int→Int→(List Ex)→Int→Int→(List Ex)→Option (Bool)
 | 0,_,_,_,_,_,_=>none
 | n+1,a0_0,a0_1,a0_2,b1_0,b1_1,b1_2=>w22z (N,w22Y N n) a0_0 a0_1 a0_2 b1_0 b1_1 b1_2
theorem w22Yok (N:Nat):∀ n,EOk Tryz.prog 22 (E2 .ex .ex  (fun x0 x1=>((w22Y N n (Ex.op x0) (Ex.num x0) (Ex.kids x0) (Ex.op x1) (Ex.num x1) (Ex.kids x1)).isSome,w22r0 (((w22Y N n (Ex.op x0) (Ex.num x0) (Ex.kids x0) (Ex.op x1) (Ex.num x1) (Ex.kids x1)).getD false)))))
 | 0=>EOk.e2 (fun _ _ h=>by cases h)
 | n+1=>EOk.e2 (fun x0 x1 h=>by
   obtain ⟨d,hd⟩:=Option.isSome_iff_exists.1 h
   have hd':w22Y N (n+1) (Ex.op x0) (Ex.num x0) (Ex.kids x0) (Ex.op x1) (Ex.num x1) (Ex.kids x1)=some d:=hd
   have e:w22r0 (((w22Y N (n+1) (Ex.op x0) (Ex.num x0) (Ex.kids x0) (Ex.op x1) (Ex.num x1) (Ex.kids x1)).getD false))=w22r0 (d):=by rw [hd'];rfl
   show Does _ _ _ _ (w22r0 (((w22Y N (n+1) (Ex.op x0) (Ex.num x0) (Ex.kids x0) (Ex.op x1) (Ex.num x1) (Ex.kids x1)).getD false))).1.D (HA (w22r0 (((w22Y N (n+1) (Ex.op x0) (Ex.num x0) (Ex.kids x0) (Ex.op x1) (Ex.num x1) (Ex.kids x1)).getD false))).2)
   rw [e]
   exact w22fin (N:=(N,w22Y N n)) (w22cx (N,w22Y N n) (w22Yok N n)) hd')
def w22p (N:Nat) (a0_0 a0_1:Int) (a0_2:(List Ex)) (b1_0 b1_1:Int) (b1_2:(List Ex)):Bool:=(w22Y N N a0_0 a0_1 a0_2 b1_0 b1_1 b1_2).isSome
def w22y0 (N:Nat) (a0_0 a0_1:Int) (a0_2:(List Ex)) (b1_0 b1_1:Int) (b1_2:(List Ex)):Bool:=((w22Y N N a0_0 a0_1 a0_2 b1_0 b1_1 b1_2).getD false)
def w22e (N:Nat):Ent':=E2 .ex .ex  (fun x0 x1=>(w22p N (Ex.op x0) (Ex.num x0) (Ex.kids x0) (Ex.op x1) (Ex.num x1) (Ex.kids x1),w22r0 (w22y0 N (Ex.op x0) (Ex.num x0) (Ex.kids x0) (Ex.op x1) (Ex.num x1) (Ex.kids x1))))
theorem w22ok (N:Nat):EOk Tryz.prog 22 (w22e N):=w22Yok N N
end
end Go.Proofs
/- What functions do. -/
namespace Go.Proofs
noncomputable section
open Go.Ax Go.Ax.Alg Go.RowKit Go.Ab
open Go
def w15r0 (a0:Bool):Res:=(.e .bo a0,[])
noncomputable def w15L (_:Nat):List (Nat×Ent'):=[]
noncomputable def w15c (N:Nat):Cx:=⟨Tryz.prog,25,w15L N,[]⟩
noncomputable def w15b:Code:=Tryz.f15.body.getD .skip
theorem w15cx (N:Nat):CxOk (w15c N):=ctx_ok (by kernel_rfl) .nil .nil
def w15F0 [Alg] (_:Nat)  (self:Int→O) (k0:Bool→O) (k1:Unit→O) (x0_0 x0_1:(List Int)) (x0_2:Int):O:=
 br (decide (x0_2 < (↑x0_0.length:Int)))
  (gx x0_0 x0_2 fun y5=>
  gx x0_1 x0_2 fun y6=>
  br (decide (y5≠y6))
   (k0 false)
   (self (IntKind.i64.wrap (x0_2+(1:Int)))))
  (k1 ())
noncomputable def w15b0:Code:=atC [1,1,0,1,0,0] w15b
def w15m0:Nm:=⟨[0,1,5],[],[]⟩
def w15I0 (x:(List Int)×(List Int)×Int):Sg:=⟨[(0,.e (.sl (.i .i64)) x.1),(1,.e (.sl (.i .i64)) x.2.1),(5,.e (.i .i64) x.2.2)],[],100⟩
def w15u0 (σ:Sg):(List Int)×(List Int)×Int:=(lvT (.sl (.i .i64)) 0 0 σ,lvT (.sl (.i .i64)) 1 0 σ,lvT (.i .i64) 5 0 σ)
theorem w15ui0:∀ x,w15u0 (w15I0 x)=x:=fun _=>by kernel_rfl
def w15X0_0 (y:Bool):Exit×Sg:=(.ret,⟨[(4,.e .bo y)],[],100⟩)
def w15v0_0 (_:Exit) (σ:Sg):Bool:=lvT .bo 4 0 σ
def w15X0_1 (_:Unit):Exit×Sg:=((.exit 0),⟨[],[],100⟩)
def w15v0_1 (_:Exit) (_:Sg):Unit:=()
def w15w0:List (Exit×Nm):=[(.ret,⟨[4],[],[]⟩),((.exit 0),⟨[],[],[]⟩)]
theorem w15o0:Outs w15v0_0 w15v0_1 (fun _ _=>()) w15X0_0 w15X0_1 (noX 2) (exC .ret) (exC (.exit 0)) (exC (.goto 2)):=⟨fun _=>by kernel_rfl,fun _=>by kernel_rfl,fun _=>by kernel_rfl,fun _=>by kernel_rfl,fun _=>by kernel_rfl,fun _=>by kernel_rfl,exNe_ok (by kernel_rfl),exNe_ok (by kernel_rfl),exNe_ok (by kernel_rfl)⟩
def w15l0 [Alg] (N:Nat):Nat→((List Int)×(List Int)×Int)→((Bool)→O)→((Unit)→O)→((Unit)→O)→O
 | 0,_,_,_,_=>none
 | n+1,x,k0,k1,k2=>w15F0 N  (fun v0=>w15l0 N n (x.1,x.2.1,v0) k0 k1 k2) (fun y0=>k0 y0) (fun (_:Unit)=>k1 ()) x.1 x.2.1 x.2.2
def w15n0 [Alg] (N:Nat) (a0 a1:(List Int)) (a2:Int) (k0:Bool→O) (k1:Unit→O):O:=w15l0 N N (a0,a1,a2) (fun y=>k0 y) (fun y=>k1 y) (fun _=>none)
noncomputable def w15s0 [Alg] (N:Nat) (a0 a1:(List Int)) (a2:Int) (k0:Bool→O) (k1:Unit→O):O:=subL w15I0 w15u0 (w15l0 N N) (w15I0 (a0,a1,a2)) (fun y=>k0 y) (fun y=>k1 y) (fun _=>none)
theorem w15e0 [Alg] (N:Nat):w15s0 N=w15n0 N:=funext fun _=>funext fun _=>funext fun _=>funext fun _=>funext fun _=>subL_I w15ui0 _ _ _ _
noncomputable def w15h0 [Alg] (_:Nat):Hint:=.d
theorem w15hk0 (N:Nat):HintOk (w15c N) Tryz.f15.ntmps (w15h0 N) w15b0:=hk_of _ _ trivial
theorem w15q0 [Alg] (N:Nat) (self:Sg→O) (K:Exit→Sg→O) (x:(List Int)×(List Int)×Int):w15F0 N  (fun v0=>self (w15I0 (x.1,x.2.1,v0))) (fun y0=>K (w15X0_0 y0).1 (w15X0_0 y0).2) (fun (_:Unit)=>K (w15X0_1 ()).1 (w15X0_1 ()).2) x.1 x.2.1 x.2.2=exec (w15c N) Tryz.f15.ntmps (w15h0 N) w15b0 (w15I0 x) (roundX w15m0 w15w0 self K):=by kernel_rfl
theorem w15S0 (N:Nat) (hc:CxOk (w15c N)):SubOk (w15c N) Tryz.f15.ntmps (.loop w15b0) w15X0_0 w15X0_1 (noX 2) (subL w15I0 w15u0 (w15l0 N N)):=
 sub_loop hc (w15hk0 N) w15o0 (n:=N) (fun x K=>loop_ind (w15l0 N) (fun _ _ _ _=>rfl) (fun n K ih x=>by
  have h:w15F0 N  (fun v0=>w15l0 N n (x.1,x.2.1,v0) (fun y=>K (w15X0_0 y).1 (w15X0_0 y).2) (fun y=>K (w15X0_1 y).1 (w15X0_1 y).2) (fun y=>K ((noX 2) y).1 ((noX 2) y).2)) (fun y0=>K (w15X0_0 y0).1 (w15X0_0 y0).2) (fun (_:Unit)=>K (w15X0_1 ()).1 (w15X0_1 ()).2) x.1 x.2.1 x.2.2=w15F0 N  (fun v0=>loopX (w15c N) Tryz.f15.ntmps (w15h0 N) w15b0 w15m0 w15w0 n (w15I0 (x.1,x.2.1,v0)) K) (fun y0=>K (w15X0_0 y0).1 (w15X0_0 y0).2) (fun (_:Unit)=>K (w15X0_1 ()).1 (w15X0_1 ()).2) x.1 x.2.1 x.2.2:=by rw [ show (fun v0=>w15l0 N n (x.1,x.2.1,v0) (fun y=>K (w15X0_0 y).1 (w15X0_0 y).2) (fun y=>K (w15X0_1 y).1 (w15X0_1 y).2) (fun y=>K ((noX 2) y).1 ((noX 2) y).2))=(fun v0=>loopX (w15c N) Tryz.f15.ntmps (w15h0 N) w15b0 w15m0 w15w0 n (w15I0 (x.1,x.2.1,v0)) K) from funext fun _=>ih _]
  exact h.trans (w15q0 N (fun σ=>loopX (w15c N) Tryz.f15.ntmps (w15h0 N) w15b0 w15m0 w15w0 n σ K) K x)) N x K)
def w15G [Alg] (_:Nat) (in0:(List Int)→(List Int)→Int→(Bool→O)→(Unit→O)→O) (a0 b1:(List Int)):O:=
 br (decide ((↑a0.length:Int)≠(↑b1.length:Int)))
  (some (w15r0 false))
  (in0 a0 b1 ((0:Int))
   (fun z7=>
    some (w15r0 z7))
   (fun (_:Unit)=>
    some (w15r0 true)))
def w15 [Alg] (N:Nat) (a0 b1:(List Int)):O:=w15G N (w15n0 N) a0 b1
noncomputable def w15h [Alg] (N:Nat):Hint:=(.seq .d (.seq .d (.seq (.seq .d (.block (.sub w15m0 _ _ _ w15X0_0 w15X0_1 (noX 2) (subL w15I0 w15u0 (w15l0 N N))))) .d)))
theorem w15hk (N:Nat) (hc:CxOk (w15c N)):HintOk (w15c N) Tryz.f15.ntmps (w15h N) w15b:=hk_of _ _ (And.intro trivial (And.intro trivial (And.intro (And.intro trivial (w15S0 N hc)) trivial)))
theorem w15q [Alg] (N:Nat) (a0 b1:(List Int)):w15G N (w15s0 N) a0 b1=exec (w15c N) Tryz.f15.ntmps (w15h N) w15b ⟨argT 0 [.e (.sl (.i .i64)) a0,.e (.sl (.i .i64)) b1],[],100⟩ (finX (w15c N) Tryz.f15 false):=by kernel_rfl
theorem w15does {N:Nat} (hc:CxOk (w15c N)) {a0 b1:(List Int)} {r:Res} (h:w15 N a0 b1=some r):DoesR Tryz.prog 15 (([.e (.sl (.i .i64)) a0,.e (.sl (.i .i64)) b1]:List X).map X.D) (HA []) r:=
 fun_ok hc (f:=15) (fn:=Tryz.f15) (code:=w15b) (by kernel_rfl) (by kernel_rfl) (w15hk N hc) (Nat.le_of_ble_eq_true (by kernel_rfl)) (ow:=false) ((w15q N a0 b1).symm.trans (by rw [w15e0 N];exact h))
def w15un (r:Res):Option (Bool):=match r with
 | (x0,[])=>(match ue .bo x0 with | some a0=>some a0 | _=>none)
 | _=>none
theorem w15uo {r:Res} {d:Bool} (h:w15un r=some d):r=w15r0 (d):=by
 unfold w15un at h
 split at h
 ·split at h
  ·rename_i h0;cases h;rw [ue_some h0];rfl
  ·cases h
 ·cases h
def w15z (N:Nat) (a0 b1:(List Int)):Option (Bool):=(w15 N a0 b1).bind w15un
theorem w15fin {N:Nat} (hc:CxOk (w15c N)) {a0 b1:(List Int)} {d:Bool} (hd:w15z N a0 b1=some d):Does Tryz.prog 15 (([.e (.sl (.i .i64)) a0,.e (.sl (.i .i64)) b1]:List X).map X.D) (HA []) (w15r0 (d)).1.D (HA (w15r0 (d)).2):=by
 obtain ⟨r,hr,hu⟩:=Option.bind_eq_some_iff.1 hd
 have:=w15does hc hr
 rw [w15uo hu] at this
 exact this
def w15p (N:Nat) (a0 b1:(List Int)):Bool:=(w15z N a0 b1).isSome
def w15y0 (N:Nat) (a0 b1:(List Int)):Bool:=((w15z N a0 b1).getD false)
def w15e (N:Nat):Ent':=E2 (.sl (.i .i64)) (.sl (.i .i64))  (fun x0 x1=>(w15p N x0 x1,w15r0 (w15y0 N x0 x1)))
theorem w15re {N:Nat} {a0 b1:(List Int)} {d:Bool} (hd:w15z N a0 b1=some d):w15r0 (w15y0 N a0 b1)=w15r0 (d):=by unfold w15y0;rw [hd];rfl
theorem w15ok (N:Nat):EOk Tryz.prog 15 (w15e N):=EOk.e2 (fun x0 x1 h=>by
 have h:(w15z N x0 x1).isSome=true:=h
 obtain ⟨d,hd⟩:=Option.isSome_iff_exists.1 h
 have f:=w15fin (w15cx N) hd
 rw [← w15re hd] at f
 exact f)
end
end Go.Proofs
