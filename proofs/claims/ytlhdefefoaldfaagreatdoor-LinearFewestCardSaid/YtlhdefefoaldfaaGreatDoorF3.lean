/- What functions do: the reference. Conditions are in the theorems. -/
import Derived.Test.YtlhdefefoaldfaaGreatDoorE7
import Derived.Test.YtlhdefefoaldfaaGreatDoorProg
import Derived.KernelRfl
import Derived.Test.YtlhdefefoaldfaaGreatDoorF0
/- What functions do. -/
namespace Go.Proofs
noncomputable section
open Go.Ax Go.Ax.Alg Go.RowKit Go.Ab
open Go
def w23r0 (a0:Int):Res:=(.e (.i .i64) a0,[])
def w23L (_:Nat):List (Nat×Ent'):=[]
def w23c (N:Nat):Cx:=⟨Tryz.prog,25,w23L N,[]⟩
def w23b:Code:=Tryz.f23.body.getD .skip
theorem w23cx (N:Nat):CxOk (w23c N):=ctx_ok (by kernel_rfl) .nil .nil
def w23G [Alg] (_:Nat)  (n0 most1:Int):O:=
 br (decide (n0 < 0))
  (br (decide (most1 < 1))
   (some (w23r0 0))
   (ck (decide (most1≠0)) <|
   some (w23r0 ((IntKind.i64.wrap (-IntKind.i64.wrap (n0+1))).tmod most1))))
  (br (decide (most1 < 1))
   (some (w23r0 0))
   (ck (decide (most1≠0)) <|
   some (w23r0 (n0.tmod most1))))
def w23 [Alg] (N:Nat) (n0 most1:Int):O:=w23G N  n0 most1
def w23h [Alg] (_:Nat):Hint:=.d
theorem w23hk (N:Nat):HintOk (w23c N) Tryz.f23.ntmps (w23h N) w23b:=hk_of _ _ trivial
theorem w23q [Alg] (N:Nat) (n0 most1:Int):w23G N  n0 most1=exec (w23c N) Tryz.f23.ntmps (w23h N) w23b ⟨argT 0 [.e (.i .i64) n0,.e (.i .i64) most1],[],100⟩ (finX (w23c N) Tryz.f23 false):=by kernel_rfl
def w23un (r:Res):Option (Int):=match r with
 | (x0,[])=>(match ue (.i .i64) x0 with | some a0=>some a0 | _=>none)
 | _=>none
theorem w23uo {r:Res} {d:Int} (h:w23un r=some d):r=w23r0 (d):=by
 unfold w23un at h
 split at h
 ·split at h
  ·rename_i h0;cases h;rw [ue_some h0];rfl
  ·cases h
 ·cases h
def w23z (N:Nat) (n0 most1:Int):Option (Int):=(w23 N n0 most1).bind w23un
theorem w23fin {N:Nat} (hc:CxOk (w23c N)) {n0 most1 d:Int} (hd:w23z N n0 most1=some d):Does Tryz.prog 23 (([.e (.i .i64) n0,.e (.i .i64) most1]:List X).map X.D) (HA []) (w23r0 (d)).1.D (HA (w23r0 (d)).2):=by
 obtain ⟨r,hr,hu⟩:=Option.bind_eq_some_iff.1 hd
 have:=fun_ok (r:=r) hc (f:=23) (fn:=Tryz.f23) (code:=w23b) (by kernel_rfl) (by kernel_rfl) (w23hk N) (Nat.le_of_ble_eq_true (by kernel_rfl)) (ow:=false) ((w23q N n0 most1).symm.trans (by exact hr))
 rw [w23uo hu] at this
 exact this
def w23p (N:Nat) (n0 most1:Int):Bool:=(w23z N n0 most1).isSome
def w23y0 (N:Nat) (n0 most1:Int):Int:=((w23z N n0 most1).getD 0)
def w23e (N:Nat):Ent':=E2 (.i .i64) (.i .i64)  (fun x0 x1=>(w23p N x0 x1,w23r0 (w23y0 N x0 x1)))
theorem w23re {N:Nat} {n0 most1 d:Int} (hd:w23z N n0 most1=some d):w23r0 (w23y0 N n0 most1)=w23r0 (d):=by unfold w23y0;rw [hd];rfl
theorem w23ok (N:Nat):EOk Tryz.prog 23 (w23e N):=EOk.e2 (fun x0 x1 h=>by
 have h:(w23z N x0 x1).isSome=true:=h
 obtain ⟨d,hd⟩:=Option.isSome_iff_exists.1 h
 have f:=w23fin (w23cx N) hd
 rw [← w23re hd] at f
 exact f)
def w85r0 (a0:Int):Res:=(.e (.i .i64) a0,[])
def w85L (N:Nat):List (Nat×Ent'):=[(23,w23e N)]
def w85c (N:Nat):Cx:=⟨Tryz.prog,25,w85L N,[]⟩
def w85b:Code:=Tryz.f85.body.getD .skip
theorem w85cx (N:Nat):CxOk (w85c N):=ctx_ok (by kernel_rfl) (.cons (by kernel_rfl) (w23ok N) .nil) .nil
def w85G [Alg] (N:Nat)  (l0:(List Int)) (i1 most2:Int):O:=
 br (decide (i1 < 0)||decide ((↑l0.length:Int)<=i1))
  (some (w85r0 0))
  (gx l0 i1 fun y0=>
  ck (w23p N y0 most2) <|
  some (w85r0 (w23y0 N y0 most2)))
def w85 [Alg] (N:Nat) (l0:(List Int)) (i1 most2:Int):O:=w85G N  l0 i1 most2
def w85h [Alg] (_:Nat):Hint:=.d
theorem w85hk (N:Nat):HintOk (w85c N) Tryz.f85.ntmps (w85h N) w85b:=hk_of _ _ trivial
theorem w85q [Alg] (N:Nat) (l0:(List Int)) (i1 most2:Int):w85G N  l0 i1 most2=exec (w85c N) Tryz.f85.ntmps (w85h N) w85b ⟨argT 0 [.e (.sl (.i .i64)) l0,.e (.i .i64) i1,.e (.i .i64) most2],[],100⟩ (finX (w85c N) Tryz.f85 false):=by kernel_rfl
def w85un (r:Res):Option (Int):=match r with
 | (x0,[])=>(match ue (.i .i64) x0 with | some a0=>some a0 | _=>none)
 | _=>none
theorem w85uo {r:Res} {d:Int} (h:w85un r=some d):r=w85r0 (d):=by
 unfold w85un at h
 split at h
 ·split at h
  ·rename_i h0;cases h;rw [ue_some h0];rfl
  ·cases h
 ·cases h
def w85z (N:Nat) (l0:(List Int)) (i1 most2:Int):Option (Int):=(w85 N l0 i1 most2).bind w85un
theorem w85fin {N:Nat} (hc:CxOk (w85c N)) {l0:(List Int)} {i1 most2 d:Int} (hd:w85z N l0 i1 most2=some d):Does Tryz.prog 85 (([.e (.sl (.i .i64)) l0,.e (.i .i64) i1,.e (.i .i64) most2]:List X).map X.D) (HA []) (w85r0 (d)).1.D (HA (w85r0 (d)).2):=by
 obtain ⟨r,hr,hu⟩:=Option.bind_eq_some_iff.1 hd
 have:=fun_ok (r:=r) hc (f:=85) (fn:=Tryz.f85) (code:=w85b) (by kernel_rfl) (by kernel_rfl) (w85hk N) (Nat.le_of_ble_eq_true (by kernel_rfl)) (ow:=false) ((w85q N l0 i1 most2).symm.trans (by exact hr))
 rw [w85uo hu] at this
 exact this
def w85p (N:Nat) (l0:(List Int)) (i1 most2:Int):Bool:=(w85z N l0 i1 most2).isSome
def w85y0 (N:Nat) (l0:(List Int)) (i1 most2:Int):Int:=((w85z N l0 i1 most2).getD 0)
def w85e (N:Nat):Ent':=E3 (.sl (.i .i64)) (.i .i64) (.i .i64)  (fun x0 x1 x2=>(w85p N x0 x1 x2,w85r0 (w85y0 N x0 x1 x2)))
theorem w85re {N:Nat} {l0:(List Int)} {i1 most2 d:Int} (hd:w85z N l0 i1 most2=some d):w85r0 (w85y0 N l0 i1 most2)=w85r0 (d):=by unfold w85y0;rw [hd];rfl
theorem w85ok (N:Nat):EOk Tryz.prog 85 (w85e N):=EOk.e3 (fun x0 x1 x2 h=>by
 have h:(w85z N x0 x1 x2).isSome=true:=h
 obtain ⟨d,hd⟩:=Option.isSome_iff_exists.1 h
 have f:=w85fin (w85cx N) hd
 rw [← w85re hd] at f
 exact f)
def w55r0 (a0:Int) (a1:(List Int)) (a2:Int):Res:=(.e (.i .i64) a0,[(50,.box 77 [.e (.sl (.i .i64)) a1,.e (.i .i64) a2])])
def w55L (N:Nat):List (Nat×Ent'):=[(85,w85e N)]
def w55c (N:Nat):Cx:=⟨Tryz.prog,25,w55L N,[]⟩
def w55b:Code:=Tryz.f55.body.getD .skip
theorem w55cx (N:Nat):CxOk (w55c N):=ctx_ok (by kernel_rfl) (.cons (by kernel_rfl) (w85ok N) .nil) .nil
def w55G [Alg] (N:Nat)  (n1:Int) (g0:(List Int)) (g1:Int):O:=
 ck (w85p N g0 (IntKind.i64.wrap (IntKind.i64.wrap (g1+1) - (1:Int))) n1) <|
 some (w55r0 (w85y0 N g0 (IntKind.i64.wrap (IntKind.i64.wrap (g1+1) - (1:Int))) n1) g0 (IntKind.i64.wrap (g1+1)))
def w55 [Alg] (N:Nat) (n1:Int) (g0:(List Int)) (g1:Int):O:=w55G N  n1 g0 g1
def w55h [Alg] (_:Nat):Hint:=.d
theorem w55hk (N:Nat):HintOk (w55c N) Tryz.f55.ntmps (w55h N) w55b:=hk_of _ _ trivial
theorem w55q [Alg] (N:Nat) (n1:Int) (g0:(List Int)) (g1:Int):w55G N  n1 g0 g1=exec (w55c N) Tryz.f55.ntmps (w55h N) w55b ⟨argT 0 [.ref 50 0,.e (.i .i64) n1],[(50,.box 77 [.e (.sl (.i .i64)) g0,.e (.i .i64) g1])],100⟩ (finX (w55c N) Tryz.f55 false):=by kernel_rfl
def w55un (r:Res):Option (Int×(List Int)×Int):=match r with
 | (x0,[(50,.box 77 [x1,x2])])=>(match ue (.i .i64) x0,ue (.sl (.i .i64)) x1,ue (.i .i64) x2 with | some a0,some a1,some a2=>some (a0,a1,a2) | _,_,_=>none)
 | _=>none
theorem w55uo {r:Res} {d:Int×(List Int)×Int} (h:w55un r=some d):r=w55r0 (d.1) (d.2.1) (d.2.2):=by
 unfold w55un at h
 split at h
 ·split at h
  ·rename_i h0 h1 h2;cases h;rw [ue_some h0,ue_some h1,ue_some h2];rfl
  ·cases h
 ·cases h
def w55z (N:Nat) (n1:Int) (g0:(List Int)) (g1:Int):Option (Int×(List Int)×Int):=(w55 N n1 g0 g1).bind w55un
theorem w55fin {N:Nat} (hc:CxOk (w55c N)) {n1:Int} {g0:(List Int)} {g1:Int} {d:Int×(List Int)×Int} (hd:w55z N n1 g0 g1=some d):Does Tryz.prog 55 (([.ref 50 0,.e (.i .i64) n1]:List X).map X.D) (HA [(50,.box 77 [.e (.sl (.i .i64)) g0,.e (.i .i64) g1])]) (w55r0 (d.1) (d.2.1) (d.2.2)).1.D (HA (w55r0 (d.1) (d.2.1) (d.2.2)).2):=by
 obtain ⟨r,hr,hu⟩:=Option.bind_eq_some_iff.1 hd
 have:=fun_ok (r:=r) hc (f:=55) (fn:=Tryz.f55) (code:=w55b) (by kernel_rfl) (by kernel_rfl) (w55hk N) (Nat.le_of_ble_eq_true (by kernel_rfl)) (ow:=false) ((w55q N n1 g0 g1).symm.trans (by exact hr))
 rw [w55uo hu] at this
 exact this
def w55p (N:Nat) (n1:Int) (g0:(List Int)) (g1:Int):Bool:=(w55z N n1 g0 g1).isSome
def w55y0 (N:Nat) (n1:Int) (g0:(List Int)) (g1:Int):Int:=((w55z N n1 g0 g1).getD (0,[],0)).1
def w55y1 (N:Nat) (n1:Int) (g0:(List Int)) (g1:Int):(List Int):=((w55z N n1 g0 g1).getD (0,[],0)).2.1
def w55y2 (N:Nat) (n1:Int) (g0:(List Int)) (g1:Int):Int:=((w55z N n1 g0 g1).getD (0,[],0)).2.2
def w55in (xs:List X) (H:XH):Option (Int×(List Int)×Int):=match xs,H with
 | [.ref 50 0,x0],[(50,.box 77 [x1,x2])]=>(match ue (.i .i64) x0,ue (.sl (.i .i64)) x1,ue (.i .i64) x2 with | some a0,some a1,some a2=>some (a0,a1,a2) | _,_,_=>none)
 | _,_=>none
theorem w55io {xs:List X} {H:XH} {d:Int×(List Int)×Int} (h:w55in xs H=some d):xs=[.ref 50 0,.e (.i .i64) (d.1)]/\H=[(50,.box 77 [.e (.sl (.i .i64)) (d.2.1),.e (.i .i64) (d.2.2)])]:=by
 unfold w55in at h
 split at h
 ·split at h
  ·rename_i h0 h1 h2;cases h;rw [ue_some h0,ue_some h1,ue_some h2];exact ⟨rfl,rfl⟩
  ·cases h
 ·cases h
def w55e (N:Nat):Ent':=fun xs H=>match w55in xs H with | some d=>some (w55p N (d.1) (d.2.1) (d.2.2),w55r0 (w55y0 N (d.1) (d.2.1) (d.2.2)) (w55y1 N (d.1) (d.2.1) (d.2.2)) (w55y2 N (d.1) (d.2.1) (d.2.2))) | none=>none
theorem w55re {N:Nat} {n1:Int} {g0:(List Int)} {g1:Int} {d:Int×(List Int)×Int} (hd:w55z N n1 g0 g1=some d):w55r0 (w55y0 N n1 g0 g1) (w55y1 N n1 g0 g1) (w55y2 N n1 g0 g1)=w55r0 (d.1) (d.2.1) (d.2.2):=by unfold w55y0 w55y1 w55y2;rw [hd];rfl
theorem w55ok (N:Nat):EOk Tryz.prog 55 (w55e N):=fun xs H pre r he hp=>by
 unfold w55e at he
 split at he
 ·rename_i d hd
  have he:=Option.some.inj he
  have h1:=congrArg Prod.fst he
  have h2:=congrArg Prod.snd he
  simp only at h1 h2
  obtain ⟨e1,e2⟩:=w55io hd
  rw [e1,e2,← h2]
  have h:(w55z N (d.1) (d.2.1) (d.2.2)).isSome=true:=h1.trans hp
  obtain ⟨d',hd'⟩:=Option.isSome_iff_exists.1 h
  have f:=w55fin (w55cx N) hd'
  rw [← w55re hd'] at f
  exact f
 ·cases he
def w56r0 (a0 a1:Int) (a2:(List Ex)) (a3:(List Int)) (a4:Int):Res:=(.agg [.e (.i .i64) a0,.e (.i .i64) a1,.e (.sl .ex) a2],[(50,.box 77 [.e (.sl (.i .i64)) a3,.e (.i .i64) a4])])
def w56in (xs:List X) (H:XH):Option (Int×(List Int)×Int):=match xs,H with
 | [.ref 50 0,x0],[(50,.box 77 [x1,x2])]=>(match ue (.i .i64) x0,ue (.sl (.i .i64)) x1,ue (.i .i64) x2 with | some a0,some a1,some a2=>some (a0,a1,a2) | _,_,_=>none)
 | _,_=>none
theorem w56io {xs:List X} {H:XH} {d:Int×(List Int)×Int} (h:w56in xs H=some d):xs=[.ref 50 0,.e (.i .i64) (d.1)]/\H=[(50,.box 77 [.e (.sl (.i .i64)) (d.2.1),.e (.i .i64) (d.2.2)])]:=by
 unfold w56in at h
 split at h
 ·split at h
  ·rename_i h0 h1 h2;cases h;rw [ue_some h0,ue_some h1,ue_some h2];exact ⟨rfl,rfl⟩
  ·cases h
 ·cases h
abbrev w56T:=Nat×((Int->(List Int)->Int->Option (Int×Int×(List Ex)×(List Int)×Int)))
def w56E (N:w56T):Ent':=entR w56in (fun d=>(N.2 (d.1) (d.2.1) (d.2.2)).isSome) (fun d=>w56r0 (((N.2 (d.1) (d.2.1) (d.2.2)).getD (0,0,[],[],0)).1) (((N.2 (d.1) (d.2.1) (d.2.2)).getD (0,0,[],[],0)).2.1) (((N.2 (d.1) (d.2.1) (d.2.2)).getD (0,0,[],[],0)).2.2.1) (((N.2 (d.1) (d.2.1) (d.2.2)).getD (0,0,[],[],0)).2.2.2.1) (((N.2 (d.1) (d.2.1) (d.2.2)).getD (0,0,[],[],0)).2.2.2.2))
def w56L (N:w56T):List (Nat×Ent'):=[(56,w56E N),(55,w55e N.1)]
def w56c (N:w56T):Cx:=⟨Tryz.prog,25,w56L N,[]⟩
def w56b:Code:=Tryz.f56.body.getD .skip
theorem w56cx (N:w56T) (hw49:EOk Tryz.prog 56 (w56E N)):CxOk (w56c N):=ctx_ok (by kernel_rfl) (.cons (by kernel_rfl) hw49 (.cons (by kernel_rfl) (w55ok N.1) .nil)) .nil
def w56F0 [Alg] (_:w56T)   (k0:Int->Int->(List Int)->Int->Int->Int->O) (x0_0 x0_1:Int) (x0_2:(List Int)) (x0_3 x0_4 x0_5:Int):O:=
 br (decide (x0_0<=1)||decide ((↑x0_2.length:Int) < x0_3))
  (ck true <|
  k0 x0_0 (x0_1.tmod (4:Int)) x0_2 x0_3 x0_4 x0_5)
  (k0 x0_0 x0_1 x0_2 x0_3 x0_4 x0_5)
def w56b0:Code:=atC [1,1,0] w56b
def w56m0:Nm:=⟨[0,1,4,5],[],[]⟩
def w56I0 (x:Int×Int×(List Int)×Int×Int×Int):Sg:=⟨[(0,.ref 50 0),(1,.e (.i .i64) x.1),(4,.ref 0 0),(5,.e (.i .i64) x.2.1)],[(50,.box 77 [.e (.sl (.i .i64)) x.2.2.1,.e (.i .i64) x.2.2.2.1]),(0,.box 25 [.e (.i .i64) x.2.2.2.2.1,.e (.i .i64) x.2.2.2.2.2,.nilS])],100⟩
def w56u0 (σ:Sg):Int×Int×(List Int)×Int×Int×Int:=(lvT (.i .i64) 1 0 σ,lvT (.i .i64) 5 0 σ,lvH (.sl (.i .i64)) 50 0 σ,lvH (.i .i64) 50 1 σ,lvH (.i .i64) 0 0 σ,lvH (.i .i64) 0 1 σ)
theorem w56ui0:∀ x,w56u0 (w56I0 x)=x:=fun _=>by kernel_rfl
def w56X0_0 (y:Int×Int×(List Int)×Int×Int×Int):Exit×Sg:=(.normal,⟨[(0,.ref 50 0),(1,.e (.i .i64) y.1),(4,.ref 0 0),(5,.e (.i .i64) y.2.1)],[(50,.box 77 [.e (.sl (.i .i64)) y.2.2.1,.e (.i .i64) y.2.2.2.1]),(0,.box 25 [.e (.i .i64) y.2.2.2.2.1,.e (.i .i64) y.2.2.2.2.2,.nilS])],100⟩)
def w56v0_0 (_:Exit) (σ:Sg):Int×Int×(List Int)×Int×Int×Int:=(lvT (.i .i64) 1 0 σ,lvT (.i .i64) 5 0 σ,lvH (.sl (.i .i64)) 50 0 σ,lvH (.i .i64) 50 1 σ,lvH (.i .i64) 0 0 σ,lvH (.i .i64) 0 1 σ)
def w56w0:List (Exit×Nm):=[(.normal,⟨[0,1,4,5],[],[]⟩)]
theorem w56o0:Outs w56v0_0 (fun _ _=>()) (fun _ _=>()) w56X0_0 (noX 1) (noX 2) (exC .normal) (exC (.goto 1)) (exC (.goto 2)):=⟨fun _=>by kernel_rfl,fun _=>by kernel_rfl,fun _=>by kernel_rfl,fun _=>by kernel_rfl,fun _=>by kernel_rfl,fun _=>by kernel_rfl,exNe_ok (by kernel_rfl),exNe_ok (by kernel_rfl),exNe_ok (by kernel_rfl)⟩
def w56l0 [Alg] (N:w56T) (_:Nat) (x:Int×Int×(List Int)×Int×Int×Int) (k0:(Int×Int×(List Int)×Int×Int×Int)->O) (_:(Unit)->O) (_:(Unit)->O):O:=w56F0 N   (fun y0 y1 y2 y3 y4 y5=>k0 (y0,y1,y2,y3,y4,y5)) x.1 x.2.1 x.2.2.1 x.2.2.2.1 x.2.2.2.2.1 x.2.2.2.2.2
def w56n0 [Alg] (N:w56T) (a0 a1:Int) (a2:(List Int)) (a3 a4 a5:Int) (k0:Int->Int->(List Int)->Int->Int->Int->O):O:=w56l0 N N.1 (a0,a1,a2,a3,a4,a5) (fun y=>k0 y.1 y.2.1 y.2.2.1 y.2.2.2.1 y.2.2.2.2.1 y.2.2.2.2.2) (fun _=>none) (fun _=>none)
def w56s0 [Alg] (N:w56T) (a0 a1:Int) (a2:(List Int)) (a3 a4 a5:Int) (k0:Int->Int->(List Int)->Int->Int->Int->O):O:=subL w56I0 w56u0 (w56l0 N N.1) (w56I0 (a0,a1,a2,a3,a4,a5)) (fun y=>k0 y.1 y.2.1 y.2.2.1 y.2.2.2.1 y.2.2.2.2.1 y.2.2.2.2.2) (fun _=>none) (fun _=>none)
theorem w56e0 [Alg] (N:w56T):w56s0 N=w56n0 N:=funext fun _=>funext fun _=>funext fun _=>funext fun _=>funext fun _=>funext fun _=>funext fun _=>subL_I w56ui0 _ _ _ _
def w56h0 [Alg] (_:w56T):Hint:=.d
theorem w56hk0 (N:w56T):HintOk (w56c N) Tryz.f56.ntmps (w56h0 N) w56b0:=hk_of _ _ trivial
theorem w56q0 [Alg] (N:w56T) (K:Exit->Sg->O) (x:Int×Int×(List Int)×Int×Int×Int):w56F0 N   (fun y0 y1 y2 y3 y4 y5=>K (w56X0_0 (y0,y1,y2,y3,y4,y5)).1 (w56X0_0 (y0,y1,y2,y3,y4,y5)).2) x.1 x.2.1 x.2.2.1 x.2.2.2.1 x.2.2.2.2.1 x.2.2.2.2.2=exec (w56c N) Tryz.f56.ntmps (w56h0 N) w56b0 (w56I0 x) (partX w56w0 K):=by kernel_rfl
theorem w56S0 (N:w56T) (hc:CxOk (w56c N)):SubOk (w56c N) Tryz.f56.ntmps w56b0 w56X0_0 (noX 1) (noX 2) (subL w56I0 w56u0 (w56l0 N N.1)):=
 sub_part hc (w56hk0 N) w56o0 (fun x K=>by
  exact w56q0 N K x)
def w56F1 [Alg] (_:w56T)   (k0:Int->Int->Int->Bool->(List Int)->Int->Int->Int->O) (x74_0 x74_1 x74_2:Int) (x74_3:(List Int)) (x74_4 x74_5 x74_6:Int):O:=
 br (decide (x74_2=0))
  (k0 x74_0 x74_1 x74_2 (decide (x74_2=0)) x74_3 x74_4 x74_5 x74_6)
  (k0 x74_0 x74_1 x74_2 (decide (x74_2=1)) x74_3 x74_4 x74_5 x74_6)
def w56b1:Code:=atC [1,1,1,0,1,0,0] w56b
def w56m1:Nm:=⟨[0,1,4,5,27],[],[]⟩
def w56I1 (x:Int×Int×Int×(List Int)×Int×Int×Int):Sg:=⟨[(0,.ref 50 0),(1,.e (.i .i64) x.1),(4,.ref 0 0),(5,.e (.i .i64) x.2.1),(27,.e (.i .i64) x.2.2.1)],[(50,.box 77 [.e (.sl (.i .i64)) x.2.2.2.1,.e (.i .i64) x.2.2.2.2.1]),(0,.box 25 [.e (.i .i64) x.2.2.2.2.2.1,.e (.i .i64) x.2.2.2.2.2.2,.nilS])],100⟩
def w56u1 (σ:Sg):Int×Int×Int×(List Int)×Int×Int×Int:=(lvT (.i .i64) 1 0 σ,lvT (.i .i64) 5 0 σ,lvT (.i .i64) 27 0 σ,lvH (.sl (.i .i64)) 50 0 σ,lvH (.i .i64) 50 1 σ,lvH (.i .i64) 0 0 σ,lvH (.i .i64) 0 1 σ)
theorem w56ui1:∀ x,w56u1 (w56I1 x)=x:=fun _=>by kernel_rfl
def w56X1_0 (y:Int×Int×Int×Bool×(List Int)×Int×Int×Int):Exit×Sg:=(.normal,⟨[(0,.ref 50 0),(1,.e (.i .i64) y.1),(4,.ref 0 0),(5,.e (.i .i64) y.2.1),(27,.e (.i .i64) y.2.2.1),(28,.e .bo y.2.2.2.1)],[(50,.box 77 [.e (.sl (.i .i64)) y.2.2.2.2.1,.e (.i .i64) y.2.2.2.2.2.1]),(0,.box 25 [.e (.i .i64) y.2.2.2.2.2.2.1,.e (.i .i64) y.2.2.2.2.2.2.2,.nilS])],100⟩)
def w56v1_0 (_:Exit) (σ:Sg):Int×Int×Int×Bool×(List Int)×Int×Int×Int:=(lvT (.i .i64) 1 0 σ,lvT (.i .i64) 5 0 σ,lvT (.i .i64) 27 0 σ,lvT .bo 28 0 σ,lvH (.sl (.i .i64)) 50 0 σ,lvH (.i .i64) 50 1 σ,lvH (.i .i64) 0 0 σ,lvH (.i .i64) 0 1 σ)
def w56w1:List (Exit×Nm):=[(.normal,⟨[0,1,4,5,27,28],[],[]⟩)]
theorem w56o1:Outs w56v1_0 (fun _ _=>()) (fun _ _=>()) w56X1_0 (noX 1) (noX 2) (exC .normal) (exC (.goto 1)) (exC (.goto 2)):=⟨fun _=>by kernel_rfl,fun _=>by kernel_rfl,fun _=>by kernel_rfl,fun _=>by kernel_rfl,fun _=>by kernel_rfl,fun _=>by kernel_rfl,exNe_ok (by kernel_rfl),exNe_ok (by kernel_rfl),exNe_ok (by kernel_rfl)⟩
def w56l1 [Alg] (N:w56T) (_:Nat) (x:Int×Int×Int×(List Int)×Int×Int×Int) (k0:(Int×Int×Int×Bool×(List Int)×Int×Int×Int)->O) (_:(Unit)->O) (_:(Unit)->O):O:=w56F1 N   (fun y0 y1 y2 y3 y4 y5 y6 y7=>k0 (y0,y1,y2,y3,y4,y5,y6,y7)) x.1 x.2.1 x.2.2.1 x.2.2.2.1 x.2.2.2.2.1 x.2.2.2.2.2.1 x.2.2.2.2.2.2
def w56n1 [Alg] (N:w56T) (a0 a1 a2:Int) (a3:(List Int)) (a4 a5 a6:Int) (k0:Int->Int->Int->Bool->(List Int)->Int->Int->Int->O):O:=w56l1 N N.1 (a0,a1,a2,a3,a4,a5,a6) (fun y=>k0 y.1 y.2.1 y.2.2.1 y.2.2.2.1 y.2.2.2.2.1 y.2.2.2.2.2.1 y.2.2.2.2.2.2.1 y.2.2.2.2.2.2.2) (fun _=>none) (fun _=>none)
def w56s1 [Alg] (N:w56T) (a0 a1 a2:Int) (a3:(List Int)) (a4 a5 a6:Int) (k0:Int->Int->Int->Bool->(List Int)->Int->Int->Int->O):O:=subL w56I1 w56u1 (w56l1 N N.1) (w56I1 (a0,a1,a2,a3,a4,a5,a6)) (fun y=>k0 y.1 y.2.1 y.2.2.1 y.2.2.2.1 y.2.2.2.2.1 y.2.2.2.2.2.1 y.2.2.2.2.2.2.1 y.2.2.2.2.2.2.2) (fun _=>none) (fun _=>none)
theorem w56e1 [Alg] (N:w56T):w56s1 N=w56n1 N:=funext fun _=>funext fun _=>funext fun _=>funext fun _=>funext fun _=>funext fun _=>funext fun _=>funext fun _=>subL_I w56ui1 _ _ _ _
def w56h1 [Alg] (_:w56T):Hint:=.d
theorem w56hk1 (N:w56T):HintOk (w56c N) Tryz.f56.ntmps (w56h1 N) w56b1:=hk_of _ _ trivial
theorem w56q1 [Alg] (N:w56T) (K:Exit->Sg->O) (x:Int×Int×Int×(List Int)×Int×Int×Int):w56F1 N   (fun y0 y1 y2 y3 y4 y5 y6 y7=>K (w56X1_0 (y0,y1,y2,y3,y4,y5,y6,y7)).1 (w56X1_0 (y0,y1,y2,y3,y4,y5,y6,y7)).2) x.1 x.2.1 x.2.2.1 x.2.2.2.1 x.2.2.2.2.1 x.2.2.2.2.2.1 x.2.2.2.2.2.2=exec (w56c N) Tryz.f56.ntmps (w56h1 N) w56b1 (w56I1 x) (partX w56w1 K):=by kernel_rfl
theorem w56S1 (N:w56T) (hc:CxOk (w56c N)):SubOk (w56c N) Tryz.f56.ntmps w56b1 w56X1_0 (noX 1) (noX 2) (subL w56I1 w56u1 (w56l1 N N.1)):=
 sub_part hc (w56hk1 N) w56o1 (fun x K=>by
  exact w56q1 N K x)
def w56F2 [Alg] (_:w56T)   (k0:Int->Int->Int->Bool->(List Int)->Int->Int->Int->O) (x84_0 x84_1 x84_2:Int) (x84_3:(List Int)) (x84_4 x84_5 x84_6:Int):O:=
 br (decide (x84_2=2))
  (k0 x84_0 x84_1 x84_2 (decide (x84_2=2)) x84_3 x84_4 x84_5 x84_6)
  (k0 x84_0 x84_1 x84_2 (decide (x84_2=3)) x84_3 x84_4 x84_5 x84_6)
def w56b2:Code:=atC [1,1,1,0,1,0,1,1,0] w56b
def w56m2:Nm:=⟨[0,1,4,5,27],[],[]⟩
def w56I2 (x:Int×Int×Int×(List Int)×Int×Int×Int):Sg:=⟨[(0,.ref 50 0),(1,.e (.i .i64) x.1),(4,.ref 0 0),(5,.e (.i .i64) x.2.1),(27,.e (.i .i64) x.2.2.1)],[(50,.box 77 [.e (.sl (.i .i64)) x.2.2.2.1,.e (.i .i64) x.2.2.2.2.1]),(0,.box 25 [.e (.i .i64) x.2.2.2.2.2.1,.e (.i .i64) x.2.2.2.2.2.2,.nilS])],100⟩
def w56u2 (σ:Sg):Int×Int×Int×(List Int)×Int×Int×Int:=(lvT (.i .i64) 1 0 σ,lvT (.i .i64) 5 0 σ,lvT (.i .i64) 27 0 σ,lvH (.sl (.i .i64)) 50 0 σ,lvH (.i .i64) 50 1 σ,lvH (.i .i64) 0 0 σ,lvH (.i .i64) 0 1 σ)
theorem w56ui2:∀ x,w56u2 (w56I2 x)=x:=fun _=>by kernel_rfl
def w56X2_0 (y:Int×Int×Int×Bool×(List Int)×Int×Int×Int):Exit×Sg:=(.normal,⟨[(0,.ref 50 0),(1,.e (.i .i64) y.1),(4,.ref 0 0),(5,.e (.i .i64) y.2.1),(27,.e (.i .i64) y.2.2.1),(37,.e .bo y.2.2.2.1)],[(50,.box 77 [.e (.sl (.i .i64)) y.2.2.2.2.1,.e (.i .i64) y.2.2.2.2.2.1]),(0,.box 25 [.e (.i .i64) y.2.2.2.2.2.2.1,.e (.i .i64) y.2.2.2.2.2.2.2,.nilS])],100⟩)
def w56v2_0 (_:Exit) (σ:Sg):Int×Int×Int×Bool×(List Int)×Int×Int×Int:=(lvT (.i .i64) 1 0 σ,lvT (.i .i64) 5 0 σ,lvT (.i .i64) 27 0 σ,lvT .bo 37 0 σ,lvH (.sl (.i .i64)) 50 0 σ,lvH (.i .i64) 50 1 σ,lvH (.i .i64) 0 0 σ,lvH (.i .i64) 0 1 σ)
def w56w2:List (Exit×Nm):=[(.normal,⟨[0,1,4,5,27,37],[],[]⟩)]
theorem w56o2:Outs w56v2_0 (fun _ _=>()) (fun _ _=>()) w56X2_0 (noX 1) (noX 2) (exC .normal) (exC (.goto 1)) (exC (.goto 2)):=⟨fun _=>by kernel_rfl,fun _=>by kernel_rfl,fun _=>by kernel_rfl,fun _=>by kernel_rfl,fun _=>by kernel_rfl,fun _=>by kernel_rfl,exNe_ok (by kernel_rfl),exNe_ok (by kernel_rfl),exNe_ok (by kernel_rfl)⟩
def w56l2 [Alg] (N:w56T) (_:Nat) (x:Int×Int×Int×(List Int)×Int×Int×Int) (k0:(Int×Int×Int×Bool×(List Int)×Int×Int×Int)->O) (_:(Unit)->O) (_:(Unit)->O):O:=w56F2 N   (fun y0 y1 y2 y3 y4 y5 y6 y7=>k0 (y0,y1,y2,y3,y4,y5,y6,y7)) x.1 x.2.1 x.2.2.1 x.2.2.2.1 x.2.2.2.2.1 x.2.2.2.2.2.1 x.2.2.2.2.2.2
def w56n2 [Alg] (N:w56T) (a0 a1 a2:Int) (a3:(List Int)) (a4 a5 a6:Int) (k0:Int->Int->Int->Bool->(List Int)->Int->Int->Int->O):O:=w56l2 N N.1 (a0,a1,a2,a3,a4,a5,a6) (fun y=>k0 y.1 y.2.1 y.2.2.1 y.2.2.2.1 y.2.2.2.2.1 y.2.2.2.2.2.1 y.2.2.2.2.2.2.1 y.2.2.2.2.2.2.2) (fun _=>none) (fun _=>none)
def w56s2 [Alg] (N:w56T) (a0 a1 a2:Int) (a3:(List Int)) (a4 a5 a6:Int) (k0:Int->Int->Int->Bool->(List Int)->Int->Int->Int->O):O:=subL w56I2 w56u2 (w56l2 N N.1) (w56I2 (a0,a1,a2,a3,a4,a5,a6)) (fun y=>k0 y.1 y.2.1 y.2.2.1 y.2.2.2.1 y.2.2.2.2.1 y.2.2.2.2.2.1 y.2.2.2.2.2.2.1 y.2.2.2.2.2.2.2) (fun _=>none) (fun _=>none)
theorem w56e2 [Alg] (N:w56T):w56s2 N=w56n2 N:=funext fun _=>funext fun _=>funext fun _=>funext fun _=>funext fun _=>funext fun _=>funext fun _=>funext fun _=>subL_I w56ui2 _ _ _ _
def w56h2 [Alg] (_:w56T):Hint:=.d
theorem w56hk2 (N:w56T):HintOk (w56c N) Tryz.f56.ntmps (w56h2 N) w56b2:=hk_of _ _ trivial
theorem w56q2 [Alg] (N:w56T) (K:Exit->Sg->O) (x:Int×Int×Int×(List Int)×Int×Int×Int):w56F2 N   (fun y0 y1 y2 y3 y4 y5 y6 y7=>K (w56X2_0 (y0,y1,y2,y3,y4,y5,y6,y7)).1 (w56X2_0 (y0,y1,y2,y3,y4,y5,y6,y7)).2) x.1 x.2.1 x.2.2.1 x.2.2.2.1 x.2.2.2.2.1 x.2.2.2.2.2.1 x.2.2.2.2.2.2=exec (w56c N) Tryz.f56.ntmps (w56h2 N) w56b2 (w56I2 x) (partX w56w2 K):=by kernel_rfl
theorem w56S2 (N:w56T) (hc:CxOk (w56c N)):SubOk (w56c N) Tryz.f56.ntmps w56b2 w56X2_0 (noX 1) (noX 2) (subL w56I2 w56u2 (w56l2 N N.1)):=
 sub_part hc (w56hk2 N) w56o2 (fun x K=>by
  exact w56q2 N K x)
def w56F3 [Alg] (N:w56T) (in1:Int->Int->Int->(List Int)->Int->Int->Int->(Int->Int->Int->Bool->(List Int)->Int->Int->Int->O)->O) (in2:Int->Int->Int->(List Int)->Int->Int->Int->(Int->Int->Int->Bool->(List Int)->Int->Int->Int->O)->O)  (k0:(List Int)->Int->Int->Int->(List Ex)->O) (k1:Int->Int->(List Int)->Int->Int->Int->O) (x7_0 x7_1:Int) (x7_2:(List Int)) (x7_3 x7_4 x7_5:Int):O:=
 in1 x7_0 x7_1 x7_1 x7_2 x7_3 x7_4 x7_5
  (fun z75 z76 z77 z78 z79 z80 z81 z82=>
   br z78
    (ck (w55p N.1 (6:Int) z79 z80) <|
    gx [(0:Int),(1:Int),(2:Int),(10:Int),(47:Int),(999999:Int)] (w55y0 N.1 (6:Int) z79 z80) fun y83=>
    k0 (w55y1 N.1 (6:Int) z79 z80) (w55y2 N.1 (6:Int) z79 z80) 0 y83 [])
    (in2 z75 z76 z77 z79 z80 z81 z82
     (fun z85 z86 z87 z88 z89 z90 z91 z92=>
      br z88
       (ck (w55p N.1 (5:Int) z89 z90) <|
       gx [(0:Int),(1:Int),(2:Int),(23:Int),(25:Int)] (w55y0 N.1 (5:Int) z89 z90) fun y93=>
       k0 (w55y1 N.1 (5:Int) z89 z90) (w55y2 N.1 (5:Int) z89 z90) 1 y93 [])
       (br (decide (z87=4))
        (br (decide (z87=4))
         (gx [(2:Int),(8:Int)] (IntKind.i64.wrap (z86 - 4)) fun y94=>
         ck ((N.2 (IntKind.i64.wrap (z85 - 1)) z89 z90).isSome) <|
         k0 (((N.2 (IntKind.i64.wrap (z85 - 1)) z89 z90).getD ((0:Int),(0:Int),[],[],(0:Int))).2.2.2.1) (((N.2 (IntKind.i64.wrap (z85 - 1)) z89 z90).getD ((0:Int),(0:Int),[],[],(0:Int))).2.2.2.2) y94 0 [Ex.mk ((N.2 (IntKind.i64.wrap (z85 - 1)) z89 z90).getD ((0:Int),(0:Int),[],[],(0:Int))).1 ((N.2 (IntKind.i64.wrap (z85 - 1)) z89 z90).getD ((0:Int),(0:Int),[],[],(0:Int))).2.1 ((N.2 (IntKind.i64.wrap (z85 - 1)) z89 z90).getD ((0:Int),(0:Int),[],[],(0:Int))).2.2.1])
         (k1 z85 z86 z89 z90 z91 z92))
        (br (decide (z87=5))
         (gx [(2:Int),(8:Int)] (IntKind.i64.wrap (z86 - 4)) fun y95=>
         ck ((N.2 (IntKind.i64.wrap (z85 - 1)) z89 z90).isSome) <|
         k0 (((N.2 (IntKind.i64.wrap (z85 - 1)) z89 z90).getD ((0:Int),(0:Int),[],[],(0:Int))).2.2.2.1) (((N.2 (IntKind.i64.wrap (z85 - 1)) z89 z90).getD ((0:Int),(0:Int),[],[],(0:Int))).2.2.2.2) y95 0 [Ex.mk ((N.2 (IntKind.i64.wrap (z85 - 1)) z89 z90).getD ((0:Int),(0:Int),[],[],(0:Int))).1 ((N.2 (IntKind.i64.wrap (z85 - 1)) z89 z90).getD ((0:Int),(0:Int),[],[],(0:Int))).2.1 ((N.2 (IntKind.i64.wrap (z85 - 1)) z89 z90).getD ((0:Int),(0:Int),[],[],(0:Int))).2.2.1])
         (k1 z85 z86 z89 z90 z91 z92))))))
def w56b3:Code:=atC [1,1,1,0] w56b
def w56m3:Nm:=⟨[0,1,4,5],[],[]⟩
def w56I3 (x:Int×Int×(List Int)×Int×Int×Int):Sg:=⟨[(0,.ref 50 0),(1,.e (.i .i64) x.1),(4,.ref 0 0),(5,.e (.i .i64) x.2.1)],[(50,.box 77 [.e (.sl (.i .i64)) x.2.2.1,.e (.i .i64) x.2.2.2.1]),(0,.box 25 [.e (.i .i64) x.2.2.2.2.1,.e (.i .i64) x.2.2.2.2.2,.nilS])],100⟩
def w56u3 (σ:Sg):Int×Int×(List Int)×Int×Int×Int:=(lvT (.i .i64) 1 0 σ,lvT (.i .i64) 5 0 σ,lvH (.sl (.i .i64)) 50 0 σ,lvH (.i .i64) 50 1 σ,lvH (.i .i64) 0 0 σ,lvH (.i .i64) 0 1 σ)
theorem w56ui3:∀ x,w56u3 (w56I3 x)=x:=fun _=>by kernel_rfl
def w56X3_0 (y:(List Int)×Int×Int×Int×(List Ex)):Exit×Sg:=(.ret,⟨[(4,.ref 0 0)],[(50,.box 77 [.e (.sl (.i .i64)) y.1,.e (.i .i64) y.2.1]),(0,.box 25 [.e (.i .i64) y.2.2.1,.e (.i .i64) y.2.2.2.1,.own 1]),(1,.row 25 .ex y.2.2.2.2 true)],100⟩)
def w56v3_0 (_:Exit) (σ:Sg):(List Int)×Int×Int×Int×(List Ex):=(lvH (.sl (.i .i64)) 50 0 σ,lvH (.i .i64) 50 1 σ,lvH (.i .i64) 0 0 σ,lvH (.i .i64) 0 1 σ,lvR .ex 1 σ)
def w56X3_1 (y:Int×Int×(List Int)×Int×Int×Int):Exit×Sg:=(.normal,⟨[(0,.ref 50 0),(1,.e (.i .i64) y.1),(4,.ref 0 0),(5,.e (.i .i64) y.2.1)],[(50,.box 77 [.e (.sl (.i .i64)) y.2.2.1,.e (.i .i64) y.2.2.2.1]),(0,.box 25 [.e (.i .i64) y.2.2.2.2.1,.e (.i .i64) y.2.2.2.2.2,.nilS])],100⟩)
def w56v3_1 (_:Exit) (σ:Sg):Int×Int×(List Int)×Int×Int×Int:=(lvT (.i .i64) 1 0 σ,lvT (.i .i64) 5 0 σ,lvH (.sl (.i .i64)) 50 0 σ,lvH (.i .i64) 50 1 σ,lvH (.i .i64) 0 0 σ,lvH (.i .i64) 0 1 σ)
def w56w3:List (Exit×Nm):=[(.ret,⟨[4],[],[.nilC 4 2 (.row 25 .ex [] true)]⟩),(.normal,⟨[0,1,4,5],[],[]⟩)]
theorem w56o3:Outs w56v3_0 w56v3_1 (fun _ _=>()) w56X3_0 w56X3_1 (noX 2) (exC .ret) (exC .normal) (exC (.goto 2)):=⟨fun _=>by kernel_rfl,fun _=>by kernel_rfl,fun _=>by kernel_rfl,fun _=>by kernel_rfl,fun _=>by kernel_rfl,fun _=>by kernel_rfl,exNe_ok (by kernel_rfl),exNe_ok (by kernel_rfl),exNe_ok (by kernel_rfl)⟩
def w56l3 [Alg] (N:w56T) (_:Nat) (x:Int×Int×(List Int)×Int×Int×Int) (k0:((List Int)×Int×Int×Int×(List Ex))->O) (k1:(Int×Int×(List Int)×Int×Int×Int)->O) (_:(Unit)->O):O:=w56F3 N (w56n1 N) (w56n2 N)  (fun y0 y1 y2 y3 y4=>k0 (y0,y1,y2,y3,y4)) (fun y0 y1 y2 y3 y4 y5=>k1 (y0,y1,y2,y3,y4,y5)) x.1 x.2.1 x.2.2.1 x.2.2.2.1 x.2.2.2.2.1 x.2.2.2.2.2
def w56n3 [Alg] (N:w56T) (a0 a1:Int) (a2:(List Int)) (a3 a4 a5:Int) (k0:(List Int)->Int->Int->Int->(List Ex)->O) (k1:Int->Int->(List Int)->Int->Int->Int->O):O:=w56l3 N N.1 (a0,a1,a2,a3,a4,a5) (fun y=>k0 y.1 y.2.1 y.2.2.1 y.2.2.2.1 y.2.2.2.2) (fun y=>k1 y.1 y.2.1 y.2.2.1 y.2.2.2.1 y.2.2.2.2.1 y.2.2.2.2.2) (fun _=>none)
def w56s3 [Alg] (N:w56T) (a0 a1:Int) (a2:(List Int)) (a3 a4 a5:Int) (k0:(List Int)->Int->Int->Int->(List Ex)->O) (k1:Int->Int->(List Int)->Int->Int->Int->O):O:=subL w56I3 w56u3 (w56l3 N N.1) (w56I3 (a0,a1,a2,a3,a4,a5)) (fun y=>k0 y.1 y.2.1 y.2.2.1 y.2.2.2.1 y.2.2.2.2) (fun y=>k1 y.1 y.2.1 y.2.2.1 y.2.2.2.1 y.2.2.2.2.1 y.2.2.2.2.2) (fun _=>none)
theorem w56e3 [Alg] (N:w56T):w56s3 N=w56n3 N:=funext fun _=>funext fun _=>funext fun _=>funext fun _=>funext fun _=>funext fun _=>funext fun _=>funext fun _=>subL_I w56ui3 _ _ _ _
def w56h3 [Alg] (N:w56T):Hint:=(.seq .d (.block (.seq (.sub w56m1 _ _ _ w56X1_0 (noX 1) (noX 2) (subL w56I1 w56u1 (w56l1 N N.1))) (.cond .d (.seq (.sub w56m2 _ _ _ w56X2_0 (noX 1) (noX 2) (subL w56I2 w56u2 (w56l2 N N.1))) (.cond .d (.seq .d (.cond (.seq (.reg [] [] [[],[],[],[],[],[],[],[],[50],[],[],[0]]) .d) .d))))))))
theorem w56hk3 (N:w56T) (hc:CxOk (w56c N)):HintOk (w56c N) Tryz.f56.ntmps (w56h3 N) w56b3:=hk_of _ _ (And.intro trivial (And.intro (w56S1 N hc) (And.intro trivial (And.intro (w56S2 N hc) (And.intro trivial (And.intro trivial (And.intro (And.intro trivial trivial) trivial)))))))
theorem w56q3 [Alg] (N:w56T) (K:Exit->Sg->O) (x:Int×Int×(List Int)×Int×Int×Int):w56F3 N (w56s1 N) (w56s2 N)  (fun y0 y1 y2 y3 y4=>K (w56X3_0 (y0,y1,y2,y3,y4)).1 (w56X3_0 (y0,y1,y2,y3,y4)).2) (fun y0 y1 y2 y3 y4 y5=>K (w56X3_1 (y0,y1,y2,y3,y4,y5)).1 (w56X3_1 (y0,y1,y2,y3,y4,y5)).2) x.1 x.2.1 x.2.2.1 x.2.2.2.1 x.2.2.2.2.1 x.2.2.2.2.2=exec (w56c N) Tryz.f56.ntmps (w56h3 N) w56b3 (w56I3 x) (partX w56w3 K):=by kernel_rfl
theorem w56S3 (N:w56T) (hc:CxOk (w56c N)):SubOk (w56c N) Tryz.f56.ntmps w56b3 w56X3_0 w56X3_1 (noX 2) (subL w56I3 w56u3 (w56l3 N N.1)):=
 sub_part hc (w56hk3 N hc) w56o3 (fun x K=>by
  have q:=w56q3 N K x
  rw [w56e1 N,w56e2 N] at q
  exact q)
def w56G [Alg] (N:w56T) (in0:Int->Int->(List Int)->Int->Int->Int->(Int->Int->(List Int)->Int->Int->Int->O)->O) (_in1:Int->Int->Int->(List Int)->Int->Int->Int->(Int->Int->Int->Bool->(List Int)->Int->Int->Int->O)->O) (_in2:Int->Int->Int->(List Int)->Int->Int->Int->(Int->Int->Int->Bool->(List Int)->Int->Int->Int->O)->O) (in3:Int->Int->(List Int)->Int->Int->Int->((List Int)->Int->Int->Int->(List Ex)->O)->(Int->Int->(List Int)->Int->Int->Int->O)->O) (depth1:Int) (g0:(List Int)) (g1:Int):O:=
 ck (w55p N.1 (12:Int) g0 g1) <|
 in0 depth1 (w55y0 N.1 (12:Int) g0 g1) (w55y1 N.1 (12:Int) g0 g1) (w55y2 N.1 (12:Int) g0 g1) 0 0
  (fun z1 z2 z3 z4 z5 z6=>
   in3 z1 z2 z3 z4 z5 z6
    (fun z96 z97 z98 z99 z100=>
     some (w56r0 (z98) (z99) (z100) z96 z97))
    (fun z101 z102 z103 z104 _ _=>
     gx [(3:Int),(4:Int),(5:Int),(6:Int),(7:Int),(4:Int)] (IntKind.i64.wrap (z102 - 6)) fun y107=>
     ck ((N.2 (IntKind.i64.wrap (z101 - 1)) z103 z104).isSome) <|
     ck ((N.2 (IntKind.i64.wrap (z101 - 1)) ((N.2 (IntKind.i64.wrap (z101 - 1)) z103 z104).getD ((0:Int),(0:Int),[],[],(0:Int))).2.2.2.1 ((N.2 (IntKind.i64.wrap (z101 - 1)) z103 z104).getD ((0:Int),(0:Int),[],[],(0:Int))).2.2.2.2).isSome) <|
     some (w56r0 (y107) 0 ([Ex.mk ((N.2 (IntKind.i64.wrap (z101 - 1)) z103 z104).getD ((0:Int),(0:Int),[],[],(0:Int))).1 ((N.2 (IntKind.i64.wrap (z101 - 1)) z103 z104).getD ((0:Int),(0:Int),[],[],(0:Int))).2.1 ((N.2 (IntKind.i64.wrap (z101 - 1)) z103 z104).getD ((0:Int),(0:Int),[],[],(0:Int))).2.2.1,Ex.mk ((N.2 (IntKind.i64.wrap (z101 - 1)) ((N.2 (IntKind.i64.wrap (z101 - 1)) z103 z104).getD ((0:Int),(0:Int),[],[],(0:Int))).2.2.2.1 ((N.2 (IntKind.i64.wrap (z101 - 1)) z103 z104).getD ((0:Int),(0:Int),[],[],(0:Int))).2.2.2.2).getD ((0:Int),(0:Int),[],[],(0:Int))).1 ((N.2 (IntKind.i64.wrap (z101 - 1)) ((N.2 (IntKind.i64.wrap (z101 - 1)) z103 z104).getD ((0:Int),(0:Int),[],[],(0:Int))).2.2.2.1 ((N.2 (IntKind.i64.wrap (z101 - 1)) z103 z104).getD ((0:Int),(0:Int),[],[],(0:Int))).2.2.2.2).getD ((0:Int),(0:Int),[],[],(0:Int))).2.1 ((N.2 (IntKind.i64.wrap (z101 - 1)) ((N.2 (IntKind.i64.wrap (z101 - 1)) z103 z104).getD ((0:Int),(0:Int),[],[],(0:Int))).2.2.2.1 ((N.2 (IntKind.i64.wrap (z101 - 1)) z103 z104).getD ((0:Int),(0:Int),[],[],(0:Int))).2.2.2.2).getD ((0:Int),(0:Int),[],[],(0:Int))).2.2.1]) (((N.2 (IntKind.i64.wrap (z101 - 1)) ((N.2 (IntKind.i64.wrap (z101 - 1)) z103 z104).getD ((0:Int),(0:Int),[],[],(0:Int))).2.2.2.1 ((N.2 (IntKind.i64.wrap (z101 - 1)) z103 z104).getD ((0:Int),(0:Int),[],[],(0:Int))).2.2.2.2).getD ((0:Int),(0:Int),[],[],(0:Int))).2.2.2.1) (((N.2 (IntKind.i64.wrap (z101 - 1)) ((N.2 (IntKind.i64.wrap (z101 - 1)) z103 z104).getD ((0:Int),(0:Int),[],[],(0:Int))).2.2.2.1 ((N.2 (IntKind.i64.wrap (z101 - 1)) z103 z104).getD ((0:Int),(0:Int),[],[],(0:Int))).2.2.2.2).getD ((0:Int),(0:Int),[],[],(0:Int))).2.2.2.2))))
def w56 [Alg] (N:w56T) (depth1:Int) (g0:(List Int)) (g1:Int):O:=w56G N (w56n0 N) (w56n1 N) (w56n2 N) (w56n3 N) depth1 g0 g1
def w56h [Alg] (N:w56T):Hint:=(.seq .d (.seq .d (.seq (.sub w56m0 _ _ _ w56X0_0 (noX 1) (noX 2) (subL w56I0 w56u0 (w56l0 N N.1))) (.seq (.sub w56m3 _ _ _ w56X3_0 w56X3_1 (noX 2) (subL w56I3 w56u3 (w56l3 N N.1))) .d))))
theorem w56hk (N:w56T) (hc:CxOk (w56c N)):HintOk (w56c N) Tryz.f56.ntmps (w56h N) w56b:=hk_of _ _ (And.intro trivial (And.intro trivial (And.intro (w56S0 N hc) (And.intro (w56S3 N hc) trivial))))
theorem w56q [Alg] (N:w56T) (depth1:Int) (g0:(List Int)) (g1:Int):w56G N (w56s0 N) (w56s1 N) (w56s2 N) (w56s3 N) depth1 g0 g1=exec (w56c N) Tryz.f56.ntmps (w56h N) w56b ⟨argT 0 [.ref 50 0,.e (.i .i64) depth1],[(50,.box 77 [.e (.sl (.i .i64)) g0,.e (.i .i64) g1])],100⟩ (finX (w56c N) Tryz.f56 false):=by kernel_rfl
def w56un (r:Res):Option (Int×Int×(List Ex)×(List Int)×Int):=match r with
 | (.agg [x0,x1,x2],[(50,.box 77 [x3,x4])])=>(match ue (.i .i64) x0,ue (.i .i64) x1,ue (.sl .ex) x2,ue (.sl (.i .i64)) x3,ue (.i .i64) x4 with | some a0,some a1,some a2,some a3,some a4=>some (a0,a1,a2,a3,a4) | _,_,_,_,_=>none)
 | _=>none
theorem w56uo {r:Res} {d:Int×Int×(List Ex)×(List Int)×Int} (h:w56un r=some d):r=w56r0 (d.1) (d.2.1) (d.2.2.1) (d.2.2.2.1) (d.2.2.2.2):=by
 unfold w56un at h
 split at h
 ·split at h
  ·rename_i h0 h1 h2 h3 h4;cases h;rw [ue_some h0,ue_some h1,ue_some h2,ue_some h3,ue_some h4];rfl
  ·cases h
 ·cases h
def w56z (N:w56T) (depth1:Int) (g0:(List Int)) (g1:Int):Option (Int×Int×(List Ex)×(List Int)×Int):=(w56 N depth1 g0 g1).bind w56un
theorem w56fin {N:w56T} (hc:CxOk (w56c N)) {depth1:Int} {g0:(List Int)} {g1:Int} {d:Int×Int×(List Ex)×(List Int)×Int} (hd:w56z N depth1 g0 g1=some d):Does Tryz.prog 56 (([.ref 50 0,.e (.i .i64) depth1]:List X).map X.D) (HA [(50,.box 77 [.e (.sl (.i .i64)) g0,.e (.i .i64) g1])]) (w56r0 (d.1) (d.2.1) (d.2.2.1) (d.2.2.2.1) (d.2.2.2.2)).1.D (HA (w56r0 (d.1) (d.2.1) (d.2.2.1) (d.2.2.2.1) (d.2.2.2.2)).2):=by
 obtain ⟨r,hr,hu⟩:=Option.bind_eq_some_iff.1 hd
 have:=fun_ok (r:=r) hc (f:=56) (fn:=Tryz.f56) (code:=w56b) (by kernel_rfl) (by kernel_rfl) (w56hk N hc) (Nat.le_of_ble_eq_true (by kernel_rfl)) (ow:=false) ((w56q N depth1 g0 g1).symm.trans (by rw [w56e0 N,w56e1 N,w56e2 N,w56e3 N];exact hr))
 rw [w56uo hu] at this
 exact this
def w56gY (N:Nat):Nat->(Int->(List Int)->Int->Option (Int×Int×(List Ex)×(List Int)×Int))
 | 0=>fun _ _ _=>none
 | n+1=>fun depth1 g0 g1=>w56z (N,w56gY N n) depth1 g0 g1
theorem w56gYok (N:Nat):∀ n,EOk Tryz.prog 56 (w56E (N,w56gY N n))
 | 0=>entR_ok w56io (fun _ h=>by cases h)
 | n+1=>
   have ih:=w56gYok N n
   entR_ok w56io (fun d h=>norStep (zz:=w56z (N,w56gY N n) (d.1) (d.2.1) (d.2.2)) (R:=fun y=>w56r0 (y.1) (y.2.1) (y.2.2.1) (y.2.2.2.1) (y.2.2.2.2)) (d0:=(0,0,[],[],0)) (fun _ hy=>w56fin (w56cx (N,w56gY N n) ih) hy) h)
def w56p (N:Nat) (depth1:Int) (g0:(List Int)) (g1:Int):Bool:=((w56gY N N) depth1 g0 g1).isSome
def w56y0 (N:Nat) (depth1:Int) (g0:(List Int)) (g1:Int):Int:=(((w56gY N N) depth1 g0 g1).getD (0,0,[],[],0)).1
def w56y1 (N:Nat) (depth1:Int) (g0:(List Int)) (g1:Int):Int:=(((w56gY N N) depth1 g0 g1).getD (0,0,[],[],0)).2.1
def w56y2 (N:Nat) (depth1:Int) (g0:(List Int)) (g1:Int):(List Ex):=(((w56gY N N) depth1 g0 g1).getD (0,0,[],[],0)).2.2.1
def w56y3 (N:Nat) (depth1:Int) (g0:(List Int)) (g1:Int):(List Int):=(((w56gY N N) depth1 g0 g1).getD (0,0,[],[],0)).2.2.2.1
def w56y4 (N:Nat) (depth1:Int) (g0:(List Int)) (g1:Int):Int:=(((w56gY N N) depth1 g0 g1).getD (0,0,[],[],0)).2.2.2.2
def w56e (N:Nat):Ent':=entR w56in (fun d=>w56p N (d.1) (d.2.1) (d.2.2)) (fun d=>w56r0 (w56y0 N (d.1) (d.2.1) (d.2.2)) (w56y1 N (d.1) (d.2.1) (d.2.2)) (w56y2 N (d.1) (d.2.1) (d.2.2)) (w56y3 N (d.1) (d.2.1) (d.2.2)) (w56y4 N (d.1) (d.2.1) (d.2.2)))
theorem w56ok (N:Nat):EOk Tryz.prog 56 (w56e N):=w56gYok N N
def w33r0 (a0 a1:Int) (a2:(List Ex)):Res:=(.agg [.e (.i .i64) a0,.e (.i .i64) a1,.e (.sl .ex) a2],[])
def w33L (N:Nat):List (Nat×Ent'):=[(55,w55e N),(56,w56e N)]
def w33c (N:Nat):Cx:=⟨Tryz.prog,25,w33L N,[]⟩
def w33b:Code:=Tryz.f33.body.getD .skip
theorem w33cx (N:Nat):CxOk (w33c N):=ctx_ok (by kernel_rfl) (.cons (by kernel_rfl) (w55ok N) (.cons (by kernel_rfl) (w56ok N) .nil)) .nil
def w33G [Alg] (N:Nat)  (l0:(List Int)) (depth1:Int):O:=
 ck (w55p N (6:Int) l0 (0:Int)) <|
 br (decide ((1:Int) < w55y0 N (6:Int) l0 (0:Int))||decide (max (1:Int) (min (5:Int) depth1) < (2:Int)))
  (ck (w56p N (max (1:Int) (min (5:Int) depth1)) (w55y1 N (6:Int) l0 (0:Int)) (w55y2 N (6:Int) l0 (0:Int))) <|
  some (w33r0 ((w56y0 N (max (1:Int) (min (5:Int) depth1)) (w55y1 N (6:Int) l0 (0:Int)) (w55y2 N (6:Int) l0 (0:Int)))) ((w56y1 N (max (1:Int) (min (5:Int) depth1)) (w55y1 N (6:Int) l0 (0:Int)) (w55y2 N (6:Int) l0 (0:Int)))) ((w56y2 N (max (1:Int) (min (5:Int) depth1)) (w55y1 N (6:Int) l0 (0:Int)) (w55y2 N (6:Int) l0 (0:Int))))))
  (ck (w56p N (IntKind.i64.wrap (max (1:Int) (min (5:Int) depth1) - (1:Int))) (w55y1 N (6:Int) l0 (0:Int)) (w55y2 N (6:Int) l0 (0:Int))) <|
  ck (w56p N (IntKind.i64.wrap (max (1:Int) (min (5:Int) depth1) - (1:Int))) (w56y3 N (IntKind.i64.wrap (max (1:Int) (min (5:Int) depth1) - (1:Int))) (w55y1 N (6:Int) l0 (0:Int)) (w55y2 N (6:Int) l0 (0:Int))) (w56y4 N (IntKind.i64.wrap (max (1:Int) (min (5:Int) depth1) - (1:Int))) (w55y1 N (6:Int) l0 (0:Int)) (w55y2 N (6:Int) l0 (0:Int)))) <|
  some (w33r0 ((IntKind.i64.wrap ((9:Int)+w55y0 N (6:Int) l0 (0:Int)))) 0 ([Ex.mk (w56y0 N (IntKind.i64.wrap (max (1:Int) (min (5:Int) depth1) - (1:Int))) (w55y1 N (6:Int) l0 (0:Int)) (w55y2 N (6:Int) l0 (0:Int))) (w56y1 N (IntKind.i64.wrap (max (1:Int) (min (5:Int) depth1) - (1:Int))) (w55y1 N (6:Int) l0 (0:Int)) (w55y2 N (6:Int) l0 (0:Int))) (w56y2 N (IntKind.i64.wrap (max (1:Int) (min (5:Int) depth1) - (1:Int))) (w55y1 N (6:Int) l0 (0:Int)) (w55y2 N (6:Int) l0 (0:Int))),Ex.mk (w56y0 N (IntKind.i64.wrap (max (1:Int) (min (5:Int) depth1) - (1:Int))) (w56y3 N (IntKind.i64.wrap (max (1:Int) (min (5:Int) depth1) - (1:Int))) (w55y1 N (6:Int) l0 (0:Int)) (w55y2 N (6:Int) l0 (0:Int))) (w56y4 N (IntKind.i64.wrap (max (1:Int) (min (5:Int) depth1) - (1:Int))) (w55y1 N (6:Int) l0 (0:Int)) (w55y2 N (6:Int) l0 (0:Int)))) (w56y1 N (IntKind.i64.wrap (max (1:Int) (min (5:Int) depth1) - (1:Int))) (w56y3 N (IntKind.i64.wrap (max (1:Int) (min (5:Int) depth1) - (1:Int))) (w55y1 N (6:Int) l0 (0:Int)) (w55y2 N (6:Int) l0 (0:Int))) (w56y4 N (IntKind.i64.wrap (max (1:Int) (min (5:Int) depth1) - (1:Int))) (w55y1 N (6:Int) l0 (0:Int)) (w55y2 N (6:Int) l0 (0:Int)))) (w56y2 N (IntKind.i64.wrap (max (1:Int) (min (5:Int) depth1) - (1:Int))) (w56y3 N (IntKind.i64.wrap (max (1:Int) (min (5:Int) depth1) - (1:Int))) (w55y1 N (6:Int) l0 (0:Int)) (w55y2 N (6:Int) l0 (0:Int))) (w56y4 N (IntKind.i64.wrap (max (1:Int) (min (5:Int) depth1) - (1:Int))) (w55y1 N (6:Int) l0 (0:Int)) (w55y2 N (6:Int) l0 (0:Int))))])))
def w33 [Alg] (N:Nat) (l0:(List Int)) (depth1:Int):O:=w33G N  l0 depth1
def w33h [Alg] (_:Nat):Hint:=.d
theorem w33hk (N:Nat):HintOk (w33c N) Tryz.f33.ntmps (w33h N) w33b:=hk_of _ _ trivial
theorem w33q [Alg] (N:Nat) (l0:(List Int)) (depth1:Int):w33G N  l0 depth1=exec (w33c N) Tryz.f33.ntmps (w33h N) w33b ⟨argT 0 [.e (.sl (.i .i64)) l0,.e (.i .i64) depth1],[],100⟩ (finX (w33c N) Tryz.f33 false):=by kernel_rfl
def w33un (r:Res):Option (Int×Int×(List Ex)):=match r with
 | (.agg [x0,x1,x2],[])=>(match ue (.i .i64) x0,ue (.i .i64) x1,ue (.sl .ex) x2 with | some a0,some a1,some a2=>some (a0,a1,a2) | _,_,_=>none)
 | _=>none
theorem w33uo {r:Res} {d:Int×Int×(List Ex)} (h:w33un r=some d):r=w33r0 (d.1) (d.2.1) (d.2.2):=by
 unfold w33un at h
 split at h
 ·split at h
  ·rename_i h0 h1 h2;cases h;rw [ue_some h0,ue_some h1,ue_some h2];rfl
  ·cases h
 ·cases h
def w33z (N:Nat) (l0:(List Int)) (depth1:Int):Option (Int×Int×(List Ex)):=(w33 N l0 depth1).bind w33un
theorem w33fin {N:Nat} (hc:CxOk (w33c N)) {l0:(List Int)} {depth1:Int} {d:Int×Int×(List Ex)} (hd:w33z N l0 depth1=some d):Does Tryz.prog 33 (([.e (.sl (.i .i64)) l0,.e (.i .i64) depth1]:List X).map X.D) (HA []) (w33r0 (d.1) (d.2.1) (d.2.2)).1.D (HA (w33r0 (d.1) (d.2.1) (d.2.2)).2):=by
 obtain ⟨r,hr,hu⟩:=Option.bind_eq_some_iff.1 hd
 have:=fun_ok (r:=r) hc (f:=33) (fn:=Tryz.f33) (code:=w33b) (by kernel_rfl) (by kernel_rfl) (w33hk N) (Nat.le_of_ble_eq_true (by kernel_rfl)) (ow:=false) ((w33q N l0 depth1).symm.trans (by exact hr))
 rw [w33uo hu] at this
 exact this
def w33p (N:Nat) (l0:(List Int)) (depth1:Int):Bool:=(w33z N l0 depth1).isSome
def w33y0 (N:Nat) (l0:(List Int)) (depth1:Int):Int:=((w33z N l0 depth1).getD (0,0,[])).1
def w33y1 (N:Nat) (l0:(List Int)) (depth1:Int):Int:=((w33z N l0 depth1).getD (0,0,[])).2.1
def w33y2 (N:Nat) (l0:(List Int)) (depth1:Int):(List Ex):=((w33z N l0 depth1).getD (0,0,[])).2.2
def w33e (N:Nat):Ent':=E2 (.sl (.i .i64)) (.i .i64)  (fun x0 x1=>(w33p N x0 x1,w33r0 (w33y0 N x0 x1) (w33y1 N x0 x1) (w33y2 N x0 x1)))
theorem w33re {N:Nat} {l0:(List Int)} {depth1:Int} {d:Int×Int×(List Ex)} (hd:w33z N l0 depth1=some d):w33r0 (w33y0 N l0 depth1) (w33y1 N l0 depth1) (w33y2 N l0 depth1)=w33r0 (d.1) (d.2.1) (d.2.2):=by unfold w33y0 w33y1 w33y2;rw [hd];rfl
theorem w33ok (N:Nat):EOk Tryz.prog 33 (w33e N):=EOk.e2 (fun x0 x1 h=>by
 have h:(w33z N x0 x1).isSome=true:=h
 obtain ⟨d,hd⟩:=Option.isSome_iff_exists.1 h
 have f:=w33fin (w33cx N) hd
 rw [← w33re hd] at f
 exact f)
abbrev w9T:=Nat×(Int->Int->(List Ex)->Int->Int->Int->Option (Int×Int×(List Ex)))
abbrev w62T:=Nat×(Int->Int->(List Ex)->Option (Int))
abbrev w64T:=Nat×(Int->Int->(List Ex)->Bool->Option (Bool))
abbrev w92T:=Nat×(Int->Option ((List UInt8)))
abbrev w71T:=Nat×((Int->Int->(List Ex)->Option ((List UInt8)))×(Int->Int->(List Ex)->Int->Option ((List UInt8))))
def w22r0 (a0:Bool):Res:=(.e .bo a0,[])
abbrev w22T:=Nat×(Int->Int->(List Ex)->Int->Int->(List Ex)->Option (Bool))
def w22L (N:w22T):List (Nat×Ent'):=[(22,E2 .ex .ex  (fun x0 x1=>((N.2 (Ex.op x0) (Ex.num x0) (Ex.kids x0) (Ex.op x1) (Ex.num x1) (Ex.kids x1)).isSome,w22r0 (((N.2 (Ex.op x0) (Ex.num x0) (Ex.kids x0) (Ex.op x1) (Ex.num x1) (Ex.kids x1)).getD false)))))]
def w22c (N:w22T):Cx:=⟨Tryz.prog,25,w22L N,[]⟩
def w22b:Code:=Tryz.f22.body.getD .skip
theorem w22cx (N:w22T) (hs:EOk Tryz.prog 22 (E2 .ex .ex  (fun x0 x1=>((N.2 (Ex.op x0) (Ex.num x0) (Ex.kids x0) (Ex.op x1) (Ex.num x1) (Ex.kids x1)).isSome,w22r0 (((N.2 (Ex.op x0) (Ex.num x0) (Ex.kids x0) (Ex.op x1) (Ex.num x1) (Ex.kids x1)).getD false)))))):CxOk (w22c N):=ctx_ok (by kernel_rfl) (.cons (by kernel_rfl) hs .nil) .nil
def w22F0 [Alg] (N:w22T)  (self:Int->O) (k0:Bool->O) (k1:Unit->O) (_x0_1 _x0_2:Int) (x0_3:(List Ex)) (_x0_4 _x0_5:Int) (x0_6:(List Ex)) (x0_0:Int):O:=
 br (decide (x0_0 < (↑x0_3.length:Int)))
  (gx x0_3 x0_0 fun y5=>
  gx x0_6 x0_0 fun y6=>
  ck ((N.2 y5.op y5.num y5.kids y6.op y6.num y6.kids).isSome) <|
  br (!(N.2 y5.op y5.num y5.kids y6.op y6.num y6.kids).getD false)
   (k0 false)
   (self (IntKind.i64.wrap (x0_0+1))))
  (k1 ())
def w22b0:Code:=atC [1,1,0,1,0,0] w22b
def w22m0:Nm:=⟨[2,3,5],[],[]⟩
def w22I0 (x:Int×Int×Int×(List Ex)×Int×Int×(List Ex)):Sg:=⟨[(2,.ref 0 0),(3,.ref 1 0),(5,.e (.i .i64) x.1)],[(0,.box 25 [.e (.i .i64) x.2.1,.e (.i .i64) x.2.2.1,.e (.sl .ex) x.2.2.2.1]),(1,.box 25 [.e (.i .i64) x.2.2.2.2.1,.e (.i .i64) x.2.2.2.2.2.1,.e (.sl .ex) x.2.2.2.2.2.2])],100⟩
def w22u0 (σ:Sg):Int×Int×Int×(List Ex)×Int×Int×(List Ex):=(lvT (.i .i64) 5 0 σ,lvH (.i .i64) 0 0 σ,lvH (.i .i64) 0 1 σ,lvH (.sl .ex) 0 2 σ,lvH (.i .i64) 1 0 σ,lvH (.i .i64) 1 1 σ,lvH (.sl .ex) 1 2 σ)
theorem w22ui0:∀ x,w22u0 (w22I0 x)=x:=fun _=>by kernel_rfl
def w22X0_0 (y:Bool):Exit×Sg:=(.ret,⟨[(4,.e .bo y)],[],100⟩)
def w22v0_0 (_:Exit) (σ:Sg):Bool:=lvT .bo 4 0 σ
def w22X0_1 (_:Unit):Exit×Sg:=((.exit 0),⟨[],[],100⟩)
def w22v0_1 (_:Exit) (_:Sg):Unit:=()
def w22w0:List (Exit×Nm):=[(.ret,⟨[4],[],[]⟩),((.exit 0),⟨[],[],[]⟩)]
theorem w22o0:Outs w22v0_0 w22v0_1 (fun _ _=>()) w22X0_0 w22X0_1 (noX 2) (exC .ret) (exC (.exit 0)) (exC (.goto 2)):=⟨fun _=>by kernel_rfl,fun _=>by kernel_rfl,fun _=>by kernel_rfl,fun _=>by kernel_rfl,fun _=>by kernel_rfl,fun _=>by kernel_rfl,exNe_ok (by kernel_rfl),exNe_ok (by kernel_rfl),exNe_ok (by kernel_rfl)⟩
def w22l0 [Alg] (N:w22T):Nat->(Int×Int×Int×(List Ex)×Int×Int×(List Ex))->((Bool)->O)->((Unit)->O)->((Unit)->O)->O
 | 0,_,_,_,_=>none
 | n+1,x,k0,k1,k2=>w22F0 N  (fun v0=>w22l0 N n (v0,x.2.1,x.2.2.1,x.2.2.2.1,x.2.2.2.2.1,x.2.2.2.2.2.1,x.2.2.2.2.2.2) k0 k1 k2) (fun y0=>k0 y0) (fun (_:Unit)=>k1 ()) x.2.1 x.2.2.1 x.2.2.2.1 x.2.2.2.2.1 x.2.2.2.2.2.1 x.2.2.2.2.2.2 x.1
def w22n0 [Alg] (N:w22T) (a0 a1 a2:Int) (a3:(List Ex)) (a4 a5:Int) (a6:(List Ex)) (k0:Bool->O) (k1:Unit->O):O:=w22l0 N N.1 (a0,a1,a2,a3,a4,a5,a6) (fun y=>k0 y) (fun y=>k1 y) (fun _=>none)
def w22s0 [Alg] (N:w22T) (a0 a1 a2:Int) (a3:(List Ex)) (a4 a5:Int) (a6:(List Ex)) (k0:Bool->O) (k1:Unit->O):O:=subL w22I0 w22u0 (w22l0 N N.1) (w22I0 (a0,a1,a2,a3,a4,a5,a6)) (fun y=>k0 y) (fun y=>k1 y) (fun _=>none)
theorem w22e0 [Alg] (N:w22T):w22s0 N=w22n0 N:=funext fun _=>funext fun _=>funext fun _=>funext fun _=>funext fun _=>funext fun _=>funext fun _=>funext fun _=>funext fun _=>subL_I w22ui0 _ _ _ _
def w22h0 [Alg] (_:w22T):Hint:=.d
theorem w22hk0 (N:w22T):HintOk (w22c N) Tryz.f22.ntmps (w22h0 N) w22b0:=hk_of _ _ trivial
theorem w22q0 [Alg] (N:w22T) (self:Sg->O) (K:Exit->Sg->O) (x:Int×Int×Int×(List Ex)×Int×Int×(List Ex)):w22F0 N  (fun v0=>self (w22I0 (v0,x.2.1,x.2.2.1,x.2.2.2.1,x.2.2.2.2.1,x.2.2.2.2.2.1,x.2.2.2.2.2.2))) (fun y0=>K (w22X0_0 y0).1 (w22X0_0 y0).2) (fun (_:Unit)=>K (w22X0_1 ()).1 (w22X0_1 ()).2) x.2.1 x.2.2.1 x.2.2.2.1 x.2.2.2.2.1 x.2.2.2.2.2.1 x.2.2.2.2.2.2 x.1=exec (w22c N) Tryz.f22.ntmps (w22h0 N) w22b0 (w22I0 x) (roundX w22m0 w22w0 self K):=by kernel_rfl
theorem w22S0 (N:w22T) (hc:CxOk (w22c N)):SubOk (w22c N) Tryz.f22.ntmps (.loop w22b0) w22X0_0 w22X0_1 (noX 2) (subL w22I0 w22u0 (w22l0 N N.1)):=
 sub_loop hc (w22hk0 N) w22o0 (n:=N.1) (fun x K=>loop_ind (w22l0 N) (fun _ _ _ _=>rfl) (fun n K ih x=>by
  refine Eq.trans ?_ (w22q0 N _ K x)
  simp only [← ih]
  rfl) N.1 x K)
def w22G [Alg] (_:w22T) (in0:Int->Int->Int->(List Ex)->Int->Int->(List Ex)->(Bool->O)->(Unit->O)->O) (a0_0 a0_1:Int) (a0_2:(List Ex)) (b1_0 b1_1:Int) (b1_2:(List Ex)):O:=
 br (decide (a0_0≠b1_0)||decide (a0_1≠b1_1)||decide ((↑a0_2.length:Int)≠(↑b1_2.length:Int)))
  (some (w22r0 false))
  (in0 0 a0_0 a0_1 a0_2 b1_0 b1_1 b1_2
   (fun z7=>
    some (w22r0 z7))
   (fun (_:Unit)=>
    some (w22r0 true)))
def w22 [Alg] (N:w22T) (a0_0 a0_1:Int) (a0_2:(List Ex)) (b1_0 b1_1:Int) (b1_2:(List Ex)):O:=w22G N (w22n0 N) a0_0 a0_1 a0_2 b1_0 b1_1 b1_2
def w22h [Alg] (N:w22T):Hint:=(.seq .d (.seq .d (.seq (.seq .d (.block (.sub w22m0 _ _ _ w22X0_0 w22X0_1 (noX 2) (subL w22I0 w22u0 (w22l0 N N.1))))) .d)))
theorem w22hk (N:w22T) (hc:CxOk (w22c N)):HintOk (w22c N) Tryz.f22.ntmps (w22h N) w22b:=hk_of _ _ (And.intro trivial (And.intro trivial (And.intro (And.intro trivial (w22S0 N hc)) trivial)))
theorem w22q [Alg] (N:w22T) (a0_0 a0_1:Int) (a0_2:(List Ex)) (b1_0 b1_1:Int) (b1_2:(List Ex)):w22G N (w22s0 N) a0_0 a0_1 a0_2 b1_0 b1_1 b1_2=exec (w22c N) Tryz.f22.ntmps (w22h N) w22b ⟨argT 0 [.agg [.e (.i .i64) a0_0,.e (.i .i64) a0_1,.e (.sl .ex) a0_2],.agg [.e (.i .i64) b1_0,.e (.i .i64) b1_1,.e (.sl .ex) b1_2]],[],100⟩ (finX (w22c N) Tryz.f22 false):=by kernel_rfl
def w22un (r:Res):Option (Bool):=match r with
 | (x0,[])=>(match ue .bo x0 with | some a0=>some a0 | _=>none)
 | _=>none
theorem w22uo {r:Res} {d:Bool} (h:w22un r=some d):r=w22r0 (d):=by
 unfold w22un at h
 split at h
 ·split at h
  ·rename_i h0;cases h;rw [ue_some h0];rfl
  ·cases h
 ·cases h
def w22z (N:w22T) (a0_0 a0_1:Int) (a0_2:(List Ex)) (b1_0 b1_1:Int) (b1_2:(List Ex)):Option (Bool):=(w22 N a0_0 a0_1 a0_2 b1_0 b1_1 b1_2).bind w22un
theorem w22fin {N:w22T} (hc:CxOk (w22c N)) {a0_0 a0_1:Int} {a0_2:(List Ex)} {b1_0 b1_1:Int} {b1_2:(List Ex)} {d:Bool} (hd:w22z N a0_0 a0_1 a0_2 b1_0 b1_1 b1_2=some d):Does Tryz.prog 22 (([.agg [.e (.i .i64) a0_0,.e (.i .i64) a0_1,.e (.sl .ex) a0_2],.agg [.e (.i .i64) b1_0,.e (.i .i64) b1_1,.e (.sl .ex) b1_2]]:List X).map X.D) (HA []) (w22r0 (d)).1.D (HA (w22r0 (d)).2):=by
 obtain ⟨r,hr,hu⟩:=Option.bind_eq_some_iff.1 hd
 have:=fun_ok (r:=r) hc (f:=22) (fn:=Tryz.f22) (code:=w22b) (by kernel_rfl) (by kernel_rfl) (w22hk N hc) (Nat.le_of_ble_eq_true (by kernel_rfl)) (ow:=false) ((w22q N a0_0 a0_1 a0_2 b1_0 b1_1 b1_2).symm.trans (by rw [w22e0 N];exact hr))
 rw [w22uo hu] at this
 exact this
def w22Y (N:Nat):Nat->Int->Int->(List Ex)->Int->Int->(List Ex)->Option (Bool)
 | 0,_,_,_,_,_,_=>none
 | n+1,a0_0,a0_1,a0_2,b1_0,b1_1,b1_2=>w22z (N,w22Y N n) a0_0 a0_1 a0_2 b1_0 b1_1 b1_2
theorem w22Yok (N:Nat):∀ n,EOk Tryz.prog 22 (E2 .ex .ex  (fun x0 x1=>((w22Y N n (Ex.op x0) (Ex.num x0) (Ex.kids x0) (Ex.op x1) (Ex.num x1) (Ex.kids x1)).isSome,w22r0 (((w22Y N n (Ex.op x0) (Ex.num x0) (Ex.kids x0) (Ex.op x1) (Ex.num x1) (Ex.kids x1)).getD false)))))
 | 0=>EOk.e2 (fun _ _ h=>by cases h)
 | n+1=>EOk.e2 (fun x0 x1 h=>by
   obtain ⟨d,hd⟩:=Option.isSome_iff_exists.1 h
   have hd':w22Y N (n+1) (Ex.op x0) (Ex.num x0) (Ex.kids x0) (Ex.op x1) (Ex.num x1) (Ex.kids x1)=some d:=hd
   have e:w22r0 (((w22Y N (n+1) (Ex.op x0) (Ex.num x0) (Ex.kids x0) (Ex.op x1) (Ex.num x1) (Ex.kids x1)).getD false))=w22r0 (d):=by rw [hd'];rfl
   show Does _ _ _ _ (w22r0 (((w22Y N (n+1) (Ex.op x0) (Ex.num x0) (Ex.kids x0) (Ex.op x1) (Ex.num x1) (Ex.kids x1)).getD false))).1.D (HA (w22r0 (((w22Y N (n+1) (Ex.op x0) (Ex.num x0) (Ex.kids x0) (Ex.op x1) (Ex.num x1) (Ex.kids x1)).getD false))).2)
   rw [e]
   exact w22fin (N:=(N,w22Y N n)) (w22cx (N,w22Y N n) (w22Yok N n)) hd')
def w22p (N:Nat) (a0_0 a0_1:Int) (a0_2:(List Ex)) (b1_0 b1_1:Int) (b1_2:(List Ex)):Bool:=(w22Y N N a0_0 a0_1 a0_2 b1_0 b1_1 b1_2).isSome
def w22y0 (N:Nat) (a0_0 a0_1:Int) (a0_2:(List Ex)) (b1_0 b1_1:Int) (b1_2:(List Ex)):Bool:=((w22Y N N a0_0 a0_1 a0_2 b1_0 b1_1 b1_2).getD false)
def w22e (N:Nat):Ent':=E2 .ex .ex  (fun x0 x1=>(w22p N (Ex.op x0) (Ex.num x0) (Ex.kids x0) (Ex.op x1) (Ex.num x1) (Ex.kids x1),w22r0 (w22y0 N (Ex.op x0) (Ex.num x0) (Ex.kids x0) (Ex.op x1) (Ex.num x1) (Ex.kids x1))))
theorem w22ok (N:Nat):EOk Tryz.prog 22 (w22e N):=w22Yok N N
end
end Go.Proofs
/- What functions do. -/
namespace Go.Proofs
noncomputable section
open Go.Ax Go.Ax.Alg Go.RowKit Go.Ab
open Go
def w15r0 (a0:Bool):Res:=(.e .bo a0,[])
def w15L (_:Nat):List (Nat×Ent'):=[]
def w15c (N:Nat):Cx:=⟨Tryz.prog,25,w15L N,[]⟩
def w15b:Code:=Tryz.f15.body.getD .skip
theorem w15cx (N:Nat):CxOk (w15c N):=ctx_ok (by kernel_rfl) .nil .nil
def w15F0 [Alg] (_:Nat)  (self:Int->O) (k0:Bool->O) (k1:Unit->O) (x0_0 x0_1:(List Int)) (x0_2:Int):O:=
 br (decide (x0_2 < (↑x0_0.length:Int)))
  (gx x0_0 x0_2 fun y5=>
  gx x0_1 x0_2 fun y6=>
  br (decide (y5≠y6))
   (k0 false)
   (self (IntKind.i64.wrap (x0_2+1))))
  (k1 ())
def w15b0:Code:=atC [1,1,0,1,0,0] w15b
def w15m0:Nm:=⟨[0,1,5],[],[]⟩
def w15I0 (x:(List Int)×(List Int)×Int):Sg:=⟨[(0,.e (.sl (.i .i64)) x.1),(1,.e (.sl (.i .i64)) x.2.1),(5,.e (.i .i64) x.2.2)],[],100⟩
def w15u0 (σ:Sg):(List Int)×(List Int)×Int:=(lvT (.sl (.i .i64)) 0 0 σ,lvT (.sl (.i .i64)) 1 0 σ,lvT (.i .i64) 5 0 σ)
theorem w15ui0:∀ x,w15u0 (w15I0 x)=x:=fun _=>by kernel_rfl
def w15X0_0 (y:Bool):Exit×Sg:=(.ret,⟨[(4,.e .bo y)],[],100⟩)
def w15v0_0 (_:Exit) (σ:Sg):Bool:=lvT .bo 4 0 σ
def w15X0_1 (_:Unit):Exit×Sg:=((.exit 0),⟨[],[],100⟩)
def w15v0_1 (_:Exit) (_:Sg):Unit:=()
def w15w0:List (Exit×Nm):=[(.ret,⟨[4],[],[]⟩),((.exit 0),⟨[],[],[]⟩)]
theorem w15o0:Outs w15v0_0 w15v0_1 (fun _ _=>()) w15X0_0 w15X0_1 (noX 2) (exC .ret) (exC (.exit 0)) (exC (.goto 2)):=⟨fun _=>by kernel_rfl,fun _=>by kernel_rfl,fun _=>by kernel_rfl,fun _=>by kernel_rfl,fun _=>by kernel_rfl,fun _=>by kernel_rfl,exNe_ok (by kernel_rfl),exNe_ok (by kernel_rfl),exNe_ok (by kernel_rfl)⟩
def w15l0 [Alg] (N:Nat):Nat->((List Int)×(List Int)×Int)->((Bool)->O)->((Unit)->O)->((Unit)->O)->O
 | 0,_,_,_,_=>none
 | n+1,x,k0,k1,k2=>w15F0 N  (fun v0=>w15l0 N n (x.1,x.2.1,v0) k0 k1 k2) (fun y0=>k0 y0) (fun (_:Unit)=>k1 ()) x.1 x.2.1 x.2.2
def w15n0 [Alg] (N:Nat) (a0 a1:(List Int)) (a2:Int) (k0:Bool->O) (k1:Unit->O):O:=w15l0 N N (a0,a1,a2) (fun y=>k0 y) (fun y=>k1 y) (fun _=>none)
def w15s0 [Alg] (N:Nat) (a0 a1:(List Int)) (a2:Int) (k0:Bool->O) (k1:Unit->O):O:=subL w15I0 w15u0 (w15l0 N N) (w15I0 (a0,a1,a2)) (fun y=>k0 y) (fun y=>k1 y) (fun _=>none)
theorem w15e0 [Alg] (N:Nat):w15s0 N=w15n0 N:=funext fun _=>funext fun _=>funext fun _=>funext fun _=>funext fun _=>subL_I w15ui0 _ _ _ _
def w15h0 [Alg] (_:Nat):Hint:=.d
theorem w15hk0 (N:Nat):HintOk (w15c N) Tryz.f15.ntmps (w15h0 N) w15b0:=hk_of _ _ trivial
theorem w15q0 [Alg] (N:Nat) (self:Sg->O) (K:Exit->Sg->O) (x:(List Int)×(List Int)×Int):w15F0 N  (fun v0=>self (w15I0 (x.1,x.2.1,v0))) (fun y0=>K (w15X0_0 y0).1 (w15X0_0 y0).2) (fun (_:Unit)=>K (w15X0_1 ()).1 (w15X0_1 ()).2) x.1 x.2.1 x.2.2=exec (w15c N) Tryz.f15.ntmps (w15h0 N) w15b0 (w15I0 x) (roundX w15m0 w15w0 self K):=by kernel_rfl
theorem w15S0 (N:Nat) (hc:CxOk (w15c N)):SubOk (w15c N) Tryz.f15.ntmps (.loop w15b0) w15X0_0 w15X0_1 (noX 2) (subL w15I0 w15u0 (w15l0 N N)):=
 sub_loop hc (w15hk0 N) w15o0 (n:=N) (fun x K=>loop_ind (w15l0 N) (fun _ _ _ _=>rfl) (fun n K ih x=>by
  refine Eq.trans ?_ (w15q0 N _ K x)
  simp only [← ih]
  rfl) N x K)
def w15G [Alg] (_:Nat) (in0:(List Int)->(List Int)->Int->(Bool->O)->(Unit->O)->O) (a0 b1:(List Int)):O:=
 br (decide ((↑a0.length:Int)≠(↑b1.length:Int)))
  (some (w15r0 false))
  (in0 a0 b1 0
   (fun z7=>
    some (w15r0 z7))
   (fun (_:Unit)=>
    some (w15r0 true)))
def w15 [Alg] (N:Nat) (a0 b1:(List Int)):O:=w15G N (w15n0 N) a0 b1
def w15h [Alg] (N:Nat):Hint:=(.seq .d (.seq .d (.seq (.seq .d (.block (.sub w15m0 _ _ _ w15X0_0 w15X0_1 (noX 2) (subL w15I0 w15u0 (w15l0 N N))))) .d)))
theorem w15hk (N:Nat) (hc:CxOk (w15c N)):HintOk (w15c N) Tryz.f15.ntmps (w15h N) w15b:=hk_of _ _ (And.intro trivial (And.intro trivial (And.intro (And.intro trivial (w15S0 N hc)) trivial)))
theorem w15q [Alg] (N:Nat) (a0 b1:(List Int)):w15G N (w15s0 N) a0 b1=exec (w15c N) Tryz.f15.ntmps (w15h N) w15b ⟨argT 0 [.e (.sl (.i .i64)) a0,.e (.sl (.i .i64)) b1],[],100⟩ (finX (w15c N) Tryz.f15 false):=by kernel_rfl
def w15un (r:Res):Option (Bool):=match r with
 | (x0,[])=>(match ue .bo x0 with | some a0=>some a0 | _=>none)
 | _=>none
theorem w15uo {r:Res} {d:Bool} (h:w15un r=some d):r=w15r0 (d):=by
 unfold w15un at h
 split at h
 ·split at h
  ·rename_i h0;cases h;rw [ue_some h0];rfl
  ·cases h
 ·cases h
def w15z (N:Nat) (a0 b1:(List Int)):Option (Bool):=(w15 N a0 b1).bind w15un
theorem w15fin {N:Nat} (hc:CxOk (w15c N)) {a0 b1:(List Int)} {d:Bool} (hd:w15z N a0 b1=some d):Does Tryz.prog 15 (([.e (.sl (.i .i64)) a0,.e (.sl (.i .i64)) b1]:List X).map X.D) (HA []) (w15r0 (d)).1.D (HA (w15r0 (d)).2):=by
 obtain ⟨r,hr,hu⟩:=Option.bind_eq_some_iff.1 hd
 have:=fun_ok (r:=r) hc (f:=15) (fn:=Tryz.f15) (code:=w15b) (by kernel_rfl) (by kernel_rfl) (w15hk N hc) (Nat.le_of_ble_eq_true (by kernel_rfl)) (ow:=false) ((w15q N a0 b1).symm.trans (by rw [w15e0 N];exact hr))
 rw [w15uo hu] at this
 exact this
def w15p (N:Nat) (a0 b1:(List Int)):Bool:=(w15z N a0 b1).isSome
def w15y0 (N:Nat) (a0 b1:(List Int)):Bool:=((w15z N a0 b1).getD false)
def w15e (N:Nat):Ent':=E2 (.sl (.i .i64)) (.sl (.i .i64))  (fun x0 x1=>(w15p N x0 x1,w15r0 (w15y0 N x0 x1)))
theorem w15re {N:Nat} {a0 b1:(List Int)} {d:Bool} (hd:w15z N a0 b1=some d):w15r0 (w15y0 N a0 b1)=w15r0 (d):=by unfold w15y0;rw [hd];rfl
theorem w15ok (N:Nat):EOk Tryz.prog 15 (w15e N):=EOk.e2 (fun x0 x1 h=>by
 have h:(w15z N x0 x1).isSome=true:=h
 obtain ⟨d,hd⟩:=Option.isSome_iff_exists.1 h
 have f:=w15fin (w15cx N) hd
 rw [← w15re hd] at f
 exact f)
end
end Go.Proofs
