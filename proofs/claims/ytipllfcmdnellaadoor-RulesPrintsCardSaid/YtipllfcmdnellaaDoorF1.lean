/- What functions do. Conditions are in the theorems. -/
import Derived.Test.YtipllfcmdnellaaDoorE7
import Derived.Test.YtipllfcmdnellaaDoorProg
import Derived.KernelRfl
import Derived.Test.YtipllfcmdnellaaDoorF0
/- What functions do. -/
namespace Go.Proofs
noncomputable section
open Go.Ax Go.Ax.Alg Go.RowKit Go.Ab
open Go
def w36r0 (a0:Int):Res:=(.e (.i .i64) a0,[])
def w36c (_:Nat):Cx:=⟨Tryd.prog,99999,[],[]⟩
def w36b:Code:=Tryd.f36.body.getD .skip
theorem w36cx N:CxOk (w36c N):=ctx_ok (by kernel_rfl) .nil .nil
def w36G [Alg] (_:Nat) (t0:Int):O:=
 some (w36r0 (max t0 (IntKind.i64.wrap (-t0))))
def w36 [Alg] N t0:=w36G N t0
def w36h [Alg] (_:Nat):Hint:=.d
theorem w36hk N:HintOk (w36c N) Tryd.f36.ntmps (w36h N) w36b:=hk_of _ _ trivial
theorem w36q [Alg] N t0:w36G N t0=exec (w36c N) Tryd.f36.ntmps (w36h N) w36b ⟨argT 0 [.e (.i .i64) t0],[],100⟩ (finX (w36c N) Tryd.f36 false):=by kernel_rfl
def w36un (r:Res):Option (Int):=match r with
 | (x0,[])=>(match ue (.i .i64) x0 with | some a0=>some a0 | _=>none)
 | _=>none
theorem w36uo {r d} (h:w36un r=some d):r=w36r0 (d):=by
 unfold w36un at h;split at h
 ·split at h
  ·rename_i h0;cases h;rw [ue_some h0];rfl
  ·cases h
 ·cases h
def w36z N t0:=(w36 N t0).bind w36un
theorem w36fin {N} (hc:CxOk (w36c N)) {t0 d} (hd:w36z N t0=some d):DoK Tryd.prog 36 [.e (.i .i64) t0] [] (w36r0 (d)):=
 finJ hc (by kernel_rfl) (by kernel_rfl) (w36hk N) (by kernel_rfl) w36uo (w36q N t0).symm.trans hd
def w36p N t0:=(w36z N t0).isSome
def w36y0 N t0:=((w36z N t0).getD 0)
def w36e (N:Nat):Ent':=E1 (.i .i64) (fun x0=>(w36p N x0,w36r0 (w36y0 N x0)))
theorem w36ok N:EOk Tryd.prog 36 (w36e N):=EOk.e1 (fun x0 h=>okG (z:=w36z N x0) h (w36fin (w36cx N)) rfl)
def w47r0 (a0:Bool):Res:=(.e .bo a0,[])
def w47c (N:Nat):Cx:=⟨Tryd.prog,99999,[(36,w36e N)],[]⟩
def w47b:Code:=Tryd.f47.body.getD .skip
theorem w47cx N:CxOk (w47c N):=ctx_ok (by kernel_rfl) (.cons (by kernel_rfl) (w36ok N) .nil) .nil
def w47F0 [Alg] (N:Nat) (self:Int->Int->O) (k0:Bool->O) (k1:Bool->(List Int)->Int->Int->O) (x0_0:Bool) (x0_2:(List Int)) (x0_3:Int) (x0_5:(List Int)) (x0_6 x0_7:Int) (x0_1 x0_4:Int):O:=
 br (decide (x0_4 < x0_3))
  (gx x0_2 x0_4 fun y3=>
  ck (!!(decide (y3 < (-16:Int))||decide (16 < y3))||w36p N y3) <|
  br (decide (y3 < (-16:Int))||decide (16 < y3)||decide (w36y0 N y3<=x0_1))
   (k0 false)
   (ck (w36p N y3) <|
   self (w36y0 N y3) (IntKind.i64.wrap (x0_4+1))))
  (k1 x0_0 x0_5 x0_6 x0_7)
def w47b0:Code:=atC [1,1,0,1,0,0] w47b
def w47m0:Nm:=⟨[1,2,3,7,8,9],[],[]⟩
def w47I0 (x:Bool×Int×(List Int)×Int×Int×(List Int)×Int×Int):Sg:=⟨[(1,.ref 0 0),(2,.e .bo x.1),(3,.e (.i .i64) x.2.1),(7,.e (.sl (.i .i64)) x.2.2.1),(8,.e (.i .i64) x.2.2.2.1),(9,.e (.i .i64) x.2.2.2.2.1)],[(0,.box 51 [.e (.sl (.i .i64)) x.2.2.2.2.2.1,.e (.i .i64) x.2.2.2.2.2.2.1,.e (.i .i64) x.2.2.2.2.2.2.2])],100⟩
def w47u0 (σ:Sg):Bool×Int×(List Int)×Int×Int×(List Int)×Int×Int:=(lvT .bo 2 0 σ,lvT (.i .i64) 3 0 σ,lvT (.sl (.i .i64)) 7 0 σ,lvT (.i .i64) 8 0 σ,lvT (.i .i64) 9 0 σ,lvH (.sl (.i .i64)) 0 0 σ,lvH (.i .i64) 0 1 σ,lvH (.i .i64) 0 2 σ)
theorem w47ui0:∀ x,w47u0 (w47I0 x)=x:=fun _=>by kernel_rfl
def w47X0_0 (y:Bool):Exit×Sg:=(.ret,⟨[(2,.e .bo y)],[],100⟩)
def w47v0_0 (_:Exit) (σ:Sg):Bool:=lvT .bo 2 0 σ
def w47X0_1 (y:Bool×(List Int)×Int×Int):Exit×Sg:=((.exit 0),⟨[(1,.ref 0 0),(2,.e .bo y.1)],[(0,.box 51 [.e (.sl (.i .i64)) y.2.1,.e (.i .i64) y.2.2.1,.e (.i .i64) y.2.2.2])],100⟩)
def w47v0_1 (_:Exit) (σ:Sg):Bool×(List Int)×Int×Int:=(lvT .bo 2 0 σ,lvH (.sl (.i .i64)) 0 0 σ,lvH (.i .i64) 0 1 σ,lvH (.i .i64) 0 2 σ)
def w47w0:List (Exit×Nm):=[(.ret,⟨[2],[],[]⟩),((.exit 0),⟨[1,2],[],[]⟩)]
def w47l0 [Alg] (N:Nat):Nat->(Bool×Int×(List Int)×Int×Int×(List Int)×Int×Int)->((Bool)->O)->((Bool×(List Int)×Int×Int)->O)->((Unit)->O)->O
 | 0,_,_,_,_=>none
 | n+1,x,k0,k1,k2=>w47F0 N (fun v0 v1=>w47l0 N n (x.1,v0,x.2.2.1,x.2.2.2.1,v1,x.2.2.2.2.2.1,x.2.2.2.2.2.2.1,x.2.2.2.2.2.2.2) k0 k1 k2) (fun y0=>k0 y0) (fun y0 y1 y2 y3=>k1 (y0,y1,y2,y3)) x.1 x.2.2.1 x.2.2.2.1 x.2.2.2.2.2.1 x.2.2.2.2.2.2.1 x.2.2.2.2.2.2.2 x.2.1 x.2.2.2.2.1
def w47n0 [Alg] N a0 a1 a2 a3 a4 a5 a6 a7 (k0:Bool->O) (k1:Bool->(List Int)->Int->Int->O):=w47l0 N N (a0,a1,a2,a3,a4,a5,a6,a7) (fun y=>k0 y) (fun y=>k1 y.1 y.2.1 y.2.2.1 y.2.2.2) (fun _=>none)
def w47s0 [Alg] N a0 a1 a2 a3 a4 a5 a6 a7 (k0:Bool->O) (k1:Bool->(List Int)->Int->Int->O):=subL w47I0 w47u0 (w47l0 N N) (w47I0 (a0,a1,a2,a3,a4,a5,a6,a7)) (fun y=>k0 y) (fun y=>k1 y.1 y.2.1 y.2.2.1 y.2.2.2) (fun _=>none)
theorem w47e0 [Alg] N:w47s0 N=w47n0 N:=funext fun _=>funext fun _=>funext fun _=>funext fun _=>funext fun _=>funext fun _=>funext fun _=>funext fun _=>funext fun _=>funext fun _=>subL_I w47ui0 _ _ _ _
theorem w47q0 [Alg] (N:Nat) (self:Sg->O) (K:Exit->Sg->O) (x:Bool×Int×(List Int)×Int×Int×(List Int)×Int×Int):w47F0 N (fun v0 v1=>self (w47I0 (x.1,v0,x.2.2.1,x.2.2.2.1,v1,x.2.2.2.2.2.1,x.2.2.2.2.2.2.1,x.2.2.2.2.2.2.2))) (fun y0=>K (w47X0_0 y0).1 (w47X0_0 y0).2) (fun y0 y1 y2 y3=>K (w47X0_1 (y0,y1,y2,y3)).1 (w47X0_1 (y0,y1,y2,y3)).2) x.1 x.2.2.1 x.2.2.2.1 x.2.2.2.2.2.1 x.2.2.2.2.2.2.1 x.2.2.2.2.2.2.2 x.2.1 x.2.2.2.2.1=exec (w47c N) Tryd.f47.ntmps .d w47b0 (w47I0 x) (roundX w47m0 w47w0 self K):=by kernel_rfl
theorem w47S0 N (hc:CxOk (w47c N)):SubOk (w47c N) Tryd.f47.ntmps (.loop w47b0) w47X0_0 w47X0_1 (noX 2) (subL w47I0 w47u0 (w47l0 N N)):=
 sub_loop hc (hk_d w47b0) (oK2 w47v0_0 w47v0_1 .ret (.exit 0) (fun _=>by kernel_rfl) (fun _=>by kernel_rfl) (fun _=>rfl) (fun _=>rfl) (by kernel_rfl)) (n:=N) (fun x K=>loop_ind (w47l0 N) (fun _ _ _ _=>rfl) (fun n K ih x=>by
  refine Eq.trans ?_ (w47q0 N _ K x);simp only [← ih];rfl) N x K)
def w47G [Alg] (_:Nat) (in0:Bool->Int->(List Int)->Int->Int->(List Int)->Int->Int->(Bool->O)->(Bool->(List Int)->Int->Int->O)->O) (r0_0:(List Int)) (r0_1 r0_2:Int):O:=
 in0 false 0 r0_0 ((↑r0_0.length:Int)) 0 r0_0 r0_1 r0_2
  (fun z4=>
   some (w47r0 z4))
  (fun _ z6 z7 z8=>
   some (w47r0 (decide ((↑z6.length:Int)<=(8:Int))&&decide (0<=z7)&&decide (z7 < 3)&&decide ((-10000:Int)<=z8)&&decide (z8<=9999))))
def w47 [Alg] N r0_0 r0_1 r0_2:=w47G N (w47n0 N) r0_0 r0_1 r0_2
def w47h [Alg] (N:Nat):Hint:=(.seq .d (.seq .d (.seq (.seq .d (.block (.sub w47m0 _ _ _ w47X0_0 w47X0_1 (noX 2) (subL w47I0 w47u0 (w47l0 N N))))) .d)))
theorem w47hk N (hc:CxOk (w47c N)):HintOk (w47c N) Tryd.f47.ntmps (w47h N) w47b:=hk_of _ _ (And.intro trivial (And.intro trivial (And.intro (And.intro trivial (w47S0 N hc)) trivial)))
theorem w47q [Alg] N r0_0 r0_1 r0_2:w47G N (w47s0 N) r0_0 r0_1 r0_2=exec (w47c N) Tryd.f47.ntmps (w47h N) w47b ⟨argT 0 [.agg [.e (.sl (.i .i64)) r0_0,.e (.i .i64) r0_1,.e (.i .i64) r0_2]],[],100⟩ (finX (w47c N) Tryd.f47 false):=by kernel_rfl
def w47un (r:Res):Option (Bool):=match r with
 | (x0,[])=>(match ue .bo x0 with | some a0=>some a0 | _=>none)
 | _=>none
theorem w47uo {r d} (h:w47un r=some d):r=w47r0 (d):=by
 unfold w47un at h;split at h
 ·split at h
  ·rename_i h0;cases h;rw [ue_some h0];rfl
  ·cases h
 ·cases h
def w47z N r0_0 r0_1 r0_2:=(w47 N r0_0 r0_1 r0_2).bind w47un
theorem w47fin {N} (hc:CxOk (w47c N)) {r0_0 r0_1 r0_2 d} (hd:w47z N r0_0 r0_1 r0_2=some d):DoK Tryd.prog 47 [.agg [.e (.sl (.i .i64)) r0_0,.e (.i .i64) r0_1,.e (.i .i64) r0_2]] [] (w47r0 (d)):=
 finJ hc (by kernel_rfl) (by kernel_rfl) (w47hk N hc) (by kernel_rfl) w47uo (fun hr=>(w47q N r0_0 r0_1 r0_2).symm.trans (by rw [w47e0 N];exact hr)) hd
def w47p N r0_0 r0_1 r0_2:=(w47z N r0_0 r0_1 r0_2).isSome
def w47y0 N r0_0 r0_1 r0_2:=((w47z N r0_0 r0_1 r0_2).getD false)
def w47e (N:Nat):Ent':=E1 (.pr (.sl (.i .i64)) (.pr (.i .i64) (.i .i64))) (fun x0=>(w47p N x0.1 x0.2.1 x0.2.2,w47r0 (w47y0 N x0.1 x0.2.1 x0.2.2)))
theorem w47ok N:EOk Tryd.prog 47 (w47e N):=EOk.e1 (fun x0 h=>okG (z:=w47z N x0.1 x0.2.1 x0.2.2) h (w47fin (w47cx N)) rfl)
def w46r0 (a0:Bool):Res:=(.e .bo a0,[])
def w46c (N:Nat):Cx:=⟨Tryd.prog,99999,[(47,w47e N)],[]⟩
def w46b:Code:=Tryd.f46.body.getD .skip
theorem w46cx N:CxOk (w46c N):=ctx_ok (by kernel_rfl) (.cons (by kernel_rfl) (w47ok N) .nil) .nil
def w46G [Alg] (N:Nat) (r0_0:(List Int)) (r0_1 r0_2:Int):O:=
 ck (w47p N r0_0 r0_1 r0_2) <|
 some (w46r0 (!w47y0 N r0_0 r0_1 r0_2))
def w46 [Alg] N r0_0 r0_1 r0_2:=w46G N r0_0 r0_1 r0_2
def w46h [Alg] (_:Nat):Hint:=.d
theorem w46hk N:HintOk (w46c N) Tryd.f46.ntmps (w46h N) w46b:=hk_of _ _ trivial
theorem w46q [Alg] N r0_0 r0_1 r0_2:w46G N r0_0 r0_1 r0_2=exec (w46c N) Tryd.f46.ntmps (w46h N) w46b ⟨argT 0 [.agg [.e (.sl (.i .i64)) r0_0,.e (.i .i64) r0_1,.e (.i .i64) r0_2]],[],100⟩ (finX (w46c N) Tryd.f46 false):=by kernel_rfl
def w46un (r:Res):Option (Bool):=match r with
 | (x0,[])=>(match ue .bo x0 with | some a0=>some a0 | _=>none)
 | _=>none
theorem w46uo {r d} (h:w46un r=some d):r=w46r0 (d):=by
 unfold w46un at h;split at h
 ·split at h
  ·rename_i h0;cases h;rw [ue_some h0];rfl
  ·cases h
 ·cases h
def w46z N r0_0 r0_1 r0_2:=(w46 N r0_0 r0_1 r0_2).bind w46un
theorem w46fin {N} (hc:CxOk (w46c N)) {r0_0 r0_1 r0_2 d} (hd:w46z N r0_0 r0_1 r0_2=some d):DoK Tryd.prog 46 [.agg [.e (.sl (.i .i64)) r0_0,.e (.i .i64) r0_1,.e (.i .i64) r0_2]] [] (w46r0 (d)):=
 finJ hc (by kernel_rfl) (by kernel_rfl) (w46hk N) (by kernel_rfl) w46uo (w46q N r0_0 r0_1 r0_2).symm.trans hd
def w46p N r0_0 r0_1 r0_2:=(w46z N r0_0 r0_1 r0_2).isSome
def w46y0 N r0_0 r0_1 r0_2:=((w46z N r0_0 r0_1 r0_2).getD false)
def w46e (N:Nat):Ent':=E1 (.pr (.sl (.i .i64)) (.pr (.i .i64) (.i .i64))) (fun x0=>(w46p N x0.1 x0.2.1 x0.2.2,w46r0 (w46y0 N x0.1 x0.2.1 x0.2.2)))
theorem w46ok N:EOk Tryd.prog 46 (w46e N):=EOk.e1 (fun x0 h=>okG (z:=w46z N x0.1 x0.2.1 x0.2.2) h (w46fin (w46cx N)) rfl)
def w50r0 (a0:Bool) (a1:(List Bool)):Res:=(.e .bo a0,[(50,.box 28 [.e (.sl .bo) a1])])
def w50c (N:Nat):Cx:=⟨Tryd.prog,99999,[(36,w36e N)],[]⟩
def w50b:Code:=Tryd.f50.body.getD .skip
theorem w50cx N:CxOk (w50c N):=ctx_ok (by kernel_rfl) (.cons (by kernel_rfl) (w36ok N) .nil) .nil
def w50G [Alg] (N:Nat) (t0:Int) (h50_0:(List Bool)):O:=
 ck (w36p N t0) <|
 gx h50_0 (IntKind.i64.wrap (w36y0 N t0 - (1:Int))) fun y0=>
 some (w50r0 (!y0 == decide (0 < t0)) h50_0)
def w50 [Alg] N t0 h50_0:=w50G N t0 h50_0
def w50h [Alg] (_:Nat):Hint:=.d
theorem w50hk N:HintOk (w50c N) Tryd.f50.ntmps (w50h N) w50b:=hk_of _ _ trivial
theorem w50q [Alg] N t0 h50_0:w50G N t0 h50_0=exec (w50c N) Tryd.f50.ntmps (w50h N) w50b ⟨argT 0 [.e (.i .i64) t0,.ref 50 0],[(50,.box 28 [.e (.sl .bo) h50_0])],100⟩ (finX (w50c N) Tryd.f50 true):=by kernel_rfl
def w50un (r:Res):Option (Bool×(List Bool)):=match r with
 | (x0,[(50,.box 28 [x1])])=>(match ue .bo x0,ue (.sl .bo) x1 with | some a0,some a1=>some (a0,a1) | _,_=>none)
 | _=>none
theorem w50uo {r d} (h:w50un r=some d):r=w50r0 d.1 d.2:=by
 unfold w50un at h;split at h
 ·split at h
  ·rename_i h0 h1;cases h;rw [ue_some h0,ue_some h1];rfl
  ·cases h
 ·cases h
def w50z N t0 h50_0:=(w50 N t0 h50_0).bind w50un
theorem w50fin {N} (hc:CxOk (w50c N)) {t0 h50_0 d} (hd:w50z N t0 h50_0=some d):DoK Tryd.prog 50 [.e (.i .i64) t0,.ref 50 0] [(50,.box 28 [.e (.sl .bo) h50_0])] (w50r0 d.1 d.2):=
 finJ hc (by kernel_rfl) (by kernel_rfl) (w50hk N) (by kernel_rfl) w50uo (w50q N t0 h50_0).symm.trans hd
def w50p N t0 h50_0:=(w50z N t0 h50_0).isSome
def w50y0 N t0 h50_0:=((w50z N t0 h50_0).getD (false,[])).1
def w50y1 N t0 h50_0:=((w50z N t0 h50_0).getD (false,[])).2
def w50in (xs:List X) (H:XH):Option (Int×(List Bool)):=match xs,H with
 | [x0,.ref 50 0],[(50,.box 28 [x1])]=>(match ue (.i .i64) x0,ue (.sl .bo) x1 with | some a0,some a1=>some (a0,a1) | _,_=>none)
 | _,_=>none
theorem w50io {xs H d} (h:w50in xs H=some d):xs=[.e (.i .i64) d.1,.ref 50 0]/\H=[(50,.box 28 [.e (.sl .bo) d.2])]:=by
 unfold w50in at h;split at h
 ·split at h
  ·rename_i h0 h1;cases h;rw [ue_some h0,ue_some h1];exact ⟨rfl,rfl⟩
  ·cases h
 ·cases h
def w50e (N:Nat):Ent':=entR w50in (fun d=>w50p N d.1 d.2) (fun d=>w50r0 (w50y0 N d.1 d.2) (w50y1 N d.1 d.2))
theorem w50ok N:EOk Tryd.prog 50 (w50e N):=entR_ok w50io (fun d h=>okG (z:=w50z N d.1 d.2) h (w50fin (w50cx N)) rfl)
def w60r0 (a0:(List Int)):Res:=(.own 100,[(100,.row 3 (.i .i64) a0 false)])
def w60c (_:Nat):Cx:=⟨Tryd.prog,99999,[],[]⟩
def w60b:Code:=Tryd.f60.body.getD .skip
theorem w60cx N:CxOk (w60c N):=ctx_ok (by kernel_rfl) .nil .nil
def w60F0 [Alg] (_:Nat) (k0:Int->O) (x0_0:Int):O:=
 br (decide (x0_0 < 0))
  (none)
  (k0 x0_0)
def w60b0:Code:=atC [1,0] w60b
def w60m0:Nm:=⟨[0,1,4],[],[]⟩
def w60I0 (x:Int):Sg:=⟨[(0,.nilS),(1,.e (.i .i64) x),(4,.nilS)],[],100⟩
def w60u0 (σ:Sg):Int:=lvT (.i .i64) 1 0 σ
theorem w60ui0:∀ x,w60u0 (w60I0 x)=x:=fun _=>by kernel_rfl
def w60X0_0 (y:Int):Exit×Sg:=(.normal,⟨[(0,.nilS),(1,.e (.i .i64) y),(4,.nilS)],[],100⟩)
def w60v0_0 (_:Exit) (σ:Sg):Int:=lvT (.i .i64) 1 0 σ
def w60w0:List (Exit×Nm):=[(.normal,⟨[0,1,4],[],[]⟩)]
def w60l0 [Alg] (N:Nat) (_:Nat) (x:Int) (k0:(Int)->O) (_:(Unit)->O) (_:(Unit)->O):O:=w60F0 N (fun y0=>k0 y0) x
def w60n0 [Alg] N a0 (k0:Int->O):=w60l0 N N a0 (fun y=>k0 y) (fun _=>none) (fun _=>none)
def w60s0 [Alg] N a0 (k0:Int->O):=subL w60I0 w60u0 (w60l0 N N) (w60I0 a0) (fun y=>k0 y) (fun _=>none) (fun _=>none)
theorem w60e0 [Alg] N:w60s0 N=w60n0 N:=funext fun _=>funext fun _=>subL_I w60ui0 _ _ _ _
theorem w60q0 [Alg] (N:Nat) (K:Exit->Sg->O) (x:Int):w60F0 N (fun y0=>K (w60X0_0 y0).1 (w60X0_0 y0).2) x=exec (w60c N) Tryd.f60.ntmps .d w60b0 (w60I0 x) (partX w60w0 K):=by kernel_rfl
theorem w60S0 N (hc:CxOk (w60c N)):SubOk (w60c N) Tryd.f60.ntmps w60b0 w60X0_0 (noX 1) (noX 2) (subL w60I0 w60u0 (w60l0 N N)):=
 sub_part hc (hk_d w60b0) (oK1 w60v0_0 .normal (fun _=>by kernel_rfl) (fun _=>rfl) (by kernel_rfl)) (fun x K=>by
  exact w60q0 N K x)
def w60G [Alg] (_:Nat) (in0:Int->(Int->O)->O) (n1:Int):O:=
 in0 n1
  (fun z1=>
   br (decide ((0:Int) < IntKind.i64.wrap (z1 - 0)))
    (ck true <|
    ck (decide ((0:Int)<=IntKind.i64.wrap (z1 - 0))) <|
    ck (lim (IntKind.i64.wrap (z1 - 0)).toNat (8:Nat)) <|
    ck (decide ((0:Int)<=(0:Int)/\(0:Int)<=(↑(List.replicate (IntKind.i64.wrap (z1 - 0)).toNat (0:Int)).length:Int))) <|
    some (w60r0 (List.take (0:Nat) (List.replicate (IntKind.i64.wrap (z1 - 0)).toNat (0:Int)))))
    (some (w60r0 [])))
def w60 [Alg] N n1:=w60G N (w60n0 N) n1
def w60h [Alg] (N:Nat):Hint:=(.seq .d (.seq (.sub w60m0 _ _ _ w60X0_0 (noX 1) (noX 2) (subL w60I0 w60u0 (w60l0 N N))) (.seq (.seq .d (.seq .d (.cond (.reg [5,8] [] []) .d))) (.seq (.reg [] [.nilR 0 (.row 3 (.i .i64) [] false)] []) .d))))
theorem w60hk N (hc:CxOk (w60c N)):HintOk (w60c N) Tryd.f60.ntmps (w60h N) w60b:=hk_of _ _ (And.intro trivial (And.intro (w60S0 N hc) (And.intro (And.intro trivial (And.intro trivial (And.intro trivial trivial))) (And.intro trivial trivial))))
theorem w60q [Alg] N n1:w60G N (w60s0 N) n1=exec (w60c N) Tryd.f60.ntmps (w60h N) w60b ⟨argT 0 [.nilS,.e (.i .i64) n1],[],100⟩ (finX (w60c N) Tryd.f60 true):=by kernel_rfl
def w60un (r:Res):Option ((List Int)):=match r with
 | (.own 100,[(100,x0)])=>(match ur 3 (.i .i64) false x0 with | some a0=>some a0 | _=>none)
 | _=>none
theorem w60uo {r d} (h:w60un r=some d):r=w60r0 (d):=by
 unfold w60un at h;split at h
 ·split at h
  ·rename_i h0;cases h;rw [ur_some h0];rfl
  ·cases h
 ·cases h
def w60z N n1:=(w60 N n1).bind w60un
theorem w60fin {N} (hc:CxOk (w60c N)) {n1 d} (hd:w60z N n1=some d):DoK Tryd.prog 60 [.nilS,.e (.i .i64) n1] [] (w60r0 (d)):=
 finJ hc (by kernel_rfl) (by kernel_rfl) (w60hk N hc) (by kernel_rfl) w60uo (fun hr=>(w60q N n1).symm.trans (by rw [w60e0 N];exact hr)) hd
def w60p N n1:=(w60z N n1).isSome
def w60y0 N n1:=((w60z N n1).getD [])
def w60in (xs:List X) (H:XH):Option (Int):=match xs,H with
 | [.nilS,x0],[]=>(match ue (.i .i64) x0 with | some a0=>some a0 | _=>none)
 | _,_=>none
theorem w60io {xs H d} (h:w60in xs H=some d):xs=[.nilS,.e (.i .i64) (d)]/\H=[]:=by
 unfold w60in at h;split at h
 ·split at h
  ·rename_i h0;cases h;rw [ue_some h0];exact ⟨rfl,rfl⟩
  ·cases h
 ·cases h
def w60e (N:Nat):Ent':=entR w60in (fun d=>w60p N (d)) (fun d=>w60r0 (w60y0 N (d)))
theorem w60ok N:EOk Tryd.prog 60 (w60e N):=entR_ok w60io (fun d h=>okG (z:=w60z N (d)) h (w60fin (w60cx N)) rfl)
def w48r0 (a0:(List Int)):Res:=(.e (.sl (.i .i64)) a0,[])
def w48c (N:Nat):Cx:=⟨Tryd.prog,99999,[(60,w60e N)],[]⟩
def w48b:Code:=Tryd.f48.body.getD .skip
theorem w48cx N:CxOk (w48c N):=ctx_ok (by kernel_rfl) (.cons (by kernel_rfl) (w60ok N) .nil) .nil
def w48F0 [Alg] (_:Nat) (self:Int->Int->O) (k0:(List (List Int))->Int->O) (x0_0 x0_2:(List (List Int))) (x0_3 x0_1 x0_4:Int):O:=
 br (decide (x0_4 < x0_3))
  (gx x0_2 x0_4 fun y3=>
  br (decide (IntKind.i64.wrap (x0_1+(↑y3.length:Int)) < (0:Int)))
   (none)
   (self (IntKind.i64.wrap (x0_1+(↑y3.length:Int))) (IntKind.i64.wrap (x0_4+1))))
  (k0 x0_0 x0_1)
def w48b0:Code:=atC [1,1,0,1,0,0] w48b
def w48m0:Nm:=⟨[0,2,3,9,10,11],[],[]⟩
def w48I0 (x:(List (List Int))×Int×(List (List Int))×Int×Int):Sg:=⟨[(0,.e (.sl (.sl (.i .i64))) x.1),(2,.nilS),(3,.e (.i .i64) x.2.1),(9,.e (.sl (.sl (.i .i64))) x.2.2.1),(10,.e (.i .i64) x.2.2.2.1),(11,.e (.i .i64) x.2.2.2.2)],[],100⟩
def w48u0 (σ:Sg):(List (List Int))×Int×(List (List Int))×Int×Int:=(lvT (.sl (.sl (.i .i64))) 0 0 σ,lvT (.i .i64) 3 0 σ,lvT (.sl (.sl (.i .i64))) 9 0 σ,lvT (.i .i64) 10 0 σ,lvT (.i .i64) 11 0 σ)
theorem w48ui0:∀ x,w48u0 (w48I0 x)=x:=fun _=>by kernel_rfl
def w48X0_0 (y:(List (List Int))×Int):Exit×Sg:=((.exit 0),⟨[(0,.e (.sl (.sl (.i .i64))) y.1),(2,.nilS),(3,.e (.i .i64) y.2)],[],100⟩)
def w48v0_0 (_:Exit) (σ:Sg):(List (List Int))×Int:=(lvT (.sl (.sl (.i .i64))) 0 0 σ,lvT (.i .i64) 3 0 σ)
def w48w0:List (Exit×Nm):=[((.exit 0),⟨[0,2,3],[],[]⟩)]
def w48l0 [Alg] (N:Nat):Nat->((List (List Int))×Int×(List (List Int))×Int×Int)->(((List (List Int))×Int)->O)->((Unit)->O)->((Unit)->O)->O
 | 0,_,_,_,_=>none
 | n+1,x,k0,k1,k2=>w48F0 N (fun v0 v1=>w48l0 N n (x.1,v0,x.2.2.1,x.2.2.2.1,v1) k0 k1 k2) (fun y0 y1=>k0 (y0,y1)) x.1 x.2.2.1 x.2.2.2.1 x.2.1 x.2.2.2.2
def w48n0 [Alg] N a0 a1 a2 a3 a4 (k0:(List (List Int))->Int->O):=w48l0 N N (a0,a1,a2,a3,a4) (fun y=>k0 y.1 y.2) (fun _=>none) (fun _=>none)
def w48s0 [Alg] N a0 a1 a2 a3 a4 (k0:(List (List Int))->Int->O):=subL w48I0 w48u0 (w48l0 N N) (w48I0 (a0,a1,a2,a3,a4)) (fun y=>k0 y.1 y.2) (fun _=>none) (fun _=>none)
theorem w48e0 [Alg] N:w48s0 N=w48n0 N:=funext fun _=>funext fun _=>funext fun _=>funext fun _=>funext fun _=>funext fun _=>subL_I w48ui0 _ _ _ _
theorem w48q0 [Alg] (N:Nat) (self:Sg->O) (K:Exit->Sg->O) (x:(List (List Int))×Int×(List (List Int))×Int×Int):w48F0 N (fun v0 v1=>self (w48I0 (x.1,v0,x.2.2.1,x.2.2.2.1,v1))) (fun y0 y1=>K (w48X0_0 (y0,y1)).1 (w48X0_0 (y0,y1)).2) x.1 x.2.2.1 x.2.2.2.1 x.2.1 x.2.2.2.2=exec (w48c N) Tryd.f48.ntmps .d w48b0 (w48I0 x) (roundX w48m0 w48w0 self K):=by kernel_rfl
theorem w48S0 N (hc:CxOk (w48c N)):SubOk (w48c N) Tryd.f48.ntmps (.loop w48b0) w48X0_0 (noX 1) (noX 2) (subL w48I0 w48u0 (w48l0 N N)):=
 sub_loop hc (hk_d w48b0) (oK1 w48v0_0 (.exit 0) (fun _=>by kernel_rfl) (fun _=>rfl) (by kernel_rfl)) (n:=N) (fun x K=>loop_ind (w48l0 N) (fun _ _ _ _=>rfl) (fun n K ih x=>by
  refine Eq.trans ?_ (w48q0 N _ K x);simp only [← ih];rfl) N x K)
def w48F1 [Alg] (_:Nat) (self:Int->(List Int)->O) (k0:(List Int)->O) (x6_0:(List (List Int))) (x6_1 x6_2:Int) (x6_3:(List Int)):O:=
 br (decide (x6_2 < x6_1))
  (gx x6_0 x6_2 fun y9=>
  ck (lim (x6_3++y9).length (8:Nat)) <|
  self (IntKind.i64.wrap (x6_2+1)) (x6_3++y9))
  (k0 x6_3)
def w48b1:Code:=atC [1,1,1,1,0,1,0,0] w48b
def w48m1:Nm:=⟨[2,6,25,26,27],[],[]⟩
def w48I1 (x:(List (List Int))×Int×Int×(List Int)):Sg:=⟨[(2,.nilS),(6,.own 0),(25,.e (.sl (.sl (.i .i64))) x.1),(26,.e (.i .i64) x.2.1),(27,.e (.i .i64) x.2.2.1)],[(0,.row 3 (.i .i64) x.2.2.2 false)],100⟩
def w48u1 (σ:Sg):(List (List Int))×Int×Int×(List Int):=(lvT (.sl (.sl (.i .i64))) 25 0 σ,lvT (.i .i64) 26 0 σ,lvT (.i .i64) 27 0 σ,lvR (.i .i64) 0 σ)
theorem w48ui1:∀ x,w48u1 (w48I1 x)=x:=fun _=>by kernel_rfl
def w48X1_0 (y:(List Int)):Exit×Sg:=((.exit 2),⟨[(2,.nilS),(6,.own 0)],[(0,.row 3 (.i .i64) y false)],100⟩)
def w48v1_0 (_:Exit) (σ:Sg):(List Int):=lvR (.i .i64) 0 σ
def w48w1:List (Exit×Nm):=[((.exit 2),⟨[2,6],[],[]⟩)]
def w48l1 [Alg] (N:Nat):Nat->((List (List Int))×Int×Int×(List Int))->(((List Int))->O)->((Unit)->O)->((Unit)->O)->O
 | 0,_,_,_,_=>none
 | n+1,x,k0,k1,k2=>w48F1 N (fun v0 v1=>w48l1 N n (x.1,x.2.1,v0,v1) k0 k1 k2) (fun y0=>k0 y0) x.1 x.2.1 x.2.2.1 x.2.2.2
def w48n1 [Alg] N a0 a1 a2 a3 (k0:(List Int)->O):=w48l1 N N (a0,a1,a2,a3) (fun y=>k0 y) (fun _=>none) (fun _=>none)
def w48s1 [Alg] N a0 a1 a2 a3 (k0:(List Int)->O):=subL w48I1 w48u1 (w48l1 N N) (w48I1 (a0,a1,a2,a3)) (fun y=>k0 y) (fun _=>none) (fun _=>none)
theorem w48e1 [Alg] N:w48s1 N=w48n1 N:=funext fun _=>funext fun _=>funext fun _=>funext fun _=>funext fun _=>subL_I w48ui1 _ _ _ _
def w48h1 [Alg] (_:Nat):Hint:=(.seq .d (.seq .d (.seq (.block (.seq .d (.reg [2] [] []))) .d)))
theorem w48hk1 N:HintOk (w48c N) Tryd.f48.ntmps (w48h1 N) w48b1:=hk_of _ _ (And.intro trivial (And.intro trivial (And.intro (And.intro trivial trivial) trivial)))
theorem w48q1 [Alg] (N:Nat) (self:Sg->O) (K:Exit->Sg->O) (x:(List (List Int))×Int×Int×(List Int)):w48F1 N (fun v0 v1=>self (w48I1 (x.1,x.2.1,v0,v1))) (fun y0=>K (w48X1_0 y0).1 (w48X1_0 y0).2) x.1 x.2.1 x.2.2.1 x.2.2.2=exec (w48c N) Tryd.f48.ntmps (w48h1 N) w48b1 (w48I1 x) (roundX w48m1 w48w1 self K):=by kernel_rfl
theorem w48S1 N (hc:CxOk (w48c N)):SubOk (w48c N) Tryd.f48.ntmps (.loop w48b1) w48X1_0 (noX 1) (noX 2) (subL w48I1 w48u1 (w48l1 N N)):=
 sub_loop hc (w48hk1 N) (oK1 w48v1_0 (.exit 2) (fun _=>by kernel_rfl) (fun _=>rfl) (by kernel_rfl)) (n:=N) (fun x K=>loop_ind (w48l1 N) (fun _ _ _ _=>rfl) (fun n K ih x=>by
  refine Eq.trans ?_ (w48q1 N _ K x);simp only [← ih];rfl) N x K)
def w48G [Alg] (N:Nat) (in0:(List (List Int))->Int->(List (List Int))->Int->Int->((List (List Int))->Int->O)->O) (in1:(List (List Int))->Int->Int->(List Int)->((List Int)->O)->O) (slices0:(List (List Int))):O:=
 in0 slices0 0 slices0 ((↑slices0.length:Int)) 0
  (fun z4 z5=>
   ck (w60p N z5) <|
   in1 z4 ((↑z4.length:Int)) 0 (w60y0 N z5)
    (fun z10=>
     some (w48r0 z10)))
def w48 [Alg] N slices0:=w48G N (w48n0 N) (w48n1 N) slices0
def w48h [Alg] (N:Nat):Hint:=(.seq .d (.seq .d (.seq (.seq .d (.block (.sub w48m0 _ _ _ w48X0_0 (noX 1) (noX 2) (subL w48I0 w48u0 (w48l0 N N))))) (.seq .d (.seq (.seq .d (.block (.sub w48m1 _ _ _ w48X1_0 (noX 1) (noX 2) (subL w48I1 w48u1 (w48l1 N N))))) .d)))))
theorem w48hk N (hc:CxOk (w48c N)):HintOk (w48c N) Tryd.f48.ntmps (w48h N) w48b:=hk_of _ _ (And.intro trivial (And.intro trivial (And.intro (And.intro trivial (w48S0 N hc)) (And.intro trivial (And.intro (And.intro trivial (w48S1 N hc)) trivial)))))
theorem w48q [Alg] N slices0:w48G N (w48s0 N) (w48s1 N) slices0=exec (w48c N) Tryd.f48.ntmps (w48h N) w48b ⟨argT 0 [.e (.sl (.sl (.i .i64))) slices0],[],100⟩ (finX (w48c N) Tryd.f48 false):=by kernel_rfl
def w48un (r:Res):Option ((List Int)):=match r with
 | (x0,[])=>(match ue (.sl (.i .i64)) x0 with | some a0=>some a0 | _=>none)
 | _=>none
theorem w48uo {r d} (h:w48un r=some d):r=w48r0 (d):=by
 unfold w48un at h;split at h
 ·split at h
  ·rename_i h0;cases h;rw [ue_some h0];rfl
  ·cases h
 ·cases h
def w48z N slices0:=(w48 N slices0).bind w48un
theorem w48fin {N} (hc:CxOk (w48c N)) {slices0 d} (hd:w48z N slices0=some d):DoK Tryd.prog 48 [.e (.sl (.sl (.i .i64))) slices0] [] (w48r0 (d)):=
 finJ hc (by kernel_rfl) (by kernel_rfl) (w48hk N hc) (by kernel_rfl) w48uo (fun hr=>(w48q N slices0).symm.trans (by rw [w48e0 N,w48e1 N];exact hr)) hd
def w48p N slices0:=(w48z N slices0).isSome
def w48y0 N slices0:=((w48z N slices0).getD [])
def w48e (N:Nat):Ent':=E1 (.sl (.sl (.i .i64))) (fun x0=>(w48p N x0,w48r0 (w48y0 N x0)))
theorem w48ok N:EOk Tryd.prog 48 (w48e N):=EOk.e1 (fun x0 h=>okG (z:=w48z N x0) h (w48fin (w48cx N)) rfl)
def w61r0 (a0:Int) (a1:(List Bool)):Res:=(.e (.i .i64) a0,[(50,.box 28 [.e (.sl .bo) a1])])
def w61c (N:Nat):Cx:=⟨Tryd.prog,99999,[(50,w50e N)],[]⟩
def w61b:Code:=Tryd.f61.body.getD .skip
theorem w61cx N:CxOk (w61c N):=ctx_ok (by kernel_rfl) (.cons (by kernel_rfl) (w50ok N) .nil) .nil
def w61F0 [Alg] (N:Nat) (self:Int->(List Bool)->O) (k0:Int->(List Bool)->O) (k1:Int->(List Bool)->O) (x0_0:(List Int)) (x0_1 x0_2 x0_3:Int) (x0_4:(List Bool)):O:=
 br (decide (x0_3 < x0_2))
  (gx x0_0 x0_3 fun y3=>
  ck (w50p N y3 x0_4) <|
  br (w50y0 N y3 x0_4)
   (k0 x0_3 (w50y1 N y3 x0_4))
   (self (IntKind.i64.wrap (x0_3+1)) (w50y1 N y3 x0_4)))
  (k1 x0_1 x0_4)
def w61b0:Code:=atC [1,0,1,0,0] w61b
def w61m0:Nm:=⟨[0,1,4,7,8],[],[]⟩
def w61I0 (x:(List Int)×Int×Int×Int×(List Bool)):Sg:=⟨[(0,.e (.sl (.i .i64)) x.1),(1,.fn 50 [.ref 50 0]),(4,.e (.i .i64) x.2.1),(7,.e (.i .i64) x.2.2.1),(8,.e (.i .i64) x.2.2.2.1)],[(50,.box 28 [.e (.sl .bo) x.2.2.2.2])],100⟩
def w61u0 (σ:Sg):(List Int)×Int×Int×Int×(List Bool):=(lvT (.sl (.i .i64)) 0 0 σ,lvT (.i .i64) 4 0 σ,lvT (.i .i64) 7 0 σ,lvT (.i .i64) 8 0 σ,lvH (.sl .bo) 50 0 σ)
theorem w61ui0:∀ x,w61u0 (w61I0 x)=x:=fun _=>by kernel_rfl
def w61X0_0 (y:Int×(List Bool)):Exit×Sg:=(.ret,⟨[(4,.e (.i .i64) y.1)],[(50,.box 28 [.e (.sl .bo) y.2])],100⟩)
def w61v0_0 (_:Exit) (σ:Sg):Int×(List Bool):=(lvT (.i .i64) 4 0 σ,lvH (.sl .bo) 50 0 σ)
def w61X0_1 (y:Int×(List Bool)):Exit×Sg:=((.exit 0),⟨[(4,.e (.i .i64) y.1)],[(50,.box 28 [.e (.sl .bo) y.2])],100⟩)
def w61v0_1 (_:Exit) (σ:Sg):Int×(List Bool):=(lvT (.i .i64) 4 0 σ,lvH (.sl .bo) 50 0 σ)
def w61w0:List (Exit×Nm):=[(.ret,⟨[4],[],[]⟩),((.exit 0),⟨[4],[],[]⟩)]
def w61l0 [Alg] (N:Nat):Nat->((List Int)×Int×Int×Int×(List Bool))->((Int×(List Bool))->O)->((Int×(List Bool))->O)->((Unit)->O)->O
 | 0,_,_,_,_=>none
 | n+1,x,k0,k1,k2=>w61F0 N (fun v0 v1=>w61l0 N n (x.1,x.2.1,x.2.2.1,v0,v1) k0 k1 k2) (fun y0 y1=>k0 (y0,y1)) (fun y0 y1=>k1 (y0,y1)) x.1 x.2.1 x.2.2.1 x.2.2.2.1 x.2.2.2.2
def w61n0 [Alg] N a0 a1 a2 a3 a4 (k0:Int->(List Bool)->O) (k1:Int->(List Bool)->O):=w61l0 N N (a0,a1,a2,a3,a4) (fun y=>k0 y.1 y.2) (fun y=>k1 y.1 y.2) (fun _=>none)
def w61s0 [Alg] N a0 a1 a2 a3 a4 (k0:Int->(List Bool)->O) (k1:Int->(List Bool)->O):=subL w61I0 w61u0 (w61l0 N N) (w61I0 (a0,a1,a2,a3,a4)) (fun y=>k0 y.1 y.2) (fun y=>k1 y.1 y.2) (fun _=>none)
theorem w61e0 [Alg] N:w61s0 N=w61n0 N:=funext fun _=>funext fun _=>funext fun _=>funext fun _=>funext fun _=>funext fun _=>funext fun _=>subL_I w61ui0 _ _ _ _
theorem w61q0 [Alg] (N:Nat) (self:Sg->O) (K:Exit->Sg->O) (x:(List Int)×Int×Int×Int×(List Bool)):w61F0 N (fun v0 v1=>self (w61I0 (x.1,x.2.1,x.2.2.1,v0,v1))) (fun y0 y1=>K (w61X0_0 (y0,y1)).1 (w61X0_0 (y0,y1)).2) (fun y0 y1=>K (w61X0_1 (y0,y1)).1 (w61X0_1 (y0,y1)).2) x.1 x.2.1 x.2.2.1 x.2.2.2.1 x.2.2.2.2=exec (w61c N) Tryd.f61.ntmps .d w61b0 (w61I0 x) (roundX w61m0 w61w0 self K):=by kernel_rfl
theorem w61S0 N (hc:CxOk (w61c N)):SubOk (w61c N) Tryd.f61.ntmps (.loop w61b0) w61X0_0 w61X0_1 (noX 2) (subL w61I0 w61u0 (w61l0 N N)):=
 sub_loop hc (hk_d w61b0) (oK2 w61v0_0 w61v0_1 .ret (.exit 0) (fun _=>by kernel_rfl) (fun _=>by kernel_rfl) (fun _=>rfl) (fun _=>rfl) (by kernel_rfl)) (n:=N) (fun x K=>loop_ind (w61l0 N) (fun _ _ _ _=>rfl) (fun n K ih x=>by
  refine Eq.trans ?_ (w61q0 N _ K x);simp only [← ih];rfl) N x K)
def w61G [Alg] (_:Nat) (in0:(List Int)->Int->Int->Int->(List Bool)->(Int->(List Bool)->O)->(Int->(List Bool)->O)->O) (s0:(List Int)) (h50_0:(List Bool)):O:=
 in0 s0 0 ((↑s0.length:Int)) 0 h50_0
  (fun z4 z5=>
   some (w61r0 z4 z5))
  (fun _ z7=>
   some (w61r0 ((-1:Int)) z7))
def w61 [Alg] N s0 h50_0:=w61G N (w61n0 N) s0 h50_0
def w61h [Alg] (N:Nat):Hint:=(.seq .d (.seq (.seq .d (.block (.sub w61m0 _ _ _ w61X0_0 w61X0_1 (noX 2) (subL w61I0 w61u0 (w61l0 N N))))) .d))
theorem w61hk N (hc:CxOk (w61c N)):HintOk (w61c N) Tryd.f61.ntmps (w61h N) w61b:=hk_of _ _ (And.intro trivial (And.intro (And.intro trivial (w61S0 N hc)) trivial))
theorem w61q [Alg] N s0 h50_0:w61G N (w61s0 N) s0 h50_0=exec (w61c N) Tryd.f61.ntmps (w61h N) w61b ⟨argT 0 [.e (.sl (.i .i64)) s0,.fn 50 [.ref 50 0]],[(50,.box 28 [.e (.sl .bo) h50_0])],100⟩ (finX (w61c N) Tryd.f61 true):=by kernel_rfl
def w61un (r:Res):Option (Int×(List Bool)):=match r with
 | (x0,[(50,.box 28 [x1])])=>(match ue (.i .i64) x0,ue (.sl .bo) x1 with | some a0,some a1=>some (a0,a1) | _,_=>none)
 | _=>none
theorem w61uo {r d} (h:w61un r=some d):r=w61r0 d.1 d.2:=by
 unfold w61un at h;split at h
 ·split at h
  ·rename_i h0 h1;cases h;rw [ue_some h0,ue_some h1];rfl
  ·cases h
 ·cases h
def w61z N s0 h50_0:=(w61 N s0 h50_0).bind w61un
theorem w61fin {N} (hc:CxOk (w61c N)) {s0 h50_0 d} (hd:w61z N s0 h50_0=some d):DoK Tryd.prog 61 [.e (.sl (.i .i64)) s0,.fn 50 [.ref 50 0]] [(50,.box 28 [.e (.sl .bo) h50_0])] (w61r0 d.1 d.2):=
 finJ hc (by kernel_rfl) (by kernel_rfl) (w61hk N hc) (by kernel_rfl) w61uo (fun hr=>(w61q N s0 h50_0).symm.trans (by rw [w61e0 N];exact hr)) hd
def w61p N s0 h50_0:=(w61z N s0 h50_0).isSome
def w61y0 N s0 h50_0:=((w61z N s0 h50_0).getD (0,[])).1
def w61y1 N s0 h50_0:=((w61z N s0 h50_0).getD (0,[])).2
def w61in (xs:List X) (H:XH):Option ((List Int)×(List Bool)):=match xs,H with
 | [x0,.fn 50 [.ref 50 0]],[(50,.box 28 [x1])]=>(match ue (.sl (.i .i64)) x0,ue (.sl .bo) x1 with | some a0,some a1=>some (a0,a1) | _,_=>none)
 | _,_=>none
theorem w61io {xs H d} (h:w61in xs H=some d):xs=[.e (.sl (.i .i64)) d.1,.fn 50 [.ref 50 0]]/\H=[(50,.box 28 [.e (.sl .bo) d.2])]:=by
 unfold w61in at h;split at h
 ·split at h
  ·rename_i h0 h1;cases h;rw [ue_some h0,ue_some h1];exact ⟨rfl,rfl⟩
  ·cases h
 ·cases h
def w61e (N:Nat):Ent':=entR w61in (fun d=>w61p N d.1 d.2) (fun d=>w61r0 (w61y0 N d.1 d.2) (w61y1 N d.1 d.2))
theorem w61ok N:EOk Tryd.prog 61 (w61e N):=entR_ok w61io (fun d h=>okG (z:=w61z N d.1 d.2) h (w61fin (w61cx N)) rfl)
def w49r0 (a0:Bool) (a1:(List Bool)):Res:=(.e .bo a0,[(50,.box 28 [.e (.sl .bo) a1])])
def w49c (N:Nat):Cx:=⟨Tryd.prog,99999,[(50,w50e N),(61,w61e N)],[]⟩
def w49b:Code:=Tryd.f49.body.getD .skip
theorem w49cx N:CxOk (w49c N):=ctx_ok (by kernel_rfl) (.cons (by kernel_rfl) (w50ok N) (.cons (by kernel_rfl) (w61ok N) .nil)) .nil
def w49G [Alg] (N:Nat) (s0:(List Int)) (h50_0:(List Bool)):O:=
 ck (w61p N s0 h50_0) <|
 some (w49r0 (decide ((0:Int)<=w61y0 N s0 h50_0)) (w61y1 N s0 h50_0))
def w49 [Alg] N s0 h50_0:=w49G N s0 h50_0
def w49h [Alg] (_:Nat):Hint:=.d
theorem w49hk N:HintOk (w49c N) Tryd.f49.ntmps (w49h N) w49b:=hk_of _ _ trivial
theorem w49q [Alg] N s0 h50_0:w49G N s0 h50_0=exec (w49c N) Tryd.f49.ntmps (w49h N) w49b ⟨argT 0 [.e (.sl (.i .i64)) s0,.fn 50 [.ref 50 0]],[(50,.box 28 [.e (.sl .bo) h50_0])],100⟩ (finX (w49c N) Tryd.f49 true):=by kernel_rfl
def w49un (r:Res):Option (Bool×(List Bool)):=match r with
 | (x0,[(50,.box 28 [x1])])=>(match ue .bo x0,ue (.sl .bo) x1 with | some a0,some a1=>some (a0,a1) | _,_=>none)
 | _=>none
theorem w49uo {r d} (h:w49un r=some d):r=w49r0 d.1 d.2:=by
 unfold w49un at h;split at h
 ·split at h
  ·rename_i h0 h1;cases h;rw [ue_some h0,ue_some h1];rfl
  ·cases h
 ·cases h
def w49z N s0 h50_0:=(w49 N s0 h50_0).bind w49un
theorem w49fin {N} (hc:CxOk (w49c N)) {s0 h50_0 d} (hd:w49z N s0 h50_0=some d):DoK Tryd.prog 49 [.e (.sl (.i .i64)) s0,.fn 50 [.ref 50 0]] [(50,.box 28 [.e (.sl .bo) h50_0])] (w49r0 d.1 d.2):=
 finJ hc (by kernel_rfl) (by kernel_rfl) (w49hk N) (by kernel_rfl) w49uo (w49q N s0 h50_0).symm.trans hd
def w49p N s0 h50_0:=(w49z N s0 h50_0).isSome
def w49y0 N s0 h50_0:=((w49z N s0 h50_0).getD (false,[])).1
def w49y1 N s0 h50_0:=((w49z N s0 h50_0).getD (false,[])).2
def w49in (xs:List X) (H:XH):Option ((List Int)×(List Bool)):=match xs,H with
 | [x0,.fn 50 [.ref 50 0]],[(50,.box 28 [x1])]=>(match ue (.sl (.i .i64)) x0,ue (.sl .bo) x1 with | some a0,some a1=>some (a0,a1) | _,_=>none)
 | _,_=>none
theorem w49io {xs H d} (h:w49in xs H=some d):xs=[.e (.sl (.i .i64)) d.1,.fn 50 [.ref 50 0]]/\H=[(50,.box 28 [.e (.sl .bo) d.2])]:=by
 unfold w49in at h;split at h
 ·split at h
  ·rename_i h0 h1;cases h;rw [ue_some h0,ue_some h1];exact ⟨rfl,rfl⟩
  ·cases h
 ·cases h
def w49e (N:Nat):Ent':=entR w49in (fun d=>w49p N d.1 d.2) (fun d=>w49r0 (w49y0 N d.1 d.2) (w49y1 N d.1 d.2))
theorem w49ok N:EOk Tryd.prog 49 (w49e N):=entR_ok w49io (fun d h=>okG (z:=w49z N d.1 d.2) h (w49fin (w49cx N)) rfl)
def w32r0 (a0:Bool):Res:=(.e .bo a0,[])
def w32c (N:Nat):Cx:=⟨Tryd.prog,99999,[(50,w50e N),(49,w49e N)],[]⟩
def w32b:Code:=Tryd.f32.body.getD .skip
theorem w32cx N:CxOk (w32c N):=ctx_ok (by kernel_rfl) (.cons (by kernel_rfl) (w50ok N) (.cons (by kernel_rfl) (w49ok N) .nil)) .nil
def w32G [Alg] (N:Nat) (r0_0:(List Int)) (_r0_1 _r0_2:Int) (have1:(List Bool)):O:=
 ck (w49p N r0_0 have1) <|
 some (w32r0 (!w49y0 N r0_0 have1))
def w32 [Alg] N r0_0 r0_1 r0_2 have1:=w32G N r0_0 r0_1 r0_2 have1
def w32h [Alg] (_:Nat):Hint:=.d
theorem w32hk N:HintOk (w32c N) Tryd.f32.ntmps (w32h N) w32b:=hk_of _ _ trivial
theorem w32q [Alg] N r0_0 r0_1 r0_2 have1:w32G N r0_0 r0_1 r0_2 have1=exec (w32c N) Tryd.f32.ntmps (w32h N) w32b ⟨argT 0 [.agg [.e (.sl (.i .i64)) r0_0,.e (.i .i64) r0_1,.e (.i .i64) r0_2],.e (.sl .bo) have1],[],100⟩ (finX (w32c N) Tryd.f32 false):=by kernel_rfl
def w32un (r:Res):Option (Bool):=match r with
 | (x0,[])=>(match ue .bo x0 with | some a0=>some a0 | _=>none)
 | _=>none
theorem w32uo {r d} (h:w32un r=some d):r=w32r0 (d):=by
 unfold w32un at h;split at h
 ·split at h
  ·rename_i h0;cases h;rw [ue_some h0];rfl
  ·cases h
 ·cases h
def w32z N r0_0 r0_1 r0_2 have1:=(w32 N r0_0 r0_1 r0_2 have1).bind w32un
theorem w32fin {N} (hc:CxOk (w32c N)) {r0_0 r0_1 r0_2 have1 d} (hd:w32z N r0_0 r0_1 r0_2 have1=some d):DoK Tryd.prog 32 [.agg [.e (.sl (.i .i64)) r0_0,.e (.i .i64) r0_1,.e (.i .i64) r0_2],.e (.sl .bo) have1] [] (w32r0 (d)):=
 finJ hc (by kernel_rfl) (by kernel_rfl) (w32hk N) (by kernel_rfl) w32uo (w32q N r0_0 r0_1 r0_2 have1).symm.trans hd
def w32p N r0_0 r0_1 r0_2 have1:=(w32z N r0_0 r0_1 r0_2 have1).isSome
def w32y0 N r0_0 r0_1 r0_2 have1:=((w32z N r0_0 r0_1 r0_2 have1).getD false)
def w32e (N:Nat):Ent':=E2 (.pr (.sl (.i .i64)) (.pr (.i .i64) (.i .i64))) (.sl .bo) (fun x0 x1=>(w32p N x0.1 x0.2.1 x0.2.2 x1,w32r0 (w32y0 N x0.1 x0.2.1 x0.2.2 x1)))
theorem w32ok N:EOk Tryd.prog 32 (w32e N):=EOk.e2 (fun x0 x1 h=>okG (z:=w32z N x0.1 x0.2.1 x0.2.2 x1) h (w32fin (w32cx N)) rfl)
def w30r0 (a0:(List Bool)) (a1:Bool):Res:=(.tup [.e (.sl .bo) a0,.e .bo a1],[])
def w30c (N:Nat):Cx:=⟨Tryd.prog,99999,[(48,w48e N),(32,w32e N)],[]⟩
def w30b:Code:=Tryd.f30.body.getD .skip
theorem w30cx N:CxOk (w30c N):=ctx_ok (by kernel_rfl) (.cons (by kernel_rfl) (w48ok N) (.cons (by kernel_rfl) (w32ok N) .nil)) .nil
def w30F0 [Alg] (_:Nat) (self:Int->(List Bool)->O) (k0:Bool->(List Int)->Int->Int->(List Int)->Int->Int->(List Bool)->O) (x0_0:Bool) (x0_1:(List Int)) (x0_2:Int) (x0_4:(List Int)) (x0_5 x0_6:Int) (x0_7:(List Int)) (x0_8 x0_9 x0_3:Int) (x0_10:(List Bool)):O:=
 br (decide (x0_3 < x0_2))
  (gx x0_1 x0_3 fun y5=>
  br (decide (0 < y5))
   (ck (decide ((0:Int)<=IntKind.i64.wrap (y5 - 1)/\IntKind.i64.wrap (y5 - 1) < (↑x0_10.length:Int))) <|
   gn x0_10 ((IntKind.i64.wrap (y5 - 1)).toNat) fun _=>
   self (IntKind.i64.wrap (x0_3+1)) (x0_10.set (IntKind.i64.wrap (y5 - 1)).toNat true))
   (self (IntKind.i64.wrap (x0_3+1)) x0_10))
  (k0 x0_0 x0_4 x0_5 x0_6 x0_7 x0_8 x0_9 x0_10)
def w30b0:Code:=atC [1,1,0,1,0,0] w30b
def w30m0:Nm:=⟨[2,3,4,5,6,15,16,17],[],[]⟩
def w30I0 (x:Bool×(List Int)×Int×Int×(List Int)×Int×Int×(List Int)×Int×Int×(List Bool)):Sg:=⟨[(2,.ref 0 0),(3,.ref 1 0),(4,.nilS),(5,.e .bo x.1),(6,.own 2),(15,.e (.sl (.i .i64)) x.2.1),(16,.e (.i .i64) x.2.2.1),(17,.e (.i .i64) x.2.2.2.1)],[(0,.box 51 [.e (.sl (.i .i64)) x.2.2.2.2.1,.e (.i .i64) x.2.2.2.2.2.1,.e (.i .i64) x.2.2.2.2.2.2.1]),(1,.box 51 [.e (.sl (.i .i64)) x.2.2.2.2.2.2.2.1,.e (.i .i64) x.2.2.2.2.2.2.2.2.1,.e (.i .i64) x.2.2.2.2.2.2.2.2.2.1]),(2,.row 4 .bo x.2.2.2.2.2.2.2.2.2.2 false)],100⟩
def w30u0 (σ:Sg):Bool×(List Int)×Int×Int×(List Int)×Int×Int×(List Int)×Int×Int×(List Bool):=(lvT .bo 5 0 σ,lvT (.sl (.i .i64)) 15 0 σ,lvT (.i .i64) 16 0 σ,lvT (.i .i64) 17 0 σ,lvH (.sl (.i .i64)) 0 0 σ,lvH (.i .i64) 0 1 σ,lvH (.i .i64) 0 2 σ,lvH (.sl (.i .i64)) 1 0 σ,lvH (.i .i64) 1 1 σ,lvH (.i .i64) 1 2 σ,lvR .bo 2 σ)
theorem w30ui0:∀ x,w30u0 (w30I0 x)=x:=fun _=>by kernel_rfl
def w30X0_0 (y:Bool×(List Int)×Int×Int×(List Int)×Int×Int×(List Bool)):Exit×Sg:=((.exit 0),⟨[(2,.ref 0 0),(3,.ref 1 0),(4,.nilS),(5,.e .bo y.1),(6,.own 2)],[(0,.box 51 [.e (.sl (.i .i64)) y.2.1,.e (.i .i64) y.2.2.1,.e (.i .i64) y.2.2.2.1]),(1,.box 51 [.e (.sl (.i .i64)) y.2.2.2.2.1,.e (.i .i64) y.2.2.2.2.2.1,.e (.i .i64) y.2.2.2.2.2.2.1]),(2,.row 4 .bo y.2.2.2.2.2.2.2 false)],100⟩)
def w30v0_0 (_:Exit) (σ:Sg):Bool×(List Int)×Int×Int×(List Int)×Int×Int×(List Bool):=(lvT .bo 5 0 σ,lvH (.sl (.i .i64)) 0 0 σ,lvH (.i .i64) 0 1 σ,lvH (.i .i64) 0 2 σ,lvH (.sl (.i .i64)) 1 0 σ,lvH (.i .i64) 1 1 σ,lvH (.i .i64) 1 2 σ,lvR .bo 2 σ)
def w30w0:List (Exit×Nm):=[((.exit 0),⟨[2,3,4,5,6],[],[]⟩)]
def w30l0 [Alg] (N:Nat):Nat->(Bool×(List Int)×Int×Int×(List Int)×Int×Int×(List Int)×Int×Int×(List Bool))->((Bool×(List Int)×Int×Int×(List Int)×Int×Int×(List Bool))->O)->((Unit)->O)->((Unit)->O)->O
 | 0,_,_,_,_=>none
 | n+1,x,k0,k1,k2=>w30F0 N (fun v0 v1=>w30l0 N n (x.1,x.2.1,x.2.2.1,v0,x.2.2.2.2.1,x.2.2.2.2.2.1,x.2.2.2.2.2.2.1,x.2.2.2.2.2.2.2.1,x.2.2.2.2.2.2.2.2.1,x.2.2.2.2.2.2.2.2.2.1,v1) k0 k1 k2) (fun y0 y1 y2 y3 y4 y5 y6 y7=>k0 (y0,y1,y2,y3,y4,y5,y6,y7)) x.1 x.2.1 x.2.2.1 x.2.2.2.2.1 x.2.2.2.2.2.1 x.2.2.2.2.2.2.1 x.2.2.2.2.2.2.2.1 x.2.2.2.2.2.2.2.2.1 x.2.2.2.2.2.2.2.2.2.1 x.2.2.2.1 x.2.2.2.2.2.2.2.2.2.2
def w30n0 [Alg] N a0 a1 a2 a3 a4 a5 a6 a7 a8 a9 a10 (k0:Bool->(List Int)->Int->Int->(List Int)->Int->Int->(List Bool)->O):=w30l0 N N (a0,a1,a2,a3,a4,a5,a6,a7,a8,a9,a10) (fun y=>k0 y.1 y.2.1 y.2.2.1 y.2.2.2.1 y.2.2.2.2.1 y.2.2.2.2.2.1 y.2.2.2.2.2.2.1 y.2.2.2.2.2.2.2) (fun _=>none) (fun _=>none)
def w30s0 [Alg] N a0 a1 a2 a3 a4 a5 a6 a7 a8 a9 a10 (k0:Bool->(List Int)->Int->Int->(List Int)->Int->Int->(List Bool)->O):=subL w30I0 w30u0 (w30l0 N N) (w30I0 (a0,a1,a2,a3,a4,a5,a6,a7,a8,a9,a10)) (fun y=>k0 y.1 y.2.1 y.2.2.1 y.2.2.2.1 y.2.2.2.2.1 y.2.2.2.2.2.1 y.2.2.2.2.2.2.1 y.2.2.2.2.2.2.2) (fun _=>none) (fun _=>none)
theorem w30e0 [Alg] N:w30s0 N=w30n0 N:=funext fun _=>funext fun _=>funext fun _=>funext fun _=>funext fun _=>funext fun _=>funext fun _=>funext fun _=>funext fun _=>funext fun _=>funext fun _=>funext fun _=>subL_I w30ui0 _ _ _ _
theorem w30q0 [Alg] (N:Nat) (self:Sg->O) (K:Exit->Sg->O) (x:Bool×(List Int)×Int×Int×(List Int)×Int×Int×(List Int)×Int×Int×(List Bool)):w30F0 N (fun v0 v1=>self (w30I0 (x.1,x.2.1,x.2.2.1,v0,x.2.2.2.2.1,x.2.2.2.2.2.1,x.2.2.2.2.2.2.1,x.2.2.2.2.2.2.2.1,x.2.2.2.2.2.2.2.2.1,x.2.2.2.2.2.2.2.2.2.1,v1))) (fun y0 y1 y2 y3 y4 y5 y6 y7=>K (w30X0_0 (y0,y1,y2,y3,y4,y5,y6,y7)).1 (w30X0_0 (y0,y1,y2,y3,y4,y5,y6,y7)).2) x.1 x.2.1 x.2.2.1 x.2.2.2.2.1 x.2.2.2.2.2.1 x.2.2.2.2.2.2.1 x.2.2.2.2.2.2.2.1 x.2.2.2.2.2.2.2.2.1 x.2.2.2.2.2.2.2.2.2.1 x.2.2.2.1 x.2.2.2.2.2.2.2.2.2.2=exec (w30c N) Tryd.f30.ntmps .d w30b0 (w30I0 x) (roundX w30m0 w30w0 self K):=by kernel_rfl
theorem w30S0 N (hc:CxOk (w30c N)):SubOk (w30c N) Tryd.f30.ntmps (.loop w30b0) w30X0_0 (noX 1) (noX 2) (subL w30I0 w30u0 (w30l0 N N)):=
 sub_loop hc (hk_d w30b0) (oK1 w30v0_0 (.exit 0) (fun _=>by kernel_rfl) (fun _=>rfl) (by kernel_rfl)) (n:=N) (fun x K=>loop_ind (w30l0 N) (fun _ _ _ _=>rfl) (fun n K ih x=>by
  refine Eq.trans ?_ (w30q0 N _ K x);simp only [← ih];rfl) N x K)
def w30G [Alg] (N:Nat) (in0:Bool->(List Int)->Int->Int->(List Int)->Int->Int->(List Int)->Int->Int->(List Bool)->(Bool->(List Int)->Int->Int->(List Int)->Int->Int->(List Bool)->O)->O) (a0_0:(List Int)) (a0_1 a0_2:Int) (b1_0:(List Int)) (b1_1 b1_2:Int):O:=
 ck true <|
 ck true <|
 ck (w48p N [a0_0,b1_0]) <|
 in0 false (w48y0 N [a0_0,b1_0]) ((↑(w48y0 N [a0_0,b1_0]).length:Int)) 0 a0_0 a0_1 a0_2 b1_0 b1_1 b1_2 [false,false,false,false,false,false,false,false,false,false,false,false,false,false,false,false]
  (fun _ z8 z9 z10 z11 z12 z13 z14=>
   ck (w32p N z8 z9 z10 z14) <|
   ck (!w32y0 N z8 z9 z10 z14||w32p N z11 z12 z13 z14) <|
   some (w30r0 z14 (w32y0 N z8 z9 z10 z14&&w32y0 N z11 z12 z13 z14)))
def w30 [Alg] N a0_0 a0_1 a0_2 b1_0 b1_1 b1_2:=w30G N (w30n0 N) a0_0 a0_1 a0_2 b1_0 b1_1 b1_2
def w30h [Alg] (N:Nat):Hint:=(.seq .d (.seq .d (.seq (.seq .d (.block (.sub w30m0 _ _ _ w30X0_0 (noX 1) (noX 2) (subL w30I0 w30u0 (w30l0 N N))))) (.seq (.reg [] [.slr 6] []) .d))))
theorem w30hk N (hc:CxOk (w30c N)):HintOk (w30c N) Tryd.f30.ntmps (w30h N) w30b:=hk_of _ _ (And.intro trivial (And.intro trivial (And.intro (And.intro trivial (w30S0 N hc)) (And.intro trivial trivial))))
theorem w30q [Alg] N a0_0 a0_1 a0_2 b1_0 b1_1 b1_2:w30G N (w30s0 N) a0_0 a0_1 a0_2 b1_0 b1_1 b1_2=exec (w30c N) Tryd.f30.ntmps (w30h N) w30b ⟨argT 0 [.agg [.e (.sl (.i .i64)) a0_0,.e (.i .i64) a0_1,.e (.i .i64) a0_2],.agg [.e (.sl (.i .i64)) b1_0,.e (.i .i64) b1_1,.e (.i .i64) b1_2]],[],100⟩ (finX (w30c N) Tryd.f30 false):=by kernel_rfl
def w30un (r:Res):Option ((List Bool)×Bool):=match r with
 | (.tup [x0,x1],[])=>(match ue (.sl .bo) x0,ue .bo x1 with | some a0,some a1=>some (a0,a1) | _,_=>none)
 | _=>none
theorem w30uo {r d} (h:w30un r=some d):r=w30r0 d.1 d.2:=by
 unfold w30un at h;split at h
 ·split at h
  ·rename_i h0 h1;cases h;rw [ue_some h0,ue_some h1];rfl
  ·cases h
 ·cases h
def w30z N a0_0 a0_1 a0_2 b1_0 b1_1 b1_2:=(w30 N a0_0 a0_1 a0_2 b1_0 b1_1 b1_2).bind w30un
theorem w30fin {N} (hc:CxOk (w30c N)) {a0_0 a0_1 a0_2 b1_0 b1_1 b1_2 d} (hd:w30z N a0_0 a0_1 a0_2 b1_0 b1_1 b1_2=some d):DoK Tryd.prog 30 [.agg [.e (.sl (.i .i64)) a0_0,.e (.i .i64) a0_1,.e (.i .i64) a0_2],.agg [.e (.sl (.i .i64)) b1_0,.e (.i .i64) b1_1,.e (.i .i64) b1_2]] [] (w30r0 d.1 d.2):=
 finJ hc (by kernel_rfl) (by kernel_rfl) (w30hk N hc) (by kernel_rfl) w30uo (fun hr=>(w30q N a0_0 a0_1 a0_2 b1_0 b1_1 b1_2).symm.trans (by rw [w30e0 N];exact hr)) hd
def w30p N a0_0 a0_1 a0_2 b1_0 b1_1 b1_2:=(w30z N a0_0 a0_1 a0_2 b1_0 b1_1 b1_2).isSome
def w30y0 N a0_0 a0_1 a0_2 b1_0 b1_1 b1_2:=((w30z N a0_0 a0_1 a0_2 b1_0 b1_1 b1_2).getD ([],false)).1
def w30y1 N a0_0 a0_1 a0_2 b1_0 b1_1 b1_2:=((w30z N a0_0 a0_1 a0_2 b1_0 b1_1 b1_2).getD ([],false)).2
def w30e (N:Nat):Ent':=E2 (.pr (.sl (.i .i64)) (.pr (.i .i64) (.i .i64))) (.pr (.sl (.i .i64)) (.pr (.i .i64) (.i .i64))) (fun x0 x1=>(w30p N x0.1 x0.2.1 x0.2.2 x1.1 x1.2.1 x1.2.2,w30r0 (w30y0 N x0.1 x0.2.1 x0.2.2 x1.1 x1.2.1 x1.2.2) (w30y1 N x0.1 x0.2.1 x0.2.2 x1.1 x1.2.1 x1.2.2)))
theorem w30ok N:EOk Tryd.prog 30 (w30e N):=EOk.e2 (fun x0 x1 h=>okG (z:=w30z N x0.1 x0.2.1 x0.2.2 x1.1 x1.2.1 x1.2.2) h (w30fin (w30cx N)) rfl)
end
end Go.Proofs
