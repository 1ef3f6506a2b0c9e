/- What functions do: the reader, sizes. Conditions are in the theorems. -/
import Derived.Test.YtlhdefefoaldfaaGreatDoorE7
import Derived.Test.YtlhdefefoaldfaaGreatDoorProg
import Derived.KernelRfl
import Derived.Test.YtlhdefefoaldfaaGreatDoorF0
/- What functions do. -/
namespace Go.Proofs
noncomputable section
open Go.Ax Go.Ax.Alg Go.RowKit Go.Ab
open Go
abbrev YF1:=List UInt8
def w77r0 (a0:UInt8) (a1:YF1) (a2:Int):Res:=(.e .u8 a0,[(50,.box 100 [.e .tx a1,.e (.i .i64) a2])])
def w77L (_:Nat):List (Nat×Ent'):=[]
def w77c (N:Nat):Cx:=⟨Tryz.prog,25,w77L N,[]⟩
def w77b:Code:=Tryz.f77.body.getD .skip
theorem w77cx (N:Nat):CxOk (w77c N):=ctx_ok (by kernel_rfl) .nil .nil
def w77F0 [Alg] (_:Nat)  (self:Int->O) (k0:YF1->Int->O) (x0_0:YF1) (x0_1:Int):O:=
 gc (decide (x0_1 < (↑x0_0.length:Int))) 0 x0_0 x0_1 fun y3=>
 br (decide (x0_1 < (↑x0_0.length:Int))&&decide (y3=32))
  (self (IntKind.i64.wrap (x0_1+1)))
  (k0 x0_0 x0_1)
def w77b0:Code:=atC [1,0,0,0] w77b
def w77m0:Nm:=⟨[0],[],[]⟩
def w77I0 (x:YF1×Int):Sg:=⟨[(0,.ref 50 0)],[(50,.box 100 [.e .tx x.1,.e (.i .i64) x.2])],100⟩
def w77u0 (σ:Sg):YF1×Int:=(lvH .tx 50 0 σ,lvH (.i .i64) 50 1 σ)
theorem w77ui0:∀ x,w77u0 (w77I0 x)=x:=fun _=>by kernel_rfl
def w77X0_0 (y:YF1×Int):Exit×Sg:=((.exit 0),⟨[(0,.ref 50 0)],[(50,.box 100 [.e .tx y.1,.e (.i .i64) y.2])],100⟩)
def w77v0_0 (_:Exit) (σ:Sg):YF1×Int:=(lvH .tx 50 0 σ,lvH (.i .i64) 50 1 σ)
def w77w0:List (Exit×Nm):=[((.exit 0),⟨[0],[],[]⟩)]
theorem w77o0:Outs w77v0_0 (fun _ _=>()) (fun _ _=>()) w77X0_0 (noX 1) (noX 2) (exC (.exit 0)) (exC (.goto 1)) (exC (.goto 2)):=⟨fun _=>by kernel_rfl,fun _=>by kernel_rfl,fun _=>by kernel_rfl,fun _=>by kernel_rfl,fun _=>by kernel_rfl,fun _=>by kernel_rfl,exNe_ok (by kernel_rfl),exNe_ok (by kernel_rfl),exNe_ok (by kernel_rfl)⟩
def w77l0 [Alg] (N:Nat):Nat->(YF1×Int)->((YF1×Int)->O)->((Unit)->O)->((Unit)->O)->O
 | 0,_,_,_,_=>none
 | n+1,x,k0,k1,k2=>w77F0 N  (fun v0=>w77l0 N n (x.1,v0) k0 k1 k2) (fun y0 y1=>k0 (y0,y1)) x.1 x.2
def w77n0 [Alg] (N:Nat) (a0:YF1) (a1:Int) (k0:YF1->Int->O):O:=w77l0 N N (a0,a1) (fun y=>k0 y.1 y.2) (fun _=>none) (fun _=>none)
def w77s0 [Alg] (N:Nat) (a0:YF1) (a1:Int) (k0:YF1->Int->O):O:=subL w77I0 w77u0 (w77l0 N N) (w77I0 (a0,a1)) (fun y=>k0 y.1 y.2) (fun _=>none) (fun _=>none)
theorem w77e0 [Alg] (N:Nat):w77s0 N=w77n0 N:=funext fun _=>funext fun _=>funext fun _=>subL_I w77ui0 _ _ _ _
def w77h0 [Alg] (_:Nat):Hint:=.d
theorem w77hk0 (N:Nat):HintOk (w77c N) Tryz.f77.ntmps (w77h0 N) w77b0:=hk_of _ _ trivial
theorem w77q0 [Alg] (N:Nat) (self:Sg->O) (K:Exit->Sg->O) (x:YF1×Int):w77F0 N  (fun v0=>self (w77I0 (x.1,v0))) (fun y0 y1=>K (w77X0_0 (y0,y1)).1 (w77X0_0 (y0,y1)).2) x.1 x.2=exec (w77c N) Tryz.f77.ntmps (w77h0 N) w77b0 (w77I0 x) (roundX w77m0 w77w0 self K):=by kernel_rfl
theorem w77S0 (N:Nat) (hc:CxOk (w77c N)):SubOk (w77c N) Tryz.f77.ntmps (.loop w77b0) w77X0_0 (noX 1) (noX 2) (subL w77I0 w77u0 (w77l0 N N)):=
 sub_loop hc (w77hk0 N) w77o0 (n:=N) (fun x K=>loop_ind (w77l0 N) (fun _ _ _ _=>rfl) (fun n K ih x=>by
  refine Eq.trans ?_ (w77q0 N _ K x)
  simp only [← ih]
  rfl) N x K)
def w77G [Alg] (_:Nat) (in0:YF1->Int->(YF1->Int->O)->O) (g0:YF1) (g1:Int):O:=
 in0 g0 g1
  (fun z4 z5=>
   br (decide (z5=(↑z4.length:Int)))
    (some (w77r0 0 z4 z5))
    (gx z4 z5 fun y6=>
    some (w77r0 y6 z4 z5)))
def w77 [Alg] (N:Nat) (g0:YF1) (g1:Int):O:=w77G N (w77n0 N) g0 g1
def w77h [Alg] (N:Nat):Hint:=(.seq .d (.seq (.block (.sub w77m0 _ _ _ w77X0_0 (noX 1) (noX 2) (subL w77I0 w77u0 (w77l0 N N)))) .d))
theorem w77hk (N:Nat) (hc:CxOk (w77c N)):HintOk (w77c N) Tryz.f77.ntmps (w77h N) w77b:=hk_of _ _ (And.intro trivial (And.intro (w77S0 N hc) trivial))
theorem w77q [Alg] (N:Nat) (g0:YF1) (g1:Int):w77G N (w77s0 N) g0 g1=exec (w77c N) Tryz.f77.ntmps (w77h N) w77b ⟨argT 0 [.ref 50 0],[(50,.box 100 [.e .tx g0,.e (.i .i64) g1])],100⟩ (finX (w77c N) Tryz.f77 false):=by kernel_rfl
def w77un (r:Res):Option (UInt8×YF1×Int):=match r with
 | (x0,[(50,.box 100 [x1,x2])])=>(match ue .u8 x0,ue .tx x1,ue (.i .i64) x2 with | some a0,some a1,some a2=>some (a0,a1,a2) | _,_,_=>none)
 | _=>none
theorem w77uo {r:Res} {d:UInt8×YF1×Int} (h:w77un r=some d):r=w77r0 (d.1) (d.2.1) (d.2.2):=by
 unfold w77un at h
 split at h
 ·split at h
  ·rename_i h0 h1 h2;cases h;rw [ue_some h0,ue_some h1,ue_some h2];rfl
  ·cases h
 ·cases h
def w77z (N:Nat) (g0:YF1) (g1:Int):Option (UInt8×YF1×Int):=(w77 N g0 g1).bind w77un
theorem w77fin {N:Nat} (hc:CxOk (w77c N)) {g0:YF1} {g1:Int} {d:UInt8×YF1×Int} (hd:w77z N g0 g1=some d):Does Tryz.prog 77 (([.ref 50 0]:List X).map X.D) (HA [(50,.box 100 [.e .tx g0,.e (.i .i64) g1])]) (w77r0 (d.1) (d.2.1) (d.2.2)).1.D (HA (w77r0 (d.1) (d.2.1) (d.2.2)).2):=by
 obtain ⟨r,hr,hu⟩:=Option.bind_eq_some_iff.1 hd
 have:=fun_ok (r:=r) hc (f:=77) (fn:=Tryz.f77) (code:=w77b) (by kernel_rfl) (by kernel_rfl) (w77hk N hc) (Nat.le_of_ble_eq_true (by kernel_rfl)) (ow:=false) ((w77q N g0 g1).symm.trans (by rw [w77e0 N];exact hr))
 rw [w77uo hu] at this
 exact this
def w77p (N:Nat) (g0:YF1) (g1:Int):Bool:=(w77z N g0 g1).isSome
def w77y0 (N:Nat) (g0:YF1) (g1:Int):UInt8:=((w77z N g0 g1).getD (0,[],0)).1
def w77y1 (N:Nat) (g0:YF1) (g1:Int):YF1:=((w77z N g0 g1).getD (0,[],0)).2.1
def w77y2 (N:Nat) (g0:YF1) (g1:Int):Int:=((w77z N g0 g1).getD (0,[],0)).2.2
def w77in (xs:List X) (H:XH):Option (YF1×Int):=match xs,H with
 | [.ref 50 0],[(50,.box 100 [x0,x1])]=>(match ue .tx x0,ue (.i .i64) x1 with | some a0,some a1=>some (a0,a1) | _,_=>none)
 | _,_=>none
theorem w77io {xs:List X} {H:XH} {d:YF1×Int} (h:w77in xs H=some d):xs=[.ref 50 0]/\H=[(50,.box 100 [.e .tx (d.1),.e (.i .i64) (d.2)])]:=by
 unfold w77in at h
 split at h
 ·split at h
  ·rename_i h0 h1;cases h;rw [ue_some h0,ue_some h1];exact ⟨rfl,rfl⟩
  ·cases h
 ·cases h
def w77e (N:Nat):Ent':=fun xs H=>match w77in xs H with | some d=>some (w77p N (d.1) (d.2),w77r0 (w77y0 N (d.1) (d.2)) (w77y1 N (d.1) (d.2)) (w77y2 N (d.1) (d.2))) | none=>none
theorem w77re {N:Nat} {g0:YF1} {g1:Int} {d:UInt8×YF1×Int} (hd:w77z N g0 g1=some d):w77r0 (w77y0 N g0 g1) (w77y1 N g0 g1) (w77y2 N g0 g1)=w77r0 (d.1) (d.2.1) (d.2.2):=by unfold w77y0 w77y1 w77y2;rw [hd];rfl
theorem w77ok (N:Nat):EOk Tryz.prog 77 (w77e N):=fun xs H pre r he hp=>by
 unfold w77e at he
 split at he
 ·rename_i d hd
  have he:=Option.some.inj he
  have h1:=congrArg Prod.fst he
  have h2:=congrArg Prod.snd he
  simp only at h1 h2
  obtain ⟨e1,e2⟩:=w77io hd
  rw [e1,e2,← h2]
  have h:(w77z N (d.1) (d.2)).isSome=true:=h1.trans hp
  obtain ⟨d',hd'⟩:=Option.isSome_iff_exists.1 h
  have f:=w77fin (w77cx N) hd'
  rw [← w77re hd'] at f
  exact f
 ·cases he
def w78r0  : Res:=(.tup [],[])
def w78r1 (a0:Int) (a1:YF1) (a2:Int):Res:=(.pan (.iface 96 (.int .i64 a0)),[(50,.box 100 [.e .tx a1,.e (.i .i64) a2])])
def w78L (_:Nat):List (Nat×Ent'):=[]
def w78c (N:Nat):Cx:=⟨Tryz.prog,25,w78L N,[]⟩
def w78b:Code:=Tryz.f78.body.getD .skip
theorem w78cx (N:Nat):CxOk (w78c N):=ctx_ok (by kernel_rfl) .nil .nil
def w78G [Alg] (_:Nat)  (g0:YF1) (g1:Int):O:=
 some (w78r1 g1 g0 g1)
def w78 [Alg] (N:Nat) (g0:YF1) (g1:Int):O:=w78G N  g0 g1
def w78h [Alg] (_:Nat):Hint:=.d
theorem w78hk (N:Nat):HintOk (w78c N) Tryz.f78.ntmps (w78h N) w78b:=hk_of _ _ trivial
theorem w78q [Alg] (N:Nat) (g0:YF1) (g1:Int):w78G N  g0 g1=exec (w78c N) Tryz.f78.ntmps (w78h N) w78b ⟨argT 0 [.ref 50 0],[(50,.box 100 [.e .tx g0,.e (.i .i64) g1])],100⟩ (finX (w78c N) Tryz.f78 false):=by kernel_rfl
theorem w78does {N:Nat} (hc:CxOk (w78c N)) {g0:YF1} {g1:Int} {r:Res} (h:w78 N g0 g1=some r):DoesR Tryz.prog 78 (([.ref 50 0]:List X).map X.D) (HA [(50,.box 100 [.e .tx g0,.e (.i .i64) g1])]) r:=
 fun_ok hc (f:=78) (fn:=Tryz.f78) (code:=w78b) (by kernel_rfl) (by kernel_rfl) (w78hk N) (Nat.le_of_ble_eq_true (by kernel_rfl)) (ow:=false) ((w78q N g0 g1).symm.trans (by exact h))
def w78un (r:Res):Option ((Unit) ⊕ (Int×YF1×Int)):=match r with
 | (.pan (.iface 96 (.int .i64 a0)),[(50,.box 100 [x1,x2])])=>(match ue .tx x1,ue (.i .i64) x2 with | some a1,some a2=>some (.inr (a0,a1,a2)) | _,_=>none)
 | _=>none
theorem w78uop {r:Res} {d:Int×YF1×Int} (h:w78un r=some (.inr d)):r=w78r1 (d.1) (d.2.1) (d.2.2):=by
 unfold w78un at h
 split at h
 ·split at h
  ·rename_i h1 h2;cases h;rw [ue_some h1,ue_some h2];rfl
  ·cases h
 ·cases h
def w78z (N:Nat) (g0:YF1) (g1:Int):Option ((Unit) ⊕ (Int×YF1×Int)):=(w78 N g0 g1).bind w78un
theorem w78finp {N:Nat} (hc:CxOk (w78c N)) {g0:YF1} {g1:Int} {d:Int×YF1×Int} (hd:w78z N g0 g1=some (.inr d)):DoesR Tryz.prog 78 (([.ref 50 0]:List X).map X.D) (HA [(50,.box 100 [.e .tx g0,.e (.i .i64) g1])]) (w78r1 (d.1) (d.2.1) (d.2.2)):=by
 obtain ⟨r,hr,hu⟩:=Option.bind_eq_some_iff.1 hd
 have:=w78does hc hr
 rw [w78uop hu] at this
 exact this
def w78in (xs:List X) (H:XH):Option (YF1×Int):=match xs,H with
 | [.ref 50 0],[(50,.box 100 [x0,x1])]=>(match ue .tx x0,ue (.i .i64) x1 with | some a0,some a1=>some (a0,a1) | _,_=>none)
 | _,_=>none
theorem w78io {xs:List X} {H:XH} {d:YF1×Int} (h:w78in xs H=some d):xs=[.ref 50 0]/\H=[(50,.box 100 [.e .tx (d.1),.e (.i .i64) (d.2)])]:=by
 unfold w78in at h
 split at h
 ·split at h
  ·rename_i h0 h1;cases h;rw [ue_some h0,ue_some h1];exact ⟨rfl,rfl⟩
  ·cases h
 ·cases h
def w78p (N:Nat) (g0:YF1) (g1:Int):Bool:=(w78z N g0 g1).isSome
def w78pv0 (N:Nat) (g0:YF1) (g1:Int):Int:=(sumR (0,[],0) (w78z N g0 g1)).1
def w78pv1 (N:Nat) (g0:YF1) (g1:Int):YF1:=(sumR (0,[],0) (w78z N g0 g1)).2.1
def w78pv2 (N:Nat) (g0:YF1) (g1:Int):Int:=(sumR (0,[],0) (w78z N g0 g1)).2.2
def w78e (N:Nat):EntP:=entQ w78in (fun d=>w78p N (d.1) (d.2)) (fun _=>none) (fun _=>w78r0 ) (fun d=>w78r1 (w78pv0 N (d.1) (d.2)) (w78pv1 N (d.1) (d.2)) (w78pv2 N (d.1) (d.2)))
theorem w78nl (N:Nat) (g0:YF1) (g1:Int) (y:Unit):w78z N g0 g1≠some (.inl y):=fun h=>by
 obtain ⟨r,_,hu⟩:=Option.bind_eq_some_iff.1 h
 unfold w78un at hu
 split at hu
 ·split at hu
  ·cases hu
  ·cases hu
 ·cases hu
theorem w78ok (N:Nat):EOkP Tryz.prog 78 (w78e N):=entQ_ok w78io (fun d h=>panOnly (zz:=w78z N (d.1) (d.2)) (R':=fun y=>w78r1 (y.1) (y.2.1) (y.2.2)) (d0':=(0,[],0)) (fun y=>w78nl N (d.1) (d.2) y) (fun _ hy=>w78finp (w78cx N) hy) h)
def w110r0 (a0 a1:Int) (a2:(List Ex)) (a3:YF1) (a4:Int):Res:=(.agg [.e (.i .i64) a0,.e (.i .i64) a1,.e (.sl .ex) a2],[(50,.box 100 [.e .tx a3,.e (.i .i64) a4])])
def w110r1 (a0:Int) (a1:YF1) (a2:Int):Res:=(.pan (.iface 96 (.int .i64 a0)),[(50,.box 100 [.e .tx a1,.e (.i .i64) a2])])
def w110L (N:Nat):List (Nat×Ent'):=[(117,w117e N)]
def w110Lp (N:Nat):List (Nat×EntP):=[(78,w78e N)]
def w110c (N:Nat):Cx:=⟨Tryz.prog,25,w110L N,w110Lp N⟩
def w110b:Code:=Tryz.f110.body.getD .skip
theorem w110cx (N:Nat):CxOk (w110c N):=ctx_ok (by kernel_rfl) (.cons (by kernel_rfl) (w117ok N) .nil) (.cons (by kernel_rfl) (w78ok N) .nil)
def w110F0 [Alg] (_:Nat)  (self:Int->O) (k0:Int->YF1->Int->Int->Int->O) (x0_1:YF1) (x0_2 x0_3 x0_4 x0_0:Int):O:=
 gc (decide (x0_0 < (↑x0_1.length:Int))) 0 x0_1 x0_0 fun y5=>
 gc (decide (x0_0 < (↑x0_1.length:Int))&&decide (48<=y5)) 0 x0_1 x0_0 fun y6=>
 br (decide (x0_0 < (↑x0_1.length:Int))&&decide (48<=y5)&&decide (y6<=57))
  (self (IntKind.i64.wrap (x0_0+1)))
  (k0 x0_0 x0_1 x0_2 x0_3 x0_4)
def w110b0:Code:=atC [1,1,0,0,0] w110b
def w110m0:Nm:=⟨[0,2,7,3],[],[]⟩
def w110I0 (x:Int×YF1×Int×Int×Int):Sg:=⟨[(0,.ref 50 0),(2,.ref 0 0),(7,.ref 50 0),(3,.e (.i .i64) x.1)],[(50,.box 100 [.e .tx x.2.1,.e (.i .i64) x.2.2.1]),(0,.box 25 [.e (.i .i64) x.2.2.2.1,.e (.i .i64) x.2.2.2.2,.nilS])],100⟩
def w110u0 (σ:Sg):Int×YF1×Int×Int×Int:=(lvT (.i .i64) 3 0 σ,lvH .tx 50 0 σ,lvH (.i .i64) 50 1 σ,lvH (.i .i64) 0 0 σ,lvH (.i .i64) 0 1 σ)
theorem w110ui0:∀ x,w110u0 (w110I0 x)=x:=fun _=>by kernel_rfl
def w110X0_0 (y:Int×YF1×Int×Int×Int):Exit×Sg:=((.exit 0),⟨[(0,.ref 50 0),(2,.ref 0 0),(7,.ref 50 0),(3,.e (.i .i64) y.1)],[(50,.box 100 [.e .tx y.2.1,.e (.i .i64) y.2.2.1]),(0,.box 25 [.e (.i .i64) y.2.2.2.1,.e (.i .i64) y.2.2.2.2,.nilS])],100⟩)
def w110v0_0 (_:Exit) (σ:Sg):Int×YF1×Int×Int×Int:=(lvT (.i .i64) 3 0 σ,lvH .tx 50 0 σ,lvH (.i .i64) 50 1 σ,lvH (.i .i64) 0 0 σ,lvH (.i .i64) 0 1 σ)
def w110w0:List (Exit×Nm):=[((.exit 0),⟨[0,2,7,3],[],[]⟩)]
theorem w110o0:Outs w110v0_0 (fun _ _=>()) (fun _ _=>()) w110X0_0 (noX 1) (noX 2) (exC (.exit 0)) (exC (.goto 1)) (exC (.goto 2)):=⟨fun _=>by kernel_rfl,fun _=>by kernel_rfl,fun _=>by kernel_rfl,fun _=>by kernel_rfl,fun _=>by kernel_rfl,fun _=>by kernel_rfl,exNe_ok (by kernel_rfl),exNe_ok (by kernel_rfl),exNe_ok (by kernel_rfl)⟩
def w110l0 [Alg] (N:Nat):Nat->(Int×YF1×Int×Int×Int)->((Int×YF1×Int×Int×Int)->O)->((Unit)->O)->((Unit)->O)->O
 | 0,_,_,_,_=>none
 | n+1,x,k0,k1,k2=>w110F0 N  (fun v0=>w110l0 N n (v0,x.2.1,x.2.2.1,x.2.2.2.1,x.2.2.2.2) k0 k1 k2) (fun y0 y1 y2 y3 y4=>k0 (y0,y1,y2,y3,y4)) x.2.1 x.2.2.1 x.2.2.2.1 x.2.2.2.2 x.1
def w110n0 [Alg] (N:Nat) (a0:Int) (a1:YF1) (a2 a3 a4:Int) (k0:Int->YF1->Int->Int->Int->O):O:=w110l0 N N (a0,a1,a2,a3,a4) (fun y=>k0 y.1 y.2.1 y.2.2.1 y.2.2.2.1 y.2.2.2.2) (fun _=>none) (fun _=>none)
def w110s0 [Alg] (N:Nat) (a0:Int) (a1:YF1) (a2 a3 a4:Int) (k0:Int->YF1->Int->Int->Int->O):O:=subL w110I0 w110u0 (w110l0 N N) (w110I0 (a0,a1,a2,a3,a4)) (fun y=>k0 y.1 y.2.1 y.2.2.1 y.2.2.2.1 y.2.2.2.2) (fun _=>none) (fun _=>none)
theorem w110e0 [Alg] (N:Nat):w110s0 N=w110n0 N:=funext fun _=>funext fun _=>funext fun _=>funext fun _=>funext fun _=>funext fun _=>subL_I w110ui0 _ _ _ _
def w110h0 [Alg] (_:Nat):Hint:=.d
theorem w110hk0 (N:Nat):HintOk (w110c N) Tryz.f110.ntmps (w110h0 N) w110b0:=hk_of _ _ trivial
theorem w110q0 [Alg] (N:Nat) (self:Sg->O) (K:Exit->Sg->O) (x:Int×YF1×Int×Int×Int):w110F0 N  (fun v0=>self (w110I0 (v0,x.2.1,x.2.2.1,x.2.2.2.1,x.2.2.2.2))) (fun y0 y1 y2 y3 y4=>K (w110X0_0 (y0,y1,y2,y3,y4)).1 (w110X0_0 (y0,y1,y2,y3,y4)).2) x.2.1 x.2.2.1 x.2.2.2.1 x.2.2.2.2 x.1=exec (w110c N) Tryz.f110.ntmps (w110h0 N) w110b0 (w110I0 x) (roundX w110m0 w110w0 self K):=by kernel_rfl
theorem w110S0 (N:Nat) (hc:CxOk (w110c N)):SubOk (w110c N) Tryz.f110.ntmps (.loop w110b0) w110X0_0 (noX 1) (noX 2) (subL w110I0 w110u0 (w110l0 N N)):=
 sub_loop hc (w110hk0 N) w110o0 (n:=N) (fun x K=>loop_ind (w110l0 N) (fun _ _ _ _=>rfl) (fun n K ih x=>by
  refine Eq.trans ?_ (w110q0 N _ K x)
  simp only [← ih]
  rfl) N x K)
def w110F1 [Alg] (N:Nat)   (k0:Int->YF1->Int->O) (k1:Int->YF1->YF1->Int->Int->Int->O) (x12_0:Int) (x12_1 x12_2:YF1) (x12_3 x12_4 x12_5:Int):O:=
 gc (!decide ((6:Int) < (↑x12_1.length:Int))&&decide ((1:Int) < (↑x12_1.length:Int))) 0 x12_1 0 fun y15=>
 br (decide ((6:Int) < (↑x12_1.length:Int))||decide ((1:Int) < (↑x12_1.length:Int))&&decide (y15=48))
  (ck (w78p N x12_2 x12_3) <|
  k0 (w78pv0 N x12_2 x12_3) (w78pv1 N x12_2 x12_3) (w78pv2 N x12_2 x12_3))
  (k1 x12_0 x12_1 x12_2 x12_3 x12_4 x12_5)
def w110b1:Code:=atC [1,1,1,1,0] w110b
def w110m1:Nm:=⟨[0,2,7,3,4],[],[]⟩
def w110I1 (x:Int×YF1×YF1×Int×Int×Int):Sg:=⟨[(0,.ref 50 0),(2,.ref 0 0),(7,.ref 50 0),(3,.e (.i .i64) x.1),(4,.e .tx x.2.1)],[(50,.box 100 [.e .tx x.2.2.1,.e (.i .i64) x.2.2.2.1]),(0,.box 25 [.e (.i .i64) x.2.2.2.2.1,.e (.i .i64) x.2.2.2.2.2,.nilS])],100⟩
def w110u1 (σ:Sg):Int×YF1×YF1×Int×Int×Int:=(lvT (.i .i64) 3 0 σ,lvT .tx 4 0 σ,lvH .tx 50 0 σ,lvH (.i .i64) 50 1 σ,lvH (.i .i64) 0 0 σ,lvH (.i .i64) 0 1 σ)
theorem w110ui1:∀ x,w110u1 (w110I1 x)=x:=fun _=>by kernel_rfl
def w110X1_0 (y:Int×YF1×Int):Exit×Sg:=((.panic [pent (.iface 96 (.int .i64 y.1))]),⟨[],[(50,.box 100 [.e .tx y.2.1,.e (.i .i64) y.2.2])],100⟩)
def w110v1_0 (e:Exit) (σ:Sg):Int×YF1×Int:=(lvP e,lvH .tx 50 0 σ,lvH (.i .i64) 50 1 σ)
def w110X1_1 (y:Int×YF1×YF1×Int×Int×Int):Exit×Sg:=(.normal,⟨[(0,.ref 50 0),(2,.ref 0 0),(3,.e (.i .i64) y.1),(4,.e .tx y.2.1)],[(50,.box 100 [.e .tx y.2.2.1,.e (.i .i64) y.2.2.2.1]),(0,.box 25 [.e (.i .i64) y.2.2.2.2.1,.e (.i .i64) y.2.2.2.2.2,.nilS])],100⟩)
def w110v1_1 (_:Exit) (σ:Sg):Int×YF1×YF1×Int×Int×Int:=(lvT (.i .i64) 3 0 σ,lvT .tx 4 0 σ,lvH .tx 50 0 σ,lvH (.i .i64) 50 1 σ,lvH (.i .i64) 0 0 σ,lvH (.i .i64) 0 1 σ)
def w110w1:List (Exit×Nm):=[((.panic []),⟨[],[],[]⟩),(.normal,⟨[0,2,3,4],[],[]⟩)]
theorem w110o1:Outs w110v1_0 w110v1_1 (fun _ _=>()) w110X1_0 w110X1_1 (noX 2) (exC (.panic [])) (exC .normal) (exC (.goto 2)):=⟨fun _=>by kernel_rfl,fun _=>by kernel_rfl,fun _=>by kernel_rfl,fun _=>by kernel_rfl,fun _=>by kernel_rfl,fun _=>by kernel_rfl,exNe_ok (by kernel_rfl),exNe_ok (by kernel_rfl),exNe_ok (by kernel_rfl)⟩
def w110l1 [Alg] (N _:Nat) (x:Int×YF1×YF1×Int×Int×Int) (k0:(Int×YF1×Int)->O) (k1:(Int×YF1×YF1×Int×Int×Int)->O) (_:(Unit)->O):O:=w110F1 N   (fun y0 y1 y2=>k0 (y0,y1,y2)) (fun y0 y1 y2 y3 y4 y5=>k1 (y0,y1,y2,y3,y4,y5)) x.1 x.2.1 x.2.2.1 x.2.2.2.1 x.2.2.2.2.1 x.2.2.2.2.2
def w110n1 [Alg] (N:Nat) (a0:Int) (a1 a2:YF1) (a3 a4 a5:Int) (k0:Int->YF1->Int->O) (k1:Int->YF1->YF1->Int->Int->Int->O):O:=w110l1 N N (a0,a1,a2,a3,a4,a5) (fun y=>k0 y.1 y.2.1 y.2.2) (fun y=>k1 y.1 y.2.1 y.2.2.1 y.2.2.2.1 y.2.2.2.2.1 y.2.2.2.2.2) (fun _=>none)
def w110s1 [Alg] (N:Nat) (a0:Int) (a1 a2:YF1) (a3 a4 a5:Int) (k0:Int->YF1->Int->O) (k1:Int->YF1->YF1->Int->Int->Int->O):O:=subL w110I1 w110u1 (w110l1 N N) (w110I1 (a0,a1,a2,a3,a4,a5)) (fun y=>k0 y.1 y.2.1 y.2.2) (fun y=>k1 y.1 y.2.1 y.2.2.1 y.2.2.2.1 y.2.2.2.2.1 y.2.2.2.2.2) (fun _=>none)
theorem w110e1 [Alg] (N:Nat):w110s1 N=w110n1 N:=funext fun _=>funext fun _=>funext fun _=>funext fun _=>funext fun _=>funext fun _=>funext fun _=>funext fun _=>subL_I w110ui1 _ _ _ _
def w110h1 [Alg] (_:Nat):Hint:=.d
theorem w110hk1 (N:Nat):HintOk (w110c N) Tryz.f110.ntmps (w110h1 N) w110b1:=hk_of _ _ trivial
theorem w110q1 [Alg] (N:Nat) (K:Exit->Sg->O) (x:Int×YF1×YF1×Int×Int×Int):w110F1 N   (fun y0 y1 y2=>K (w110X1_0 (y0,y1,y2)).1 (w110X1_0 (y0,y1,y2)).2) (fun y0 y1 y2 y3 y4 y5=>K (w110X1_1 (y0,y1,y2,y3,y4,y5)).1 (w110X1_1 (y0,y1,y2,y3,y4,y5)).2) x.1 x.2.1 x.2.2.1 x.2.2.2.1 x.2.2.2.2.1 x.2.2.2.2.2=exec (w110c N) Tryz.f110.ntmps (w110h1 N) w110b1 (w110I1 x) (partX w110w1 K):=by kernel_rfl
theorem w110S1 (N:Nat) (hc:CxOk (w110c N)):SubOk (w110c N) Tryz.f110.ntmps w110b1 w110X1_0 w110X1_1 (noX 2) (subL w110I1 w110u1 (w110l1 N N)):=
 sub_part hc (w110hk1 N) w110o1 (fun x K=>by
  exact w110q1 N K x)
def w110G [Alg] (N:Nat) (in0:Int->YF1->Int->Int->Int->(Int->YF1->Int->Int->Int->O)->O) (in1:Int->YF1->YF1->Int->Int->Int->(Int->YF1->Int->O)->(Int->YF1->YF1->Int->Int->Int->O)->O) (g0:YF1) (g1:Int):O:=
 in0 g1 g0 g1 0 0
  (fun z7 z8 z9 z10 z11=>
   ck (slcOk z8.length (some z9) (some z7)) <|
   in1 z7 (slc z8 (some z9) (some z7)) z8 z9 z10 z11
    (fun z16 z17 z18=>
     some (w110r1 z16 z17 z18))
    (fun z19 z20 z21 z22 _ _=>
     ck (w117p N z20) <|
     br false
      (ck (w78p N z21 z22) <|
      some (w110r1 (w78pv0 N z21 z22) (w78pv1 N z21 z22) (w78pv2 N z21 z22)))
      (some (w110r0 0 ((w117y0 N z20)) ([]) z21 z19))))
def w110 [Alg] (N:Nat) (g0:YF1) (g1:Int):O:=w110G N (w110n0 N) (w110n1 N) g0 g1
def w110h [Alg] (N:Nat):Hint:=(.seq .d (.seq .d (.seq (.block (.sub w110m0 _ _ _ w110X0_0 (noX 1) (noX 2) (subL w110I0 w110u0 (w110l0 N N)))) (.seq .d (.seq (.sub w110m1 _ _ _ w110X1_0 w110X1_1 (noX 2) (subL w110I1 w110u1 (w110l1 N N))) .d)))))
theorem w110hk (N:Nat) (hc:CxOk (w110c N)):HintOk (w110c N) Tryz.f110.ntmps (w110h N) w110b:=hk_of _ _ (And.intro trivial (And.intro trivial (And.intro (w110S0 N hc) (And.intro trivial (And.intro (w110S1 N hc) trivial)))))
theorem w110q [Alg] (N:Nat) (g0:YF1) (g1:Int):w110G N (w110s0 N) (w110s1 N) g0 g1=exec (w110c N) Tryz.f110.ntmps (w110h N) w110b ⟨argT 0 [.ref 50 0],[(50,.box 100 [.e .tx g0,.e (.i .i64) g1])],100⟩ (finX (w110c N) Tryz.f110 false):=by kernel_rfl
theorem w110does {N:Nat} (hc:CxOk (w110c N)) {g0:YF1} {g1:Int} {r:Res} (h:w110 N g0 g1=some r):DoesR Tryz.prog 110 (([.ref 50 0]:List X).map X.D) (HA [(50,.box 100 [.e .tx g0,.e (.i .i64) g1])]) r:=
 fun_ok hc (f:=110) (fn:=Tryz.f110) (code:=w110b) (by kernel_rfl) (by kernel_rfl) (w110hk N hc) (Nat.le_of_ble_eq_true (by kernel_rfl)) (ow:=false) ((w110q N g0 g1).symm.trans (by rw [w110e0 N,w110e1 N];exact h))
def w110un (r:Res):Option ((Int×Int×(List Ex)×YF1×Int) ⊕ (Int×YF1×Int)):=match r with
 | (.pan (.iface 96 (.int .i64 a0)),[(50,.box 100 [x1,x2])])=>(match ue .tx x1,ue (.i .i64) x2 with | some a1,some a2=>some (.inr (a0,a1,a2)) | _,_=>none)
 | (.agg [x0,x1,x2],[(50,.box 100 [x3,x4])])=>(match ue (.i .i64) x0,ue (.i .i64) x1,ue (.sl .ex) x2,ue .tx x3,ue (.i .i64) x4 with | some a0,some a1,some a2,some a3,some a4=>some (.inl (a0,a1,a2,a3,a4)) | _,_,_,_,_=>none)
 | _=>none
theorem w110uo {r:Res} {d:Int×Int×(List Ex)×YF1×Int} (h:w110un r=some (.inl d)):r=w110r0 (d.1) (d.2.1) (d.2.2.1) (d.2.2.2.1) (d.2.2.2.2):=by
 unfold w110un at h
 split at h
 ·split at h
  ·cases h
  ·cases h
 ·split at h
  ·rename_i h0 h1 h2 h3 h4;cases h;rw [ue_some h0,ue_some h1,ue_some h2,ue_some h3,ue_some h4];rfl
  ·cases h
 ·cases h
theorem w110uop {r:Res} {d:Int×YF1×Int} (h:w110un r=some (.inr d)):r=w110r1 (d.1) (d.2.1) (d.2.2):=by
 unfold w110un at h
 split at h
 ·split at h
  ·rename_i h1 h2;cases h;rw [ue_some h1,ue_some h2];rfl
  ·cases h
 ·split at h
  ·cases h
  ·cases h
 ·cases h
def w110z (N:Nat) (g0:YF1) (g1:Int):Option ((Int×Int×(List Ex)×YF1×Int) ⊕ (Int×YF1×Int)):=(w110 N g0 g1).bind w110un
theorem w110fin {N:Nat} (hc:CxOk (w110c N)) {g0:YF1} {g1:Int} {d:Int×Int×(List Ex)×YF1×Int} (hd:w110z N g0 g1=some (.inl d)):Does Tryz.prog 110 (([.ref 50 0]:List X).map X.D) (HA [(50,.box 100 [.e .tx g0,.e (.i .i64) g1])]) (w110r0 (d.1) (d.2.1) (d.2.2.1) (d.2.2.2.1) (d.2.2.2.2)).1.D (HA (w110r0 (d.1) (d.2.1) (d.2.2.1) (d.2.2.2.1) (d.2.2.2.2)).2):=by
 obtain ⟨r,hr,hu⟩:=Option.bind_eq_some_iff.1 hd
 have:=w110does hc hr
 rw [w110uo hu] at this
 exact this
theorem w110finp {N:Nat} (hc:CxOk (w110c N)) {g0:YF1} {g1:Int} {d:Int×YF1×Int} (hd:w110z N g0 g1=some (.inr d)):DoesR Tryz.prog 110 (([.ref 50 0]:List X).map X.D) (HA [(50,.box 100 [.e .tx g0,.e (.i .i64) g1])]) (w110r1 (d.1) (d.2.1) (d.2.2)):=by
 obtain ⟨r,hr,hu⟩:=Option.bind_eq_some_iff.1 hd
 have:=w110does hc hr
 rw [w110uop hu] at this
 exact this
def w110in (xs:List X) (H:XH):Option (YF1×Int):=match xs,H with
 | [.ref 50 0],[(50,.box 100 [x0,x1])]=>(match ue .tx x0,ue (.i .i64) x1 with | some a0,some a1=>some (a0,a1) | _,_=>none)
 | _,_=>none
theorem w110io {xs:List X} {H:XH} {d:YF1×Int} (h:w110in xs H=some d):xs=[.ref 50 0]/\H=[(50,.box 100 [.e .tx (d.1),.e (.i .i64) (d.2)])]:=by
 unfold w110in at h
 split at h
 ·split at h
  ·rename_i h0 h1;cases h;rw [ue_some h0,ue_some h1];exact ⟨rfl,rfl⟩
  ·cases h
 ·cases h
def w110p (N:Nat) (g0:YF1) (g1:Int):Bool:=(w110z N g0 g1).isSome
def w110b_ (N:Nat) (g0:YF1) (g1:Int):Bool:=isL (w110z N g0 g1)
def w110y0 (N:Nat) (g0:YF1) (g1:Int):Int:=(sumL (0,0,[],[],0) (w110z N g0 g1)).1
def w110y1 (N:Nat) (g0:YF1) (g1:Int):Int:=(sumL (0,0,[],[],0) (w110z N g0 g1)).2.1
def w110y2 (N:Nat) (g0:YF1) (g1:Int):(List Ex):=(sumL (0,0,[],[],0) (w110z N g0 g1)).2.2.1
def w110y3 (N:Nat) (g0:YF1) (g1:Int):YF1:=(sumL (0,0,[],[],0) (w110z N g0 g1)).2.2.2.1
def w110y4 (N:Nat) (g0:YF1) (g1:Int):Int:=(sumL (0,0,[],[],0) (w110z N g0 g1)).2.2.2.2
def w110pv0 (N:Nat) (g0:YF1) (g1:Int):Int:=(sumR (0,[],0) (w110z N g0 g1)).1
def w110pv1 (N:Nat) (g0:YF1) (g1:Int):YF1:=(sumR (0,[],0) (w110z N g0 g1)).2.1
def w110pv2 (N:Nat) (g0:YF1) (g1:Int):Int:=(sumR (0,[],0) (w110z N g0 g1)).2.2
def w110e (N:Nat):EntP:=entQ w110in (fun d=>w110p N (d.1) (d.2)) (fun d=>some (w110b_ N (d.1) (d.2))) (fun d=>w110r0 (w110y0 N (d.1) (d.2)) (w110y1 N (d.1) (d.2)) (w110y2 N (d.1) (d.2)) (w110y3 N (d.1) (d.2)) (w110y4 N (d.1) (d.2))) (fun d=>w110r1 (w110pv0 N (d.1) (d.2)) (w110pv1 N (d.1) (d.2)) (w110pv2 N (d.1) (d.2)))
theorem w110ok (N:Nat):EOkP Tryz.prog 110 (w110e N):=entQ_ok w110io (fun d h=>panStep (zz:=w110z N (d.1) (d.2)) (R:=fun y=>w110r0 (y.1) (y.2.1) (y.2.2.1) (y.2.2.2.1) (y.2.2.2.2)) (R':=fun y=>w110r1 (y.1) (y.2.1) (y.2.2)) (d0:=(0,0,[],[],0)) (d0':=(0,[],0)) (fun _ hy=>w110fin (w110cx N) hy) (fun _ hy=>w110finp (w110cx N) hy) h)
def w111r0 (a0:YF1) (a1:Int):Res:=(.tup [],[(50,.box 100 [.e .tx a0,.e (.i .i64) a1])])
def w111r1 (a0:Int) (a1:YF1) (a2:Int):Res:=(.pan (.iface 96 (.int .i64 a0)),[(50,.box 100 [.e .tx a1,.e (.i .i64) a2])])
def w111L (N:Nat):List (Nat×Ent'):=[(77,w77e N)]
def w111Lp (N:Nat):List (Nat×EntP):=[(78,w78e N)]
def w111c (N:Nat):Cx:=⟨Tryz.prog,25,w111L N,w111Lp N⟩
def w111b:Code:=Tryz.f111.body.getD .skip
theorem w111cx (N:Nat):CxOk (w111c N):=ctx_ok (by kernel_rfl) (.cons (by kernel_rfl) (w77ok N) .nil) (.cons (by kernel_rfl) (w78ok N) .nil)
def w111G [Alg] (N:Nat)  (c1:UInt8) (g0:YF1) (g1:Int):O:=
 ck (w77p N g0 g1) <|
 br (decide (w77y0 N g0 g1≠c1))
  (ck (w78p N (w77y1 N g0 g1) (w77y2 N g0 g1)) <|
  some (w111r1 (w78pv0 N (w77y1 N g0 g1) (w77y2 N g0 g1)) (w78pv1 N (w77y1 N g0 g1) (w77y2 N g0 g1)) (w78pv2 N (w77y1 N g0 g1) (w77y2 N g0 g1))))
  (some (w111r0 (w77y1 N g0 g1) (IntKind.i64.wrap (w77y2 N g0 g1+(1:Int)))))
def w111 [Alg] (N:Nat) (c1:UInt8) (g0:YF1) (g1:Int):O:=w111G N  c1 g0 g1
def w111h [Alg] (_:Nat):Hint:=.d
theorem w111hk (N:Nat):HintOk (w111c N) Tryz.f111.ntmps (w111h N) w111b:=hk_of _ _ trivial
theorem w111q [Alg] (N:Nat) (c1:UInt8) (g0:YF1) (g1:Int):w111G N  c1 g0 g1=exec (w111c N) Tryz.f111.ntmps (w111h N) w111b ⟨argT 0 [.ref 50 0,.e .u8 c1],[(50,.box 100 [.e .tx g0,.e (.i .i64) g1])],100⟩ (finX (w111c N) Tryz.f111 false):=by kernel_rfl
theorem w111does {N:Nat} (hc:CxOk (w111c N)) {c1:UInt8} {g0:YF1} {g1:Int} {r:Res} (h:w111 N c1 g0 g1=some r):DoesR Tryz.prog 111 (([.ref 50 0,.e .u8 c1]:List X).map X.D) (HA [(50,.box 100 [.e .tx g0,.e (.i .i64) g1])]) r:=
 fun_ok hc (f:=111) (fn:=Tryz.f111) (code:=w111b) (by kernel_rfl) (by kernel_rfl) (w111hk N) (Nat.le_of_ble_eq_true (by kernel_rfl)) (ow:=false) ((w111q N c1 g0 g1).symm.trans (by exact h))
def w111un (r:Res):Option ((YF1×Int) ⊕ (Int×YF1×Int)):=match r with
 | (.pan (.iface 96 (.int .i64 a0)),[(50,.box 100 [x1,x2])])=>(match ue .tx x1,ue (.i .i64) x2 with | some a1,some a2=>some (.inr (a0,a1,a2)) | _,_=>none)
 | (.tup [],[(50,.box 100 [x0,x1])])=>(match ue .tx x0,ue (.i .i64) x1 with | some a0,some a1=>some (.inl (a0,a1)) | _,_=>none)
 | _=>none
theorem w111uo {r:Res} {d:YF1×Int} (h:w111un r=some (.inl d)):r=w111r0 (d.1) (d.2):=by
 unfold w111un at h
 split at h
 ·split at h
  ·cases h
  ·cases h
 ·split at h
  ·rename_i h0 h1;cases h;rw [ue_some h0,ue_some h1];rfl
  ·cases h
 ·cases h
theorem w111uop {r:Res} {d:Int×YF1×Int} (h:w111un r=some (.inr d)):r=w111r1 (d.1) (d.2.1) (d.2.2):=by
 unfold w111un at h
 split at h
 ·split at h
  ·rename_i h1 h2;cases h;rw [ue_some h1,ue_some h2];rfl
  ·cases h
 ·split at h
  ·cases h
  ·cases h
 ·cases h
def w111z (N:Nat) (c1:UInt8) (g0:YF1) (g1:Int):Option ((YF1×Int) ⊕ (Int×YF1×Int)):=(w111 N c1 g0 g1).bind w111un
theorem w111fin {N:Nat} (hc:CxOk (w111c N)) {c1:UInt8} {g0:YF1} {g1:Int} {d:YF1×Int} (hd:w111z N c1 g0 g1=some (.inl d)):Does Tryz.prog 111 (([.ref 50 0,.e .u8 c1]:List X).map X.D) (HA [(50,.box 100 [.e .tx g0,.e (.i .i64) g1])]) (w111r0 (d.1) (d.2)).1.D (HA (w111r0 (d.1) (d.2)).2):=by
 obtain ⟨r,hr,hu⟩:=Option.bind_eq_some_iff.1 hd
 have:=w111does hc hr
 rw [w111uo hu] at this
 exact this
theorem w111finp {N:Nat} (hc:CxOk (w111c N)) {c1:UInt8} {g0:YF1} {g1:Int} {d:Int×YF1×Int} (hd:w111z N c1 g0 g1=some (.inr d)):DoesR Tryz.prog 111 (([.ref 50 0,.e .u8 c1]:List X).map X.D) (HA [(50,.box 100 [.e .tx g0,.e (.i .i64) g1])]) (w111r1 (d.1) (d.2.1) (d.2.2)):=by
 obtain ⟨r,hr,hu⟩:=Option.bind_eq_some_iff.1 hd
 have:=w111does hc hr
 rw [w111uop hu] at this
 exact this
def w111in (xs:List X) (H:XH):Option (UInt8×YF1×Int):=match xs,H with
 | [.ref 50 0,x0],[(50,.box 100 [x1,x2])]=>(match ue .u8 x0,ue .tx x1,ue (.i .i64) x2 with | some a0,some a1,some a2=>some (a0,a1,a2) | _,_,_=>none)
 | _,_=>none
theorem w111io {xs:List X} {H:XH} {d:UInt8×YF1×Int} (h:w111in xs H=some d):xs=[.ref 50 0,.e .u8 (d.1)]/\H=[(50,.box 100 [.e .tx (d.2.1),.e (.i .i64) (d.2.2)])]:=by
 unfold w111in at h
 split at h
 ·split at h
  ·rename_i h0 h1 h2;cases h;rw [ue_some h0,ue_some h1,ue_some h2];exact ⟨rfl,rfl⟩
  ·cases h
 ·cases h
def w111p (N:Nat) (c1:UInt8) (g0:YF1) (g1:Int):Bool:=(w111z N c1 g0 g1).isSome
def w111b_ (N:Nat) (c1:UInt8) (g0:YF1) (g1:Int):Bool:=isL (w111z N c1 g0 g1)
def w111y0 (N:Nat) (c1:UInt8) (g0:YF1) (g1:Int):YF1:=(sumL ([],0) (w111z N c1 g0 g1)).1
def w111y1 (N:Nat) (c1:UInt8) (g0:YF1) (g1:Int):Int:=(sumL ([],0) (w111z N c1 g0 g1)).2
def w111pv0 (N:Nat) (c1:UInt8) (g0:YF1) (g1:Int):Int:=(sumR (0,[],0) (w111z N c1 g0 g1)).1
def w111pv1 (N:Nat) (c1:UInt8) (g0:YF1) (g1:Int):YF1:=(sumR (0,[],0) (w111z N c1 g0 g1)).2.1
def w111pv2 (N:Nat) (c1:UInt8) (g0:YF1) (g1:Int):Int:=(sumR (0,[],0) (w111z N c1 g0 g1)).2.2
def w111e (N:Nat):EntP:=entQ w111in (fun d=>w111p N (d.1) (d.2.1) (d.2.2)) (fun d=>some (w111b_ N (d.1) (d.2.1) (d.2.2))) (fun d=>w111r0 (w111y0 N (d.1) (d.2.1) (d.2.2)) (w111y1 N (d.1) (d.2.1) (d.2.2))) (fun d=>w111r1 (w111pv0 N (d.1) (d.2.1) (d.2.2)) (w111pv1 N (d.1) (d.2.1) (d.2.2)) (w111pv2 N (d.1) (d.2.1) (d.2.2)))
theorem w111ok (N:Nat):EOkP Tryz.prog 111 (w111e N):=entQ_ok w111io (fun d h=>panStep (zz:=w111z N (d.1) (d.2.1) (d.2.2)) (R:=fun y=>w111r0 (y.1) (y.2)) (R':=fun y=>w111r1 (y.1) (y.2.1) (y.2.2)) (d0:=([],0)) (d0':=(0,[],0)) (fun _ hy=>w111fin (w111cx N) hy) (fun _ hy=>w111finp (w111cx N) hy) h)
def w99r0 (a0:Bool) (a1:Int) (a2:UInt8):Res:=(.e .bo a0,[(50,.box 3 [.e (.i .i64) a1]),(51,.box 5 [.e .u8 a2])])
def w99L (_:Nat):List (Nat×Ent'):=[]
def w99c (N:Nat):Cx:=⟨Tryz.prog,25,w99L N,[]⟩
def w99b:Code:=Tryz.f99.body.getD .skip
theorem w99cx (N:Nat):CxOk (w99c N):=ctx_ok (by kernel_rfl) .nil .nil
def w99G [Alg] (_:Nat)  (o0_0 _o0_1 o0_2:Int) (o0_3:UInt8) (g0:Int) (k510:UInt8):O:=
 some (w99r0 (decide (o0_2=g0)&&decide (o0_0=2)&&decide (o0_3=k510)) g0 k510)
def w99 [Alg] (N:Nat) (o0_0 o0_1 o0_2:Int) (o0_3:UInt8) (g0:Int) (k510:UInt8):O:=w99G N  o0_0 o0_1 o0_2 o0_3 g0 k510
def w99h [Alg] (_:Nat):Hint:=.d
theorem w99hk (N:Nat):HintOk (w99c N) Tryz.f99.ntmps (w99h N) w99b:=hk_of _ _ trivial
theorem w99q [Alg] (N:Nat) (o0_0 o0_1 o0_2:Int) (o0_3:UInt8) (g0:Int) (k510:UInt8):w99G N  o0_0 o0_1 o0_2 o0_3 g0 k510=exec (w99c N) Tryz.f99.ntmps (w99h N) w99b ⟨argT 0 [.agg [.e (.i .i64) o0_0,.e (.i .i64) o0_1,.e (.i .i64) o0_2,.e .u8 o0_3],.ref 50 0,.ref 51 0],[(50,.box 3 [.e (.i .i64) g0]),(51,.box 5 [.e .u8 k510])],100⟩ (finX (w99c N) Tryz.f99 true):=by kernel_rfl
def w99un (r:Res):Option (Bool×Int×UInt8):=match r with
 | (x0,[(50,.box 3 [x1]),(51,.box 5 [x2])])=>(match ue .bo x0,ue (.i .i64) x1,ue .u8 x2 with | some a0,some a1,some a2=>some (a0,a1,a2) | _,_,_=>none)
 | _=>none
theorem w99uo {r:Res} {d:Bool×Int×UInt8} (h:w99un r=some d):r=w99r0 (d.1) (d.2.1) (d.2.2):=by
 unfold w99un at h
 split at h
 ·split at h
  ·rename_i h0 h1 h2;cases h;rw [ue_some h0,ue_some h1,ue_some h2];rfl
  ·cases h
 ·cases h
def w99z (N:Nat) (o0_0 o0_1 o0_2:Int) (o0_3:UInt8) (g0:Int) (k510:UInt8):Option (Bool×Int×UInt8):=(w99 N o0_0 o0_1 o0_2 o0_3 g0 k510).bind w99un
theorem w99fin {N:Nat} (hc:CxOk (w99c N)) {o0_0 o0_1 o0_2:Int} {o0_3:UInt8} {g0:Int} {k510:UInt8} {d:Bool×Int×UInt8} (hd:w99z N o0_0 o0_1 o0_2 o0_3 g0 k510=some d):Does Tryz.prog 99 (([.agg [.e (.i .i64) o0_0,.e (.i .i64) o0_1,.e (.i .i64) o0_2,.e .u8 o0_3],.ref 50 0,.ref 51 0]:List X).map X.D) (HA [(50,.box 3 [.e (.i .i64) g0]),(51,.box 5 [.e .u8 k510])]) (w99r0 (d.1) (d.2.1) (d.2.2)).1.D (HA (w99r0 (d.1) (d.2.1) (d.2.2)).2):=by
 obtain ⟨r,hr,hu⟩:=Option.bind_eq_some_iff.1 hd
 have:=fun_ok (r:=r) hc (f:=99) (fn:=Tryz.f99) (code:=w99b) (by kernel_rfl) (by kernel_rfl) (w99hk N) (Nat.le_of_ble_eq_true (by kernel_rfl)) (ow:=true) ((w99q N o0_0 o0_1 o0_2 o0_3 g0 k510).symm.trans (by exact hr))
 rw [w99uo hu] at this
 exact this
def w99p (N:Nat) (o0_0 o0_1 o0_2:Int) (o0_3:UInt8) (g0:Int) (k510:UInt8):Bool:=(w99z N o0_0 o0_1 o0_2 o0_3 g0 k510).isSome
def w99y0 (N:Nat) (o0_0 o0_1 o0_2:Int) (o0_3:UInt8) (g0:Int) (k510:UInt8):Bool:=((w99z N o0_0 o0_1 o0_2 o0_3 g0 k510).getD (false,0,0)).1
def w99y1 (N:Nat) (o0_0 o0_1 o0_2:Int) (o0_3:UInt8) (g0:Int) (k510:UInt8):Int:=((w99z N o0_0 o0_1 o0_2 o0_3 g0 k510).getD (false,0,0)).2.1
def w99y2 (N:Nat) (o0_0 o0_1 o0_2:Int) (o0_3:UInt8) (g0:Int) (k510:UInt8):UInt8:=((w99z N o0_0 o0_1 o0_2 o0_3 g0 k510).getD (false,0,0)).2.2
def w99in (xs:List X) (H:XH):Option (Int×Int×Int×UInt8×Int×UInt8):=match xs,H with
 | [.agg [x0,x1,x2,x3],.ref 50 0,.ref 51 0],[(50,.box 3 [x4]),(51,.box 5 [x5])]=>(match ue (.i .i64) x0,ue (.i .i64) x1,ue (.i .i64) x2,ue .u8 x3,ue (.i .i64) x4,ue .u8 x5 with | some a0,some a1,some a2,some a3,some a4,some a5=>some (a0,a1,a2,a3,a4,a5) | _,_,_,_,_,_=>none)
 | _,_=>none
theorem w99io {xs:List X} {H:XH} {d:Int×Int×Int×UInt8×Int×UInt8} (h:w99in xs H=some d):xs=[.agg [.e (.i .i64) (d.1),.e (.i .i64) (d.2.1),.e (.i .i64) (d.2.2.1),.e .u8 (d.2.2.2.1)],.ref 50 0,.ref 51 0]/\H=[(50,.box 3 [.e (.i .i64) (d.2.2.2.2.1)]),(51,.box 5 [.e .u8 (d.2.2.2.2.2)])]:=by
 unfold w99in at h
 split at h
 ·split at h
  ·rename_i h0 h1 h2 h3 h4 h5;cases h;rw [ue_some h0,ue_some h1,ue_some h2,ue_some h3,ue_some h4,ue_some h5];exact ⟨rfl,rfl⟩
  ·cases h
 ·cases h
def w99e (N:Nat):Ent':=fun xs H=>match w99in xs H with | some d=>some (w99p N (d.1) (d.2.1) (d.2.2.1) (d.2.2.2.1) (d.2.2.2.2.1) (d.2.2.2.2.2),w99r0 (w99y0 N (d.1) (d.2.1) (d.2.2.1) (d.2.2.2.1) (d.2.2.2.2.1) (d.2.2.2.2.2)) (w99y1 N (d.1) (d.2.1) (d.2.2.1) (d.2.2.2.1) (d.2.2.2.2.1) (d.2.2.2.2.2)) (w99y2 N (d.1) (d.2.1) (d.2.2.1) (d.2.2.2.1) (d.2.2.2.2.1) (d.2.2.2.2.2))) | none=>none
theorem w99re {N:Nat} {o0_0 o0_1 o0_2:Int} {o0_3:UInt8} {g0:Int} {k510:UInt8} {d:Bool×Int×UInt8} (hd:w99z N o0_0 o0_1 o0_2 o0_3 g0 k510=some d):w99r0 (w99y0 N o0_0 o0_1 o0_2 o0_3 g0 k510) (w99y1 N o0_0 o0_1 o0_2 o0_3 g0 k510) (w99y2 N o0_0 o0_1 o0_2 o0_3 g0 k510)=w99r0 (d.1) (d.2.1) (d.2.2):=by unfold w99y0 w99y1 w99y2;rw [hd];rfl
theorem w99ok (N:Nat):EOk Tryz.prog 99 (w99e N):=fun xs H pre r he hp=>by
 unfold w99e at he
 split at he
 ·rename_i d hd
  have he:=Option.some.inj he
  have h1:=congrArg Prod.fst he
  have h2:=congrArg Prod.snd he
  simp only at h1 h2
  obtain ⟨e1,e2⟩:=w99io hd
  rw [e1,e2,← h2]
  have h:(w99z N (d.1) (d.2.1) (d.2.2.1) (d.2.2.2.1) (d.2.2.2.2.1) (d.2.2.2.2.2)).isSome=true:=h1.trans hp
  obtain ⟨d',hd'⟩:=Option.isSome_iff_exists.1 h
  have f:=w99fin (w99cx N) hd'
  rw [← w99re hd'] at f
  exact f
 ·cases he
def w98r0 (a0 a1:Int) (a2:UInt8):Res:=(.e (.i .i64) a0,[(50,.box 3 [.e (.i .i64) a1]),(51,.box 5 [.e .u8 a2])])
def w98L (N:Nat):List (Nat×Ent'):=[(99,w99e N)]
def w98c (N:Nat):Cx:=⟨Tryz.prog,25,w98L N,[]⟩
def w98b:Code:=Tryz.f98.body.getD .skip
theorem w98cx (N:Nat):CxOk (w98c N):=ctx_ok (by kernel_rfl) (.cons (by kernel_rfl) (w99ok N) .nil) .nil
def w98F0 [Alg] (N:Nat)  (self:Int->Int->UInt8->O) (k0:Int->Int->UInt8->O) (k1:Int->UInt8->O) (x0_0:(List (Int×(Int×(Int×UInt8))))) (x0_1 x0_2 x0_3:Int) (x0_4:UInt8):O:=
 br (decide (x0_2 < x0_1))
  (gx x0_0 x0_2 fun y3=>
  ck (w99p N y3.1 y3.2.1 y3.2.2.1 y3.2.2.2 x0_3 x0_4) <|
  br (w99y0 N y3.1 y3.2.1 y3.2.2.1 y3.2.2.2 x0_3 x0_4)
   (k0 x0_2 (w99y1 N y3.1 y3.2.1 y3.2.2.1 y3.2.2.2 x0_3 x0_4) (w99y2 N y3.1 y3.2.1 y3.2.2.1 y3.2.2.2 x0_3 x0_4))
   (self (IntKind.i64.wrap (x0_2+1)) (w99y1 N y3.1 y3.2.1 y3.2.2.1 y3.2.2.2 x0_3 x0_4) (w99y2 N y3.1 y3.2.1 y3.2.2.1 y3.2.2.2 x0_3 x0_4)))
  (k1 x0_3 x0_4)
def w98b0:Code:=atC [1,0,1,0,0] w98b
def w98m0:Nm:=⟨[0,1,7,8],[],[]⟩
def w98I0 (x:(List (Int×(Int×(Int×UInt8))))×Int×Int×Int×UInt8):Sg:=⟨[(0,.e (.sl (.pr (.i .i64) (.pr (.i .i64) (.pr (.i .i64) .u8)))) x.1),(1,.fn 99 [.ref 50 0,.ref 51 0]),(7,.e (.i .i64) x.2.1),(8,.e (.i .i64) x.2.2.1)],[(50,.box 3 [.e (.i .i64) x.2.2.2.1]),(51,.box 5 [.e .u8 x.2.2.2.2])],100⟩
def w98u0 (σ:Sg):(List (Int×(Int×(Int×UInt8))))×Int×Int×Int×UInt8:=(lvT (.sl (.pr (.i .i64) (.pr (.i .i64) (.pr (.i .i64) .u8)))) 0 0 σ,lvT (.i .i64) 7 0 σ,lvT (.i .i64) 8 0 σ,lvH (.i .i64) 50 0 σ,lvH .u8 51 0 σ)
theorem w98ui0:∀ x,w98u0 (w98I0 x)=x:=fun _=>by kernel_rfl
def w98X0_0 (y:Int×Int×UInt8):Exit×Sg:=(.ret,⟨[(4,.e (.i .i64) y.1)],[(50,.box 3 [.e (.i .i64) y.2.1]),(51,.box 5 [.e .u8 y.2.2])],100⟩)
def w98v0_0 (_:Exit) (σ:Sg):Int×Int×UInt8:=(lvT (.i .i64) 4 0 σ,lvH (.i .i64) 50 0 σ,lvH .u8 51 0 σ)
def w98X0_1 (y:Int×UInt8):Exit×Sg:=((.exit 0),⟨[],[(50,.box 3 [.e (.i .i64) y.1]),(51,.box 5 [.e .u8 y.2])],100⟩)
def w98v0_1 (_:Exit) (σ:Sg):Int×UInt8:=(lvH (.i .i64) 50 0 σ,lvH .u8 51 0 σ)
def w98w0:List (Exit×Nm):=[(.ret,⟨[4],[],[]⟩),((.exit 0),⟨[],[],[]⟩)]
theorem w98o0:Outs w98v0_0 w98v0_1 (fun _ _=>()) w98X0_0 w98X0_1 (noX 2) (exC .ret) (exC (.exit 0)) (exC (.goto 2)):=⟨fun _=>by kernel_rfl,fun _=>by kernel_rfl,fun _=>by kernel_rfl,fun _=>by kernel_rfl,fun _=>by kernel_rfl,fun _=>by kernel_rfl,exNe_ok (by kernel_rfl),exNe_ok (by kernel_rfl),exNe_ok (by kernel_rfl)⟩
def w98l0 [Alg] (N:Nat):Nat->((List (Int×(Int×(Int×UInt8))))×Int×Int×Int×UInt8)->((Int×Int×UInt8)->O)->((Int×UInt8)->O)->((Unit)->O)->O
 | 0,_,_,_,_=>none
 | n+1,x,k0,k1,k2=>w98F0 N  (fun v0 v1 v2=>w98l0 N n (x.1,x.2.1,v0,v1,v2) k0 k1 k2) (fun y0 y1 y2=>k0 (y0,y1,y2)) (fun y0 y1=>k1 (y0,y1)) x.1 x.2.1 x.2.2.1 x.2.2.2.1 x.2.2.2.2
def w98n0 [Alg] (N:Nat) (a0:(List (Int×(Int×(Int×UInt8))))) (a1 a2 a3:Int) (a4:UInt8) (k0:Int->Int->UInt8->O) (k1:Int->UInt8->O):O:=w98l0 N N (a0,a1,a2,a3,a4) (fun y=>k0 y.1 y.2.1 y.2.2) (fun y=>k1 y.1 y.2) (fun _=>none)
def w98s0 [Alg] (N:Nat) (a0:(List (Int×(Int×(Int×UInt8))))) (a1 a2 a3:Int) (a4:UInt8) (k0:Int->Int->UInt8->O) (k1:Int->UInt8->O):O:=subL w98I0 w98u0 (w98l0 N N) (w98I0 (a0,a1,a2,a3,a4)) (fun y=>k0 y.1 y.2.1 y.2.2) (fun y=>k1 y.1 y.2) (fun _=>none)
theorem w98e0 [Alg] (N:Nat):w98s0 N=w98n0 N:=funext fun _=>funext fun _=>funext fun _=>funext fun _=>funext fun _=>funext fun _=>funext fun _=>subL_I w98ui0 _ _ _ _
def w98h0 [Alg] (_:Nat):Hint:=.d
theorem w98hk0 (N:Nat):HintOk (w98c N) Tryz.f98.ntmps (w98h0 N) w98b0:=hk_of _ _ trivial
theorem w98q0 [Alg] (N:Nat) (self:Sg->O) (K:Exit->Sg->O) (x:(List (Int×(Int×(Int×UInt8))))×Int×Int×Int×UInt8):w98F0 N  (fun v0 v1 v2=>self (w98I0 (x.1,x.2.1,v0,v1,v2))) (fun y0 y1 y2=>K (w98X0_0 (y0,y1,y2)).1 (w98X0_0 (y0,y1,y2)).2) (fun y0 y1=>K (w98X0_1 (y0,y1)).1 (w98X0_1 (y0,y1)).2) x.1 x.2.1 x.2.2.1 x.2.2.2.1 x.2.2.2.2=exec (w98c N) Tryz.f98.ntmps (w98h0 N) w98b0 (w98I0 x) (roundX w98m0 w98w0 self K):=by kernel_rfl
theorem w98S0 (N:Nat) (hc:CxOk (w98c N)):SubOk (w98c N) Tryz.f98.ntmps (.loop w98b0) w98X0_0 w98X0_1 (noX 2) (subL w98I0 w98u0 (w98l0 N N)):=
 sub_loop hc (w98hk0 N) w98o0 (n:=N) (fun x K=>loop_ind (w98l0 N) (fun _ _ _ _=>rfl) (fun n K ih x=>by
  refine Eq.trans ?_ (w98q0 N _ K x)
  simp only [← ih]
  rfl) N x K)
def w98G [Alg] (_:Nat) (in0:(List (Int×(Int×(Int×UInt8))))->Int->Int->Int->UInt8->(Int->Int->UInt8->O)->(Int->UInt8->O)->O) (s0:(List (Int×(Int×(Int×UInt8))))) (g0:Int) (k510:UInt8):O:=
 in0 s0 ((↑s0.length:Int)) 0 g0 k510
  (fun z4 z5 z6=>
   some (w98r0 z4 z5 z6))
  (fun z7 z8=>
   some (w98r0 ((-1:Int)) z7 z8))
def w98 [Alg] (N:Nat) (s0:(List (Int×(Int×(Int×UInt8))))) (g0:Int) (k510:UInt8):O:=w98G N (w98n0 N) s0 g0 k510
def w98h [Alg] (N:Nat):Hint:=(.seq .d (.seq (.seq .d (.block (.sub w98m0 _ _ _ w98X0_0 w98X0_1 (noX 2) (subL w98I0 w98u0 (w98l0 N N))))) .d))
theorem w98hk (N:Nat) (hc:CxOk (w98c N)):HintOk (w98c N) Tryz.f98.ntmps (w98h N) w98b:=hk_of _ _ (And.intro trivial (And.intro (And.intro trivial (w98S0 N hc)) trivial))
theorem w98q [Alg] (N:Nat) (s0:(List (Int×(Int×(Int×UInt8))))) (g0:Int) (k510:UInt8):w98G N (w98s0 N) s0 g0 k510=exec (w98c N) Tryz.f98.ntmps (w98h N) w98b ⟨argT 0 [.e (.sl (.pr (.i .i64) (.pr (.i .i64) (.pr (.i .i64) .u8)))) s0,.fn 99 [.ref 50 0,.ref 51 0]],[(50,.box 3 [.e (.i .i64) g0]),(51,.box 5 [.e .u8 k510])],100⟩ (finX (w98c N) Tryz.f98 true):=by kernel_rfl
def w98un (r:Res):Option (Int×Int×UInt8):=match r with
 | (x0,[(50,.box 3 [x1]),(51,.box 5 [x2])])=>(match ue (.i .i64) x0,ue (.i .i64) x1,ue .u8 x2 with | some a0,some a1,some a2=>some (a0,a1,a2) | _,_,_=>none)
 | _=>none
theorem w98uo {r:Res} {d:Int×Int×UInt8} (h:w98un r=some d):r=w98r0 (d.1) (d.2.1) (d.2.2):=by
 unfold w98un at h
 split at h
 ·split at h
  ·rename_i h0 h1 h2;cases h;rw [ue_some h0,ue_some h1,ue_some h2];rfl
  ·cases h
 ·cases h
def w98z (N:Nat) (s0:(List (Int×(Int×(Int×UInt8))))) (g0:Int) (k510:UInt8):Option (Int×Int×UInt8):=(w98 N s0 g0 k510).bind w98un
theorem w98fin {N:Nat} (hc:CxOk (w98c N)) {s0:(List (Int×(Int×(Int×UInt8))))} {g0:Int} {k510:UInt8} {d:Int×Int×UInt8} (hd:w98z N s0 g0 k510=some d):Does Tryz.prog 98 (([.e (.sl (.pr (.i .i64) (.pr (.i .i64) (.pr (.i .i64) .u8)))) s0,.fn 99 [.ref 50 0,.ref 51 0]]:List X).map X.D) (HA [(50,.box 3 [.e (.i .i64) g0]),(51,.box 5 [.e .u8 k510])]) (w98r0 (d.1) (d.2.1) (d.2.2)).1.D (HA (w98r0 (d.1) (d.2.1) (d.2.2)).2):=by
 obtain ⟨r,hr,hu⟩:=Option.bind_eq_some_iff.1 hd
 have:=fun_ok (r:=r) hc (f:=98) (fn:=Tryz.f98) (code:=w98b) (by kernel_rfl) (by kernel_rfl) (w98hk N hc) (Nat.le_of_ble_eq_true (by kernel_rfl)) (ow:=true) ((w98q N s0 g0 k510).symm.trans (by rw [w98e0 N];exact hr))
 rw [w98uo hu] at this
 exact this
def w98p (N:Nat) (s0:(List (Int×(Int×(Int×UInt8))))) (g0:Int) (k510:UInt8):Bool:=(w98z N s0 g0 k510).isSome
def w98y0 (N:Nat) (s0:(List (Int×(Int×(Int×UInt8))))) (g0:Int) (k510:UInt8):Int:=((w98z N s0 g0 k510).getD (0,0,0)).1
def w98y1 (N:Nat) (s0:(List (Int×(Int×(Int×UInt8))))) (g0:Int) (k510:UInt8):Int:=((w98z N s0 g0 k510).getD (0,0,0)).2.1
def w98y2 (N:Nat) (s0:(List (Int×(Int×(Int×UInt8))))) (g0:Int) (k510:UInt8):UInt8:=((w98z N s0 g0 k510).getD (0,0,0)).2.2
def w98in (xs:List X) (H:XH):Option ((List (Int×(Int×(Int×UInt8))))×Int×UInt8):=match xs,H with
 | [x0,.fn 99 [.ref 50 0,.ref 51 0]],[(50,.box 3 [x1]),(51,.box 5 [x2])]=>(match ue (.sl (.pr (.i .i64) (.pr (.i .i64) (.pr (.i .i64) .u8)))) x0,ue (.i .i64) x1,ue .u8 x2 with | some a0,some a1,some a2=>some (a0,a1,a2) | _,_,_=>none)
 | _,_=>none
theorem w98io {xs:List X} {H:XH} {d:(List (Int×(Int×(Int×UInt8))))×Int×UInt8} (h:w98in xs H=some d):xs=[.e (.sl (.pr (.i .i64) (.pr (.i .i64) (.pr (.i .i64) .u8)))) (d.1),.fn 99 [.ref 50 0,.ref 51 0]]/\H=[(50,.box 3 [.e (.i .i64) (d.2.1)]),(51,.box 5 [.e .u8 (d.2.2)])]:=by
 unfold w98in at h
 split at h
 ·split at h
  ·rename_i h0 h1 h2;cases h;rw [ue_some h0,ue_some h1,ue_some h2];exact ⟨rfl,rfl⟩
  ·cases h
 ·cases h
def w98e (N:Nat):Ent':=fun xs H=>match w98in xs H with | some d=>some (w98p N (d.1) (d.2.1) (d.2.2),w98r0 (w98y0 N (d.1) (d.2.1) (d.2.2)) (w98y1 N (d.1) (d.2.1) (d.2.2)) (w98y2 N (d.1) (d.2.1) (d.2.2))) | none=>none
theorem w98re {N:Nat} {s0:(List (Int×(Int×(Int×UInt8))))} {g0:Int} {k510:UInt8} {d:Int×Int×UInt8} (hd:w98z N s0 g0 k510=some d):w98r0 (w98y0 N s0 g0 k510) (w98y1 N s0 g0 k510) (w98y2 N s0 g0 k510)=w98r0 (d.1) (d.2.1) (d.2.2):=by unfold w98y0 w98y1 w98y2;rw [hd];rfl
theorem w98ok (N:Nat):EOk Tryz.prog 98 (w98e N):=fun xs H pre r he hp=>by
 unfold w98e at he
 split at he
 ·rename_i d hd
  have he:=Option.some.inj he
  have h1:=congrArg Prod.fst he
  have h2:=congrArg Prod.snd he
  simp only at h1 h2
  obtain ⟨e1,e2⟩:=w98io hd
  rw [e1,e2,← h2]
  have h:(w98z N (d.1) (d.2.1) (d.2.2)).isSome=true:=h1.trans hp
  obtain ⟨d',hd'⟩:=Option.isSome_iff_exists.1 h
  have f:=w98fin (w98cx N) hd'
  rw [← w98re hd'] at f
  exact f
 ·cases he
def w106r0 (a0 a1:Int) (a2:(List Ex)) (a3:YF1) (a4:Int):Res:=(.agg [.e (.i .i64) a0,.e (.i .i64) a1,.e (.sl .ex) a2],[(50,.box 100 [.e .tx a3,.e (.i .i64) a4])])
def w106r1 (a0:Int) (a1:YF1) (a2:Int):Res:=(.pan (.iface 96 (.int .i64 a0)),[(50,.box 100 [.e .tx a1,.e (.i .i64) a2])])
def w106in (xs:List X) (H:XH):Option (YF1×Int):=match xs,H with
 | [.ref 50 0],[(50,.box 100 [x0,x1])]=>(match ue .tx x0,ue (.i .i64) x1 with | some a0,some a1=>some (a0,a1) | _,_=>none)
 | _,_=>none
theorem w106io {xs:List X} {H:XH} {d:YF1×Int} (h:w106in xs H=some d):xs=[.ref 50 0]/\H=[(50,.box 100 [.e .tx (d.1),.e (.i .i64) (d.2)])]:=by
 unfold w106in at h
 split at h
 ·split at h
  ·rename_i h0 h1;cases h;rw [ue_some h0,ue_some h1];exact ⟨rfl,rfl⟩
  ·cases h
 ·cases h
abbrev w106T:=Nat×((YF1->Int->Option ((Int×Int×(List Ex)×YF1×Int) ⊕ (Int×YF1×Int)))×(YF1->Int->Option ((Int×Int×(List Ex)×YF1×Int) ⊕ (Int×YF1×Int)))×(Int->YF1->Int->Option ((Int×Int×(List Ex)×YF1×Int) ⊕ (Int×YF1×Int))))
def w106E (N:w106T):EntP:=entQ w106in (fun d=>(N.2.1 (d.1) (d.2)).isSome) (fun d=>some (isL (N.2.1 (d.1) (d.2)))) (fun d=>w106r0 ((sumL (0,0,[],[],0) (N.2.1 (d.1) (d.2))).1) ((sumL (0,0,[],[],0) (N.2.1 (d.1) (d.2))).2.1) ((sumL (0,0,[],[],0) (N.2.1 (d.1) (d.2))).2.2.1) ((sumL (0,0,[],[],0) (N.2.1 (d.1) (d.2))).2.2.2.1) ((sumL (0,0,[],[],0) (N.2.1 (d.1) (d.2))).2.2.2.2)) (fun d=>w106r1 ((sumR (0,[],0) (N.2.1 (d.1) (d.2))).1) ((sumR (0,[],0) (N.2.1 (d.1) (d.2))).2.1) ((sumR (0,[],0) (N.2.1 (d.1) (d.2))).2.2))
def w97r0 (a0 a1:Int) (a2:(List Ex)) (a3:YF1) (a4:Int):Res:=(.agg [.e (.i .i64) a0,.e (.i .i64) a1,.e (.sl .ex) a2],[(50,.box 100 [.e .tx a3,.e (.i .i64) a4])])
def w97r1 (a0:Int) (a1:YF1) (a2:Int):Res:=(.pan (.iface 96 (.int .i64 a0)),[(50,.box 100 [.e .tx a1,.e (.i .i64) a2])])
def w97in (xs:List X) (H:XH):Option (YF1×Int):=match xs,H with
 | [.ref 50 0],[(50,.box 100 [x0,x1])]=>(match ue .tx x0,ue (.i .i64) x1 with | some a0,some a1=>some (a0,a1) | _,_=>none)
 | _,_=>none
theorem w97io {xs:List X} {H:XH} {d:YF1×Int} (h:w97in xs H=some d):xs=[.ref 50 0]/\H=[(50,.box 100 [.e .tx (d.1),.e (.i .i64) (d.2)])]:=by
 unfold w97in at h
 split at h
 ·split at h
  ·rename_i h0 h1;cases h;rw [ue_some h0,ue_some h1];exact ⟨rfl,rfl⟩
  ·cases h
 ·cases h
def w97E (N:w106T):EntP:=entQ w97in (fun d=>(N.2.2.1 (d.1) (d.2)).isSome) (fun d=>some (isL (N.2.2.1 (d.1) (d.2)))) (fun d=>w97r0 ((sumL (0,0,[],[],0) (N.2.2.1 (d.1) (d.2))).1) ((sumL (0,0,[],[],0) (N.2.2.1 (d.1) (d.2))).2.1) ((sumL (0,0,[],[],0) (N.2.2.1 (d.1) (d.2))).2.2.1) ((sumL (0,0,[],[],0) (N.2.2.1 (d.1) (d.2))).2.2.2.1) ((sumL (0,0,[],[],0) (N.2.2.1 (d.1) (d.2))).2.2.2.2)) (fun d=>w97r1 ((sumR (0,[],0) (N.2.2.1 (d.1) (d.2))).1) ((sumR (0,[],0) (N.2.2.1 (d.1) (d.2))).2.1) ((sumR (0,[],0) (N.2.2.1 (d.1) (d.2))).2.2))
def w76r0 (a0 a1:Int) (a2:(List Ex)) (a3:YF1) (a4:Int):Res:=(.agg [.e (.i .i64) a0,.e (.i .i64) a1,.e (.sl .ex) a2],[(50,.box 100 [.e .tx a3,.e (.i .i64) a4])])
def w76r1 (a0:Int) (a1:YF1) (a2:Int):Res:=(.pan (.iface 96 (.int .i64 a0)),[(50,.box 100 [.e .tx a1,.e (.i .i64) a2])])
def w76in (xs:List X) (H:XH):Option (Int×YF1×Int):=match xs,H with
 | [.ref 50 0,x0],[(50,.box 100 [x1,x2])]=>(match ue (.i .i64) x0,ue .tx x1,ue (.i .i64) x2 with | some a0,some a1,some a2=>some (a0,a1,a2) | _,_,_=>none)
 | _,_=>none
theorem w76io {xs:List X} {H:XH} {d:Int×YF1×Int} (h:w76in xs H=some d):xs=[.ref 50 0,.e (.i .i64) (d.1)]/\H=[(50,.box 100 [.e .tx (d.2.1),.e (.i .i64) (d.2.2)])]:=by
 unfold w76in at h
 split at h
 ·split at h
  ·rename_i h0 h1 h2;cases h;rw [ue_some h0,ue_some h1,ue_some h2];exact ⟨rfl,rfl⟩
  ·cases h
 ·cases h
def w76E (N:w106T):EntP:=entQ w76in (fun d=>(N.2.2.2 (d.1) (d.2.1) (d.2.2)).isSome) (fun d=>some (isL (N.2.2.2 (d.1) (d.2.1) (d.2.2)))) (fun d=>w76r0 ((sumL (0,0,[],[],0) (N.2.2.2 (d.1) (d.2.1) (d.2.2))).1) ((sumL (0,0,[],[],0) (N.2.2.2 (d.1) (d.2.1) (d.2.2))).2.1) ((sumL (0,0,[],[],0) (N.2.2.2 (d.1) (d.2.1) (d.2.2))).2.2.1) ((sumL (0,0,[],[],0) (N.2.2.2 (d.1) (d.2.1) (d.2.2))).2.2.2.1) ((sumL (0,0,[],[],0) (N.2.2.2 (d.1) (d.2.1) (d.2.2))).2.2.2.2)) (fun d=>w76r1 ((sumR (0,[],0) (N.2.2.2 (d.1) (d.2.1) (d.2.2))).1) ((sumR (0,[],0) (N.2.2.2 (d.1) (d.2.1) (d.2.2))).2.1) ((sumR (0,[],0) (N.2.2.2 (d.1) (d.2.1) (d.2.2))).2.2))
def w106L (N:w106T):List (Nat×Ent'):=[(77,w77e N.1)]
def w106Lp (N:w106T):List (Nat×EntP):=[(106,w106E N),(97,w97E N),(76,w76E N),(110,w110e N.1),(111,w111e N.1)]
def w106c (N:w106T):Cx:=⟨Tryz.prog,25,w106L N,w106Lp N⟩
def w106b:Code:=Tryz.f106.body.getD .skip
theorem w106cx (N:w106T) (hw107:EOkP Tryz.prog 106 (w106E N)) (hw85:EOkP Tryz.prog 97 (w97E N)) (hw53:EOkP Tryz.prog 76 (w76E N)):CxOk (w106c N):=ctx_ok (by kernel_rfl) (.cons (by kernel_rfl) (w77ok N.1) .nil) (.cons (by kernel_rfl) hw107 (.cons (by kernel_rfl) hw85 (.cons (by kernel_rfl) hw53 (.cons (by kernel_rfl) (w110ok N.1) (.cons (by kernel_rfl) (w111ok N.1) .nil)))))
def w106G [Alg] (N:w106T)  (g0:YF1) (g1:Int):O:=
 ck (w77p N.1 g0 g1) <|
 br (decide ((48:UInt8)<=w77y0 N.1 g0 g1)&&decide (w77y0 N.1 g0 g1<=(57:UInt8)))
  (ck (w110p N.1 (w77y1 N.1 g0 g1) (w77y2 N.1 g0 g1)) <|
  br (w110b_ N.1 (w77y1 N.1 g0 g1) (w77y2 N.1 g0 g1))
   (some (w106r0 ((w110y0 N.1 (w77y1 N.1 g0 g1) (w77y2 N.1 g0 g1))) ((w110y1 N.1 (w77y1 N.1 g0 g1) (w77y2 N.1 g0 g1))) ((w110y2 N.1 (w77y1 N.1 g0 g1) (w77y2 N.1 g0 g1))) (w110y3 N.1 (w77y1 N.1 g0 g1) (w77y2 N.1 g0 g1)) (w110y4 N.1 (w77y1 N.1 g0 g1) (w77y2 N.1 g0 g1))))
   (some (w106r1 (w110pv0 N.1 (w77y1 N.1 g0 g1) (w77y2 N.1 g0 g1)) (w110pv1 N.1 (w77y1 N.1 g0 g1) (w77y2 N.1 g0 g1)) (w110pv2 N.1 (w77y1 N.1 g0 g1) (w77y2 N.1 g0 g1)))))
  (br (decide ((97:UInt8)<=w77y0 N.1 g0 g1)&&decide (w77y0 N.1 g0 g1<=(122:UInt8)))
   (some (w106r0 1 ((IntKind.i64.wrap (↑(w77y0 N.1 g0 g1 - (97:UInt8)).toNat:Int))) ([]) (w77y1 N.1 g0 g1) (IntKind.i64.wrap (w77y2 N.1 g0 g1+(1:Int)))))
   (br (decide (w77y0 N.1 g0 g1=(82:UInt8)))
    (ck (w111p N.1 (40:UInt8) (w77y1 N.1 g0 g1) (IntKind.i64.wrap (w77y2 N.1 g0 g1+(1:Int)))) <|
    br (w111b_ N.1 (40:UInt8) (w77y1 N.1 g0 g1) (IntKind.i64.wrap (w77y2 N.1 g0 g1+(1:Int))))
     (ck ((N.snd.snd.2 (1:Int) (w111y0 N.1 (40:UInt8) (w77y1 N.1 g0 g1) (IntKind.i64.wrap (w77y2 N.1 g0 g1+(1:Int)))) (w111y1 N.1 (40:UInt8) (w77y1 N.1 g0 g1) (IntKind.i64.wrap (w77y2 N.1 g0 g1+(1:Int))))).isSome) <|
     br (isL (N.snd.snd.2 (1:Int) (w111y0 N.1 (40:UInt8) (w77y1 N.1 g0 g1) (IntKind.i64.wrap (w77y2 N.1 g0 g1+(1:Int)))) (w111y1 N.1 (40:UInt8) (w77y1 N.1 g0 g1) (IntKind.i64.wrap (w77y2 N.1 g0 g1+(1:Int))))))
      (ck (w111p N.1 (41:UInt8) (sumL ((0:Int),(0:Int),[],[],(0:Int)) (N.snd.snd.2 (1:Int) (w111y0 N.1 (40:UInt8) (w77y1 N.1 g0 g1) (IntKind.i64.wrap (w77y2 N.1 g0 g1+(1:Int)))) (w111y1 N.1 (40:UInt8) (w77y1 N.1 g0 g1) (IntKind.i64.wrap (w77y2 N.1 g0 g1+(1:Int)))))).2.2.2.1 (sumL ((0:Int),(0:Int),[],[],(0:Int)) (N.snd.snd.2 (1:Int) (w111y0 N.1 (40:UInt8) (w77y1 N.1 g0 g1) (IntKind.i64.wrap (w77y2 N.1 g0 g1+(1:Int)))) (w111y1 N.1 (40:UInt8) (w77y1 N.1 g0 g1) (IntKind.i64.wrap (w77y2 N.1 g0 g1+(1:Int)))))).2.2.2.2) <|
      br (w111b_ N.1 (41:UInt8) (sumL ((0:Int),(0:Int),[],[],(0:Int)) (N.snd.snd.2 (1:Int) (w111y0 N.1 (40:UInt8) (w77y1 N.1 g0 g1) (IntKind.i64.wrap (w77y2 N.1 g0 g1+(1:Int)))) (w111y1 N.1 (40:UInt8) (w77y1 N.1 g0 g1) (IntKind.i64.wrap (w77y2 N.1 g0 g1+(1:Int)))))).2.2.2.1 (sumL ((0:Int),(0:Int),[],[],(0:Int)) (N.snd.snd.2 (1:Int) (w111y0 N.1 (40:UInt8) (w77y1 N.1 g0 g1) (IntKind.i64.wrap (w77y2 N.1 g0 g1+(1:Int)))) (w111y1 N.1 (40:UInt8) (w77y1 N.1 g0 g1) (IntKind.i64.wrap (w77y2 N.1 g0 g1+(1:Int)))))).2.2.2.2)
       (some (w106r0 8 0 ([Ex.mk (sumL ((0:Int),(0:Int),[],[],(0:Int)) (N.snd.snd.2 (1:Int) (w111y0 N.1 (40:UInt8) (w77y1 N.1 g0 g1) (IntKind.i64.wrap (w77y2 N.1 g0 g1+(1:Int)))) (w111y1 N.1 (40:UInt8) (w77y1 N.1 g0 g1) (IntKind.i64.wrap (w77y2 N.1 g0 g1+(1:Int)))))).1 (sumL ((0:Int),(0:Int),[],[],(0:Int)) (N.snd.snd.2 (1:Int) (w111y0 N.1 (40:UInt8) (w77y1 N.1 g0 g1) (IntKind.i64.wrap (w77y2 N.1 g0 g1+(1:Int)))) (w111y1 N.1 (40:UInt8) (w77y1 N.1 g0 g1) (IntKind.i64.wrap (w77y2 N.1 g0 g1+(1:Int)))))).2.1 (sumL ((0:Int),(0:Int),[],[],(0:Int)) (N.snd.snd.2 (1:Int) (w111y0 N.1 (40:UInt8) (w77y1 N.1 g0 g1) (IntKind.i64.wrap (w77y2 N.1 g0 g1+(1:Int)))) (w111y1 N.1 (40:UInt8) (w77y1 N.1 g0 g1) (IntKind.i64.wrap (w77y2 N.1 g0 g1+(1:Int)))))).2.2.1]) (w111y0 N.1 (41:UInt8) (sumL ((0:Int),(0:Int),[],[],(0:Int)) (N.snd.snd.2 (1:Int) (w111y0 N.1 (40:UInt8) (w77y1 N.1 g0 g1) (IntKind.i64.wrap (w77y2 N.1 g0 g1+(1:Int)))) (w111y1 N.1 (40:UInt8) (w77y1 N.1 g0 g1) (IntKind.i64.wrap (w77y2 N.1 g0 g1+(1:Int)))))).2.2.2.1 (sumL ((0:Int),(0:Int),[],[],(0:Int)) (N.snd.snd.2 (1:Int) (w111y0 N.1 (40:UInt8) (w77y1 N.1 g0 g1) (IntKind.i64.wrap (w77y2 N.1 g0 g1+(1:Int)))) (w111y1 N.1 (40:UInt8) (w77y1 N.1 g0 g1) (IntKind.i64.wrap (w77y2 N.1 g0 g1+(1:Int)))))).2.2.2.2) (w111y1 N.1 (41:UInt8) (sumL ((0:Int),(0:Int),[],[],(0:Int)) (N.snd.snd.2 (1:Int) (w111y0 N.1 (40:UInt8) (w77y1 N.1 g0 g1) (IntKind.i64.wrap (w77y2 N.1 g0 g1+(1:Int)))) (w111y1 N.1 (40:UInt8) (w77y1 N.1 g0 g1) (IntKind.i64.wrap (w77y2 N.1 g0 g1+(1:Int)))))).2.2.2.1 (sumL ((0:Int),(0:Int),[],[],(0:Int)) (N.snd.snd.2 (1:Int) (w111y0 N.1 (40:UInt8) (w77y1 N.1 g0 g1) (IntKind.i64.wrap (w77y2 N.1 g0 g1+(1:Int)))) (w111y1 N.1 (40:UInt8) (w77y1 N.1 g0 g1) (IntKind.i64.wrap (w77y2 N.1 g0 g1+(1:Int)))))).2.2.2.2)))
       (some (w106r1 (w111pv0 N.1 (41:UInt8) (sumL ((0:Int),(0:Int),[],[],(0:Int)) (N.snd.snd.2 (1:Int) (w111y0 N.1 (40:UInt8) (w77y1 N.1 g0 g1) (IntKind.i64.wrap (w77y2 N.1 g0 g1+(1:Int)))) (w111y1 N.1 (40:UInt8) (w77y1 N.1 g0 g1) (IntKind.i64.wrap (w77y2 N.1 g0 g1+(1:Int)))))).2.2.2.1 (sumL ((0:Int),(0:Int),[],[],(0:Int)) (N.snd.snd.2 (1:Int) (w111y0 N.1 (40:UInt8) (w77y1 N.1 g0 g1) (IntKind.i64.wrap (w77y2 N.1 g0 g1+(1:Int)))) (w111y1 N.1 (40:UInt8) (w77y1 N.1 g0 g1) (IntKind.i64.wrap (w77y2 N.1 g0 g1+(1:Int)))))).2.2.2.2) (w111pv1 N.1 (41:UInt8) (sumL ((0:Int),(0:Int),[],[],(0:Int)) (N.snd.snd.2 (1:Int) (w111y0 N.1 (40:UInt8) (w77y1 N.1 g0 g1) (IntKind.i64.wrap (w77y2 N.1 g0 g1+(1:Int)))) (w111y1 N.1 (40:UInt8) (w77y1 N.1 g0 g1) (IntKind.i64.wrap (w77y2 N.1 g0 g1+(1:Int)))))).2.2.2.1 (sumL ((0:Int),(0:Int),[],[],(0:Int)) (N.snd.snd.2 (1:Int) (w111y0 N.1 (40:UInt8) (w77y1 N.1 g0 g1) (IntKind.i64.wrap (w77y2 N.1 g0 g1+(1:Int)))) (w111y1 N.1 (40:UInt8) (w77y1 N.1 g0 g1) (IntKind.i64.wrap (w77y2 N.1 g0 g1+(1:Int)))))).2.2.2.2) (w111pv2 N.1 (41:UInt8) (sumL ((0:Int),(0:Int),[],[],(0:Int)) (N.snd.snd.2 (1:Int) (w111y0 N.1 (40:UInt8) (w77y1 N.1 g0 g1) (IntKind.i64.wrap (w77y2 N.1 g0 g1+(1:Int)))) (w111y1 N.1 (40:UInt8) (w77y1 N.1 g0 g1) (IntKind.i64.wrap (w77y2 N.1 g0 g1+(1:Int)))))).2.2.2.1 (sumL ((0:Int),(0:Int),[],[],(0:Int)) (N.snd.snd.2 (1:Int) (w111y0 N.1 (40:UInt8) (w77y1 N.1 g0 g1) (IntKind.i64.wrap (w77y2 N.1 g0 g1+(1:Int)))) (w111y1 N.1 (40:UInt8) (w77y1 N.1 g0 g1) (IntKind.i64.wrap (w77y2 N.1 g0 g1+(1:Int)))))).2.2.2.2))))
      (some (w106r1 ((sumR ((0:Int),[],(0:Int)) (N.snd.snd.2 (1:Int) (w111y0 N.1 (40:UInt8) (w77y1 N.1 g0 g1) (IntKind.i64.wrap (w77y2 N.1 g0 g1+(1:Int)))) (w111y1 N.1 (40:UInt8) (w77y1 N.1 g0 g1) (IntKind.i64.wrap (w77y2 N.1 g0 g1+(1:Int)))))).1) ((sumR ((0:Int),[],(0:Int)) (N.snd.snd.2 (1:Int) (w111y0 N.1 (40:UInt8) (w77y1 N.1 g0 g1) (IntKind.i64.wrap (w77y2 N.1 g0 g1+(1:Int)))) (w111y1 N.1 (40:UInt8) (w77y1 N.1 g0 g1) (IntKind.i64.wrap (w77y2 N.1 g0 g1+(1:Int)))))).2.1) ((sumR ((0:Int),[],(0:Int)) (N.snd.snd.2 (1:Int) (w111y0 N.1 (40:UInt8) (w77y1 N.1 g0 g1) (IntKind.i64.wrap (w77y2 N.1 g0 g1+(1:Int)))) (w111y1 N.1 (40:UInt8) (w77y1 N.1 g0 g1) (IntKind.i64.wrap (w77y2 N.1 g0 g1+(1:Int)))))).2.2))))
     (some (w106r1 (w111pv0 N.1 (40:UInt8) (w77y1 N.1 g0 g1) (IntKind.i64.wrap (w77y2 N.1 g0 g1+(1:Int)))) (w111pv1 N.1 (40:UInt8) (w77y1 N.1 g0 g1) (IntKind.i64.wrap (w77y2 N.1 g0 g1+(1:Int)))) (w111pv2 N.1 (40:UInt8) (w77y1 N.1 g0 g1) (IntKind.i64.wrap (w77y2 N.1 g0 g1+(1:Int)))))))
    (ck (w111p N.1 (40:UInt8) (w77y1 N.1 g0 g1) (w77y2 N.1 g0 g1)) <|
    br (w111b_ N.1 (40:UInt8) (w77y1 N.1 g0 g1) (w77y2 N.1 g0 g1))
     (ck ((N.snd.snd.2 (1:Int) (w111y0 N.1 (40:UInt8) (w77y1 N.1 g0 g1) (w77y2 N.1 g0 g1)) (w111y1 N.1 (40:UInt8) (w77y1 N.1 g0 g1) (w77y2 N.1 g0 g1))).isSome) <|
     br (isL (N.snd.snd.2 (1:Int) (w111y0 N.1 (40:UInt8) (w77y1 N.1 g0 g1) (w77y2 N.1 g0 g1)) (w111y1 N.1 (40:UInt8) (w77y1 N.1 g0 g1) (w77y2 N.1 g0 g1))))
      (ck (w111p N.1 (41:UInt8) (sumL ((0:Int),(0:Int),[],[],(0:Int)) (N.snd.snd.2 (1:Int) (w111y0 N.1 (40:UInt8) (w77y1 N.1 g0 g1) (w77y2 N.1 g0 g1)) (w111y1 N.1 (40:UInt8) (w77y1 N.1 g0 g1) (w77y2 N.1 g0 g1)))).2.2.2.1 (sumL ((0:Int),(0:Int),[],[],(0:Int)) (N.snd.snd.2 (1:Int) (w111y0 N.1 (40:UInt8) (w77y1 N.1 g0 g1) (w77y2 N.1 g0 g1)) (w111y1 N.1 (40:UInt8) (w77y1 N.1 g0 g1) (w77y2 N.1 g0 g1)))).2.2.2.2) <|
      br (w111b_ N.1 (41:UInt8) (sumL ((0:Int),(0:Int),[],[],(0:Int)) (N.snd.snd.2 (1:Int) (w111y0 N.1 (40:UInt8) (w77y1 N.1 g0 g1) (w77y2 N.1 g0 g1)) (w111y1 N.1 (40:UInt8) (w77y1 N.1 g0 g1) (w77y2 N.1 g0 g1)))).2.2.2.1 (sumL ((0:Int),(0:Int),[],[],(0:Int)) (N.snd.snd.2 (1:Int) (w111y0 N.1 (40:UInt8) (w77y1 N.1 g0 g1) (w77y2 N.1 g0 g1)) (w111y1 N.1 (40:UInt8) (w77y1 N.1 g0 g1) (w77y2 N.1 g0 g1)))).2.2.2.2)
       (some (w106r0 ((sumL ((0:Int),(0:Int),[],[],(0:Int)) (N.snd.snd.2 (1:Int) (w111y0 N.1 (40:UInt8) (w77y1 N.1 g0 g1) (w77y2 N.1 g0 g1)) (w111y1 N.1 (40:UInt8) (w77y1 N.1 g0 g1) (w77y2 N.1 g0 g1)))).1) ((sumL ((0:Int),(0:Int),[],[],(0:Int)) (N.snd.snd.2 (1:Int) (w111y0 N.1 (40:UInt8) (w77y1 N.1 g0 g1) (w77y2 N.1 g0 g1)) (w111y1 N.1 (40:UInt8) (w77y1 N.1 g0 g1) (w77y2 N.1 g0 g1)))).2.1) ((sumL ((0:Int),(0:Int),[],[],(0:Int)) (N.snd.snd.2 (1:Int) (w111y0 N.1 (40:UInt8) (w77y1 N.1 g0 g1) (w77y2 N.1 g0 g1)) (w111y1 N.1 (40:UInt8) (w77y1 N.1 g0 g1) (w77y2 N.1 g0 g1)))).2.2.1) (w111y0 N.1 (41:UInt8) (sumL ((0:Int),(0:Int),[],[],(0:Int)) (N.snd.snd.2 (1:Int) (w111y0 N.1 (40:UInt8) (w77y1 N.1 g0 g1) (w77y2 N.1 g0 g1)) (w111y1 N.1 (40:UInt8) (w77y1 N.1 g0 g1) (w77y2 N.1 g0 g1)))).2.2.2.1 (sumL ((0:Int),(0:Int),[],[],(0:Int)) (N.snd.snd.2 (1:Int) (w111y0 N.1 (40:UInt8) (w77y1 N.1 g0 g1) (w77y2 N.1 g0 g1)) (w111y1 N.1 (40:UInt8) (w77y1 N.1 g0 g1) (w77y2 N.1 g0 g1)))).2.2.2.2) (w111y1 N.1 (41:UInt8) (sumL ((0:Int),(0:Int),[],[],(0:Int)) (N.snd.snd.2 (1:Int) (w111y0 N.1 (40:UInt8) (w77y1 N.1 g0 g1) (w77y2 N.1 g0 g1)) (w111y1 N.1 (40:UInt8) (w77y1 N.1 g0 g1) (w77y2 N.1 g0 g1)))).2.2.2.1 (sumL ((0:Int),(0:Int),[],[],(0:Int)) (N.snd.snd.2 (1:Int) (w111y0 N.1 (40:UInt8) (w77y1 N.1 g0 g1) (w77y2 N.1 g0 g1)) (w111y1 N.1 (40:UInt8) (w77y1 N.1 g0 g1) (w77y2 N.1 g0 g1)))).2.2.2.2)))
       (some (w106r1 (w111pv0 N.1 (41:UInt8) (sumL ((0:Int),(0:Int),[],[],(0:Int)) (N.snd.snd.2 (1:Int) (w111y0 N.1 (40:UInt8) (w77y1 N.1 g0 g1) (w77y2 N.1 g0 g1)) (w111y1 N.1 (40:UInt8) (w77y1 N.1 g0 g1) (w77y2 N.1 g0 g1)))).2.2.2.1 (sumL ((0:Int),(0:Int),[],[],(0:Int)) (N.snd.snd.2 (1:Int) (w111y0 N.1 (40:UInt8) (w77y1 N.1 g0 g1) (w77y2 N.1 g0 g1)) (w111y1 N.1 (40:UInt8) (w77y1 N.1 g0 g1) (w77y2 N.1 g0 g1)))).2.2.2.2) (w111pv1 N.1 (41:UInt8) (sumL ((0:Int),(0:Int),[],[],(0:Int)) (N.snd.snd.2 (1:Int) (w111y0 N.1 (40:UInt8) (w77y1 N.1 g0 g1) (w77y2 N.1 g0 g1)) (w111y1 N.1 (40:UInt8) (w77y1 N.1 g0 g1) (w77y2 N.1 g0 g1)))).2.2.2.1 (sumL ((0:Int),(0:Int),[],[],(0:Int)) (N.snd.snd.2 (1:Int) (w111y0 N.1 (40:UInt8) (w77y1 N.1 g0 g1) (w77y2 N.1 g0 g1)) (w111y1 N.1 (40:UInt8) (w77y1 N.1 g0 g1) (w77y2 N.1 g0 g1)))).2.2.2.2) (w111pv2 N.1 (41:UInt8) (sumL ((0:Int),(0:Int),[],[],(0:Int)) (N.snd.snd.2 (1:Int) (w111y0 N.1 (40:UInt8) (w77y1 N.1 g0 g1) (w77y2 N.1 g0 g1)) (w111y1 N.1 (40:UInt8) (w77y1 N.1 g0 g1) (w77y2 N.1 g0 g1)))).2.2.2.1 (sumL ((0:Int),(0:Int),[],[],(0:Int)) (N.snd.snd.2 (1:Int) (w111y0 N.1 (40:UInt8) (w77y1 N.1 g0 g1) (w77y2 N.1 g0 g1)) (w111y1 N.1 (40:UInt8) (w77y1 N.1 g0 g1) (w77y2 N.1 g0 g1)))).2.2.2.2))))
      (some (w106r1 ((sumR ((0:Int),[],(0:Int)) (N.snd.snd.2 (1:Int) (w111y0 N.1 (40:UInt8) (w77y1 N.1 g0 g1) (w77y2 N.1 g0 g1)) (w111y1 N.1 (40:UInt8) (w77y1 N.1 g0 g1) (w77y2 N.1 g0 g1)))).1) ((sumR ((0:Int),[],(0:Int)) (N.snd.snd.2 (1:Int) (w111y0 N.1 (40:UInt8) (w77y1 N.1 g0 g1) (w77y2 N.1 g0 g1)) (w111y1 N.1 (40:UInt8) (w77y1 N.1 g0 g1) (w77y2 N.1 g0 g1)))).2.1) ((sumR ((0:Int),[],(0:Int)) (N.snd.snd.2 (1:Int) (w111y0 N.1 (40:UInt8) (w77y1 N.1 g0 g1) (w77y2 N.1 g0 g1)) (w111y1 N.1 (40:UInt8) (w77y1 N.1 g0 g1) (w77y2 N.1 g0 g1)))).2.2))))
     (some (w106r1 (w111pv0 N.1 (40:UInt8) (w77y1 N.1 g0 g1) (w77y2 N.1 g0 g1)) (w111pv1 N.1 (40:UInt8) (w77y1 N.1 g0 g1) (w77y2 N.1 g0 g1)) (w111pv2 N.1 (40:UInt8) (w77y1 N.1 g0 g1) (w77y2 N.1 g0 g1)))))))
def w106 [Alg] (N:w106T) (g0:YF1) (g1:Int):O:=w106G N  g0 g1
def w106h [Alg] (_:w106T):Hint:=.d
theorem w106hk (N:w106T):HintOk (w106c N) Tryz.f106.ntmps (w106h N) w106b:=hk_of _ _ trivial
theorem w106q [Alg] (N:w106T) (g0:YF1) (g1:Int):w106G N  g0 g1=exec (w106c N) Tryz.f106.ntmps (w106h N) w106b ⟨argT 0 [.ref 50 0],[(50,.box 100 [.e .tx g0,.e (.i .i64) g1])],100⟩ (finX (w106c N) Tryz.f106 false):=by kernel_rfl
theorem w106does {N:w106T} (hc:CxOk (w106c N)) {g0:YF1} {g1:Int} {r:Res} (h:w106 N g0 g1=some r):DoesR Tryz.prog 106 (([.ref 50 0]:List X).map X.D) (HA [(50,.box 100 [.e .tx g0,.e (.i .i64) g1])]) r:=
 fun_ok hc (f:=106) (fn:=Tryz.f106) (code:=w106b) (by kernel_rfl) (by kernel_rfl) (w106hk N) (Nat.le_of_ble_eq_true (by kernel_rfl)) (ow:=false) ((w106q N g0 g1).symm.trans (by exact h))
def w106un (r:Res):Option ((Int×Int×(List Ex)×YF1×Int) ⊕ (Int×YF1×Int)):=match r with
 | (.pan (.iface 96 (.int .i64 a0)),[(50,.box 100 [x1,x2])])=>(match ue .tx x1,ue (.i .i64) x2 with | some a1,some a2=>some (.inr (a0,a1,a2)) | _,_=>none)
 | (.agg [x0,x1,x2],[(50,.box 100 [x3,x4])])=>(match ue (.i .i64) x0,ue (.i .i64) x1,ue (.sl .ex) x2,ue .tx x3,ue (.i .i64) x4 with | some a0,some a1,some a2,some a3,some a4=>some (.inl (a0,a1,a2,a3,a4)) | _,_,_,_,_=>none)
 | _=>none
theorem w106uo {r:Res} {d:Int×Int×(List Ex)×YF1×Int} (h:w106un r=some (.inl d)):r=w106r0 (d.1) (d.2.1) (d.2.2.1) (d.2.2.2.1) (d.2.2.2.2):=by
 unfold w106un at h
 split at h
 ·split at h
  ·cases h
  ·cases h
 ·split at h
  ·rename_i h0 h1 h2 h3 h4;cases h;rw [ue_some h0,ue_some h1,ue_some h2,ue_some h3,ue_some h4];rfl
  ·cases h
 ·cases h
theorem w106uop {r:Res} {d:Int×YF1×Int} (h:w106un r=some (.inr d)):r=w106r1 (d.1) (d.2.1) (d.2.2):=by
 unfold w106un at h
 split at h
 ·split at h
  ·rename_i h1 h2;cases h;rw [ue_some h1,ue_some h2];rfl
  ·cases h
 ·split at h
  ·cases h
  ·cases h
 ·cases h
def w106z (N:w106T) (g0:YF1) (g1:Int):Option ((Int×Int×(List Ex)×YF1×Int) ⊕ (Int×YF1×Int)):=(w106 N g0 g1).bind w106un
theorem w106fin {N:w106T} (hc:CxOk (w106c N)) {g0:YF1} {g1:Int} {d:Int×Int×(List Ex)×YF1×Int} (hd:w106z N g0 g1=some (.inl d)):Does Tryz.prog 106 (([.ref 50 0]:List X).map X.D) (HA [(50,.box 100 [.e .tx g0,.e (.i .i64) g1])]) (w106r0 (d.1) (d.2.1) (d.2.2.1) (d.2.2.2.1) (d.2.2.2.2)).1.D (HA (w106r0 (d.1) (d.2.1) (d.2.2.1) (d.2.2.2.1) (d.2.2.2.2)).2):=by
 obtain ⟨r,hr,hu⟩:=Option.bind_eq_some_iff.1 hd
 have:=w106does hc hr
 rw [w106uo hu] at this
 exact this
theorem w106finp {N:w106T} (hc:CxOk (w106c N)) {g0:YF1} {g1:Int} {d:Int×YF1×Int} (hd:w106z N g0 g1=some (.inr d)):DoesR Tryz.prog 106 (([.ref 50 0]:List X).map X.D) (HA [(50,.box 100 [.e .tx g0,.e (.i .i64) g1])]) (w106r1 (d.1) (d.2.1) (d.2.2)):=by
 obtain ⟨r,hr,hu⟩:=Option.bind_eq_some_iff.1 hd
 have:=w106does hc hr
 rw [w106uop hu] at this
 exact this
def w97L (N:w106T):List (Nat×Ent'):=[(77,w77e N.1)]
def w97Lp (N:w106T):List (Nat×EntP):=[(106,w106E N),(97,w97E N),(76,w76E N)]
def w97c (N:w106T):Cx:=⟨Tryz.prog,25,w97L N,w97Lp N⟩
def w97b:Code:=Tryz.f97.body.getD .skip
theorem w97cx (N:w106T) (hw107:EOkP Tryz.prog 106 (w106E N)) (hw85:EOkP Tryz.prog 97 (w97E N)) (hw53:EOkP Tryz.prog 76 (w76E N)):CxOk (w97c N):=ctx_ok (by kernel_rfl) (.cons (by kernel_rfl) (w77ok N.1) .nil) (.cons (by kernel_rfl) hw107 (.cons (by kernel_rfl) hw85 (.cons (by kernel_rfl) hw53 .nil)))
def w97G [Alg] (N:w106T)  (g0:YF1) (g1:Int):O:=
 ck (w77p N.1 g0 g1) <|
 br (decide (w77y0 N.1 g0 g1=(45:UInt8)))
  (ck ((N.snd.snd.1 (w77y1 N.1 g0 g1) (IntKind.i64.wrap (w77y2 N.1 g0 g1+(1:Int)))).isSome) <|
  br (isL (N.snd.snd.1 (w77y1 N.1 g0 g1) (IntKind.i64.wrap (w77y2 N.1 g0 g1+(1:Int)))))
   (some (w97r0 2 0 ([Ex.mk (sumL ((0:Int),(0:Int),[],[],(0:Int)) (N.snd.snd.1 (w77y1 N.1 g0 g1) (IntKind.i64.wrap (w77y2 N.1 g0 g1+(1:Int))))).1 (sumL ((0:Int),(0:Int),[],[],(0:Int)) (N.snd.snd.1 (w77y1 N.1 g0 g1) (IntKind.i64.wrap (w77y2 N.1 g0 g1+(1:Int))))).2.1 (sumL ((0:Int),(0:Int),[],[],(0:Int)) (N.snd.snd.1 (w77y1 N.1 g0 g1) (IntKind.i64.wrap (w77y2 N.1 g0 g1+(1:Int))))).2.2.1]) ((sumL ((0:Int),(0:Int),[],[],(0:Int)) (N.snd.snd.1 (w77y1 N.1 g0 g1) (IntKind.i64.wrap (w77y2 N.1 g0 g1+(1:Int))))).2.2.2.1) ((sumL ((0:Int),(0:Int),[],[],(0:Int)) (N.snd.snd.1 (w77y1 N.1 g0 g1) (IntKind.i64.wrap (w77y2 N.1 g0 g1+(1:Int))))).2.2.2.2)))
   (some (w97r1 ((sumR ((0:Int),[],(0:Int)) (N.snd.snd.1 (w77y1 N.1 g0 g1) (IntKind.i64.wrap (w77y2 N.1 g0 g1+(1:Int))))).1) ((sumR ((0:Int),[],(0:Int)) (N.snd.snd.1 (w77y1 N.1 g0 g1) (IntKind.i64.wrap (w77y2 N.1 g0 g1+(1:Int))))).2.1) ((sumR ((0:Int),[],(0:Int)) (N.snd.snd.1 (w77y1 N.1 g0 g1) (IntKind.i64.wrap (w77y2 N.1 g0 g1+(1:Int))))).2.2))))
  (ck ((N.snd.1 (w77y1 N.1 g0 g1) (w77y2 N.1 g0 g1)).isSome) <|
  br (isL (N.snd.1 (w77y1 N.1 g0 g1) (w77y2 N.1 g0 g1)))
   (ck (w77p N.1 (sumL ((0:Int),(0:Int),[],[],(0:Int)) (N.snd.1 (w77y1 N.1 g0 g1) (w77y2 N.1 g0 g1))).2.2.2.1 (sumL ((0:Int),(0:Int),[],[],(0:Int)) (N.snd.1 (w77y1 N.1 g0 g1) (w77y2 N.1 g0 g1))).2.2.2.2) <|
   br (decide (w77y0 N.1 (sumL ((0:Int),(0:Int),[],[],(0:Int)) (N.snd.1 (w77y1 N.1 g0 g1) (w77y2 N.1 g0 g1))).2.2.2.1 (sumL ((0:Int),(0:Int),[],[],(0:Int)) (N.snd.1 (w77y1 N.1 g0 g1) (w77y2 N.1 g0 g1))).2.2.2.2=(94:UInt8)))
    (ck ((N.snd.snd.1 (w77y1 N.1 (sumL ((0:Int),(0:Int),[],[],(0:Int)) (N.snd.1 (w77y1 N.1 g0 g1) (w77y2 N.1 g0 g1))).2.2.2.1 (sumL ((0:Int),(0:Int),[],[],(0:Int)) (N.snd.1 (w77y1 N.1 g0 g1) (w77y2 N.1 g0 g1))).2.2.2.2) (IntKind.i64.wrap (w77y2 N.1 (sumL ((0:Int),(0:Int),[],[],(0:Int)) (N.snd.1 (w77y1 N.1 g0 g1) (w77y2 N.1 g0 g1))).2.2.2.1 (sumL ((0:Int),(0:Int),[],[],(0:Int)) (N.snd.1 (w77y1 N.1 g0 g1) (w77y2 N.1 g0 g1))).2.2.2.2+(1:Int)))).isSome) <|
    br (isL (N.snd.snd.1 (w77y1 N.1 (sumL ((0:Int),(0:Int),[],[],(0:Int)) (N.snd.1 (w77y1 N.1 g0 g1) (w77y2 N.1 g0 g1))).2.2.2.1 (sumL ((0:Int),(0:Int),[],[],(0:Int)) (N.snd.1 (w77y1 N.1 g0 g1) (w77y2 N.1 g0 g1))).2.2.2.2) (IntKind.i64.wrap (w77y2 N.1 (sumL ((0:Int),(0:Int),[],[],(0:Int)) (N.snd.1 (w77y1 N.1 g0 g1) (w77y2 N.1 g0 g1))).2.2.2.1 (sumL ((0:Int),(0:Int),[],[],(0:Int)) (N.snd.1 (w77y1 N.1 g0 g1) (w77y2 N.1 g0 g1))).2.2.2.2+(1:Int)))))
     (some (w97r0 7 0 ([Ex.mk (sumL ((0:Int),(0:Int),[],[],(0:Int)) (N.snd.1 (w77y1 N.1 g0 g1) (w77y2 N.1 g0 g1))).1 (sumL ((0:Int),(0:Int),[],[],(0:Int)) (N.snd.1 (w77y1 N.1 g0 g1) (w77y2 N.1 g0 g1))).2.1 (sumL ((0:Int),(0:Int),[],[],(0:Int)) (N.snd.1 (w77y1 N.1 g0 g1) (w77y2 N.1 g0 g1))).2.2.1,Ex.mk (sumL ((0:Int),(0:Int),[],[],(0:Int)) (N.snd.snd.1 (w77y1 N.1 (sumL ((0:Int),(0:Int),[],[],(0:Int)) (N.snd.1 (w77y1 N.1 g0 g1) (w77y2 N.1 g0 g1))).2.2.2.1 (sumL ((0:Int),(0:Int),[],[],(0:Int)) (N.snd.1 (w77y1 N.1 g0 g1) (w77y2 N.1 g0 g1))).2.2.2.2) (IntKind.i64.wrap (w77y2 N.1 (sumL ((0:Int),(0:Int),[],[],(0:Int)) (N.snd.1 (w77y1 N.1 g0 g1) (w77y2 N.1 g0 g1))).2.2.2.1 (sumL ((0:Int),(0:Int),[],[],(0:Int)) (N.snd.1 (w77y1 N.1 g0 g1) (w77y2 N.1 g0 g1))).2.2.2.2+(1:Int))))).1 (sumL ((0:Int),(0:Int),[],[],(0:Int)) (N.snd.snd.1 (w77y1 N.1 (sumL ((0:Int),(0:Int),[],[],(0:Int)) (N.snd.1 (w77y1 N.1 g0 g1) (w77y2 N.1 g0 g1))).2.2.2.1 (sumL ((0:Int),(0:Int),[],[],(0:Int)) (N.snd.1 (w77y1 N.1 g0 g1) (w77y2 N.1 g0 g1))).2.2.2.2) (IntKind.i64.wrap (w77y2 N.1 (sumL ((0:Int),(0:Int),[],[],(0:Int)) (N.snd.1 (w77y1 N.1 g0 g1) (w77y2 N.1 g0 g1))).2.2.2.1 (sumL ((0:Int),(0:Int),[],[],(0:Int)) (N.snd.1 (w77y1 N.1 g0 g1) (w77y2 N.1 g0 g1))).2.2.2.2+(1:Int))))).2.1 (sumL ((0:Int),(0:Int),[],[],(0:Int)) (N.snd.snd.1 (w77y1 N.1 (sumL ((0:Int),(0:Int),[],[],(0:Int)) (N.snd.1 (w77y1 N.1 g0 g1) (w77y2 N.1 g0 g1))).2.2.2.1 (sumL ((0:Int),(0:Int),[],[],(0:Int)) (N.snd.1 (w77y1 N.1 g0 g1) (w77y2 N.1 g0 g1))).2.2.2.2) (IntKind.i64.wrap (w77y2 N.1 (sumL ((0:Int),(0:Int),[],[],(0:Int)) (N.snd.1 (w77y1 N.1 g0 g1) (w77y2 N.1 g0 g1))).2.2.2.1 (sumL ((0:Int),(0:Int),[],[],(0:Int)) (N.snd.1 (w77y1 N.1 g0 g1) (w77y2 N.1 g0 g1))).2.2.2.2+(1:Int))))).2.2.1]) ((sumL ((0:Int),(0:Int),[],[],(0:Int)) (N.snd.snd.1 (w77y1 N.1 (sumL ((0:Int),(0:Int),[],[],(0:Int)) (N.snd.1 (w77y1 N.1 g0 g1) (w77y2 N.1 g0 g1))).2.2.2.1 (sumL ((0:Int),(0:Int),[],[],(0:Int)) (N.snd.1 (w77y1 N.1 g0 g1) (w77y2 N.1 g0 g1))).2.2.2.2) (IntKind.i64.wrap (w77y2 N.1 (sumL ((0:Int),(0:Int),[],[],(0:Int)) (N.snd.1 (w77y1 N.1 g0 g1) (w77y2 N.1 g0 g1))).2.2.2.1 (sumL ((0:Int),(0:Int),[],[],(0:Int)) (N.snd.1 (w77y1 N.1 g0 g1) (w77y2 N.1 g0 g1))).2.2.2.2+(1:Int))))).2.2.2.1) ((sumL ((0:Int),(0:Int),[],[],(0:Int)) (N.snd.snd.1 (w77y1 N.1 (sumL ((0:Int),(0:Int),[],[],(0:Int)) (N.snd.1 (w77y1 N.1 g0 g1) (w77y2 N.1 g0 g1))).2.2.2.1 (sumL ((0:Int),(0:Int),[],[],(0:Int)) (N.snd.1 (w77y1 N.1 g0 g1) (w77y2 N.1 g0 g1))).2.2.2.2) (IntKind.i64.wrap (w77y2 N.1 (sumL ((0:Int),(0:Int),[],[],(0:Int)) (N.snd.1 (w77y1 N.1 g0 g1) (w77y2 N.1 g0 g1))).2.2.2.1 (sumL ((0:Int),(0:Int),[],[],(0:Int)) (N.snd.1 (w77y1 N.1 g0 g1) (w77y2 N.1 g0 g1))).2.2.2.2+(1:Int))))).2.2.2.2)))
     (some (w97r1 ((sumR ((0:Int),[],(0:Int)) (N.snd.snd.1 (w77y1 N.1 (sumL ((0:Int),(0:Int),[],[],(0:Int)) (N.snd.1 (w77y1 N.1 g0 g1) (w77y2 N.1 g0 g1))).2.2.2.1 (sumL ((0:Int),(0:Int),[],[],(0:Int)) (N.snd.1 (w77y1 N.1 g0 g1) (w77y2 N.1 g0 g1))).2.2.2.2) (IntKind.i64.wrap (w77y2 N.1 (sumL ((0:Int),(0:Int),[],[],(0:Int)) (N.snd.1 (w77y1 N.1 g0 g1) (w77y2 N.1 g0 g1))).2.2.2.1 (sumL ((0:Int),(0:Int),[],[],(0:Int)) (N.snd.1 (w77y1 N.1 g0 g1) (w77y2 N.1 g0 g1))).2.2.2.2+(1:Int))))).1) ((sumR ((0:Int),[],(0:Int)) (N.snd.snd.1 (w77y1 N.1 (sumL ((0:Int),(0:Int),[],[],(0:Int)) (N.snd.1 (w77y1 N.1 g0 g1) (w77y2 N.1 g0 g1))).2.2.2.1 (sumL ((0:Int),(0:Int),[],[],(0:Int)) (N.snd.1 (w77y1 N.1 g0 g1) (w77y2 N.1 g0 g1))).2.2.2.2) (IntKind.i64.wrap (w77y2 N.1 (sumL ((0:Int),(0:Int),[],[],(0:Int)) (N.snd.1 (w77y1 N.1 g0 g1) (w77y2 N.1 g0 g1))).2.2.2.1 (sumL ((0:Int),(0:Int),[],[],(0:Int)) (N.snd.1 (w77y1 N.1 g0 g1) (w77y2 N.1 g0 g1))).2.2.2.2+(1:Int))))).2.1) ((sumR ((0:Int),[],(0:Int)) (N.snd.snd.1 (w77y1 N.1 (sumL ((0:Int),(0:Int),[],[],(0:Int)) (N.snd.1 (w77y1 N.1 g0 g1) (w77y2 N.1 g0 g1))).2.2.2.1 (sumL ((0:Int),(0:Int),[],[],(0:Int)) (N.snd.1 (w77y1 N.1 g0 g1) (w77y2 N.1 g0 g1))).2.2.2.2) (IntKind.i64.wrap (w77y2 N.1 (sumL ((0:Int),(0:Int),[],[],(0:Int)) (N.snd.1 (w77y1 N.1 g0 g1) (w77y2 N.1 g0 g1))).2.2.2.1 (sumL ((0:Int),(0:Int),[],[],(0:Int)) (N.snd.1 (w77y1 N.1 g0 g1) (w77y2 N.1 g0 g1))).2.2.2.2+(1:Int))))).2.2))))
    (some (w97r0 ((sumL ((0:Int),(0:Int),[],[],(0:Int)) (N.snd.1 (w77y1 N.1 g0 g1) (w77y2 N.1 g0 g1))).1) ((sumL ((0:Int),(0:Int),[],[],(0:Int)) (N.snd.1 (w77y1 N.1 g0 g1) (w77y2 N.1 g0 g1))).2.1) ((sumL ((0:Int),(0:Int),[],[],(0:Int)) (N.snd.1 (w77y1 N.1 g0 g1) (w77y2 N.1 g0 g1))).2.2.1) (w77y1 N.1 (sumL ((0:Int),(0:Int),[],[],(0:Int)) (N.snd.1 (w77y1 N.1 g0 g1) (w77y2 N.1 g0 g1))).2.2.2.1 (sumL ((0:Int),(0:Int),[],[],(0:Int)) (N.snd.1 (w77y1 N.1 g0 g1) (w77y2 N.1 g0 g1))).2.2.2.2) (w77y2 N.1 (sumL ((0:Int),(0:Int),[],[],(0:Int)) (N.snd.1 (w77y1 N.1 g0 g1) (w77y2 N.1 g0 g1))).2.2.2.1 (sumL ((0:Int),(0:Int),[],[],(0:Int)) (N.snd.1 (w77y1 N.1 g0 g1) (w77y2 N.1 g0 g1))).2.2.2.2))))
   (some (w97r1 ((sumR ((0:Int),[],(0:Int)) (N.snd.1 (w77y1 N.1 g0 g1) (w77y2 N.1 g0 g1))).1) ((sumR ((0:Int),[],(0:Int)) (N.snd.1 (w77y1 N.1 g0 g1) (w77y2 N.1 g0 g1))).2.1) ((sumR ((0:Int),[],(0:Int)) (N.snd.1 (w77y1 N.1 g0 g1) (w77y2 N.1 g0 g1))).2.2))))
def w97 [Alg] (N:w106T) (g0:YF1) (g1:Int):O:=w97G N  g0 g1
def w97h [Alg] (_:w106T):Hint:=(.seq .d (.seq .d (.seq .d (.seq (.seq .d (.cond (.seq .d (.seq (.reg [] [] [[],[],[50],[],[],[100]]) .d)) .d)) .d))))
theorem w97hk (N:w106T):HintOk (w97c N) Tryz.f97.ntmps (w97h N) w97b:=hk_of _ _ (And.intro trivial (And.intro trivial (And.intro trivial (And.intro (And.intro trivial (And.intro (And.intro trivial (And.intro trivial trivial)) trivial)) trivial))))
theorem w97q [Alg] (N:w106T) (g0:YF1) (g1:Int):w97G N  g0 g1=exec (w97c N) Tryz.f97.ntmps (w97h N) w97b ⟨argT 0 [.ref 50 0],[(50,.box 100 [.e .tx g0,.e (.i .i64) g1])],100⟩ (finX (w97c N) Tryz.f97 false):=by kernel_rfl
theorem w97does {N:w106T} (hc:CxOk (w97c N)) {g0:YF1} {g1:Int} {r:Res} (h:w97 N g0 g1=some r):DoesR Tryz.prog 97 (([.ref 50 0]:List X).map X.D) (HA [(50,.box 100 [.e .tx g0,.e (.i .i64) g1])]) r:=
 fun_ok hc (f:=97) (fn:=Tryz.f97) (code:=w97b) (by kernel_rfl) (by kernel_rfl) (w97hk N) (Nat.le_of_ble_eq_true (by kernel_rfl)) (ow:=false) ((w97q N g0 g1).symm.trans (by exact h))
def w97un (r:Res):Option ((Int×Int×(List Ex)×YF1×Int) ⊕ (Int×YF1×Int)):=match r with
 | (.pan (.iface 96 (.int .i64 a0)),[(50,.box 100 [x1,x2])])=>(match ue .tx x1,ue (.i .i64) x2 with | some a1,some a2=>some (.inr (a0,a1,a2)) | _,_=>none)
 | (.agg [x0,x1,x2],[(50,.box 100 [x3,x4])])=>(match ue (.i .i64) x0,ue (.i .i64) x1,ue (.sl .ex) x2,ue .tx x3,ue (.i .i64) x4 with | some a0,some a1,some a2,some a3,some a4=>some (.inl (a0,a1,a2,a3,a4)) | _,_,_,_,_=>none)
 | _=>none
theorem w97uo {r:Res} {d:Int×Int×(List Ex)×YF1×Int} (h:w97un r=some (.inl d)):r=w97r0 (d.1) (d.2.1) (d.2.2.1) (d.2.2.2.1) (d.2.2.2.2):=by
 unfold w97un at h
 split at h
 ·split at h
  ·cases h
  ·cases h
 ·split at h
  ·rename_i h0 h1 h2 h3 h4;cases h;rw [ue_some h0,ue_some h1,ue_some h2,ue_some h3,ue_some h4];rfl
  ·cases h
 ·cases h
theorem w97uop {r:Res} {d:Int×YF1×Int} (h:w97un r=some (.inr d)):r=w97r1 (d.1) (d.2.1) (d.2.2):=by
 unfold w97un at h
 split at h
 ·split at h
  ·rename_i h1 h2;cases h;rw [ue_some h1,ue_some h2];rfl
  ·cases h
 ·split at h
  ·cases h
  ·cases h
 ·cases h
def w97z (N:w106T) (g0:YF1) (g1:Int):Option ((Int×Int×(List Ex)×YF1×Int) ⊕ (Int×YF1×Int)):=(w97 N g0 g1).bind w97un
theorem w97fin {N:w106T} (hc:CxOk (w97c N)) {g0:YF1} {g1:Int} {d:Int×Int×(List Ex)×YF1×Int} (hd:w97z N g0 g1=some (.inl d)):Does Tryz.prog 97 (([.ref 50 0]:List X).map X.D) (HA [(50,.box 100 [.e .tx g0,.e (.i .i64) g1])]) (w97r0 (d.1) (d.2.1) (d.2.2.1) (d.2.2.2.1) (d.2.2.2.2)).1.D (HA (w97r0 (d.1) (d.2.1) (d.2.2.1) (d.2.2.2.1) (d.2.2.2.2)).2):=by
 obtain ⟨r,hr,hu⟩:=Option.bind_eq_some_iff.1 hd
 have:=w97does hc hr
 rw [w97uo hu] at this
 exact this
theorem w97finp {N:w106T} (hc:CxOk (w97c N)) {g0:YF1} {g1:Int} {d:Int×YF1×Int} (hd:w97z N g0 g1=some (.inr d)):DoesR Tryz.prog 97 (([.ref 50 0]:List X).map X.D) (HA [(50,.box 100 [.e .tx g0,.e (.i .i64) g1])]) (w97r1 (d.1) (d.2.1) (d.2.2)):=by
 obtain ⟨r,hr,hu⟩:=Option.bind_eq_some_iff.1 hd
 have:=w97does hc hr
 rw [w97uop hu] at this
 exact this
def w76L (N:w106T):List (Nat×Ent'):=[(77,w77e N.1),(99,w99e N.1),(98,w98e N.1)]
def w76Lp (N:w106T):List (Nat×EntP):=[(106,w106E N),(97,w97E N),(76,w76E N)]
def w76c (N:w106T):Cx:=⟨Tryz.prog,25,w76L N,w76Lp N⟩
def w76b:Code:=Tryz.f76.body.getD .skip
theorem w76cx (N:w106T) (hw107:EOkP Tryz.prog 106 (w106E N)) (hw85:EOkP Tryz.prog 97 (w97E N)) (hw53:EOkP Tryz.prog 76 (w76E N)):CxOk (w76c N):=ctx_ok (by kernel_rfl) (.cons (by kernel_rfl) (w77ok N.1) (.cons (by kernel_rfl) (w99ok N.1) (.cons (by kernel_rfl) (w98ok N.1) .nil))) (.cons (by kernel_rfl) hw107 (.cons (by kernel_rfl) hw85 (.cons (by kernel_rfl) hw53 .nil)))
def w76F0 [Alg] (N:w106T)  (self:YF1->Int->Int->Int->Int->(List Ex)->O) (k0:YF1->Int->Int->Int->(List Ex)->O) (k1:Int->YF1->Int->O) (_x0_3 _x0_4:Int) (x0_0:YF1) (x0_1 x0_2 x0_5 x0_6:Int) (x0_7:(List Ex)):O:=
 ck (w77p N.1 x0_0 x0_1) <|
 ck (w98p N.1 [((0:Int),(999999:Int),(4:Int),(0:UInt8)),((0:Int),(25:Int),(4:Int),(0:UInt8)),((1:Int),(0:Int),(3:Int),(45:UInt8)),((2:Int),(0:Int),(1:Int),(43:UInt8)),((2:Int),(0:Int),(1:Int),(45:UInt8)),((2:Int),(0:Int),(2:Int),(42:UInt8)),((2:Int),(0:Int),(2:Int),(47:UInt8)),((2:Int),(0:Int),(3:Int),(94:UInt8)),((1:Int),(0:Int),(4:Int),(82:UInt8)),((2:Int),(0:Int),(0:Int),(61:UInt8)),((2:Int),(0:Int),(0:Int),(60:UInt8))] x0_2 (w77y0 N.1 x0_0 x0_1)) <|
 br (decide (w98y0 N.1 [((0:Int),(999999:Int),(4:Int),(0:UInt8)),((0:Int),(25:Int),(4:Int),(0:UInt8)),((1:Int),(0:Int),(3:Int),(45:UInt8)),((2:Int),(0:Int),(1:Int),(43:UInt8)),((2:Int),(0:Int),(1:Int),(45:UInt8)),((2:Int),(0:Int),(2:Int),(42:UInt8)),((2:Int),(0:Int),(2:Int),(47:UInt8)),((2:Int),(0:Int),(3:Int),(94:UInt8)),((1:Int),(0:Int),(4:Int),(82:UInt8)),((2:Int),(0:Int),(0:Int),(61:UInt8)),((2:Int),(0:Int),(0:Int),(60:UInt8))] x0_2 (w77y0 N.1 x0_0 x0_1) < (0:Int))||decide (w98y2 N.1 [((0:Int),(999999:Int),(4:Int),(0:UInt8)),((0:Int),(25:Int),(4:Int),(0:UInt8)),((1:Int),(0:Int),(3:Int),(45:UInt8)),((2:Int),(0:Int),(1:Int),(43:UInt8)),((2:Int),(0:Int),(1:Int),(45:UInt8)),((2:Int),(0:Int),(2:Int),(42:UInt8)),((2:Int),(0:Int),(2:Int),(47:UInt8)),((2:Int),(0:Int),(3:Int),(94:UInt8)),((1:Int),(0:Int),(4:Int),(82:UInt8)),((2:Int),(0:Int),(0:Int),(61:UInt8)),((2:Int),(0:Int),(0:Int),(60:UInt8))] x0_2 (w77y0 N.1 x0_0 x0_1)=(0:UInt8)))
  (k0 (w77y1 N.1 x0_0 x0_1) (w77y2 N.1 x0_0 x0_1) x0_5 x0_6 x0_7)
  (ck ((N.snd.snd.2 (IntKind.i64.wrap (w98y1 N.1 [((0:Int),(999999:Int),(4:Int),(0:UInt8)),((0:Int),(25:Int),(4:Int),(0:UInt8)),((1:Int),(0:Int),(3:Int),(45:UInt8)),((2:Int),(0:Int),(1:Int),(43:UInt8)),((2:Int),(0:Int),(1:Int),(45:UInt8)),((2:Int),(0:Int),(2:Int),(42:UInt8)),((2:Int),(0:Int),(2:Int),(47:UInt8)),((2:Int),(0:Int),(3:Int),(94:UInt8)),((1:Int),(0:Int),(4:Int),(82:UInt8)),((2:Int),(0:Int),(0:Int),(61:UInt8)),((2:Int),(0:Int),(0:Int),(60:UInt8))] x0_2 (w77y0 N.1 x0_0 x0_1)+(1:Int))) (w77y1 N.1 x0_0 x0_1) (IntKind.i64.wrap (w77y2 N.1 x0_0 x0_1+(1:Int)))).isSome) <|
  br (isL (N.snd.snd.2 (IntKind.i64.wrap (w98y1 N.1 [((0:Int),(999999:Int),(4:Int),(0:UInt8)),((0:Int),(25:Int),(4:Int),(0:UInt8)),((1:Int),(0:Int),(3:Int),(45:UInt8)),((2:Int),(0:Int),(1:Int),(43:UInt8)),((2:Int),(0:Int),(1:Int),(45:UInt8)),((2:Int),(0:Int),(2:Int),(42:UInt8)),((2:Int),(0:Int),(2:Int),(47:UInt8)),((2:Int),(0:Int),(3:Int),(94:UInt8)),((1:Int),(0:Int),(4:Int),(82:UInt8)),((2:Int),(0:Int),(0:Int),(61:UInt8)),((2:Int),(0:Int),(0:Int),(60:UInt8))] x0_2 (w77y0 N.1 x0_0 x0_1)+(1:Int))) (w77y1 N.1 x0_0 x0_1) (IntKind.i64.wrap (w77y2 N.1 x0_0 x0_1+(1:Int)))))
   (br (decide (w98y1 N.1 [((0:Int),(999999:Int),(4:Int),(0:UInt8)),((0:Int),(25:Int),(4:Int),(0:UInt8)),((1:Int),(0:Int),(3:Int),(45:UInt8)),((2:Int),(0:Int),(1:Int),(43:UInt8)),((2:Int),(0:Int),(1:Int),(45:UInt8)),((2:Int),(0:Int),(2:Int),(42:UInt8)),((2:Int),(0:Int),(2:Int),(47:UInt8)),((2:Int),(0:Int),(3:Int),(94:UInt8)),((1:Int),(0:Int),(4:Int),(82:UInt8)),((2:Int),(0:Int),(0:Int),(61:UInt8)),((2:Int),(0:Int),(0:Int),(60:UInt8))] x0_2 (w77y0 N.1 x0_0 x0_1)=(0:Int)))
    (k0 ((sumL ((0:Int),(0:Int),[],[],(0:Int)) (N.snd.snd.2 (IntKind.i64.wrap (w98y1 N.1 [((0:Int),(999999:Int),(4:Int),(0:UInt8)),((0:Int),(25:Int),(4:Int),(0:UInt8)),((1:Int),(0:Int),(3:Int),(45:UInt8)),((2:Int),(0:Int),(1:Int),(43:UInt8)),((2:Int),(0:Int),(1:Int),(45:UInt8)),((2:Int),(0:Int),(2:Int),(42:UInt8)),((2:Int),(0:Int),(2:Int),(47:UInt8)),((2:Int),(0:Int),(3:Int),(94:UInt8)),((1:Int),(0:Int),(4:Int),(82:UInt8)),((2:Int),(0:Int),(0:Int),(61:UInt8)),((2:Int),(0:Int),(0:Int),(60:UInt8))] x0_2 (w77y0 N.1 x0_0 x0_1)+(1:Int))) (w77y1 N.1 x0_0 x0_1) (IntKind.i64.wrap (w77y2 N.1 x0_0 x0_1+(1:Int))))).2.2.2.1) ((sumL ((0:Int),(0:Int),[],[],(0:Int)) (N.snd.snd.2 (IntKind.i64.wrap (w98y1 N.1 [((0:Int),(999999:Int),(4:Int),(0:UInt8)),((0:Int),(25:Int),(4:Int),(0:UInt8)),((1:Int),(0:Int),(3:Int),(45:UInt8)),((2:Int),(0:Int),(1:Int),(43:UInt8)),((2:Int),(0:Int),(1:Int),(45:UInt8)),((2:Int),(0:Int),(2:Int),(42:UInt8)),((2:Int),(0:Int),(2:Int),(47:UInt8)),((2:Int),(0:Int),(3:Int),(94:UInt8)),((1:Int),(0:Int),(4:Int),(82:UInt8)),((2:Int),(0:Int),(0:Int),(61:UInt8)),((2:Int),(0:Int),(0:Int),(60:UInt8))] x0_2 (w77y0 N.1 x0_0 x0_1)+(1:Int))) (w77y1 N.1 x0_0 x0_1) (IntKind.i64.wrap (w77y2 N.1 x0_0 x0_1+(1:Int))))).2.2.2.2) (w98y0 N.1 [((0:Int),(999999:Int),(4:Int),(0:UInt8)),((0:Int),(25:Int),(4:Int),(0:UInt8)),((1:Int),(0:Int),(3:Int),(45:UInt8)),((2:Int),(0:Int),(1:Int),(43:UInt8)),((2:Int),(0:Int),(1:Int),(45:UInt8)),((2:Int),(0:Int),(2:Int),(42:UInt8)),((2:Int),(0:Int),(2:Int),(47:UInt8)),((2:Int),(0:Int),(3:Int),(94:UInt8)),((1:Int),(0:Int),(4:Int),(82:UInt8)),((2:Int),(0:Int),(0:Int),(61:UInt8)),((2:Int),(0:Int),(0:Int),(60:UInt8))] x0_2 (w77y0 N.1 x0_0 x0_1)) 0 [Ex.mk x0_5 x0_6 x0_7,Ex.mk (sumL ((0:Int),(0:Int),[],[],(0:Int)) (N.snd.snd.2 (IntKind.i64.wrap (w98y1 N.1 [((0:Int),(999999:Int),(4:Int),(0:UInt8)),((0:Int),(25:Int),(4:Int),(0:UInt8)),((1:Int),(0:Int),(3:Int),(45:UInt8)),((2:Int),(0:Int),(1:Int),(43:UInt8)),((2:Int),(0:Int),(1:Int),(45:UInt8)),((2:Int),(0:Int),(2:Int),(42:UInt8)),((2:Int),(0:Int),(2:Int),(47:UInt8)),((2:Int),(0:Int),(3:Int),(94:UInt8)),((1:Int),(0:Int),(4:Int),(82:UInt8)),((2:Int),(0:Int),(0:Int),(61:UInt8)),((2:Int),(0:Int),(0:Int),(60:UInt8))] x0_2 (w77y0 N.1 x0_0 x0_1)+(1:Int))) (w77y1 N.1 x0_0 x0_1) (IntKind.i64.wrap (w77y2 N.1 x0_0 x0_1+(1:Int))))).1 (sumL ((0:Int),(0:Int),[],[],(0:Int)) (N.snd.snd.2 (IntKind.i64.wrap (w98y1 N.1 [((0:Int),(999999:Int),(4:Int),(0:UInt8)),((0:Int),(25:Int),(4:Int),(0:UInt8)),((1:Int),(0:Int),(3:Int),(45:UInt8)),((2:Int),(0:Int),(1:Int),(43:UInt8)),((2:Int),(0:Int),(1:Int),(45:UInt8)),((2:Int),(0:Int),(2:Int),(42:UInt8)),((2:Int),(0:Int),(2:Int),(47:UInt8)),((2:Int),(0:Int),(3:Int),(94:UInt8)),((1:Int),(0:Int),(4:Int),(82:UInt8)),((2:Int),(0:Int),(0:Int),(61:UInt8)),((2:Int),(0:Int),(0:Int),(60:UInt8))] x0_2 (w77y0 N.1 x0_0 x0_1)+(1:Int))) (w77y1 N.1 x0_0 x0_1) (IntKind.i64.wrap (w77y2 N.1 x0_0 x0_1+(1:Int))))).2.1 (sumL ((0:Int),(0:Int),[],[],(0:Int)) (N.snd.snd.2 (IntKind.i64.wrap (w98y1 N.1 [((0:Int),(999999:Int),(4:Int),(0:UInt8)),((0:Int),(25:Int),(4:Int),(0:UInt8)),((1:Int),(0:Int),(3:Int),(45:UInt8)),((2:Int),(0:Int),(1:Int),(43:UInt8)),((2:Int),(0:Int),(1:Int),(45:UInt8)),((2:Int),(0:Int),(2:Int),(42:UInt8)),((2:Int),(0:Int),(2:Int),(47:UInt8)),((2:Int),(0:Int),(3:Int),(94:UInt8)),((1:Int),(0:Int),(4:Int),(82:UInt8)),((2:Int),(0:Int),(0:Int),(61:UInt8)),((2:Int),(0:Int),(0:Int),(60:UInt8))] x0_2 (w77y0 N.1 x0_0 x0_1)+(1:Int))) (w77y1 N.1 x0_0 x0_1) (IntKind.i64.wrap (w77y2 N.1 x0_0 x0_1+(1:Int))))).2.2.1])
    (self ((sumL ((0:Int),(0:Int),[],[],(0:Int)) (N.snd.snd.2 (IntKind.i64.wrap (w98y1 N.1 [((0:Int),(999999:Int),(4:Int),(0:UInt8)),((0:Int),(25:Int),(4:Int),(0:UInt8)),((1:Int),(0:Int),(3:Int),(45:UInt8)),((2:Int),(0:Int),(1:Int),(43:UInt8)),((2:Int),(0:Int),(1:Int),(45:UInt8)),((2:Int),(0:Int),(2:Int),(42:UInt8)),((2:Int),(0:Int),(2:Int),(47:UInt8)),((2:Int),(0:Int),(3:Int),(94:UInt8)),((1:Int),(0:Int),(4:Int),(82:UInt8)),((2:Int),(0:Int),(0:Int),(61:UInt8)),((2:Int),(0:Int),(0:Int),(60:UInt8))] x0_2 (w77y0 N.1 x0_0 x0_1)+(1:Int))) (w77y1 N.1 x0_0 x0_1) (IntKind.i64.wrap (w77y2 N.1 x0_0 x0_1+(1:Int))))).2.2.2.1) ((sumL ((0:Int),(0:Int),[],[],(0:Int)) (N.snd.snd.2 (IntKind.i64.wrap (w98y1 N.1 [((0:Int),(999999:Int),(4:Int),(0:UInt8)),((0:Int),(25:Int),(4:Int),(0:UInt8)),((1:Int),(0:Int),(3:Int),(45:UInt8)),((2:Int),(0:Int),(1:Int),(43:UInt8)),((2:Int),(0:Int),(1:Int),(45:UInt8)),((2:Int),(0:Int),(2:Int),(42:UInt8)),((2:Int),(0:Int),(2:Int),(47:UInt8)),((2:Int),(0:Int),(3:Int),(94:UInt8)),((1:Int),(0:Int),(4:Int),(82:UInt8)),((2:Int),(0:Int),(0:Int),(61:UInt8)),((2:Int),(0:Int),(0:Int),(60:UInt8))] x0_2 (w77y0 N.1 x0_0 x0_1)+(1:Int))) (w77y1 N.1 x0_0 x0_1) (IntKind.i64.wrap (w77y2 N.1 x0_0 x0_1+(1:Int))))).2.2.2.2) (w98y1 N.1 [((0:Int),(999999:Int),(4:Int),(0:UInt8)),((0:Int),(25:Int),(4:Int),(0:UInt8)),((1:Int),(0:Int),(3:Int),(45:UInt8)),((2:Int),(0:Int),(1:Int),(43:UInt8)),((2:Int),(0:Int),(1:Int),(45:UInt8)),((2:Int),(0:Int),(2:Int),(42:UInt8)),((2:Int),(0:Int),(2:Int),(47:UInt8)),((2:Int),(0:Int),(3:Int),(94:UInt8)),((1:Int),(0:Int),(4:Int),(82:UInt8)),((2:Int),(0:Int),(0:Int),(61:UInt8)),((2:Int),(0:Int),(0:Int),(60:UInt8))] x0_2 (w77y0 N.1 x0_0 x0_1)) (w98y0 N.1 [((0:Int),(999999:Int),(4:Int),(0:UInt8)),((0:Int),(25:Int),(4:Int),(0:UInt8)),((1:Int),(0:Int),(3:Int),(45:UInt8)),((2:Int),(0:Int),(1:Int),(43:UInt8)),((2:Int),(0:Int),(1:Int),(45:UInt8)),((2:Int),(0:Int),(2:Int),(42:UInt8)),((2:Int),(0:Int),(2:Int),(47:UInt8)),((2:Int),(0:Int),(3:Int),(94:UInt8)),((1:Int),(0:Int),(4:Int),(82:UInt8)),((2:Int),(0:Int),(0:Int),(61:UInt8)),((2:Int),(0:Int),(0:Int),(60:UInt8))] x0_2 (w77y0 N.1 x0_0 x0_1)) 0 [Ex.mk x0_5 x0_6 x0_7,Ex.mk (sumL ((0:Int),(0:Int),[],[],(0:Int)) (N.snd.snd.2 (IntKind.i64.wrap (w98y1 N.1 [((0:Int),(999999:Int),(4:Int),(0:UInt8)),((0:Int),(25:Int),(4:Int),(0:UInt8)),((1:Int),(0:Int),(3:Int),(45:UInt8)),((2:Int),(0:Int),(1:Int),(43:UInt8)),((2:Int),(0:Int),(1:Int),(45:UInt8)),((2:Int),(0:Int),(2:Int),(42:UInt8)),((2:Int),(0:Int),(2:Int),(47:UInt8)),((2:Int),(0:Int),(3:Int),(94:UInt8)),((1:Int),(0:Int),(4:Int),(82:UInt8)),((2:Int),(0:Int),(0:Int),(61:UInt8)),((2:Int),(0:Int),(0:Int),(60:UInt8))] x0_2 (w77y0 N.1 x0_0 x0_1)+(1:Int))) (w77y1 N.1 x0_0 x0_1) (IntKind.i64.wrap (w77y2 N.1 x0_0 x0_1+(1:Int))))).1 (sumL ((0:Int),(0:Int),[],[],(0:Int)) (N.snd.snd.2 (IntKind.i64.wrap (w98y1 N.1 [((0:Int),(999999:Int),(4:Int),(0:UInt8)),((0:Int),(25:Int),(4:Int),(0:UInt8)),((1:Int),(0:Int),(3:Int),(45:UInt8)),((2:Int),(0:Int),(1:Int),(43:UInt8)),((2:Int),(0:Int),(1:Int),(45:UInt8)),((2:Int),(0:Int),(2:Int),(42:UInt8)),((2:Int),(0:Int),(2:Int),(47:UInt8)),((2:Int),(0:Int),(3:Int),(94:UInt8)),((1:Int),(0:Int),(4:Int),(82:UInt8)),((2:Int),(0:Int),(0:Int),(61:UInt8)),((2:Int),(0:Int),(0:Int),(60:UInt8))] x0_2 (w77y0 N.1 x0_0 x0_1)+(1:Int))) (w77y1 N.1 x0_0 x0_1) (IntKind.i64.wrap (w77y2 N.1 x0_0 x0_1+(1:Int))))).2.1 (sumL ((0:Int),(0:Int),[],[],(0:Int)) (N.snd.snd.2 (IntKind.i64.wrap (w98y1 N.1 [((0:Int),(999999:Int),(4:Int),(0:UInt8)),((0:Int),(25:Int),(4:Int),(0:UInt8)),((1:Int),(0:Int),(3:Int),(45:UInt8)),((2:Int),(0:Int),(1:Int),(43:UInt8)),((2:Int),(0:Int),(1:Int),(45:UInt8)),((2:Int),(0:Int),(2:Int),(42:UInt8)),((2:Int),(0:Int),(2:Int),(47:UInt8)),((2:Int),(0:Int),(3:Int),(94:UInt8)),((1:Int),(0:Int),(4:Int),(82:UInt8)),((2:Int),(0:Int),(0:Int),(61:UInt8)),((2:Int),(0:Int),(0:Int),(60:UInt8))] x0_2 (w77y0 N.1 x0_0 x0_1)+(1:Int))) (w77y1 N.1 x0_0 x0_1) (IntKind.i64.wrap (w77y2 N.1 x0_0 x0_1+(1:Int))))).2.2.1]))
   (k1 ((sumR ((0:Int),[],(0:Int)) (N.snd.snd.2 (IntKind.i64.wrap (w98y1 N.1 [((0:Int),(999999:Int),(4:Int),(0:UInt8)),((0:Int),(25:Int),(4:Int),(0:UInt8)),((1:Int),(0:Int),(3:Int),(45:UInt8)),((2:Int),(0:Int),(1:Int),(43:UInt8)),((2:Int),(0:Int),(1:Int),(45:UInt8)),((2:Int),(0:Int),(2:Int),(42:UInt8)),((2:Int),(0:Int),(2:Int),(47:UInt8)),((2:Int),(0:Int),(3:Int),(94:UInt8)),((1:Int),(0:Int),(4:Int),(82:UInt8)),((2:Int),(0:Int),(0:Int),(61:UInt8)),((2:Int),(0:Int),(0:Int),(60:UInt8))] x0_2 (w77y0 N.1 x0_0 x0_1)+(1:Int))) (w77y1 N.1 x0_0 x0_1) (IntKind.i64.wrap (w77y2 N.1 x0_0 x0_1+(1:Int))))).1) ((sumR ((0:Int),[],(0:Int)) (N.snd.snd.2 (IntKind.i64.wrap (w98y1 N.1 [((0:Int),(999999:Int),(4:Int),(0:UInt8)),((0:Int),(25:Int),(4:Int),(0:UInt8)),((1:Int),(0:Int),(3:Int),(45:UInt8)),((2:Int),(0:Int),(1:Int),(43:UInt8)),((2:Int),(0:Int),(1:Int),(45:UInt8)),((2:Int),(0:Int),(2:Int),(42:UInt8)),((2:Int),(0:Int),(2:Int),(47:UInt8)),((2:Int),(0:Int),(3:Int),(94:UInt8)),((1:Int),(0:Int),(4:Int),(82:UInt8)),((2:Int),(0:Int),(0:Int),(61:UInt8)),((2:Int),(0:Int),(0:Int),(60:UInt8))] x0_2 (w77y0 N.1 x0_0 x0_1)+(1:Int))) (w77y1 N.1 x0_0 x0_1) (IntKind.i64.wrap (w77y2 N.1 x0_0 x0_1+(1:Int))))).2.1) ((sumR ((0:Int),[],(0:Int)) (N.snd.snd.2 (IntKind.i64.wrap (w98y1 N.1 [((0:Int),(999999:Int),(4:Int),(0:UInt8)),((0:Int),(25:Int),(4:Int),(0:UInt8)),((1:Int),(0:Int),(3:Int),(45:UInt8)),((2:Int),(0:Int),(1:Int),(43:UInt8)),((2:Int),(0:Int),(1:Int),(45:UInt8)),((2:Int),(0:Int),(2:Int),(42:UInt8)),((2:Int),(0:Int),(2:Int),(47:UInt8)),((2:Int),(0:Int),(3:Int),(94:UInt8)),((1:Int),(0:Int),(4:Int),(82:UInt8)),((2:Int),(0:Int),(0:Int),(61:UInt8)),((2:Int),(0:Int),(0:Int),(60:UInt8))] x0_2 (w77y0 N.1 x0_0 x0_1)+(1:Int))) (w77y1 N.1 x0_0 x0_1) (IntKind.i64.wrap (w77y2 N.1 x0_0 x0_1+(1:Int))))).2.2)))
def w76b0:Code:=atC [1,1,1,0,0] w76b
def w76m0:Nm:=⟨[0,3,4,5],[],[.cv 5 2 (.sl .ex)]⟩
def w76I0 (x:YF1×Int×Int×Int×Int×Int×Int×(List Ex)):Sg:=⟨[(0,.ref 50 0),(3,.ref 0 0),(4,.ref 1 0),(5,.ref 2 0)],[(50,.box 100 [.e .tx x.1,.e (.i .i64) x.2.1]),(0,.box 3 [.e (.i .i64) x.2.2.1]),(1,.box 25 [.e (.i .i64) x.2.2.2.1,.e (.i .i64) x.2.2.2.2.1,.nilS]),(2,.box 25 [.e (.i .i64) x.2.2.2.2.2.1,.e (.i .i64) x.2.2.2.2.2.2.1,.e (.sl .ex) x.2.2.2.2.2.2.2])],100⟩
def w76u0 (σ:Sg):YF1×Int×Int×Int×Int×Int×Int×(List Ex):=(lvH .tx 50 0 σ,lvH (.i .i64) 50 1 σ,lvH (.i .i64) 0 0 σ,lvH (.i .i64) 1 0 σ,lvH (.i .i64) 1 1 σ,lvH (.i .i64) 2 0 σ,lvH (.i .i64) 2 1 σ,lvH (.sl .ex) 2 2 σ)
theorem w76ui0:∀ x,w76u0 (w76I0 x)=x:=fun _=>by kernel_rfl
def w76X0_0 (y:YF1×Int×Int×Int×(List Ex)):Exit×Sg:=(.ret,⟨[(4,.ref 0 0)],[(50,.box 100 [.e .tx y.1,.e (.i .i64) y.2.1]),(0,.box 25 [.e (.i .i64) y.2.2.1,.e (.i .i64) y.2.2.2.1,.e (.sl .ex) y.2.2.2.2])],100⟩)
def w76v0_0 (_:Exit) (σ:Sg):YF1×Int×Int×Int×(List Ex):=(lvH .tx 50 0 σ,lvH (.i .i64) 50 1 σ,lvH (.i .i64) 0 0 σ,lvH (.i .i64) 0 1 σ,lvH (.sl .ex) 0 2 σ)
def w76X0_1 (y:Int×YF1×Int):Exit×Sg:=((.panic [pent (.iface 96 (.int .i64 y.1))]),⟨[],[(50,.box 100 [.e .tx y.2.1,.e (.i .i64) y.2.2])],100⟩)
def w76v0_1 (e:Exit) (σ:Sg):Int×YF1×Int:=(lvP e,lvH .tx 50 0 σ,lvH (.i .i64) 50 1 σ)
def w76w0:List (Exit×Nm):=[(.ret,⟨[4],[],[.cv 4 2 (.sl .ex)]⟩),((.panic []),⟨[],[],[]⟩)]
theorem w76o0:Outs w76v0_0 w76v0_1 (fun _ _=>()) w76X0_0 w76X0_1 (noX 2) (exC .ret) (exC (.panic [])) (exC (.goto 2)):=⟨fun _=>by kernel_rfl,fun _=>by kernel_rfl,fun _=>by kernel_rfl,fun _=>by kernel_rfl,fun _=>by kernel_rfl,fun _=>by kernel_rfl,exNe_ok (by kernel_rfl),exNe_ok (by kernel_rfl),exNe_ok (by kernel_rfl)⟩
def w76l0 [Alg] (N:w106T):Nat->(YF1×Int×Int×Int×Int×Int×Int×(List Ex))->((YF1×Int×Int×Int×(List Ex))->O)->((Int×YF1×Int)->O)->((Unit)->O)->O
 | 0,_,_,_,_=>none
 | n+1,x,k0,k1,k2=>w76F0 N  (fun v0 v1 v2 v3 v4 v5=>w76l0 N n (v0,v1,v2,x.2.2.2.1,x.2.2.2.2.1,v3,v4,v5) k0 k1 k2) (fun y0 y1 y2 y3 y4=>k0 (y0,y1,y2,y3,y4)) (fun y0 y1 y2=>k1 (y0,y1,y2)) x.2.2.2.1 x.2.2.2.2.1 x.1 x.2.1 x.2.2.1 x.2.2.2.2.2.1 x.2.2.2.2.2.2.1 x.2.2.2.2.2.2.2
def w76n0 [Alg] (N:w106T) (a0:YF1) (a1 a2 a3 a4 a5 a6:Int) (a7:(List Ex)) (k0:YF1->Int->Int->Int->(List Ex)->O) (k1:Int->YF1->Int->O):O:=w76l0 N N.1 (a0,a1,a2,a3,a4,a5,a6,a7) (fun y=>k0 y.1 y.2.1 y.2.2.1 y.2.2.2.1 y.2.2.2.2) (fun y=>k1 y.1 y.2.1 y.2.2) (fun _=>none)
def w76s0 [Alg] (N:w106T) (a0:YF1) (a1 a2 a3 a4 a5 a6:Int) (a7:(List Ex)) (k0:YF1->Int->Int->Int->(List Ex)->O) (k1:Int->YF1->Int->O):O:=subL w76I0 w76u0 (w76l0 N N.1) (w76I0 (a0,a1,a2,a3,a4,a5,a6,a7)) (fun y=>k0 y.1 y.2.1 y.2.2.1 y.2.2.2.1 y.2.2.2.2) (fun y=>k1 y.1 y.2.1 y.2.2) (fun _=>none)
theorem w76e0 [Alg] (N:w106T):w76s0 N=w76n0 N:=funext fun _=>funext fun _=>funext fun _=>funext fun _=>funext fun _=>funext fun _=>funext fun _=>funext fun _=>funext fun _=>funext fun _=>subL_I w76ui0 _ _ _ _
def w76h0 [Alg] (_:w106T):Hint:=(.block (.seq .d (.seq .d (.seq .d (.seq .d (.seq (.reg [] [] [[],[],[],[],[],[50],[],[],[2]]) .d))))))
theorem w76hk0 (N:w106T):HintOk (w76c N) Tryz.f76.ntmps (w76h0 N) w76b0:=hk_of _ _ (And.intro trivial (And.intro trivial (And.intro trivial (And.intro trivial (And.intro trivial trivial)))))
theorem w76q0 [Alg] (N:w106T) (self:Sg->O) (K:Exit->Sg->O) (x:YF1×Int×Int×Int×Int×Int×Int×(List Ex)):w76F0 N  (fun v0 v1 v2 v3 v4 v5=>self (w76I0 (v0,v1,v2,x.2.2.2.1,x.2.2.2.2.1,v3,v4,v5))) (fun y0 y1 y2 y3 y4=>K (w76X0_0 (y0,y1,y2,y3,y4)).1 (w76X0_0 (y0,y1,y2,y3,y4)).2) (fun y0 y1 y2=>K (w76X0_1 (y0,y1,y2)).1 (w76X0_1 (y0,y1,y2)).2) x.2.2.2.1 x.2.2.2.2.1 x.1 x.2.1 x.2.2.1 x.2.2.2.2.2.1 x.2.2.2.2.2.2.1 x.2.2.2.2.2.2.2=exec (w76c N) Tryz.f76.ntmps (w76h0 N) w76b0 (w76I0 x) (roundX w76m0 w76w0 self K):=by kernel_rfl
theorem w76S0 (N:w106T) (hc:CxOk (w76c N)):SubOk (w76c N) Tryz.f76.ntmps (.loop w76b0) w76X0_0 w76X0_1 (noX 2) (subL w76I0 w76u0 (w76l0 N N.1)):=
 sub_loop hc (w76hk0 N) w76o0 (n:=N.1) (fun x K=>loop_ind (w76l0 N) (fun _ _ _ _=>rfl) (fun n K ih x=>by
  refine Eq.trans ?_ (w76q0 N _ K x)
  simp only [← ih]
  rfl) N.1 x K)
def w76G [Alg] (N:w106T) (in0:YF1->Int->Int->Int->Int->Int->Int->(List Ex)->(YF1->Int->Int->Int->(List Ex)->O)->(Int->YF1->Int->O)->O) (n1:Int) (g0:YF1) (g1:Int):O:=
 br (decide (n1=3))
  (ck ((N.snd.snd.1 g0 g1).isSome) <|
  br (isL (N.snd.snd.1 g0 g1))
   (some (w76r0 ((sumL ((0:Int),(0:Int),[],[],(0:Int)) (N.snd.snd.1 g0 g1)).1) ((sumL ((0:Int),(0:Int),[],[],(0:Int)) (N.snd.snd.1 g0 g1)).2.1) ((sumL ((0:Int),(0:Int),[],[],(0:Int)) (N.snd.snd.1 g0 g1)).2.2.1) ((sumL ((0:Int),(0:Int),[],[],(0:Int)) (N.snd.snd.1 g0 g1)).2.2.2.1) ((sumL ((0:Int),(0:Int),[],[],(0:Int)) (N.snd.snd.1 g0 g1)).2.2.2.2)))
   (some (w76r1 ((sumR ((0:Int),[],(0:Int)) (N.snd.snd.1 g0 g1)).1) ((sumR ((0:Int),[],(0:Int)) (N.snd.snd.1 g0 g1)).2.1) ((sumR ((0:Int),[],(0:Int)) (N.snd.snd.1 g0 g1)).2.2))))
  (ck ((N.snd.snd.2 (IntKind.i64.wrap (n1+1)) g0 g1).isSome) <|
  br (isL (N.snd.snd.2 (IntKind.i64.wrap (n1+1)) g0 g1))
   (in0 ((sumL ((0:Int),(0:Int),[],[],(0:Int)) (N.snd.snd.2 (IntKind.i64.wrap (n1+1)) g0 g1)).2.2.2.1) ((sumL ((0:Int),(0:Int),[],[],(0:Int)) (N.snd.snd.2 (IntKind.i64.wrap (n1+1)) g0 g1)).2.2.2.2) n1 0 0 ((sumL ((0:Int),(0:Int),[],[],(0:Int)) (N.snd.snd.2 (IntKind.i64.wrap (n1+1)) g0 g1)).1) ((sumL ((0:Int),(0:Int),[],[],(0:Int)) (N.snd.snd.2 (IntKind.i64.wrap (n1+1)) g0 g1)).2.1) ((sumL ((0:Int),(0:Int),[],[],(0:Int)) (N.snd.snd.2 (IntKind.i64.wrap (n1+1)) g0 g1)).2.2.1)
    (fun z1 z2 z3 z4 z5=>
     some (w76r0 (z3) (z4) (z5) z1 z2))
    (fun z6 z7 z8=>
     some (w76r1 z6 z7 z8)))
   (some (w76r1 ((sumR ((0:Int),[],(0:Int)) (N.snd.snd.2 (IntKind.i64.wrap (n1+1)) g0 g1)).1) ((sumR ((0:Int),[],(0:Int)) (N.snd.snd.2 (IntKind.i64.wrap (n1+1)) g0 g1)).2.1) ((sumR ((0:Int),[],(0:Int)) (N.snd.snd.2 (IntKind.i64.wrap (n1+1)) g0 g1)).2.2))))
def w76 [Alg] (N:w106T) (n1:Int) (g0:YF1) (g1:Int):O:=w76G N (w76n0 N) n1 g0 g1
def w76h [Alg] (N:w106T):Hint:=(.seq .d (.seq .d (.seq .d (.block (.sub w76m0 _ _ _ w76X0_0 w76X0_1 (noX 2) (subL w76I0 w76u0 (w76l0 N N.1)))))))
theorem w76hk (N:w106T) (hc:CxOk (w76c N)):HintOk (w76c N) Tryz.f76.ntmps (w76h N) w76b:=hk_of _ _ (And.intro trivial (And.intro trivial (And.intro trivial (w76S0 N hc))))
theorem w76q [Alg] (N:w106T) (n1:Int) (g0:YF1) (g1:Int):w76G N (w76s0 N) n1 g0 g1=exec (w76c N) Tryz.f76.ntmps (w76h N) w76b ⟨argT 0 [.ref 50 0,.e (.i .i64) n1],[(50,.box 100 [.e .tx g0,.e (.i .i64) g1])],100⟩ (finX (w76c N) Tryz.f76 false):=by kernel_rfl
theorem w76does {N:w106T} (hc:CxOk (w76c N)) {n1:Int} {g0:YF1} {g1:Int} {r:Res} (h:w76 N n1 g0 g1=some r):DoesR Tryz.prog 76 (([.ref 50 0,.e (.i .i64) n1]:List X).map X.D) (HA [(50,.box 100 [.e .tx g0,.e (.i .i64) g1])]) r:=
 fun_ok hc (f:=76) (fn:=Tryz.f76) (code:=w76b) (by kernel_rfl) (by kernel_rfl) (w76hk N hc) (Nat.le_of_ble_eq_true (by kernel_rfl)) (ow:=false) ((w76q N n1 g0 g1).symm.trans (by rw [w76e0 N];exact h))
def w76un (r:Res):Option ((Int×Int×(List Ex)×YF1×Int) ⊕ (Int×YF1×Int)):=match r with
 | (.pan (.iface 96 (.int .i64 a0)),[(50,.box 100 [x1,x2])])=>(match ue .tx x1,ue (.i .i64) x2 with | some a1,some a2=>some (.inr (a0,a1,a2)) | _,_=>none)
 | (.agg [x0,x1,x2],[(50,.box 100 [x3,x4])])=>(match ue (.i .i64) x0,ue (.i .i64) x1,ue (.sl .ex) x2,ue .tx x3,ue (.i .i64) x4 with | some a0,some a1,some a2,some a3,some a4=>some (.inl (a0,a1,a2,a3,a4)) | _,_,_,_,_=>none)
 | _=>none
theorem w76uo {r:Res} {d:Int×Int×(List Ex)×YF1×Int} (h:w76un r=some (.inl d)):r=w76r0 (d.1) (d.2.1) (d.2.2.1) (d.2.2.2.1) (d.2.2.2.2):=by
 unfold w76un at h
 split at h
 ·split at h
  ·cases h
  ·cases h
 ·split at h
  ·rename_i h0 h1 h2 h3 h4;cases h;rw [ue_some h0,ue_some h1,ue_some h2,ue_some h3,ue_some h4];rfl
  ·cases h
 ·cases h
theorem w76uop {r:Res} {d:Int×YF1×Int} (h:w76un r=some (.inr d)):r=w76r1 (d.1) (d.2.1) (d.2.2):=by
 unfold w76un at h
 split at h
 ·split at h
  ·rename_i h1 h2;cases h;rw [ue_some h1,ue_some h2];rfl
  ·cases h
 ·split at h
  ·cases h
  ·cases h
 ·cases h
def w76z (N:w106T) (n1:Int) (g0:YF1) (g1:Int):Option ((Int×Int×(List Ex)×YF1×Int) ⊕ (Int×YF1×Int)):=(w76 N n1 g0 g1).bind w76un
theorem w76fin {N:w106T} (hc:CxOk (w76c N)) {n1:Int} {g0:YF1} {g1:Int} {d:Int×Int×(List Ex)×YF1×Int} (hd:w76z N n1 g0 g1=some (.inl d)):Does Tryz.prog 76 (([.ref 50 0,.e (.i .i64) n1]:List X).map X.D) (HA [(50,.box 100 [.e .tx g0,.e (.i .i64) g1])]) (w76r0 (d.1) (d.2.1) (d.2.2.1) (d.2.2.2.1) (d.2.2.2.2)).1.D (HA (w76r0 (d.1) (d.2.1) (d.2.2.1) (d.2.2.2.1) (d.2.2.2.2)).2):=by
 obtain ⟨r,hr,hu⟩:=Option.bind_eq_some_iff.1 hd
 have:=w76does hc hr
 rw [w76uo hu] at this
 exact this
theorem w76finp {N:w106T} (hc:CxOk (w76c N)) {n1:Int} {g0:YF1} {g1:Int} {d:Int×YF1×Int} (hd:w76z N n1 g0 g1=some (.inr d)):DoesR Tryz.prog 76 (([.ref 50 0,.e (.i .i64) n1]:List X).map X.D) (HA [(50,.box 100 [.e .tx g0,.e (.i .i64) g1])]) (w76r1 (d.1) (d.2.1) (d.2.2)):=by
 obtain ⟨r,hr,hu⟩:=Option.bind_eq_some_iff.1 hd
 have:=w76does hc hr
 rw [w76uop hu] at this
 exact this
def w106gY (N:Nat):Nat->(YF1->Int->Option ((Int×Int×(List Ex)×YF1×Int) ⊕ (Int×YF1×Int)))×(YF1->Int->Option ((Int×Int×(List Ex)×YF1×Int) ⊕ (Int×YF1×Int)))×(Int->YF1->Int->Option ((Int×Int×(List Ex)×YF1×Int) ⊕ (Int×YF1×Int)))
 | 0=>(fun _ _=>none,fun _ _=>none,fun _ _ _=>none)
 | n+1=>(fun g0 g1=>w106z (N,w106gY N n) g0 g1,fun g0 g1=>w97z (N,w106gY N n) g0 g1,fun n1 g0 g1=>w76z (N,w106gY N n) n1 g0 g1)
theorem w106gYok (N:Nat):∀ n,EOkP Tryz.prog 106 (w106E (N,w106gY N n))/\EOkP Tryz.prog 97 (w97E (N,w106gY N n))/\EOkP Tryz.prog 76 (w76E (N,w106gY N n))
 | 0=>⟨entQ_ok w106io (fun _ h=>by cases h),entQ_ok w97io (fun _ h=>by cases h),entQ_ok w76io (fun _ h=>by cases h)⟩
 | n+1=>
   have ih:=w106gYok N n
   ⟨entQ_ok w106io (fun d h=>panStep (zz:=w106z (N,w106gY N n) (d.1) (d.2)) (R:=fun y=>w106r0 (y.1) (y.2.1) (y.2.2.1) (y.2.2.2.1) (y.2.2.2.2)) (R':=fun y=>w106r1 (y.1) (y.2.1) (y.2.2)) (d0:=(0,0,[],[],0)) (d0':=(0,[],0)) (fun _ hy=>w106fin (w106cx (N,w106gY N n) ih.1 ih.2.1 ih.2.2) hy) (fun _ hy=>w106finp (w106cx (N,w106gY N n) ih.1 ih.2.1 ih.2.2) hy) h),entQ_ok w97io (fun d h=>panStep (zz:=w97z (N,w106gY N n) (d.1) (d.2)) (R:=fun y=>w97r0 (y.1) (y.2.1) (y.2.2.1) (y.2.2.2.1) (y.2.2.2.2)) (R':=fun y=>w97r1 (y.1) (y.2.1) (y.2.2)) (d0:=(0,0,[],[],0)) (d0':=(0,[],0)) (fun _ hy=>w97fin (w97cx (N,w106gY N n) ih.1 ih.2.1 ih.2.2) hy) (fun _ hy=>w97finp (w97cx (N,w106gY N n) ih.1 ih.2.1 ih.2.2) hy) h),entQ_ok w76io (fun d h=>panStep (zz:=w76z (N,w106gY N n) (d.1) (d.2.1) (d.2.2)) (R:=fun y=>w76r0 (y.1) (y.2.1) (y.2.2.1) (y.2.2.2.1) (y.2.2.2.2)) (R':=fun y=>w76r1 (y.1) (y.2.1) (y.2.2)) (d0:=(0,0,[],[],0)) (d0':=(0,[],0)) (fun _ hy=>w76fin (w76cx (N,w106gY N n) ih.1 ih.2.1 ih.2.2) hy) (fun _ hy=>w76finp (w76cx (N,w106gY N n) ih.1 ih.2.1 ih.2.2) hy) h)⟩
def w76p (N:Nat) (n1:Int) (g0:YF1) (g1:Int):Bool:=((w106gY N N).2.2 n1 g0 g1).isSome
def w76y0 (N:Nat) (n1:Int) (g0:YF1) (g1:Int):Int:=(sumL (0,0,[],[],0) ((w106gY N N).2.2 n1 g0 g1)).1
def w76y1 (N:Nat) (n1:Int) (g0:YF1) (g1:Int):Int:=(sumL (0,0,[],[],0) ((w106gY N N).2.2 n1 g0 g1)).2.1
def w76y2 (N:Nat) (n1:Int) (g0:YF1) (g1:Int):(List Ex):=(sumL (0,0,[],[],0) ((w106gY N N).2.2 n1 g0 g1)).2.2.1
def w76y3 (N:Nat) (n1:Int) (g0:YF1) (g1:Int):YF1:=(sumL (0,0,[],[],0) ((w106gY N N).2.2 n1 g0 g1)).2.2.2.1
def w76y4 (N:Nat) (n1:Int) (g0:YF1) (g1:Int):Int:=(sumL (0,0,[],[],0) ((w106gY N N).2.2 n1 g0 g1)).2.2.2.2
def w76b_ (N:Nat) (n1:Int) (g0:YF1) (g1:Int):Bool:=isL ((w106gY N N).2.2 n1 g0 g1)
def w76pv0 (N:Nat) (n1:Int) (g0:YF1) (g1:Int):Int:=(sumR (0,[],0) ((w106gY N N).2.2 n1 g0 g1)).1
def w76pv1 (N:Nat) (n1:Int) (g0:YF1) (g1:Int):YF1:=(sumR (0,[],0) ((w106gY N N).2.2 n1 g0 g1)).2.1
def w76pv2 (N:Nat) (n1:Int) (g0:YF1) (g1:Int):Int:=(sumR (0,[],0) ((w106gY N N).2.2 n1 g0 g1)).2.2
def w76e (N:Nat):EntP:=entQ w76in (fun d=>w76p N (d.1) (d.2.1) (d.2.2)) (fun d=>some (w76b_ N (d.1) (d.2.1) (d.2.2))) (fun d=>w76r0 (w76y0 N (d.1) (d.2.1) (d.2.2)) (w76y1 N (d.1) (d.2.1) (d.2.2)) (w76y2 N (d.1) (d.2.1) (d.2.2)) (w76y3 N (d.1) (d.2.1) (d.2.2)) (w76y4 N (d.1) (d.2.1) (d.2.2))) (fun d=>w76r1 (w76pv0 N (d.1) (d.2.1) (d.2.2)) (w76pv1 N (d.1) (d.2.1) (d.2.2)) (w76pv2 N (d.1) (d.2.1) (d.2.2)))
theorem w76ok (N:Nat):EOkP Tryz.prog 76 (w76e N):=(w106gYok N N).2.2
def w49r0 (a0:Int):Res:=(.e (.i .i64) a0,[])
abbrev w49T:=Nat×(Int->Int->(List Ex)->Option (Int))
def w49L (N:w49T):List (Nat×Ent'):=[(49,E1 .ex  (fun x0=>((N.2 (Ex.op x0) (Ex.num x0) (Ex.kids x0)).isSome,w49r0 (((N.2 (Ex.op x0) (Ex.num x0) (Ex.kids x0)).getD 0)))))]
def w49c (N:w49T):Cx:=⟨Tryz.prog,25,w49L N,[]⟩
def w49b:Code:=Tryz.f49.body.getD .skip
theorem w49cx (N:w49T) (hs:EOk Tryz.prog 49 (E1 .ex  (fun x0=>((N.2 (Ex.op x0) (Ex.num x0) (Ex.kids x0)).isSome,w49r0 (((N.2 (Ex.op x0) (Ex.num x0) (Ex.kids x0)).getD 0)))))):CxOk (w49c N):=ctx_ok (by kernel_rfl) (.cons (by kernel_rfl) hs .nil) .nil
def w49F0 [Alg] (N:w49T)  (self:Int->Int->O) (k0:Int->O) (x0_1:(List Ex)) (x0_2 x0_0 x0_3:Int):O:=
 br (decide (x0_3 < x0_2))
  (gx x0_1 x0_3 fun y3=>
  ck ((N.2 y3.op y3.num y3.kids).isSome) <|
  self (IntKind.i64.wrap (x0_0+(N.2 y3.op y3.num y3.kids).getD (0:Int))) (IntKind.i64.wrap (x0_3+1)))
  (k0 x0_0)
def w49b0:Code:=atC [1,1,0,1,0,0] w49b
def w49m0:Nm:=⟨[3,7,8,9],[],[]⟩
def w49I0 (x:Int×(List Ex)×Int×Int):Sg:=⟨[(3,.e (.i .i64) x.1),(7,.e (.sl .ex) x.2.1),(8,.e (.i .i64) x.2.2.1),(9,.e (.i .i64) x.2.2.2)],[],100⟩
def w49u0 (σ:Sg):Int×(List Ex)×Int×Int:=(lvT (.i .i64) 3 0 σ,lvT (.sl .ex) 7 0 σ,lvT (.i .i64) 8 0 σ,lvT (.i .i64) 9 0 σ)
theorem w49ui0:∀ x,w49u0 (w49I0 x)=x:=fun _=>by kernel_rfl
def w49X0_0 (y:Int):Exit×Sg:=((.exit 0),⟨[(3,.e (.i .i64) y)],[],100⟩)
def w49v0_0 (_:Exit) (σ:Sg):Int:=lvT (.i .i64) 3 0 σ
def w49w0:List (Exit×Nm):=[((.exit 0),⟨[3],[],[]⟩)]
theorem w49o0:Outs w49v0_0 (fun _ _=>()) (fun _ _=>()) w49X0_0 (noX 1) (noX 2) (exC (.exit 0)) (exC (.goto 1)) (exC (.goto 2)):=⟨fun _=>by kernel_rfl,fun _=>by kernel_rfl,fun _=>by kernel_rfl,fun _=>by kernel_rfl,fun _=>by kernel_rfl,fun _=>by kernel_rfl,exNe_ok (by kernel_rfl),exNe_ok (by kernel_rfl),exNe_ok (by kernel_rfl)⟩
def w49l0 [Alg] (N:w49T):Nat->(Int×(List Ex)×Int×Int)->((Int)->O)->((Unit)->O)->((Unit)->O)->O
 | 0,_,_,_,_=>none
 | n+1,x,k0,k1,k2=>w49F0 N  (fun v0 v1=>w49l0 N n (v0,x.2.1,x.2.2.1,v1) k0 k1 k2) (fun y0=>k0 y0) x.2.1 x.2.2.1 x.1 x.2.2.2
def w49n0 [Alg] (N:w49T) (a0:Int) (a1:(List Ex)) (a2 a3:Int) (k0:Int->O):O:=w49l0 N N.1 (a0,a1,a2,a3) (fun y=>k0 y) (fun _=>none) (fun _=>none)
def w49s0 [Alg] (N:w49T) (a0:Int) (a1:(List Ex)) (a2 a3:Int) (k0:Int->O):O:=subL w49I0 w49u0 (w49l0 N N.1) (w49I0 (a0,a1,a2,a3)) (fun y=>k0 y) (fun _=>none) (fun _=>none)
theorem w49e0 [Alg] (N:w49T):w49s0 N=w49n0 N:=funext fun _=>funext fun _=>funext fun _=>funext fun _=>funext fun _=>subL_I w49ui0 _ _ _ _
def w49h0 [Alg] (_:w49T):Hint:=.d
theorem w49hk0 (N:w49T):HintOk (w49c N) Tryz.f49.ntmps (w49h0 N) w49b0:=hk_of _ _ trivial
theorem w49q0 [Alg] (N:w49T) (self:Sg->O) (K:Exit->Sg->O) (x:Int×(List Ex)×Int×Int):w49F0 N  (fun v0 v1=>self (w49I0 (v0,x.2.1,x.2.2.1,v1))) (fun y0=>K (w49X0_0 y0).1 (w49X0_0 y0).2) x.2.1 x.2.2.1 x.1 x.2.2.2=exec (w49c N) Tryz.f49.ntmps (w49h0 N) w49b0 (w49I0 x) (roundX w49m0 w49w0 self K):=by kernel_rfl
theorem w49S0 (N:w49T) (hc:CxOk (w49c N)):SubOk (w49c N) Tryz.f49.ntmps (.loop w49b0) w49X0_0 (noX 1) (noX 2) (subL w49I0 w49u0 (w49l0 N N.1)):=
 sub_loop hc (w49hk0 N) w49o0 (n:=N.1) (fun x K=>loop_ind (w49l0 N) (fun _ _ _ _=>rfl) (fun n K ih x=>by
  refine Eq.trans ?_ (w49q0 N _ K x)
  simp only [← ih]
  rfl) N.1 x K)
def w49G [Alg] (_:w49T) (in0:Int->(List Ex)->Int->Int->(Int->O)->O) (_e0_0 _e0_1:Int) (C:(List Ex)):O:=
 in0 1 C ((↑C.length:Int)) 0
  (fun z4=>
   some (w49r0 z4))
def w49 [Alg] (N:w49T) (A B:Int) (C:(List Ex)):O:=w49G N (w49n0 N) A B C
def w49h [Alg] (N:w49T):Hint:=(.seq .d (.seq .d (.seq (.seq .d (.block (.sub w49m0 _ _ _ w49X0_0 (noX 1) (noX 2) (subL w49I0 w49u0 (w49l0 N N.1))))) .d)))
theorem w49hk (N:w49T) (hc:CxOk (w49c N)):HintOk (w49c N) Tryz.f49.ntmps (w49h N) w49b:=hk_of _ _ (And.intro trivial (And.intro trivial (And.intro (And.intro trivial (w49S0 N hc)) trivial)))
theorem w49q [Alg] (N:w49T) (A B:Int) (C:(List Ex)):w49G N (w49s0 N) A B C=exec (w49c N) Tryz.f49.ntmps (w49h N) w49b ⟨argT 0 [.agg [.e (.i .i64) A,.e (.i .i64) B,.e (.sl .ex) C]],[],100⟩ (finX (w49c N) Tryz.f49 false):=by kernel_rfl
def w49un (r:Res):Option (Int):=match r with
 | (x0,[])=>(match ue (.i .i64) x0 with | some a0=>some a0 | _=>none)
 | _=>none
theorem w49uo {r:Res} {d:Int} (h:w49un r=some d):r=w49r0 (d):=by
 unfold w49un at h
 split at h
 ·split at h
  ·rename_i h0;cases h;rw [ue_some h0];rfl
  ·cases h
 ·cases h
def w49z (N:w49T) (A B:Int) (C:(List Ex)):Option (Int):=(w49 N A B C).bind w49un
theorem w49fin {N:w49T} (hc:CxOk (w49c N)) {A B:Int} {C:(List Ex)} {d:Int} (hd:w49z N A B C=some d):Does Tryz.prog 49 (([.agg [.e (.i .i64) A,.e (.i .i64) B,.e (.sl .ex) C]]:List X).map X.D) (HA []) (w49r0 (d)).1.D (HA (w49r0 (d)).2):=by
 obtain ⟨r,hr,hu⟩:=Option.bind_eq_some_iff.1 hd
 have:=fun_ok (r:=r) hc (f:=49) (fn:=Tryz.f49) (code:=w49b) (by kernel_rfl) (by kernel_rfl) (w49hk N hc) (Nat.le_of_ble_eq_true (by kernel_rfl)) (ow:=false) ((w49q N A B C).symm.trans (by rw [w49e0 N];exact hr))
 rw [w49uo hu] at this
 exact this
def w49Y (N:Nat):Nat->Int->Int->(List Ex)->Option (Int)
 | 0,_,_,_=>none
 | n+1,A,B,C=>w49z (N,w49Y N n) A B C
theorem w49Yok (N:Nat):∀ n,EOk Tryz.prog 49 (E1 .ex  (fun x0=>((w49Y N n (Ex.op x0) (Ex.num x0) (Ex.kids x0)).isSome,w49r0 (((w49Y N n (Ex.op x0) (Ex.num x0) (Ex.kids x0)).getD 0)))))
 | 0=>EOk.e1 (fun _ h=>by cases h)
 | n+1=>EOk.e1 (fun x0 h=>by
   obtain ⟨d,hd⟩:=Option.isSome_iff_exists.1 h
   have hd':w49Y N (n+1) (Ex.op x0) (Ex.num x0) (Ex.kids x0)=some d:=hd
   have e:w49r0 (((w49Y N (n+1) (Ex.op x0) (Ex.num x0) (Ex.kids x0)).getD 0))=w49r0 (d):=by rw [hd'];rfl
   show Does _ _ _ _ (w49r0 (((w49Y N (n+1) (Ex.op x0) (Ex.num x0) (Ex.kids x0)).getD 0))).1.D (HA (w49r0 (((w49Y N (n+1) (Ex.op x0) (Ex.num x0) (Ex.kids x0)).getD 0))).2)
   rw [e]
   exact w49fin (N:=(N,w49Y N n)) (w49cx (N,w49Y N n) (w49Yok N n)) hd')
def w49p (N:Nat) (A B:Int) (C:(List Ex)):Bool:=(w49Y N N A B C).isSome
def w49y0 (N:Nat) (A B:Int) (C:(List Ex)):Int:=((w49Y N N A B C).getD 0)
def w49e (N:Nat):Ent':=E1 .ex  (fun x0=>(w49p N (Ex.op x0) (Ex.num x0) (Ex.kids x0),w49r0 (w49y0 N (Ex.op x0) (Ex.num x0) (Ex.kids x0))))
theorem w49ok (N:Nat):EOk Tryz.prog 49 (w49e N):=w49Yok N N
def w50r0 (a0:Int):Res:=(.e (.i .i64) a0,[])
def w50L (N:w49T):List (Nat×Ent'):=[(50,E1 .ex  (fun x0=>((N.2 (Ex.op x0) (Ex.num x0) (Ex.kids x0)).isSome,w50r0 (((N.2 (Ex.op x0) (Ex.num x0) (Ex.kids x0)).getD 0)))))]
def w50c (N:w49T):Cx:=⟨Tryz.prog,25,w50L N,[]⟩
def w50b:Code:=Tryz.f50.body.getD .skip
theorem w50cx (N:w49T) (hs:EOk Tryz.prog 50 (E1 .ex  (fun x0=>((N.2 (Ex.op x0) (Ex.num x0) (Ex.kids x0)).isSome,w50r0 (((N.2 (Ex.op x0) (Ex.num x0) (Ex.kids x0)).getD 0)))))):CxOk (w50c N):=ctx_ok (by kernel_rfl) (.cons (by kernel_rfl) hs .nil) .nil
def w50F0 [Alg] (N:w49T)  (self:Int->Int->O) (k0:Int->O) (x0_1:(List Ex)) (x0_2 x0_0 x0_3:Int):O:=
 br (decide (x0_3 < x0_2))
  (gx x0_1 x0_3 fun y3=>
  ck ((N.2 y3.op y3.num y3.kids).isSome) <|
  self (max x0_0 ((N.2 y3.op y3.num y3.kids).getD (0:Int))) (IntKind.i64.wrap (x0_3+1)))
  (k0 x0_0)
def w50b0:Code:=atC [1,1,0,1,0,0] w50b
def w50m0:Nm:=⟨[3,7,8,9],[],[]⟩
def w50I0 (x:Int×(List Ex)×Int×Int):Sg:=⟨[(3,.e (.i .i64) x.1),(7,.e (.sl .ex) x.2.1),(8,.e (.i .i64) x.2.2.1),(9,.e (.i .i64) x.2.2.2)],[],100⟩
def w50u0 (σ:Sg):Int×(List Ex)×Int×Int:=(lvT (.i .i64) 3 0 σ,lvT (.sl .ex) 7 0 σ,lvT (.i .i64) 8 0 σ,lvT (.i .i64) 9 0 σ)
theorem w50ui0:∀ x,w50u0 (w50I0 x)=x:=fun _=>by kernel_rfl
def w50X0_0 (y:Int):Exit×Sg:=((.exit 0),⟨[(3,.e (.i .i64) y)],[],100⟩)
def w50v0_0 (_:Exit) (σ:Sg):Int:=lvT (.i .i64) 3 0 σ
def w50w0:List (Exit×Nm):=[((.exit 0),⟨[3],[],[]⟩)]
theorem w50o0:Outs w50v0_0 (fun _ _=>()) (fun _ _=>()) w50X0_0 (noX 1) (noX 2) (exC (.exit 0)) (exC (.goto 1)) (exC (.goto 2)):=⟨fun _=>by kernel_rfl,fun _=>by kernel_rfl,fun _=>by kernel_rfl,fun _=>by kernel_rfl,fun _=>by kernel_rfl,fun _=>by kernel_rfl,exNe_ok (by kernel_rfl),exNe_ok (by kernel_rfl),exNe_ok (by kernel_rfl)⟩
def w50l0 [Alg] (N:w49T):Nat->(Int×(List Ex)×Int×Int)->((Int)->O)->((Unit)->O)->((Unit)->O)->O
 | 0,_,_,_,_=>none
 | n+1,x,k0,k1,k2=>w50F0 N  (fun v0 v1=>w50l0 N n (v0,x.2.1,x.2.2.1,v1) k0 k1 k2) (fun y0=>k0 y0) x.2.1 x.2.2.1 x.1 x.2.2.2
def w50n0 [Alg] (N:w49T) (a0:Int) (a1:(List Ex)) (a2 a3:Int) (k0:Int->O):O:=w50l0 N N.1 (a0,a1,a2,a3) (fun y=>k0 y) (fun _=>none) (fun _=>none)
def w50s0 [Alg] (N:w49T) (a0:Int) (a1:(List Ex)) (a2 a3:Int) (k0:Int->O):O:=subL w50I0 w50u0 (w50l0 N N.1) (w50I0 (a0,a1,a2,a3)) (fun y=>k0 y) (fun _=>none) (fun _=>none)
theorem w50e0 [Alg] (N:w49T):w50s0 N=w50n0 N:=funext fun _=>funext fun _=>funext fun _=>funext fun _=>funext fun _=>subL_I w50ui0 _ _ _ _
def w50h0 [Alg] (_:w49T):Hint:=.d
theorem w50hk0 (N:w49T):HintOk (w50c N) Tryz.f50.ntmps (w50h0 N) w50b0:=hk_of _ _ trivial
theorem w50q0 [Alg] (N:w49T) (self:Sg->O) (K:Exit->Sg->O) (x:Int×(List Ex)×Int×Int):w50F0 N  (fun v0 v1=>self (w50I0 (v0,x.2.1,x.2.2.1,v1))) (fun y0=>K (w50X0_0 y0).1 (w50X0_0 y0).2) x.2.1 x.2.2.1 x.1 x.2.2.2=exec (w50c N) Tryz.f50.ntmps (w50h0 N) w50b0 (w50I0 x) (roundX w50m0 w50w0 self K):=by kernel_rfl
theorem w50S0 (N:w49T) (hc:CxOk (w50c N)):SubOk (w50c N) Tryz.f50.ntmps (.loop w50b0) w50X0_0 (noX 1) (noX 2) (subL w50I0 w50u0 (w50l0 N N.1)):=
 sub_loop hc (w50hk0 N) w50o0 (n:=N.1) (fun x K=>loop_ind (w50l0 N) (fun _ _ _ _=>rfl) (fun n K ih x=>by
  refine Eq.trans ?_ (w50q0 N _ K x)
  simp only [← ih]
  rfl) N.1 x K)
def w50G [Alg] (_:w49T) (in0:Int->(List Ex)->Int->Int->(Int->O)->O) (_e0_0 _e0_1:Int) (C:(List Ex)):O:=
 in0 0 C ((↑C.length:Int)) 0
  (fun z4=>
   some (w50r0 (IntKind.i64.wrap (z4+1))))
def w50 [Alg] (N:w49T) (A B:Int) (C:(List Ex)):O:=w50G N (w50n0 N) A B C
def w50h [Alg] (N:w49T):Hint:=(.seq .d (.seq .d (.seq (.seq .d (.block (.sub w50m0 _ _ _ w50X0_0 (noX 1) (noX 2) (subL w50I0 w50u0 (w50l0 N N.1))))) .d)))
theorem w50hk (N:w49T) (hc:CxOk (w50c N)):HintOk (w50c N) Tryz.f50.ntmps (w50h N) w50b:=hk_of _ _ (And.intro trivial (And.intro trivial (And.intro (And.intro trivial (w50S0 N hc)) trivial)))
theorem w50q [Alg] (N:w49T) (A B:Int) (C:(List Ex)):w50G N (w50s0 N) A B C=exec (w50c N) Tryz.f50.ntmps (w50h N) w50b ⟨argT 0 [.agg [.e (.i .i64) A,.e (.i .i64) B,.e (.sl .ex) C]],[],100⟩ (finX (w50c N) Tryz.f50 false):=by kernel_rfl
def w50un (r:Res):Option (Int):=match r with
 | (x0,[])=>(match ue (.i .i64) x0 with | some a0=>some a0 | _=>none)
 | _=>none
theorem w50uo {r:Res} {d:Int} (h:w50un r=some d):r=w50r0 (d):=by
 unfold w50un at h
 split at h
 ·split at h
  ·rename_i h0;cases h;rw [ue_some h0];rfl
  ·cases h
 ·cases h
def w50z (N:w49T) (A B:Int) (C:(List Ex)):Option (Int):=(w50 N A B C).bind w50un
theorem w50fin {N:w49T} (hc:CxOk (w50c N)) {A B:Int} {C:(List Ex)} {d:Int} (hd:w50z N A B C=some d):Does Tryz.prog 50 (([.agg [.e (.i .i64) A,.e (.i .i64) B,.e (.sl .ex) C]]:List X).map X.D) (HA []) (w50r0 (d)).1.D (HA (w50r0 (d)).2):=by
 obtain ⟨r,hr,hu⟩:=Option.bind_eq_some_iff.1 hd
 have:=fun_ok (r:=r) hc (f:=50) (fn:=Tryz.f50) (code:=w50b) (by kernel_rfl) (by kernel_rfl) (w50hk N hc) (Nat.le_of_ble_eq_true (by kernel_rfl)) (ow:=false) ((w50q N A B C).symm.trans (by rw [w50e0 N];exact hr))
 rw [w50uo hu] at this
 exact this
def w50Y (N:Nat):Nat->Int->Int->(List Ex)->Option (Int)
 | 0,_,_,_=>none
 | n+1,A,B,C=>w50z (N,w50Y N n) A B C
theorem w50Yok (N:Nat):∀ n,EOk Tryz.prog 50 (E1 .ex  (fun x0=>((w50Y N n (Ex.op x0) (Ex.num x0) (Ex.kids x0)).isSome,w50r0 (((w50Y N n (Ex.op x0) (Ex.num x0) (Ex.kids x0)).getD 0)))))
 | 0=>EOk.e1 (fun _ h=>by cases h)
 | n+1=>EOk.e1 (fun x0 h=>by
   obtain ⟨d,hd⟩:=Option.isSome_iff_exists.1 h
   have hd':w50Y N (n+1) (Ex.op x0) (Ex.num x0) (Ex.kids x0)=some d:=hd
   have e:w50r0 (((w50Y N (n+1) (Ex.op x0) (Ex.num x0) (Ex.kids x0)).getD 0))=w50r0 (d):=by rw [hd'];rfl
   show Does _ _ _ _ (w50r0 (((w50Y N (n+1) (Ex.op x0) (Ex.num x0) (Ex.kids x0)).getD 0))).1.D (HA (w50r0 (((w50Y N (n+1) (Ex.op x0) (Ex.num x0) (Ex.kids x0)).getD 0))).2)
   rw [e]
   exact w50fin (N:=(N,w50Y N n)) (w50cx (N,w50Y N n) (w50Yok N n)) hd')
def w50p (N:Nat) (A B:Int) (C:(List Ex)):Bool:=(w50Y N N A B C).isSome
def w50y0 (N:Nat) (A B:Int) (C:(List Ex)):Int:=((w50Y N N A B C).getD 0)
def w50e (N:Nat):Ent':=E1 .ex  (fun x0=>(w50p N (Ex.op x0) (Ex.num x0) (Ex.kids x0),w50r0 (w50y0 N (Ex.op x0) (Ex.num x0) (Ex.kids x0))))
theorem w50ok (N:Nat):EOk Tryz.prog 50 (w50e N):=w50Yok N N
def w83r0 (a0:Bool):Res:=(.e .bo a0,[])
def w83in (xs:List X) (H:XH):Option (Int×Int×(List Ex)):=match xs,H with
 | [.agg [x0,x1,x2]],[]=>(match ue (.i .i64) x0,ue (.i .i64) x1,ue (.sl .ex) x2 with | some a0,some a1,some a2=>some (a0,a1,a2) | _,_,_=>none)
 | _,_=>none
theorem w83io {xs:List X} {H:XH} {d:Int×Int×(List Ex)} (h:w83in xs H=some d):xs=[.agg [.e (.i .i64) (d.1),.e (.i .i64) (d.2.1),.e (.sl .ex) (d.2.2)]]/\H=[]:=by
 unfold w83in at h
 split at h
 ·split at h
  ·rename_i h0 h1 h2;cases h;rw [ue_some h0,ue_some h1,ue_some h2];exact ⟨rfl,rfl⟩
  ·cases h
 ·cases h
abbrev w83T:=Nat×((Int->Int->(List Ex)->Option (Bool))×((List Ex)->Option (Int))×((List Ex)->Option (Bool))×(Int->Int->(List Ex)->Bool->Option (Bool)))
def w83E (N:w83T):Ent':=entR w83in (fun d=>(N.2.1 (d.1) (d.2.1) (d.2.2)).isSome) (fun d=>w83r0 (((N.2.1 (d.1) (d.2.1) (d.2.2)).getD false)))
def w102r0 (a0:Int):Res:=(.e (.i .i64) a0,[])
def w102in (xs:List X) (H:XH):Option ((List Ex)):=match xs,H with
 | [x0,.fn 83 []],[]=>(match ue (.sl .ex) x0 with | some a0=>some a0 | _=>none)
 | _,_=>none
theorem w102io {xs:List X} {H:XH} {d:(List Ex)} (h:w102in xs H=some d):xs=[.e (.sl .ex) (d),.fn 83 []]/\H=[]:=by
 unfold w102in at h
 split at h
 ·split at h
  ·rename_i h0;cases h;rw [ue_some h0];exact ⟨rfl,rfl⟩
  ·cases h
 ·cases h
def w102E (N:w83T):Ent':=entR w102in (fun d=>(N.2.2.1 (d)).isSome) (fun d=>w102r0 (((N.2.2.1 (d)).getD 0)))
def w82r0 (a0:Bool):Res:=(.e .bo a0,[])
def w82in (xs:List X) (H:XH):Option ((List Ex)):=match xs,H with
 | [x0,.fn 83 []],[]=>(match ue (.sl .ex) x0 with | some a0=>some a0 | _=>none)
 | _,_=>none
theorem w82io {xs:List X} {H:XH} {d:(List Ex)} (h:w82in xs H=some d):xs=[.e (.sl .ex) (d),.fn 83 []]/\H=[]:=by
 unfold w82in at h
 split at h
 ·split at h
  ·rename_i h0;cases h;rw [ue_some h0];exact ⟨rfl,rfl⟩
  ·cases h
 ·cases h
def w82E (N:w83T):Ent':=entR w82in (fun d=>(N.2.2.2.1 (d)).isSome) (fun d=>w82r0 (((N.2.2.2.1 (d)).getD false)))
def w51r0 (a0:Bool):Res:=(.e .bo a0,[])
def w51in (xs:List X) (H:XH):Option (Int×Int×(List Ex)×Bool):=match xs,H with
 | [.agg [x0,x1,x2],x3],[]=>(match ue (.i .i64) x0,ue (.i .i64) x1,ue (.sl .ex) x2,ue .bo x3 with | some a0,some a1,some a2,some a3=>some (a0,a1,a2,a3) | _,_,_,_=>none)
 | _,_=>none
theorem w51io {xs:List X} {H:XH} {d:Int×Int×(List Ex)×Bool} (h:w51in xs H=some d):xs=[.agg [.e (.i .i64) (d.1),.e (.i .i64) (d.2.1),.e (.sl .ex) (d.2.2.1)],.e .bo (d.2.2.2)]/\H=[]:=by
 unfold w51in at h
 split at h
 ·split at h
  ·rename_i h0 h1 h2 h3;cases h;rw [ue_some h0,ue_some h1,ue_some h2,ue_some h3];exact ⟨rfl,rfl⟩
  ·cases h
 ·cases h
def w51E (N:w83T):Ent':=entR w51in (fun d=>(N.2.2.2.2 (d.1) (d.2.1) (d.2.2.1) (d.2.2.2)).isSome) (fun d=>w51r0 (((N.2.2.2.2 (d.1) (d.2.1) (d.2.2.1) (d.2.2.2)).getD false)))
def w83L (N:w83T):List (Nat×Ent'):=[(83,w83E N),(102,w102E N),(82,w82E N),(51,w51E N)]
def w83c (N:w83T):Cx:=⟨Tryz.prog,25,w83L N,[]⟩
def w83b:Code:=Tryz.f83.body.getD .skip
theorem w83cx (N:w83T) (hw89:EOk Tryz.prog 83 (w83E N)) (hw108:EOk Tryz.prog 102 (w102E N)) (hw88:EOk Tryz.prog 82 (w82E N)) (hw56:EOk Tryz.prog 51 (w51E N)):CxOk (w83c N):=ctx_ok (by kernel_rfl) (.cons (by kernel_rfl) hw89 (.cons (by kernel_rfl) hw108 (.cons (by kernel_rfl) hw88 (.cons (by kernel_rfl) hw56 .nil)))) .nil
def w83G [Alg] (N:w83T)  (k0_0 k0_1:Int) (k0_2:(List Ex)):O:=
 ck ((N.snd.snd.snd.2 k0_0 k0_1 k0_2 false).isSome) <|
 some (w83r0 (!(N.snd.snd.snd.2 k0_0 k0_1 k0_2 false).getD false))
def w83 [Alg] (N:w83T) (k0_0 k0_1:Int) (k0_2:(List Ex)):O:=w83G N  k0_0 k0_1 k0_2
def w83h [Alg] (_:w83T):Hint:=.d
theorem w83hk (N:w83T):HintOk (w83c N) Tryz.f83.ntmps (w83h N) w83b:=hk_of _ _ trivial
theorem w83q [Alg] (N:w83T) (k0_0 k0_1:Int) (k0_2:(List Ex)):w83G N  k0_0 k0_1 k0_2=exec (w83c N) Tryz.f83.ntmps (w83h N) w83b ⟨argT 0 [.agg [.e (.i .i64) k0_0,.e (.i .i64) k0_1,.e (.sl .ex) k0_2]],[],100⟩ (finX (w83c N) Tryz.f83 false):=by kernel_rfl
def w83un (r:Res):Option (Bool):=match r with
 | (x0,[])=>(match ue .bo x0 with | some a0=>some a0 | _=>none)
 | _=>none
theorem w83uo {r:Res} {d:Bool} (h:w83un r=some d):r=w83r0 (d):=by
 unfold w83un at h
 split at h
 ·split at h
  ·rename_i h0;cases h;rw [ue_some h0];rfl
  ·cases h
 ·cases h
def w83z (N:w83T) (k0_0 k0_1:Int) (k0_2:(List Ex)):Option (Bool):=(w83 N k0_0 k0_1 k0_2).bind w83un
theorem w83fin {N:w83T} (hc:CxOk (w83c N)) {k0_0 k0_1:Int} {k0_2:(List Ex)} {d:Bool} (hd:w83z N k0_0 k0_1 k0_2=some d):Does Tryz.prog 83 (([.agg [.e (.i .i64) k0_0,.e (.i .i64) k0_1,.e (.sl .ex) k0_2]]:List X).map X.D) (HA []) (w83r0 (d)).1.D (HA (w83r0 (d)).2):=by
 obtain ⟨r,hr,hu⟩:=Option.bind_eq_some_iff.1 hd
 have:=fun_ok (r:=r) hc (f:=83) (fn:=Tryz.f83) (code:=w83b) (by kernel_rfl) (by kernel_rfl) (w83hk N) (Nat.le_of_ble_eq_true (by kernel_rfl)) (ow:=false) ((w83q N k0_0 k0_1 k0_2).symm.trans (by exact hr))
 rw [w83uo hu] at this
 exact this
def w102L (N:w83T):List (Nat×Ent'):=[(83,w83E N),(102,w102E N),(82,w82E N),(51,w51E N)]
def w102c (N:w83T):Cx:=⟨Tryz.prog,25,w102L N,[]⟩
def w102b:Code:=Tryz.f102.body.getD .skip
theorem w102cx (N:w83T) (hw89:EOk Tryz.prog 83 (w83E N)) (hw108:EOk Tryz.prog 102 (w102E N)) (hw88:EOk Tryz.prog 82 (w82E N)) (hw56:EOk Tryz.prog 51 (w51E N)):CxOk (w102c N):=ctx_ok (by kernel_rfl) (.cons (by kernel_rfl) hw89 (.cons (by kernel_rfl) hw108 (.cons (by kernel_rfl) hw88 (.cons (by kernel_rfl) hw56 .nil)))) .nil
def w102F0 [Alg] (N:w83T)  (self:Int->O) (k0:Int->O) (k1:Unit->O) (x0_0:(List Ex)) (x0_1 x0_2:Int):O:=
 br (decide (x0_2 < x0_1))
  (gx x0_0 x0_2 fun y3=>
  ck ((N.snd.1 y3.op y3.num y3.kids).isSome) <|
  br ((N.snd.1 y3.op y3.num y3.kids).getD false)
   (k0 x0_2)
   (self (IntKind.i64.wrap (x0_2+1))))
  (k1 ())
def w102b0:Code:=atC [1,0,1,0,0] w102b
def w102m0:Nm:=⟨[0,1,7,8],[],[]⟩
def w102I0 (x:(List Ex)×Int×Int):Sg:=⟨[(0,.e (.sl .ex) x.1),(1,.fn 83 []),(7,.e (.i .i64) x.2.1),(8,.e (.i .i64) x.2.2)],[],100⟩
def w102u0 (σ:Sg):(List Ex)×Int×Int:=(lvT (.sl .ex) 0 0 σ,lvT (.i .i64) 7 0 σ,lvT (.i .i64) 8 0 σ)
theorem w102ui0:∀ x,w102u0 (w102I0 x)=x:=fun _=>by kernel_rfl
def w102X0_0 (y:Int):Exit×Sg:=(.ret,⟨[(4,.e (.i .i64) y)],[],100⟩)
def w102v0_0 (_:Exit) (σ:Sg):Int:=lvT (.i .i64) 4 0 σ
def w102X0_1 (_:Unit):Exit×Sg:=((.exit 0),⟨[],[],100⟩)
def w102v0_1 (_:Exit) (_:Sg):Unit:=()
def w102w0:List (Exit×Nm):=[(.ret,⟨[4],[],[]⟩),((.exit 0),⟨[],[],[]⟩)]
theorem w102o0:Outs w102v0_0 w102v0_1 (fun _ _=>()) w102X0_0 w102X0_1 (noX 2) (exC .ret) (exC (.exit 0)) (exC (.goto 2)):=⟨fun _=>by kernel_rfl,fun _=>by kernel_rfl,fun _=>by kernel_rfl,fun _=>by kernel_rfl,fun _=>by kernel_rfl,fun _=>by kernel_rfl,exNe_ok (by kernel_rfl),exNe_ok (by kernel_rfl),exNe_ok (by kernel_rfl)⟩
def w102l0 [Alg] (N:w83T):Nat->((List Ex)×Int×Int)->((Int)->O)->((Unit)->O)->((Unit)->O)->O
 | 0,_,_,_,_=>none
 | n+1,x,k0,k1,k2=>w102F0 N  (fun v0=>w102l0 N n (x.1,x.2.1,v0) k0 k1 k2) (fun y0=>k0 y0) (fun (_:Unit)=>k1 ()) x.1 x.2.1 x.2.2
def w102n0 [Alg] (N:w83T) (a0:(List Ex)) (a1 a2:Int) (k0:Int->O) (k1:Unit->O):O:=w102l0 N N.1 (a0,a1,a2) (fun y=>k0 y) (fun y=>k1 y) (fun _=>none)
def w102s0 [Alg] (N:w83T) (a0:(List Ex)) (a1 a2:Int) (k0:Int->O) (k1:Unit->O):O:=subL w102I0 w102u0 (w102l0 N N.1) (w102I0 (a0,a1,a2)) (fun y=>k0 y) (fun y=>k1 y) (fun _=>none)
theorem w102e0 [Alg] (N:w83T):w102s0 N=w102n0 N:=funext fun _=>funext fun _=>funext fun _=>funext fun _=>funext fun _=>subL_I w102ui0 _ _ _ _
def w102h0 [Alg] (_:w83T):Hint:=.d
theorem w102hk0 (N:w83T):HintOk (w102c N) Tryz.f102.ntmps (w102h0 N) w102b0:=hk_of _ _ trivial
theorem w102q0 [Alg] (N:w83T) (self:Sg->O) (K:Exit->Sg->O) (x:(List Ex)×Int×Int):w102F0 N  (fun v0=>self (w102I0 (x.1,x.2.1,v0))) (fun y0=>K (w102X0_0 y0).1 (w102X0_0 y0).2) (fun (_:Unit)=>K (w102X0_1 ()).1 (w102X0_1 ()).2) x.1 x.2.1 x.2.2=exec (w102c N) Tryz.f102.ntmps (w102h0 N) w102b0 (w102I0 x) (roundX w102m0 w102w0 self K):=by kernel_rfl
theorem w102S0 (N:w83T) (hc:CxOk (w102c N)):SubOk (w102c N) Tryz.f102.ntmps (.loop w102b0) w102X0_0 w102X0_1 (noX 2) (subL w102I0 w102u0 (w102l0 N N.1)):=
 sub_loop hc (w102hk0 N) w102o0 (n:=N.1) (fun x K=>loop_ind (w102l0 N) (fun _ _ _ _=>rfl) (fun n K ih x=>by
  refine Eq.trans ?_ (w102q0 N _ K x)
  simp only [← ih]
  rfl) N.1 x K)
def w102G [Alg] (_:w83T) (in0:(List Ex)->Int->Int->(Int->O)->(Unit->O)->O) (s0:(List Ex)):O:=
 in0 s0 ((↑s0.length:Int)) 0
  (fun z4=>
   some (w102r0 z4))
  (fun (_:Unit)=>
   some (w102r0 ((-1:Int))))
def w102 [Alg] (N:w83T) (s0:(List Ex)):O:=w102G N (w102n0 N) s0
def w102h [Alg] (N:w83T):Hint:=(.seq .d (.seq (.seq .d (.block (.sub w102m0 _ _ _ w102X0_0 w102X0_1 (noX 2) (subL w102I0 w102u0 (w102l0 N N.1))))) .d))
theorem w102hk (N:w83T) (hc:CxOk (w102c N)):HintOk (w102c N) Tryz.f102.ntmps (w102h N) w102b:=hk_of _ _ (And.intro trivial (And.intro (And.intro trivial (w102S0 N hc)) trivial))
theorem w102q [Alg] (N:w83T) (s0:(List Ex)):w102G N (w102s0 N) s0=exec (w102c N) Tryz.f102.ntmps (w102h N) w102b ⟨argT 0 [.e (.sl .ex) s0,.fn 83 []],[],100⟩ (finX (w102c N) Tryz.f102 false):=by kernel_rfl
def w102un (r:Res):Option (Int):=match r with
 | (x0,[])=>(match ue (.i .i64) x0 with | some a0=>some a0 | _=>none)
 | _=>none
theorem w102uo {r:Res} {d:Int} (h:w102un r=some d):r=w102r0 (d):=by
 unfold w102un at h
 split at h
 ·split at h
  ·rename_i h0;cases h;rw [ue_some h0];rfl
  ·cases h
 ·cases h
def w102z (N:w83T) (s0:(List Ex)):Option (Int):=(w102 N s0).bind w102un
theorem w102fin {N:w83T} (hc:CxOk (w102c N)) {s0:(List Ex)} {d:Int} (hd:w102z N s0=some d):Does Tryz.prog 102 (([.e (.sl .ex) s0,.fn 83 []]:List X).map X.D) (HA []) (w102r0 (d)).1.D (HA (w102r0 (d)).2):=by
 obtain ⟨r,hr,hu⟩:=Option.bind_eq_some_iff.1 hd
 have:=fun_ok (r:=r) hc (f:=102) (fn:=Tryz.f102) (code:=w102b) (by kernel_rfl) (by kernel_rfl) (w102hk N hc) (Nat.le_of_ble_eq_true (by kernel_rfl)) (ow:=false) ((w102q N s0).symm.trans (by rw [w102e0 N];exact hr))
 rw [w102uo hu] at this
 exact this
def w82L (N:w83T):List (Nat×Ent'):=[(83,w83E N),(102,w102E N),(82,w82E N),(51,w51E N)]
def w82c (N:w83T):Cx:=⟨Tryz.prog,25,w82L N,[]⟩
def w82b:Code:=Tryz.f82.body.getD .skip
theorem w82cx (N:w83T) (hw89:EOk Tryz.prog 83 (w83E N)) (hw108:EOk Tryz.prog 102 (w102E N)) (hw88:EOk Tryz.prog 82 (w82E N)) (hw56:EOk Tryz.prog 51 (w51E N)):CxOk (w82c N):=ctx_ok (by kernel_rfl) (.cons (by kernel_rfl) hw89 (.cons (by kernel_rfl) hw108 (.cons (by kernel_rfl) hw88 (.cons (by kernel_rfl) hw56 .nil)))) .nil
def w82G [Alg] (N:w83T)  (s0:(List Ex)):O:=
 ck ((N.snd.snd.1 s0).isSome) <|
 some (w82r0 (decide ((0:Int)<=(N.snd.snd.1 s0).getD (0:Int))))
def w82 [Alg] (N:w83T) (s0:(List Ex)):O:=w82G N  s0
def w82h [Alg] (_:w83T):Hint:=.d
theorem w82hk (N:w83T):HintOk (w82c N) Tryz.f82.ntmps (w82h N) w82b:=hk_of _ _ trivial
theorem w82q [Alg] (N:w83T) (s0:(List Ex)):w82G N  s0=exec (w82c N) Tryz.f82.ntmps (w82h N) w82b ⟨argT 0 [.e (.sl .ex) s0,.fn 83 []],[],100⟩ (finX (w82c N) Tryz.f82 false):=by kernel_rfl
def w82un (r:Res):Option (Bool):=match r with
 | (x0,[])=>(match ue .bo x0 with | some a0=>some a0 | _=>none)
 | _=>none
theorem w82uo {r:Res} {d:Bool} (h:w82un r=some d):r=w82r0 (d):=by
 unfold w82un at h
 split at h
 ·split at h
  ·rename_i h0;cases h;rw [ue_some h0];rfl
  ·cases h
 ·cases h
def w82z (N:w83T) (s0:(List Ex)):Option (Bool):=(w82 N s0).bind w82un
theorem w82fin {N:w83T} (hc:CxOk (w82c N)) {s0:(List Ex)} {d:Bool} (hd:w82z N s0=some d):Does Tryz.prog 82 (([.e (.sl .ex) s0,.fn 83 []]:List X).map X.D) (HA []) (w82r0 (d)).1.D (HA (w82r0 (d)).2):=by
 obtain ⟨r,hr,hu⟩:=Option.bind_eq_some_iff.1 hd
 have:=fun_ok (r:=r) hc (f:=82) (fn:=Tryz.f82) (code:=w82b) (by kernel_rfl) (by kernel_rfl) (w82hk N) (Nat.le_of_ble_eq_true (by kernel_rfl)) (ow:=false) ((w82q N s0).symm.trans (by exact hr))
 rw [w82uo hu] at this
 exact this
def w51L (N:w83T):List (Nat×Ent'):=[(83,w83E N),(102,w102E N),(82,w82E N),(51,w51E N)]
def w51c (N:w83T):Cx:=⟨Tryz.prog,25,w51L N,[]⟩
def w51b:Code:=Tryz.f51.body.getD .skip
theorem w51cx (N:w83T) (hw89:EOk Tryz.prog 83 (w83E N)) (hw108:EOk Tryz.prog 102 (w102E N)) (hw88:EOk Tryz.prog 82 (w82E N)) (hw56:EOk Tryz.prog 51 (w51E N)):CxOk (w51c N):=ctx_ok (by kernel_rfl) (.cons (by kernel_rfl) hw89 (.cons (by kernel_rfl) hw108 (.cons (by kernel_rfl) hw88 (.cons (by kernel_rfl) hw56 .nil)))) .nil
def w51G [Alg] (N:w83T)  (A B:Int) (C:(List Ex)) (root1:Bool):O:=
 br (decide (A < (0:Int))||decide ((11:Int)<=A))
  (some (w51r0 false))
  (gx [((0:Int),(999999:Int),(4:Int),(0:UInt8)),((0:Int),(25:Int),(4:Int),(0:UInt8)),((1:Int),(0:Int),(3:Int),(45:UInt8)),((2:Int),(0:Int),(1:Int),(43:UInt8)),((2:Int),(0:Int),(1:Int),(45:UInt8)),((2:Int),(0:Int),(2:Int),(42:UInt8)),((2:Int),(0:Int),(2:Int),(47:UInt8)),((2:Int),(0:Int),(3:Int),(94:UInt8)),((1:Int),(0:Int),(4:Int),(82:UInt8)),((2:Int),(0:Int),(0:Int),(61:UInt8)),((2:Int),(0:Int),(0:Int),(60:UInt8))] A fun y0=>
  br (decide ((↑C.length:Int)≠y0.1)||decide (B < (0:Int))||decide (y0.2.1 < B)||decide (y0.2.2.1=0)&&!root1)
   (some (w51r0 false))
   (ck ((N.snd.snd.snd.1 C).isSome) <|
   some (w51r0 (!(N.snd.snd.snd.1 C).getD false))))
def w51 [Alg] (N:w83T) (A B:Int) (C:(List Ex)) (root1:Bool):O:=w51G N  A B C root1
def w51h [Alg] (_:w83T):Hint:=.d
theorem w51hk (N:w83T):HintOk (w51c N) Tryz.f51.ntmps (w51h N) w51b:=hk_of _ _ trivial
theorem w51q [Alg] (N:w83T) (A B:Int) (C:(List Ex)) (root1:Bool):w51G N  A B C root1=exec (w51c N) Tryz.f51.ntmps (w51h N) w51b ⟨argT 0 [.agg [.e (.i .i64) A,.e (.i .i64) B,.e (.sl .ex) C],.e .bo root1],[],100⟩ (finX (w51c N) Tryz.f51 false):=by kernel_rfl
def w51un (r:Res):Option (Bool):=match r with
 | (x0,[])=>(match ue .bo x0 with | some a0=>some a0 | _=>none)
 | _=>none
theorem w51uo {r:Res} {d:Bool} (h:w51un r=some d):r=w51r0 (d):=by
 unfold w51un at h
 split at h
 ·split at h
  ·rename_i h0;cases h;rw [ue_some h0];rfl
  ·cases h
 ·cases h
def w51z (N:w83T) (A B:Int) (C:(List Ex)) (root1:Bool):Option (Bool):=(w51 N A B C root1).bind w51un
theorem w51fin {N:w83T} (hc:CxOk (w51c N)) {A B:Int} {C:(List Ex)} {root1 d:Bool} (hd:w51z N A B C root1=some d):Does Tryz.prog 51 (([.agg [.e (.i .i64) A,.e (.i .i64) B,.e (.sl .ex) C],.e .bo root1]:List X).map X.D) (HA []) (w51r0 (d)).1.D (HA (w51r0 (d)).2):=by
 obtain ⟨r,hr,hu⟩:=Option.bind_eq_some_iff.1 hd
 have:=fun_ok (r:=r) hc (f:=51) (fn:=Tryz.f51) (code:=w51b) (by kernel_rfl) (by kernel_rfl) (w51hk N) (Nat.le_of_ble_eq_true (by kernel_rfl)) (ow:=false) ((w51q N A B C root1).symm.trans (by exact hr))
 rw [w51uo hu] at this
 exact this
def w83gY (N:Nat):Nat->(Int->Int->(List Ex)->Option (Bool))×((List Ex)->Option (Int))×((List Ex)->Option (Bool))×(Int->Int->(List Ex)->Bool->Option (Bool))
 | 0=>(fun _ _ _=>none,fun _=>none,fun _=>none,fun _ _ _ _=>none)
 | n+1=>(fun k0_0 k0_1 k0_2=>w83z (N,w83gY N n) k0_0 k0_1 k0_2,fun s0=>w102z (N,w83gY N n) s0,fun s0=>w82z (N,w83gY N n) s0,fun A B C root1=>w51z (N,w83gY N n) A B C root1)
theorem w83gYok (N:Nat):∀ n,EOk Tryz.prog 83 (w83E (N,w83gY N n))/\EOk Tryz.prog 102 (w102E (N,w83gY N n))/\EOk Tryz.prog 82 (w82E (N,w83gY N n))/\EOk Tryz.prog 51 (w51E (N,w83gY N n))
 | 0=>⟨entR_ok w83io (fun _ h=>by cases h),entR_ok w102io (fun _ h=>by cases h),entR_ok w82io (fun _ h=>by cases h),entR_ok w51io (fun _ h=>by cases h)⟩
 | n+1=>
   have ih:=w83gYok N n
   ⟨entR_ok w83io (fun d h=>norStep (zz:=w83z (N,w83gY N n) (d.1) (d.2.1) (d.2.2)) (R:=fun y=>w83r0 (y)) (d0:=false) (fun _ hy=>w83fin (w83cx (N,w83gY N n) ih.1 ih.2.1 ih.2.2.1 ih.2.2.2) hy) h),entR_ok w102io (fun d h=>norStep (zz:=w102z (N,w83gY N n) (d)) (R:=fun y=>w102r0 (y)) (d0:=0) (fun _ hy=>w102fin (w102cx (N,w83gY N n) ih.1 ih.2.1 ih.2.2.1 ih.2.2.2) hy) h),entR_ok w82io (fun d h=>norStep (zz:=w82z (N,w83gY N n) (d)) (R:=fun y=>w82r0 (y)) (d0:=false) (fun _ hy=>w82fin (w82cx (N,w83gY N n) ih.1 ih.2.1 ih.2.2.1 ih.2.2.2) hy) h),entR_ok w51io (fun d h=>norStep (zz:=w51z (N,w83gY N n) (d.1) (d.2.1) (d.2.2.1) (d.2.2.2)) (R:=fun y=>w51r0 (y)) (d0:=false) (fun _ hy=>w51fin (w51cx (N,w83gY N n) ih.1 ih.2.1 ih.2.2.1 ih.2.2.2) hy) h)⟩
def w51p (N:Nat) (A B:Int) (C:(List Ex)) (root1:Bool):Bool:=((w83gY N N).2.2.2 A B C root1).isSome
def w51y0 (N:Nat) (A B:Int) (C:(List Ex)) (root1:Bool):Bool:=(((w83gY N N).2.2.2 A B C root1).getD false)
def w51e (N:Nat):Ent':=entR w51in (fun d=>w51p N (d.1) (d.2.1) (d.2.2.1) (d.2.2.2)) (fun d=>w51r0 (w51y0 N (d.1) (d.2.1) (d.2.2.1) (d.2.2.2)))
theorem w51ok (N:Nat):EOk Tryz.prog 51 (w51e N):=(w83gYok N N).2.2.2
def w29r0 (a0:Int):Res:=(.e (.i .i64) a0,[])
def w29L (N:Nat):List (Nat×Ent'):=[(49,w49e N),(50,w50e N),(51,w51e N)]
def w29c (N:Nat):Cx:=⟨Tryz.prog,25,w29L N,[]⟩
def w29b:Code:=Tryz.f29.body.getD .skip
theorem w29cx (N:Nat):CxOk (w29c N):=ctx_ok (by kernel_rfl) (.cons (by kernel_rfl) (w49ok N) (.cons (by kernel_rfl) (w50ok N) (.cons (by kernel_rfl) (w51ok N) .nil))) .nil
def w29G [Alg] (N:Nat)  (A B:Int) (C:(List Ex)):O:=
 ck (w49p N A B C) <|
 ck (!!decide ((256:Int) < w49y0 N A B C)||w50p N A B C) <|
 br (decide ((256:Int) < w49y0 N A B C)||decide ((16:Int) < w50y0 N A B C))
  (some (w29r0 4))
  (ck (w51p N A B C true) <|
  br (!w51y0 N A B C true)
   (some (w29r0 1))
   (some (w29r0 0)))
def w29 [Alg] (N:Nat) (A B:Int) (C:(List Ex)):O:=w29G N  A B C
def w29h [Alg] (_:Nat):Hint:=.d
theorem w29hk (N:Nat):HintOk (w29c N) Tryz.f29.ntmps (w29h N) w29b:=hk_of _ _ trivial
theorem w29q [Alg] (N:Nat) (A B:Int) (C:(List Ex)):w29G N  A B C=exec (w29c N) Tryz.f29.ntmps (w29h N) w29b ⟨argT 0 [.agg [.e (.i .i64) A,.e (.i .i64) B,.e (.sl .ex) C]],[],100⟩ (finX (w29c N) Tryz.f29 false):=by kernel_rfl
def w29un (r:Res):Option (Int):=match r with
 | (x0,[])=>(match ue (.i .i64) x0 with | some a0=>some a0 | _=>none)
 | _=>none
theorem w29uo {r:Res} {d:Int} (h:w29un r=some d):r=w29r0 (d):=by
 unfold w29un at h
 split at h
 ·split at h
  ·rename_i h0;cases h;rw [ue_some h0];rfl
  ·cases h
 ·cases h
def w29z (N:Nat) (A B:Int) (C:(List Ex)):Option (Int):=(w29 N A B C).bind w29un
theorem w29fin {N:Nat} (hc:CxOk (w29c N)) {A B:Int} {C:(List Ex)} {d:Int} (hd:w29z N A B C=some d):Does Tryz.prog 29 (([.agg [.e (.i .i64) A,.e (.i .i64) B,.e (.sl .ex) C]]:List X).map X.D) (HA []) (w29r0 (d)).1.D (HA (w29r0 (d)).2):=by
 obtain ⟨r,hr,hu⟩:=Option.bind_eq_some_iff.1 hd
 have:=fun_ok (r:=r) hc (f:=29) (fn:=Tryz.f29) (code:=w29b) (by kernel_rfl) (by kernel_rfl) (w29hk N) (Nat.le_of_ble_eq_true (by kernel_rfl)) (ow:=false) ((w29q N A B C).symm.trans (by exact hr))
 rw [w29uo hu] at this
 exact this
def w29p (N:Nat) (A B:Int) (C:(List Ex)):Bool:=(w29z N A B C).isSome
def w29y0 (N:Nat) (A B:Int) (C:(List Ex)):Int:=((w29z N A B C).getD 0)
def w29e (N:Nat):Ent':=E1 .ex  (fun x0=>(w29p N (Ex.op x0) (Ex.num x0) (Ex.kids x0),w29r0 (w29y0 N (Ex.op x0) (Ex.num x0) (Ex.kids x0))))
theorem w29re {N:Nat} {A B:Int} {C:(List Ex)} {d:Int} (hd:w29z N A B C=some d):w29r0 (w29y0 N A B C)=w29r0 (d):=by unfold w29y0;rw [hd];rfl
theorem w29ok (N:Nat):EOk Tryz.prog 29 (w29e N):=EOk.e1 (fun x0 h=>by
 have h:(w29z N (Ex.op x0) (Ex.num x0) (Ex.kids x0)).isSome=true:=h
 obtain ⟨d,hd⟩:=Option.isSome_iff_exists.1 h
 have f:=w29fin (w29cx N) hd
 rw [← w29re hd] at f
 exact f)
def w104r0 (a0:YF1):Res:=(.own 100,[(100,.row 5 .u8 a0 true)])
def w104L (N:Nat):List (Nat×Ent'):=[(109,w109e N)]
def w104c (N:Nat):Cx:=⟨Tryz.prog,25,w104L N,[]⟩
def w104b:Code:=Tryz.f104.body.getD .skip
theorem w104cx (N:Nat):CxOk (w104c N):=ctx_ok (by kernel_rfl) (.cons (by kernel_rfl) (w109ok N) .nil) .nil
def w104G [Alg] (N:Nat)  (i1 base2:Int) (g0:YF1):O:=
 br (decide (i1 < 0))
  (ck (lim (g0++[(45:UInt8)]).length (1:Nat)) <|
  ck (w109p N (IntKind.u64.wrap (-IntKind.u64.wrap i1)) base2 (g0++[(45:UInt8)])) <|
  some (w104r0 (w109y0 N (IntKind.u64.wrap (-IntKind.u64.wrap i1)) base2 (g0++[(45:UInt8)]))))
  (ck (w109p N (IntKind.u64.wrap i1) base2 g0) <|
  some (w104r0 (w109y0 N (IntKind.u64.wrap i1) base2 g0)))
def w104 [Alg] (N:Nat) (i1 base2:Int) (g0:YF1):O:=w104G N  i1 base2 g0
def w104h [Alg] (_:Nat):Hint:=.d
theorem w104hk (N:Nat):HintOk (w104c N) Tryz.f104.ntmps (w104h N) w104b:=hk_of _ _ trivial
theorem w104q [Alg] (N:Nat) (i1 base2:Int) (g0:YF1):w104G N  i1 base2 g0=exec (w104c N) Tryz.f104.ntmps (w104h N) w104b ⟨argT 0 [.own 50,.e (.i .i64) i1,.e (.i .i64) base2],[(50,.row 5 .u8 g0 true)],100⟩ (finX (w104c N) Tryz.f104 true):=by kernel_rfl
def w104un (r:Res):Option (YF1):=match r with
 | (.own 100,[(100,x0)])=>(match ur 5 .u8 true x0 with | some a0=>some a0 | _=>none)
 | _=>none
theorem w104uo {r:Res} {d:YF1} (h:w104un r=some d):r=w104r0 (d):=by
 unfold w104un at h
 split at h
 ·split at h
  ·rename_i h0;cases h;rw [ur_some h0];rfl
  ·cases h
 ·cases h
def w104z (N:Nat) (i1 base2:Int) (g0:YF1):Option (YF1):=(w104 N i1 base2 g0).bind w104un
theorem w104fin {N:Nat} (hc:CxOk (w104c N)) {i1 base2:Int} {g0 d:YF1} (hd:w104z N i1 base2 g0=some d):Does Tryz.prog 104 (([.own 50,.e (.i .i64) i1,.e (.i .i64) base2]:List X).map X.D) (HA [(50,.row 5 .u8 g0 true)]) (w104r0 (d)).1.D (HA (w104r0 (d)).2):=by
 obtain ⟨r,hr,hu⟩:=Option.bind_eq_some_iff.1 hd
 have:=fun_ok (r:=r) hc (f:=104) (fn:=Tryz.f104) (code:=w104b) (by kernel_rfl) (by kernel_rfl) (w104hk N) (Nat.le_of_ble_eq_true (by kernel_rfl)) (ow:=true) ((w104q N i1 base2 g0).symm.trans (by exact hr))
 rw [w104uo hu] at this
 exact this
def w104p (N:Nat) (i1 base2:Int) (g0:YF1):Bool:=(w104z N i1 base2 g0).isSome
def w104y0 (N:Nat) (i1 base2:Int) (g0:YF1):YF1:=((w104z N i1 base2 g0).getD [])
def w104in (xs:List X) (H:XH):Option (Int×Int×YF1):=match xs,H with
 | [.own 50,x0,x1],[(50,x2)]=>(match ue (.i .i64) x0,ue (.i .i64) x1,ur 5 .u8 true x2 with | some a0,some a1,some a2=>some (a0,a1,a2) | _,_,_=>none)
 | _,_=>none
theorem w104io {xs:List X} {H:XH} {d:Int×Int×YF1} (h:w104in xs H=some d):xs=[.own 50,.e (.i .i64) (d.1),.e (.i .i64) (d.2.1)]/\H=[(50,.row 5 .u8 (d.2.2) true)]:=by
 unfold w104in at h
 split at h
 ·split at h
  ·rename_i h0 h1 h2;cases h;rw [ue_some h0,ue_some h1,ur_some h2];exact ⟨rfl,rfl⟩
  ·cases h
 ·cases h
def w104e (N:Nat):Ent':=fun xs H=>match w104in xs H with | some d=>some (w104p N (d.1) (d.2.1) (d.2.2),w104r0 (w104y0 N (d.1) (d.2.1) (d.2.2))) | none=>none
theorem w104re {N:Nat} {i1 base2:Int} {g0 d:YF1} (hd:w104z N i1 base2 g0=some d):w104r0 (w104y0 N i1 base2 g0)=w104r0 (d):=by unfold w104y0;rw [hd];rfl
theorem w104ok (N:Nat):EOk Tryz.prog 104 (w104e N):=fun xs H pre r he hp=>by
 unfold w104e at he
 split at he
 ·rename_i d hd
  have he:=Option.some.inj he
  have h1:=congrArg Prod.fst he
  have h2:=congrArg Prod.snd he
  simp only at h1 h2
  obtain ⟨e1,e2⟩:=w104io hd
  rw [e1,e2,← h2]
  have h:(w104z N (d.1) (d.2.1) (d.2.2)).isSome=true:=h1.trans hp
  obtain ⟨d',hd'⟩:=Option.isSome_iff_exists.1 h
  have f:=w104fin (w104cx N) hd'
  rw [← w104re hd'] at f
  exact f
 ·cases he
def w90r0 (a0:YF1):Res:=(.own 100,[(100,.row 5 .u8 a0 true)])
def w90L (N:Nat):List (Nat×Ent'):=[(104,w104e N)]
def w90c (N:Nat):Cx:=⟨Tryz.prog,25,w90L N,[]⟩
def w90b:Code:=Tryz.f90.body.getD .skip
theorem w90cx (N:Nat):CxOk (w90c N):=ctx_ok (by kernel_rfl) (.cons (by kernel_rfl) (w104ok N) .nil) .nil
def w90G [Alg] (N:Nat)  (i1 base2:Int) (g0:YF1):O:=
 ck (w104p N i1 base2 g0) <|
 some (w90r0 (w104y0 N i1 base2 g0))
def w90 [Alg] (N:Nat) (i1 base2:Int) (g0:YF1):O:=w90G N  i1 base2 g0
def w90h [Alg] (_:Nat):Hint:=.d
theorem w90hk (N:Nat):HintOk (w90c N) Tryz.f90.ntmps (w90h N) w90b:=hk_of _ _ trivial
theorem w90q [Alg] (N:Nat) (i1 base2:Int) (g0:YF1):w90G N  i1 base2 g0=exec (w90c N) Tryz.f90.ntmps (w90h N) w90b ⟨argT 0 [.own 50,.e (.i .i64) i1,.e (.i .i64) base2],[(50,.row 5 .u8 g0 true)],100⟩ (finX (w90c N) Tryz.f90 true):=by kernel_rfl
def w90un (r:Res):Option (YF1):=match r with
 | (.own 100,[(100,x0)])=>(match ur 5 .u8 true x0 with | some a0=>some a0 | _=>none)
 | _=>none
theorem w90uo {r:Res} {d:YF1} (h:w90un r=some d):r=w90r0 (d):=by
 unfold w90un at h
 split at h
 ·split at h
  ·rename_i h0;cases h;rw [ur_some h0];rfl
  ·cases h
 ·cases h
def w90z (N:Nat) (i1 base2:Int) (g0:YF1):Option (YF1):=(w90 N i1 base2 g0).bind w90un
theorem w90fin {N:Nat} (hc:CxOk (w90c N)) {i1 base2:Int} {g0 d:YF1} (hd:w90z N i1 base2 g0=some d):Does Tryz.prog 90 (([.own 50,.e (.i .i64) i1,.e (.i .i64) base2]:List X).map X.D) (HA [(50,.row 5 .u8 g0 true)]) (w90r0 (d)).1.D (HA (w90r0 (d)).2):=by
 obtain ⟨r,hr,hu⟩:=Option.bind_eq_some_iff.1 hd
 have:=fun_ok (r:=r) hc (f:=90) (fn:=Tryz.f90) (code:=w90b) (by kernel_rfl) (by kernel_rfl) (w90hk N) (Nat.le_of_ble_eq_true (by kernel_rfl)) (ow:=true) ((w90q N i1 base2 g0).symm.trans (by exact hr))
 rw [w90uo hu] at this
 exact this
def w90p (N:Nat) (i1 base2:Int) (g0:YF1):Bool:=(w90z N i1 base2 g0).isSome
def w90y0 (N:Nat) (i1 base2:Int) (g0:YF1):YF1:=((w90z N i1 base2 g0).getD [])
def w90in (xs:List X) (H:XH):Option (Int×Int×YF1):=match xs,H with
 | [.own 50,x0,x1],[(50,x2)]=>(match ue (.i .i64) x0,ue (.i .i64) x1,ur 5 .u8 true x2 with | some a0,some a1,some a2=>some (a0,a1,a2) | _,_,_=>none)
 | _,_=>none
theorem w90io {xs:List X} {H:XH} {d:Int×Int×YF1} (h:w90in xs H=some d):xs=[.own 50,.e (.i .i64) (d.1),.e (.i .i64) (d.2.1)]/\H=[(50,.row 5 .u8 (d.2.2) true)]:=by
 unfold w90in at h
 split at h
 ·split at h
  ·rename_i h0 h1 h2;cases h;rw [ue_some h0,ue_some h1,ur_some h2];exact ⟨rfl,rfl⟩
  ·cases h
 ·cases h
def w90e (N:Nat):Ent':=fun xs H=>match w90in xs H with | some d=>some (w90p N (d.1) (d.2.1) (d.2.2),w90r0 (w90y0 N (d.1) (d.2.1) (d.2.2))) | none=>none
theorem w90re {N:Nat} {i1 base2:Int} {g0 d:YF1} (hd:w90z N i1 base2 g0=some d):w90r0 (w90y0 N i1 base2 g0)=w90r0 (d):=by unfold w90y0;rw [hd];rfl
theorem w90ok (N:Nat):EOk Tryz.prog 90 (w90e N):=fun xs H pre r he hp=>by
 unfold w90e at he
 split at he
 ·rename_i d hd
  have he:=Option.some.inj he
  have h1:=congrArg Prod.fst he
  have h2:=congrArg Prod.snd he
  simp only at h1 h2
  obtain ⟨e1,e2⟩:=w90io hd
  rw [e1,e2,← h2]
  have h:(w90z N (d.1) (d.2.1) (d.2.2)).isSome=true:=h1.trans hp
  obtain ⟨d',hd'⟩:=Option.isSome_iff_exists.1 h
  have f:=w90fin (w90cx N) hd'
  rw [← w90re hd'] at f
  exact f
 ·cases he
end
end Go.Proofs
