/- What functions do: the reader, sizes. Conditions are in the theorems. -/
import Derived.Test.YtlhdefefoaldfaaDoorE7
import Derived.Test.YtlhdefefoaldfaaDoorProg
import Derived.KernelRfl
import Derived.Test.YtlhdefefoaldfaaDoorF0
/- What functions do. -/
namespace Go.Proofs
noncomputable section
open Go.Ax Go.Ax.Alg Go.RowKit Go.Ab
open Go
def w54r0 (a0:UInt8) (a1:(List UInt8)) (a2:Int):Res:=(.e .u8 a0,[(50,.box 77 [.e .tx a1,.e (.i .i64) a2])])
noncomputable def w54L (_:Nat):List (Nat×Ent'):=[]
noncomputable def w54c (N:Nat):Cx:=⟨Tryd.prog,25,w54L N,[]⟩
noncomputable def w54b:Code:=Tryd.f54.body.getD .skip
theorem w54cx (N:Nat):CxOk (w54c N):=ctx_ok (by kernel_rfl) .nil .nil
def w54F0 [Alg] (_:Nat)  (self:Int→O) (k0:(List UInt8)→Int→O) (x0_0:(List UInt8)) (x0_1:Int):O:=
 gc (decide (x0_1 < (↑x0_0.length:Int))) ((0:UInt8)) x0_0 x0_1 fun y3=>
 br (decide (x0_1 < (↑x0_0.length:Int))&&decide (y3=(32:UInt8)))
  (self (IntKind.i64.wrap (x0_1+(1:Int))))
  (k0 x0_0 x0_1)
noncomputable def w54b0:Code:=atC [1,0,0,0] w54b
def w54m0:Nm:=⟨[0],[],[]⟩
def w54I0 (x:(List UInt8)×Int):Sg:=⟨[(0,.ref 50 0)],[(50,.box 77 [.e .tx x.1,.e (.i .i64) x.2])],100⟩
def w54u0 (σ:Sg):(List UInt8)×Int:=(lvH .tx 50 0 σ,lvH (.i .i64) 50 1 σ)
theorem w54ui0:∀ x,w54u0 (w54I0 x)=x:=fun _=>by kernel_rfl
def w54X0_0 (y:(List UInt8)×Int):Exit×Sg:=((.exit 0),⟨[(0,.ref 50 0)],[(50,.box 77 [.e .tx y.1,.e (.i .i64) y.2])],100⟩)
def w54v0_0 (_:Exit) (σ:Sg):(List UInt8)×Int:=(lvH .tx 50 0 σ,lvH (.i .i64) 50 1 σ)
def w54w0:List (Exit×Nm):=[((.exit 0),⟨[0],[],[]⟩)]
theorem w54o0:Outs w54v0_0 (fun _ _=>()) (fun _ _=>()) w54X0_0 (noX 1) (noX 2) (exC (.exit 0)) (exC (.goto 1)) (exC (.goto 2)):=⟨fun _=>by kernel_rfl,fun _=>by kernel_rfl,fun _=>by kernel_rfl,fun _=>by kernel_rfl,fun _=>by kernel_rfl,fun _=>by kernel_rfl,exNe_ok (by kernel_rfl),exNe_ok (by kernel_rfl),exNe_ok (by kernel_rfl)⟩
def w54l0 [Alg] (N:Nat):Nat→((List UInt8)×Int)→(((List UInt8)×Int)→O)→((Unit)→O)→((Unit)→O)→O
 | 0,_,_,_,_=>none
 | n+1,x,k0,k1,k2=>w54F0 N  (fun v0=>w54l0 N n (x.1,v0) k0 k1 k2) (fun y0 y1=>k0 (y0,y1)) x.1 x.2
def w54n0 [Alg] (N:Nat) (a0:(List UInt8)) (a1:Int) (k0:(List UInt8)→Int→O):O:=w54l0 N N (a0,a1) (fun y=>k0 y.1 y.2) (fun _=>none) (fun _=>none)
noncomputable def w54s0 [Alg] (N:Nat) (a0:(List UInt8)) (a1:Int) (k0:(List UInt8)→Int→O):O:=subL w54I0 w54u0 (w54l0 N N) (w54I0 (a0,a1)) (fun y=>k0 y.1 y.2) (fun _=>none) (fun _=>none)
theorem w54e0 [Alg] (N:Nat):w54s0 N=w54n0 N:=funext fun _=>funext fun _=>funext fun _=>subL_I w54ui0 _ _ _ _
noncomputable def w54h0 [Alg] (_:Nat):Hint:=.d
theorem w54hk0 (N:Nat):HintOk (w54c N) Tryd.f54.ntmps (w54h0 N) w54b0:=hk_of _ _ trivial
theorem w54q0 [Alg] (N:Nat) (self:Sg→O) (K:Exit→Sg→O) (x:(List UInt8)×Int):w54F0 N  (fun v0=>self (w54I0 (x.1,v0))) (fun y0 y1=>K (w54X0_0 (y0,y1)).1 (w54X0_0 (y0,y1)).2) x.1 x.2=exec (w54c N) Tryd.f54.ntmps (w54h0 N) w54b0 (w54I0 x) (roundX w54m0 w54w0 self K):=by kernel_rfl
theorem w54S0 (N:Nat) (hc:CxOk (w54c N)):SubOk (w54c N) Tryd.f54.ntmps (.loop w54b0) w54X0_0 (noX 1) (noX 2) (subL w54I0 w54u0 (w54l0 N N)):=
 sub_loop hc (w54hk0 N) w54o0 (n:=N) (fun x K=>loop_ind (w54l0 N) (fun _ _ _ _=>rfl) (fun n K ih x=>by
  have h:w54F0 N  (fun v0=>w54l0 N n (x.1,v0) (fun y=>K (w54X0_0 y).1 (w54X0_0 y).2) (fun y=>K ((noX 1) y).1 ((noX 1) y).2) (fun y=>K ((noX 2) y).1 ((noX 2) y).2)) (fun y0 y1=>K (w54X0_0 (y0,y1)).1 (w54X0_0 (y0,y1)).2) x.1 x.2=w54F0 N  (fun v0=>loopX (w54c N) Tryd.f54.ntmps (w54h0 N) w54b0 w54m0 w54w0 n (w54I0 (x.1,v0)) K) (fun y0 y1=>K (w54X0_0 (y0,y1)).1 (w54X0_0 (y0,y1)).2) x.1 x.2:=by rw [ show (fun v0=>w54l0 N n (x.1,v0) (fun y=>K (w54X0_0 y).1 (w54X0_0 y).2) (fun y=>K ((noX 1) y).1 ((noX 1) y).2) (fun y=>K ((noX 2) y).1 ((noX 2) y).2))=(fun v0=>loopX (w54c N) Tryd.f54.ntmps (w54h0 N) w54b0 w54m0 w54w0 n (w54I0 (x.1,v0)) K) from funext fun _=>ih _]
  exact h.trans (w54q0 N (fun σ=>loopX (w54c N) Tryd.f54.ntmps (w54h0 N) w54b0 w54m0 w54w0 n σ K) K x)) N x K)
def w54G [Alg] (_:Nat) (in0:(List UInt8)→Int→((List UInt8)→Int→O)→O) (g0:(List UInt8)) (g1:Int):O:=
 in0 g0 g1
  (fun z4 z5=>
   br (decide (z5=(↑z4.length:Int)))
    (some (w54r0 ((0:UInt8)) z4 z5))
    (gx z4 z5 fun y6=>
    some (w54r0 y6 z4 z5)))
def w54 [Alg] (N:Nat) (g0:(List UInt8)) (g1:Int):O:=w54G N (w54n0 N) g0 g1
noncomputable def w54h [Alg] (N:Nat):Hint:=(.seq .d (.seq (.block (.sub w54m0 _ _ _ w54X0_0 (noX 1) (noX 2) (subL w54I0 w54u0 (w54l0 N N)))) .d))
theorem w54hk (N:Nat) (hc:CxOk (w54c N)):HintOk (w54c N) Tryd.f54.ntmps (w54h N) w54b:=hk_of _ _ (And.intro trivial (And.intro (w54S0 N hc) trivial))
theorem w54q [Alg] (N:Nat) (g0:(List UInt8)) (g1:Int):w54G N (w54s0 N) g0 g1=exec (w54c N) Tryd.f54.ntmps (w54h N) w54b ⟨argT 0 [.ref 50 0],[(50,.box 77 [.e .tx g0,.e (.i .i64) g1])],100⟩ (finX (w54c N) Tryd.f54 false):=by kernel_rfl
theorem w54does {N:Nat} (hc:CxOk (w54c N)) {g0:(List UInt8)} {g1:Int} {r:Res} (h:w54 N g0 g1=some r):DoesR Tryd.prog 54 (([.ref 50 0]:List X).map X.D) (HA [(50,.box 77 [.e .tx g0,.e (.i .i64) g1])]) r:=
 fun_ok hc (f:=54) (fn:=Tryd.f54) (code:=w54b) (by kernel_rfl) (by kernel_rfl) (w54hk N hc) (Nat.le_of_ble_eq_true (by kernel_rfl)) (ow:=false) ((w54q N g0 g1).symm.trans (by rw [w54e0 N];exact h))
def w54un (r:Res):Option (UInt8×(List UInt8)×Int):=match r with
 | (x0,[(50,.box 77 [x1,x2])])=>(match ue .u8 x0,ue .tx x1,ue (.i .i64) x2 with | some a0,some a1,some a2=>some (a0,a1,a2) | _,_,_=>none)
 | _=>none
theorem w54uo {r:Res} {d:UInt8×(List UInt8)×Int} (h:w54un r=some d):r=w54r0 (d.1) (d.2.1) (d.2.2):=by
 unfold w54un at h
 split at h
 ·split at h
  ·rename_i h0 h1 h2;cases h;rw [ue_some h0,ue_some h1,ue_some h2];rfl
  ·cases h
 ·cases h
def w54z (N:Nat) (g0:(List UInt8)) (g1:Int):Option (UInt8×(List UInt8)×Int):=(w54 N g0 g1).bind w54un
theorem w54fin {N:Nat} (hc:CxOk (w54c N)) {g0:(List UInt8)} {g1:Int} {d:UInt8×(List UInt8)×Int} (hd:w54z N g0 g1=some d):Does Tryd.prog 54 (([.ref 50 0]:List X).map X.D) (HA [(50,.box 77 [.e .tx g0,.e (.i .i64) g1])]) (w54r0 (d.1) (d.2.1) (d.2.2)).1.D (HA (w54r0 (d.1) (d.2.1) (d.2.2)).2):=by
 obtain ⟨r,hr,hu⟩:=Option.bind_eq_some_iff.1 hd
 have:=w54does hc hr
 rw [w54uo hu] at this
 exact this
def w54p (N:Nat) (g0:(List UInt8)) (g1:Int):Bool:=(w54z N g0 g1).isSome
def w54y0 (N:Nat) (g0:(List UInt8)) (g1:Int):UInt8:=((w54z N g0 g1).getD (0,[],0)).1
def w54y1 (N:Nat) (g0:(List UInt8)) (g1:Int):(List UInt8):=((w54z N g0 g1).getD (0,[],0)).2.1
def w54y2 (N:Nat) (g0:(List UInt8)) (g1:Int):Int:=((w54z N g0 g1).getD (0,[],0)).2.2
def w54in (xs:List X) (H:XH):Option ((List UInt8)×Int):=match xs,H with
 | [.ref 50 0],[(50,.box 77 [x0,x1])]=>(match ue .tx x0,ue (.i .i64) x1 with | some a0,some a1=>some (a0,a1) | _,_=>none)
 | _,_=>none
theorem w54io {xs:List X} {H:XH} {d:(List UInt8)×Int} (h:w54in xs H=some d):xs=[.ref 50 0]∧H=[(50,.box 77 [.e .tx (d.1),.e (.i .i64) (d.2)])]:=by
 unfold w54in at h
 split at h
 ·split at h
  ·rename_i h0 h1;cases h;rw [ue_some h0,ue_some h1];exact ⟨rfl,rfl⟩
  ·cases h
 ·cases h
def w54e (N:Nat):Ent':=fun xs H=>match w54in xs H with | some d=>some (w54p N (d.1) (d.2),w54r0 (w54y0 N (d.1) (d.2)) (w54y1 N (d.1) (d.2)) (w54y2 N (d.1) (d.2))) | none=>none
theorem w54re {N:Nat} {g0:(List UInt8)} {g1:Int} {d:UInt8×(List UInt8)×Int} (hd:w54z N g0 g1=some d):w54r0 (w54y0 N g0 g1) (w54y1 N g0 g1) (w54y2 N g0 g1)=w54r0 (d.1) (d.2.1) (d.2.2):=by unfold w54y0 w54y1 w54y2;rw [hd];rfl
theorem w54ok (N:Nat):EOk Tryd.prog 54 (w54e N):=fun xs H pre r he hp=>by
 unfold w54e at he
 split at he
 ·rename_i d hd
  have he:=Option.some.inj he
  have h1:=congrArg Prod.fst he
  have h2:=congrArg Prod.snd he
  simp only at h1 h2
  obtain ⟨e1,e2⟩:=w54io hd
  rw [e1,e2,← h2]
  have h:(w54z N (d.1) (d.2)).isSome=true:=h1.trans hp
  obtain ⟨d',hd'⟩:=Option.isSome_iff_exists.1 h
  have f:=w54fin (w54cx N) hd'
  rw [← w54re hd'] at f
  exact f
 ·cases he
def w55r0  : Res:=(.tup [],[])
def w55r1 (a0:Int) (a1:(List UInt8)) (a2:Int):Res:=(.pan (.iface 73 (.int .i64 a0)),[(50,.box 77 [.e .tx a1,.e (.i .i64) a2])])
noncomputable def w55L (_:Nat):List (Nat×Ent'):=[]
noncomputable def w55c (N:Nat):Cx:=⟨Tryd.prog,25,w55L N,[]⟩
noncomputable def w55b:Code:=Tryd.f55.body.getD .skip
theorem w55cx (N:Nat):CxOk (w55c N):=ctx_ok (by kernel_rfl) .nil .nil
def w55G [Alg] (_:Nat)  (g0:(List UInt8)) (g1:Int):O:=
 some (w55r1 g1 g0 g1)
def w55 [Alg] (N:Nat) (g0:(List UInt8)) (g1:Int):O:=w55G N  g0 g1
noncomputable def w55h [Alg] (_:Nat):Hint:=.d
theorem w55hk (N:Nat):HintOk (w55c N) Tryd.f55.ntmps (w55h N) w55b:=hk_of _ _ trivial
theorem w55q [Alg] (N:Nat) (g0:(List UInt8)) (g1:Int):w55G N  g0 g1=exec (w55c N) Tryd.f55.ntmps (w55h N) w55b ⟨argT 0 [.ref 50 0],[(50,.box 77 [.e .tx g0,.e (.i .i64) g1])],100⟩ (finX (w55c N) Tryd.f55 false):=by kernel_rfl
theorem w55does {N:Nat} (hc:CxOk (w55c N)) {g0:(List UInt8)} {g1:Int} {r:Res} (h:w55 N g0 g1=some r):DoesR Tryd.prog 55 (([.ref 50 0]:List X).map X.D) (HA [(50,.box 77 [.e .tx g0,.e (.i .i64) g1])]) r:=
 fun_ok hc (f:=55) (fn:=Tryd.f55) (code:=w55b) (by kernel_rfl) (by kernel_rfl) (w55hk N) (Nat.le_of_ble_eq_true (by kernel_rfl)) (ow:=false) ((w55q N g0 g1).symm.trans (by exact h))
def w55un (r:Res):Option ((Unit) ⊕ (Int×(List UInt8)×Int)):=match r with
 | (.pan (.iface 73 (.int .i64 a0)),[(50,.box 77 [x1,x2])])=>(match ue .tx x1,ue (.i .i64) x2 with | some a1,some a2=>some (.inr (a0,a1,a2)) | _,_=>none)
 | _=>none
theorem w55uop {r:Res} {d:Int×(List UInt8)×Int} (h:w55un r=some (.inr d)):r=w55r1 (d.1) (d.2.1) (d.2.2):=by
 unfold w55un at h
 split at h
 ·split at h
  ·rename_i h1 h2;cases h;rw [ue_some h1,ue_some h2];rfl
  ·cases h
 ·cases h
def w55z (N:Nat) (g0:(List UInt8)) (g1:Int):Option ((Unit) ⊕ (Int×(List UInt8)×Int)):=(w55 N g0 g1).bind w55un
theorem w55finp {N:Nat} (hc:CxOk (w55c N)) {g0:(List UInt8)} {g1:Int} {d:Int×(List UInt8)×Int} (hd:w55z N g0 g1=some (.inr d)):DoesR Tryd.prog 55 (([.ref 50 0]:List X).map X.D) (HA [(50,.box 77 [.e .tx g0,.e (.i .i64) g1])]) (w55r1 (d.1) (d.2.1) (d.2.2)):=by
 obtain ⟨r,hr,hu⟩:=Option.bind_eq_some_iff.1 hd
 have:=w55does hc hr
 rw [w55uop hu] at this
 exact this
def w55in (xs:List X) (H:XH):Option ((List UInt8)×Int):=match xs,H with
 | [.ref 50 0],[(50,.box 77 [x0,x1])]=>(match ue .tx x0,ue (.i .i64) x1 with | some a0,some a1=>some (a0,a1) | _,_=>none)
 | _,_=>none
theorem w55io {xs:List X} {H:XH} {d:(List UInt8)×Int} (h:w55in xs H=some d):xs=[.ref 50 0]∧H=[(50,.box 77 [.e .tx (d.1),.e (.i .i64) (d.2)])]:=by
 unfold w55in at h
 split at h
 ·split at h
  ·rename_i h0 h1;cases h;rw [ue_some h0,ue_some h1];exact ⟨rfl,rfl⟩
  ·cases h
 ·cases h
def w55p (N:Nat) (g0:(List UInt8)) (g1:Int):Bool:=(w55z N g0 g1).isSome
def w55pv0 (N:Nat) (g0:(List UInt8)) (g1:Int):Int:=(sumR (0,[],0) (w55z N g0 g1)).1
def w55pv1 (N:Nat) (g0:(List UInt8)) (g1:Int):(List UInt8):=(sumR (0,[],0) (w55z N g0 g1)).2.1
def w55pv2 (N:Nat) (g0:(List UInt8)) (g1:Int):Int:=(sumR (0,[],0) (w55z N g0 g1)).2.2
def w55e (N:Nat):EntP:=entQ w55in (fun d=>w55p N (d.1) (d.2)) (fun _=>none) (fun _=>w55r0 ) (fun d=>w55r1 (w55pv0 N (d.1) (d.2)) (w55pv1 N (d.1) (d.2)) (w55pv2 N (d.1) (d.2)))
theorem w55nl (N:Nat) (g0:(List UInt8)) (g1:Int) (y:Unit):w55z N g0 g1≠some (.inl y):=fun h=>by
 obtain ⟨r,_,hu⟩:=Option.bind_eq_some_iff.1 h
 unfold w55un at hu
 split at hu
 ·split at hu
  ·cases hu
  ·cases hu
 ·cases hu
theorem w55ok (N:Nat):EOkP Tryd.prog 55 (w55e N):=entQ_ok w55io (fun d h=>panOnly (zz:=w55z N (d.1) (d.2)) (R':=fun y=>w55r1 (y.1) (y.2.1) (y.2.2)) (d0':=(0,[],0)) (fun y=>w55nl N (d.1) (d.2) y) (fun _ hy=>w55finp (w55cx N) hy) h)
def w117r0 (a0 a1:Int) (a2:(List Ex)) (a3:(List UInt8)) (a4:Int):Res:=(.agg [.e (.i .i64) a0,.e (.i .i64) a1,.e (.sl .ex) a2],[(50,.box 77 [.e .tx a3,.e (.i .i64) a4])])
def w117r1 (a0:Int) (a1:(List UInt8)) (a2:Int):Res:=(.pan (.iface 73 (.int .i64 a0)),[(50,.box 77 [.e .tx a1,.e (.i .i64) a2])])
noncomputable def w117L (N:Nat):List (Nat×Ent'):=[(126,w126e N)]
noncomputable def w117Lp (N:Nat):List (Nat×EntP):=[(55,w55e N)]
noncomputable def w117c (N:Nat):Cx:=⟨Tryd.prog,25,w117L N,w117Lp N⟩
noncomputable def w117b:Code:=Tryd.f117.body.getD .skip
theorem w117cx (N:Nat):CxOk (w117c N):=ctx_ok (by kernel_rfl) (.cons (by kernel_rfl) (w126ok N) .nil) (.cons (by kernel_rfl) (w55ok N) .nil)
def w117F0 [Alg] (_:Nat)  (self:Int→O) (k0:Int→(List UInt8)→Int→Int→Int→O) (x0_1:(List UInt8)) (x0_2 x0_3 x0_4 x0_0:Int):O:=
 gc (decide (x0_0 < (↑x0_1.length:Int))) ((0:UInt8)) x0_1 x0_0 fun y5=>
 gc (decide (x0_0 < (↑x0_1.length:Int))&&decide ((48:UInt8)≤y5)) ((0:UInt8)) x0_1 x0_0 fun y6=>
 br (decide (x0_0 < (↑x0_1.length:Int))&&decide ((48:UInt8)≤y5)&&decide (y6≤(57:UInt8)))
  (self (IntKind.i64.wrap (x0_0+(1:Int))))
  (k0 x0_0 x0_1 x0_2 x0_3 x0_4)
noncomputable def w117b0:Code:=atC [1,1,0,0,0] w117b
def w117m0:Nm:=⟨[0,2,7,3],[],[]⟩
def w117I0 (x:Int×(List UInt8)×Int×Int×Int):Sg:=⟨[(0,.ref 50 0),(2,.ref 0 0),(7,.ref 50 0),(3,.e (.i .i64) x.1)],[(50,.box 77 [.e .tx x.2.1,.e (.i .i64) x.2.2.1]),(0,.box 25 [.e (.i .i64) x.2.2.2.1,.e (.i .i64) x.2.2.2.2,.nilS])],100⟩
def w117u0 (σ:Sg):Int×(List UInt8)×Int×Int×Int:=(lvT (.i .i64) 3 0 σ,lvH .tx 50 0 σ,lvH (.i .i64) 50 1 σ,lvH (.i .i64) 0 0 σ,lvH (.i .i64) 0 1 σ)
theorem w117ui0:∀ x,w117u0 (w117I0 x)=x:=fun _=>by kernel_rfl
def w117X0_0 (y:Int×(List UInt8)×Int×Int×Int):Exit×Sg:=((.exit 0),⟨[(0,.ref 50 0),(2,.ref 0 0),(7,.ref 50 0),(3,.e (.i .i64) y.1)],[(50,.box 77 [.e .tx y.2.1,.e (.i .i64) y.2.2.1]),(0,.box 25 [.e (.i .i64) y.2.2.2.1,.e (.i .i64) y.2.2.2.2,.nilS])],100⟩)
def w117v0_0 (_:Exit) (σ:Sg):Int×(List UInt8)×Int×Int×Int:=(lvT (.i .i64) 3 0 σ,lvH .tx 50 0 σ,lvH (.i .i64) 50 1 σ,lvH (.i .i64) 0 0 σ,lvH (.i .i64) 0 1 σ)
def w117w0:List (Exit×Nm):=[((.exit 0),⟨[0,2,7,3],[],[]⟩)]
theorem w117o0:Outs w117v0_0 (fun _ _=>()) (fun _ _=>()) w117X0_0 (noX 1) (noX 2) (exC (.exit 0)) (exC (.goto 1)) (exC (.goto 2)):=⟨fun _=>by kernel_rfl,fun _=>by kernel_rfl,fun _=>by kernel_rfl,fun _=>by kernel_rfl,fun _=>by kernel_rfl,fun _=>by kernel_rfl,exNe_ok (by kernel_rfl),exNe_ok (by kernel_rfl),exNe_ok (by kernel_rfl)⟩
def w117l0 [Alg] (N:Nat):Nat→(Int×(List UInt8)×Int×Int×Int)→((Int×(List UInt8)×Int×Int×Int)→O)→((Unit)→O)→((Unit)→O)→O
 | 0,_,_,_,_=>none
 | n+1,x,k0,k1,k2=>w117F0 N  (fun v0=>w117l0 N n (v0,x.2.1,x.2.2.1,x.2.2.2.1,x.2.2.2.2) k0 k1 k2) (fun y0 y1 y2 y3 y4=>k0 (y0,y1,y2,y3,y4)) x.2.1 x.2.2.1 x.2.2.2.1 x.2.2.2.2 x.1
def w117n0 [Alg] (N:Nat) (a0:Int) (a1:(List UInt8)) (a2 a3 a4:Int) (k0:Int→(List UInt8)→Int→Int→Int→O):O:=w117l0 N N (a0,a1,a2,a3,a4) (fun y=>k0 y.1 y.2.1 y.2.2.1 y.2.2.2.1 y.2.2.2.2) (fun _=>none) (fun _=>none)
noncomputable def w117s0 [Alg] (N:Nat) (a0:Int) (a1:(List UInt8)) (a2 a3 a4:Int) (k0:Int→(List UInt8)→Int→Int→Int→O):O:=subL w117I0 w117u0 (w117l0 N N) (w117I0 (a0,a1,a2,a3,a4)) (fun y=>k0 y.1 y.2.1 y.2.2.1 y.2.2.2.1 y.2.2.2.2) (fun _=>none) (fun _=>none)
theorem w117e0 [Alg] (N:Nat):w117s0 N=w117n0 N:=funext fun _=>funext fun _=>funext fun _=>funext fun _=>funext fun _=>funext fun _=>subL_I w117ui0 _ _ _ _
noncomputable def w117h0 [Alg] (_:Nat):Hint:=.d
theorem w117hk0 (N:Nat):HintOk (w117c N) Tryd.f117.ntmps (w117h0 N) w117b0:=hk_of _ _ trivial
theorem w117q0 [Alg] (N:Nat) (self:Sg→O) (K:Exit→Sg→O) (x:Int×(List UInt8)×Int×Int×Int):w117F0 N  (fun v0=>self (w117I0 (v0,x.2.1,x.2.2.1,x.2.2.2.1,x.2.2.2.2))) (fun y0 y1 y2 y3 y4=>K (w117X0_0 (y0,y1,y2,y3,y4)).1 (w117X0_0 (y0,y1,y2,y3,y4)).2) x.2.1 x.2.2.1 x.2.2.2.1 x.2.2.2.2 x.1=exec (w117c N) Tryd.f117.ntmps (w117h0 N) w117b0 (w117I0 x) (roundX w117m0 w117w0 self K):=by kernel_rfl
theorem w117S0 (N:Nat) (hc:CxOk (w117c N)):SubOk (w117c N) Tryd.f117.ntmps (.loop w117b0) w117X0_0 (noX 1) (noX 2) (subL w117I0 w117u0 (w117l0 N N)):=
 sub_loop hc (w117hk0 N) w117o0 (n:=N) (fun x K=>loop_ind (w117l0 N) (fun _ _ _ _=>rfl) (fun n K ih x=>by
  have h:w117F0 N  (fun v0=>w117l0 N n (v0,x.2.1,x.2.2.1,x.2.2.2.1,x.2.2.2.2) (fun y=>K (w117X0_0 y).1 (w117X0_0 y).2) (fun y=>K ((noX 1) y).1 ((noX 1) y).2) (fun y=>K ((noX 2) y).1 ((noX 2) y).2)) (fun y0 y1 y2 y3 y4=>K (w117X0_0 (y0,y1,y2,y3,y4)).1 (w117X0_0 (y0,y1,y2,y3,y4)).2) x.2.1 x.2.2.1 x.2.2.2.1 x.2.2.2.2 x.1=w117F0 N  (fun v0=>loopX (w117c N) Tryd.f117.ntmps (w117h0 N) w117b0 w117m0 w117w0 n (w117I0 (v0,x.2.1,x.2.2.1,x.2.2.2.1,x.2.2.2.2)) K) (fun y0 y1 y2 y3 y4=>K (w117X0_0 (y0,y1,y2,y3,y4)).1 (w117X0_0 (y0,y1,y2,y3,y4)).2) x.2.1 x.2.2.1 x.2.2.2.1 x.2.2.2.2 x.1:=by rw [ show (fun v0=>w117l0 N n (v0,x.2.1,x.2.2.1,x.2.2.2.1,x.2.2.2.2) (fun y=>K (w117X0_0 y).1 (w117X0_0 y).2) (fun y=>K ((noX 1) y).1 ((noX 1) y).2) (fun y=>K ((noX 2) y).1 ((noX 2) y).2))=(fun v0=>loopX (w117c N) Tryd.f117.ntmps (w117h0 N) w117b0 w117m0 w117w0 n (w117I0 (v0,x.2.1,x.2.2.1,x.2.2.2.1,x.2.2.2.2)) K) from funext fun _=>ih _]
  exact h.trans (w117q0 N (fun σ=>loopX (w117c N) Tryd.f117.ntmps (w117h0 N) w117b0 w117m0 w117w0 n σ K) K x)) N x K)
def w117F1 [Alg] (N:Nat)   (k0:Int→(List UInt8)→Int→O) (k1:Int→(List UInt8)→(List UInt8)→Int→Int→Int→O) (x12_0:Int) (x12_1 x12_2:(List UInt8)) (x12_3 x12_4 x12_5:Int):O:=
 gc (!decide ((6:Int) < (↑x12_1.length:Int))&&decide ((1:Int) < (↑x12_1.length:Int))) ((0:UInt8)) x12_1 ((0:Int)) fun y15=>
 br (decide ((6:Int) < (↑x12_1.length:Int))||decide ((1:Int) < (↑x12_1.length:Int))&&decide (y15=(48:UInt8)))
  (ck (w55p N x12_2 x12_3) <|
  k0 (w55pv0 N x12_2 x12_3) (w55pv1 N x12_2 x12_3) (w55pv2 N x12_2 x12_3))
  (k1 x12_0 x12_1 x12_2 x12_3 x12_4 x12_5)
noncomputable def w117b1:Code:=atC [1,1,1,1,0] w117b
def w117m1:Nm:=⟨[0,2,7,3,4],[],[]⟩
def w117I1 (x:Int×(List UInt8)×(List UInt8)×Int×Int×Int):Sg:=⟨[(0,.ref 50 0),(2,.ref 0 0),(7,.ref 50 0),(3,.e (.i .i64) x.1),(4,.e .tx x.2.1)],[(50,.box 77 [.e .tx x.2.2.1,.e (.i .i64) x.2.2.2.1]),(0,.box 25 [.e (.i .i64) x.2.2.2.2.1,.e (.i .i64) x.2.2.2.2.2,.nilS])],100⟩
def w117u1 (σ:Sg):Int×(List UInt8)×(List UInt8)×Int×Int×Int:=(lvT (.i .i64) 3 0 σ,lvT .tx 4 0 σ,lvH .tx 50 0 σ,lvH (.i .i64) 50 1 σ,lvH (.i .i64) 0 0 σ,lvH (.i .i64) 0 1 σ)
theorem w117ui1:∀ x,w117u1 (w117I1 x)=x:=fun _=>by kernel_rfl
def w117X1_0 (y:Int×(List UInt8)×Int):Exit×Sg:=((.panic [pent (.iface 73 (.int .i64 y.1))]),⟨[],[(50,.box 77 [.e .tx y.2.1,.e (.i .i64) y.2.2])],100⟩)
def w117v1_0 (e:Exit) (σ:Sg):Int×(List UInt8)×Int:=(lvP e,lvH .tx 50 0 σ,lvH (.i .i64) 50 1 σ)
def w117X1_1 (y:Int×(List UInt8)×(List UInt8)×Int×Int×Int):Exit×Sg:=(.normal,⟨[(0,.ref 50 0),(2,.ref 0 0),(3,.e (.i .i64) y.1),(4,.e .tx y.2.1)],[(50,.box 77 [.e .tx y.2.2.1,.e (.i .i64) y.2.2.2.1]),(0,.box 25 [.e (.i .i64) y.2.2.2.2.1,.e (.i .i64) y.2.2.2.2.2,.nilS])],100⟩)
def w117v1_1 (_:Exit) (σ:Sg):Int×(List UInt8)×(List UInt8)×Int×Int×Int:=(lvT (.i .i64) 3 0 σ,lvT .tx 4 0 σ,lvH .tx 50 0 σ,lvH (.i .i64) 50 1 σ,lvH (.i .i64) 0 0 σ,lvH (.i .i64) 0 1 σ)
def w117w1:List (Exit×Nm):=[((.panic []),⟨[],[],[]⟩),(.normal,⟨[0,2,3,4],[],[]⟩)]
theorem w117o1:Outs w117v1_0 w117v1_1 (fun _ _=>()) w117X1_0 w117X1_1 (noX 2) (exC (.panic [])) (exC .normal) (exC (.goto 2)):=⟨fun _=>by kernel_rfl,fun _=>by kernel_rfl,fun _=>by kernel_rfl,fun _=>by kernel_rfl,fun _=>by kernel_rfl,fun _=>by kernel_rfl,exNe_ok (by kernel_rfl),exNe_ok (by kernel_rfl),exNe_ok (by kernel_rfl)⟩
def w117l1 [Alg] (N _:Nat) (x:Int×(List UInt8)×(List UInt8)×Int×Int×Int) (k0:(Int×(List UInt8)×Int)→O) (k1:(Int×(List UInt8)×(List UInt8)×Int×Int×Int)→O) (_:(Unit)→O):O:=w117F1 N   (fun y0 y1 y2=>k0 (y0,y1,y2)) (fun y0 y1 y2 y3 y4 y5=>k1 (y0,y1,y2,y3,y4,y5)) x.1 x.2.1 x.2.2.1 x.2.2.2.1 x.2.2.2.2.1 x.2.2.2.2.2
def w117n1 [Alg] (N:Nat) (a0:Int) (a1 a2:(List UInt8)) (a3 a4 a5:Int) (k0:Int→(List UInt8)→Int→O) (k1:Int→(List UInt8)→(List UInt8)→Int→Int→Int→O):O:=w117l1 N N (a0,a1,a2,a3,a4,a5) (fun y=>k0 y.1 y.2.1 y.2.2) (fun y=>k1 y.1 y.2.1 y.2.2.1 y.2.2.2.1 y.2.2.2.2.1 y.2.2.2.2.2) (fun _=>none)
noncomputable def w117s1 [Alg] (N:Nat) (a0:Int) (a1 a2:(List UInt8)) (a3 a4 a5:Int) (k0:Int→(List UInt8)→Int→O) (k1:Int→(List UInt8)→(List UInt8)→Int→Int→Int→O):O:=subL w117I1 w117u1 (w117l1 N N) (w117I1 (a0,a1,a2,a3,a4,a5)) (fun y=>k0 y.1 y.2.1 y.2.2) (fun y=>k1 y.1 y.2.1 y.2.2.1 y.2.2.2.1 y.2.2.2.2.1 y.2.2.2.2.2) (fun _=>none)
theorem w117e1 [Alg] (N:Nat):w117s1 N=w117n1 N:=funext fun _=>funext fun _=>funext fun _=>funext fun _=>funext fun _=>funext fun _=>funext fun _=>funext fun _=>subL_I w117ui1 _ _ _ _
noncomputable def w117h1 [Alg] (_:Nat):Hint:=.d
theorem w117hk1 (N:Nat):HintOk (w117c N) Tryd.f117.ntmps (w117h1 N) w117b1:=hk_of _ _ trivial
theorem w117q1 [Alg] (N:Nat) (K:Exit→Sg→O) (x:Int×(List UInt8)×(List UInt8)×Int×Int×Int):w117F1 N   (fun y0 y1 y2=>K (w117X1_0 (y0,y1,y2)).1 (w117X1_0 (y0,y1,y2)).2) (fun y0 y1 y2 y3 y4 y5=>K (w117X1_1 (y0,y1,y2,y3,y4,y5)).1 (w117X1_1 (y0,y1,y2,y3,y4,y5)).2) x.1 x.2.1 x.2.2.1 x.2.2.2.1 x.2.2.2.2.1 x.2.2.2.2.2=exec (w117c N) Tryd.f117.ntmps (w117h1 N) w117b1 (w117I1 x) (partX w117w1 K):=by kernel_rfl
theorem w117S1 (N:Nat) (hc:CxOk (w117c N)):SubOk (w117c N) Tryd.f117.ntmps w117b1 w117X1_0 w117X1_1 (noX 2) (subL w117I1 w117u1 (w117l1 N N)):=
 sub_part hc (w117hk1 N) w117o1 (fun x K=>by
  have h:w117F1 N   (fun y0 y1 y2=>K (w117X1_0 (y0,y1,y2)).1 (w117X1_0 (y0,y1,y2)).2) (fun y0 y1 y2 y3 y4 y5=>K (w117X1_1 (y0,y1,y2,y3,y4,y5)).1 (w117X1_1 (y0,y1,y2,y3,y4,y5)).2) x.1 x.2.1 x.2.2.1 x.2.2.2.1 x.2.2.2.2.1 x.2.2.2.2.2=w117F1 N   (fun y0 y1 y2=>K (w117X1_0 (y0,y1,y2)).1 (w117X1_0 (y0,y1,y2)).2) (fun y0 y1 y2 y3 y4 y5=>K (w117X1_1 (y0,y1,y2,y3,y4,y5)).1 (w117X1_1 (y0,y1,y2,y3,y4,y5)).2) x.1 x.2.1 x.2.2.1 x.2.2.2.1 x.2.2.2.2.1 x.2.2.2.2.2:=by rfl
  exact h.trans (w117q1 N K x))
def w117G [Alg] (N:Nat) (in0:Int→(List UInt8)→Int→Int→Int→(Int→(List UInt8)→Int→Int→Int→O)→O) (in1:Int→(List UInt8)→(List UInt8)→Int→Int→Int→(Int→(List UInt8)→Int→O)→(Int→(List UInt8)→(List UInt8)→Int→Int→Int→O)→O) (g0:(List UInt8)) (g1:Int):O:=
 in0 g1 g0 g1 ((0:Int)) ((0:Int))
  (fun z7 z8 z9 z10 z11=>
   ck (slcOk z8.length (some z9) (some z7)) <|
   in1 z7 (slc z8 (some z9) (some z7)) z8 z9 z10 z11
    (fun z16 z17 z18=>
     some (w117r1 z16 z17 z18))
    (fun z19 z20 z21 z22 _ _=>
     ck (w126p N z20) <|
     br false
      (ck (w55p N z21 z22) <|
      some (w117r1 (w55pv0 N z21 z22) (w55pv1 N z21 z22) (w55pv2 N z21 z22)))
      (some (w117r0 ((0:Int)) ((w126y0 N z20)) ([]) z21 z19))))
def w117 [Alg] (N:Nat) (g0:(List UInt8)) (g1:Int):O:=w117G N (w117n0 N) (w117n1 N) g0 g1
noncomputable def w117h [Alg] (N:Nat):Hint:=(.seq .d (.seq .d (.seq (.block (.sub w117m0 _ _ _ w117X0_0 (noX 1) (noX 2) (subL w117I0 w117u0 (w117l0 N N)))) (.seq .d (.seq (.sub w117m1 _ _ _ w117X1_0 w117X1_1 (noX 2) (subL w117I1 w117u1 (w117l1 N N))) .d)))))
theorem w117hk (N:Nat) (hc:CxOk (w117c N)):HintOk (w117c N) Tryd.f117.ntmps (w117h N) w117b:=hk_of _ _ (And.intro trivial (And.intro trivial (And.intro (w117S0 N hc) (And.intro trivial (And.intro (w117S1 N hc) trivial)))))
theorem w117q [Alg] (N:Nat) (g0:(List UInt8)) (g1:Int):w117G N (w117s0 N) (w117s1 N) g0 g1=exec (w117c N) Tryd.f117.ntmps (w117h N) w117b ⟨argT 0 [.ref 50 0],[(50,.box 77 [.e .tx g0,.e (.i .i64) g1])],100⟩ (finX (w117c N) Tryd.f117 false):=by kernel_rfl
theorem w117does {N:Nat} (hc:CxOk (w117c N)) {g0:(List UInt8)} {g1:Int} {r:Res} (h:w117 N g0 g1=some r):DoesR Tryd.prog 117 (([.ref 50 0]:List X).map X.D) (HA [(50,.box 77 [.e .tx g0,.e (.i .i64) g1])]) r:=
 fun_ok hc (f:=117) (fn:=Tryd.f117) (code:=w117b) (by kernel_rfl) (by kernel_rfl) (w117hk N hc) (Nat.le_of_ble_eq_true (by kernel_rfl)) (ow:=false) ((w117q N g0 g1).symm.trans (by rw [w117e0 N,w117e1 N];exact h))
def w117un (r:Res):Option ((Int×Int×(List Ex)×(List UInt8)×Int) ⊕ (Int×(List UInt8)×Int)):=match r with
 | (.pan (.iface 73 (.int .i64 a0)),[(50,.box 77 [x1,x2])])=>(match ue .tx x1,ue (.i .i64) x2 with | some a1,some a2=>some (.inr (a0,a1,a2)) | _,_=>none)
 | (.agg [x0,x1,x2],[(50,.box 77 [x3,x4])])=>(match ue (.i .i64) x0,ue (.i .i64) x1,ue (.sl .ex) x2,ue .tx x3,ue (.i .i64) x4 with | some a0,some a1,some a2,some a3,some a4=>some (.inl (a0,a1,a2,a3,a4)) | _,_,_,_,_=>none)
 | _=>none
theorem w117uo {r:Res} {d:Int×Int×(List Ex)×(List UInt8)×Int} (h:w117un r=some (.inl d)):r=w117r0 (d.1) (d.2.1) (d.2.2.1) (d.2.2.2.1) (d.2.2.2.2):=by
 unfold w117un at h
 split at h
 ·split at h
  ·cases h
  ·cases h
 ·split at h
  ·rename_i h0 h1 h2 h3 h4;cases h;rw [ue_some h0,ue_some h1,ue_some h2,ue_some h3,ue_some h4];rfl
  ·cases h
 ·cases h
theorem w117uop {r:Res} {d:Int×(List UInt8)×Int} (h:w117un r=some (.inr d)):r=w117r1 (d.1) (d.2.1) (d.2.2):=by
 unfold w117un at h
 split at h
 ·split at h
  ·rename_i h1 h2;cases h;rw [ue_some h1,ue_some h2];rfl
  ·cases h
 ·split at h
  ·cases h
  ·cases h
 ·cases h
def w117z (N:Nat) (g0:(List UInt8)) (g1:Int):Option ((Int×Int×(List Ex)×(List UInt8)×Int) ⊕ (Int×(List UInt8)×Int)):=(w117 N g0 g1).bind w117un
theorem w117fin {N:Nat} (hc:CxOk (w117c N)) {g0:(List UInt8)} {g1:Int} {d:Int×Int×(List Ex)×(List UInt8)×Int} (hd:w117z N g0 g1=some (.inl d)):Does Tryd.prog 117 (([.ref 50 0]:List X).map X.D) (HA [(50,.box 77 [.e .tx g0,.e (.i .i64) g1])]) (w117r0 (d.1) (d.2.1) (d.2.2.1) (d.2.2.2.1) (d.2.2.2.2)).1.D (HA (w117r0 (d.1) (d.2.1) (d.2.2.1) (d.2.2.2.1) (d.2.2.2.2)).2):=by
 obtain ⟨r,hr,hu⟩:=Option.bind_eq_some_iff.1 hd
 have:=w117does hc hr
 rw [w117uo hu] at this
 exact this
theorem w117finp {N:Nat} (hc:CxOk (w117c N)) {g0:(List UInt8)} {g1:Int} {d:Int×(List UInt8)×Int} (hd:w117z N g0 g1=some (.inr d)):DoesR Tryd.prog 117 (([.ref 50 0]:List X).map X.D) (HA [(50,.box 77 [.e .tx g0,.e (.i .i64) g1])]) (w117r1 (d.1) (d.2.1) (d.2.2)):=by
 obtain ⟨r,hr,hu⟩:=Option.bind_eq_some_iff.1 hd
 have:=w117does hc hr
 rw [w117uop hu] at this
 exact this
def w117in (xs:List X) (H:XH):Option ((List UInt8)×Int):=match xs,H with
 | [.ref 50 0],[(50,.box 77 [x0,x1])]=>(match ue .tx x0,ue (.i .i64) x1 with | some a0,some a1=>some (a0,a1) | _,_=>none)
 | _,_=>none
theorem w117io {xs:List X} {H:XH} {d:(List UInt8)×Int} (h:w117in xs H=some d):xs=[.ref 50 0]∧H=[(50,.box 77 [.e .tx (d.1),.e (.i .i64) (d.2)])]:=by
 unfold w117in at h
 split at h
 ·split at h
  ·rename_i h0 h1;cases h;rw [ue_some h0,ue_some h1];exact ⟨rfl,rfl⟩
  ·cases h
 ·cases h
def w117p (N:Nat) (g0:(List UInt8)) (g1:Int):Bool:=(w117z N g0 g1).isSome
def w117b_ (N:Nat) (g0:(List UInt8)) (g1:Int):Bool:=isL (w117z N g0 g1)
def w117y0 (N:Nat) (g0:(List UInt8)) (g1:Int):Int:=(sumL (0,0,[],[],0) (w117z N g0 g1)).1
def w117y1 (N:Nat) (g0:(List UInt8)) (g1:Int):Int:=(sumL (0,0,[],[],0) (w117z N g0 g1)).2.1
def w117y2 (N:Nat) (g0:(List UInt8)) (g1:Int):(List Ex):=(sumL (0,0,[],[],0) (w117z N g0 g1)).2.2.1
def w117y3 (N:Nat) (g0:(List UInt8)) (g1:Int):(List UInt8):=(sumL (0,0,[],[],0) (w117z N g0 g1)).2.2.2.1
def w117y4 (N:Nat) (g0:(List UInt8)) (g1:Int):Int:=(sumL (0,0,[],[],0) (w117z N g0 g1)).2.2.2.2
def w117pv0 (N:Nat) (g0:(List UInt8)) (g1:Int):Int:=(sumR (0,[],0) (w117z N g0 g1)).1
def w117pv1 (N:Nat) (g0:(List UInt8)) (g1:Int):(List UInt8):=(sumR (0,[],0) (w117z N g0 g1)).2.1
def w117pv2 (N:Nat) (g0:(List UInt8)) (g1:Int):Int:=(sumR (0,[],0) (w117z N g0 g1)).2.2
def w117e (N:Nat):EntP:=entQ w117in (fun d=>w117p N (d.1) (d.2)) (fun d=>some (w117b_ N (d.1) (d.2))) (fun d=>w117r0 (w117y0 N (d.1) (d.2)) (w117y1 N (d.1) (d.2)) (w117y2 N (d.1) (d.2)) (w117y3 N (d.1) (d.2)) (w117y4 N (d.1) (d.2))) (fun d=>w117r1 (w117pv0 N (d.1) (d.2)) (w117pv1 N (d.1) (d.2)) (w117pv2 N (d.1) (d.2)))
theorem w117ok (N:Nat):EOkP Tryd.prog 117 (w117e N):=entQ_ok w117io (fun d h=>panStep (zz:=w117z N (d.1) (d.2)) (R:=fun y=>w117r0 (y.1) (y.2.1) (y.2.2.1) (y.2.2.2.1) (y.2.2.2.2)) (R':=fun y=>w117r1 (y.1) (y.2.1) (y.2.2)) (d0:=(0,0,[],[],0)) (d0':=(0,[],0)) (fun _ hy=>w117fin (w117cx N) hy) (fun _ hy=>w117finp (w117cx N) hy) h)
def w118r0 (a0:(List UInt8)) (a1:Int):Res:=(.tup [],[(50,.box 77 [.e .tx a0,.e (.i .i64) a1])])
def w118r1 (a0:Int) (a1:(List UInt8)) (a2:Int):Res:=(.pan (.iface 73 (.int .i64 a0)),[(50,.box 77 [.e .tx a1,.e (.i .i64) a2])])
noncomputable def w118L (N:Nat):List (Nat×Ent'):=[(54,w54e N)]
noncomputable def w118Lp (N:Nat):List (Nat×EntP):=[(55,w55e N)]
noncomputable def w118c (N:Nat):Cx:=⟨Tryd.prog,25,w118L N,w118Lp N⟩
noncomputable def w118b:Code:=Tryd.f118.body.getD .skip
theorem w118cx (N:Nat):CxOk (w118c N):=ctx_ok (by kernel_rfl) (.cons (by kernel_rfl) (w54ok N) .nil) (.cons (by kernel_rfl) (w55ok N) .nil)
def w118G [Alg] (N:Nat)  (c1:UInt8) (g0:(List UInt8)) (g1:Int):O:=
 ck (w54p N g0 g1) <|
 br (decide (w54y0 N g0 g1≠c1))
  (ck (w55p N (w54y1 N g0 g1) (w54y2 N g0 g1)) <|
  some (w118r1 (w55pv0 N (w54y1 N g0 g1) (w54y2 N g0 g1)) (w55pv1 N (w54y1 N g0 g1) (w54y2 N g0 g1)) (w55pv2 N (w54y1 N g0 g1) (w54y2 N g0 g1))))
  (some (w118r0 (w54y1 N g0 g1) (IntKind.i64.wrap (w54y2 N g0 g1+(1:Int)))))
def w118 [Alg] (N:Nat) (c1:UInt8) (g0:(List UInt8)) (g1:Int):O:=w118G N  c1 g0 g1
noncomputable def w118h [Alg] (_:Nat):Hint:=.d
theorem w118hk (N:Nat):HintOk (w118c N) Tryd.f118.ntmps (w118h N) w118b:=hk_of _ _ trivial
theorem w118q [Alg] (N:Nat) (c1:UInt8) (g0:(List UInt8)) (g1:Int):w118G N  c1 g0 g1=exec (w118c N) Tryd.f118.ntmps (w118h N) w118b ⟨argT 0 [.ref 50 0,.e .u8 c1],[(50,.box 77 [.e .tx g0,.e (.i .i64) g1])],100⟩ (finX (w118c N) Tryd.f118 false):=by kernel_rfl
theorem w118does {N:Nat} (hc:CxOk (w118c N)) {c1:UInt8} {g0:(List UInt8)} {g1:Int} {r:Res} (h:w118 N c1 g0 g1=some r):DoesR Tryd.prog 118 (([.ref 50 0,.e .u8 c1]:List X).map X.D) (HA [(50,.box 77 [.e .tx g0,.e (.i .i64) g1])]) r:=
 fun_ok hc (f:=118) (fn:=Tryd.f118) (code:=w118b) (by kernel_rfl) (by kernel_rfl) (w118hk N) (Nat.le_of_ble_eq_true (by kernel_rfl)) (ow:=false) ((w118q N c1 g0 g1).symm.trans (by exact h))
def w118un (r:Res):Option (((List UInt8)×Int) ⊕ (Int×(List UInt8)×Int)):=match r with
 | (.pan (.iface 73 (.int .i64 a0)),[(50,.box 77 [x1,x2])])=>(match ue .tx x1,ue (.i .i64) x2 with | some a1,some a2=>some (.inr (a0,a1,a2)) | _,_=>none)
 | (.tup [],[(50,.box 77 [x0,x1])])=>(match ue .tx x0,ue (.i .i64) x1 with | some a0,some a1=>some (.inl (a0,a1)) | _,_=>none)
 | _=>none
theorem w118uo {r:Res} {d:(List UInt8)×Int} (h:w118un r=some (.inl d)):r=w118r0 (d.1) (d.2):=by
 unfold w118un at h
 split at h
 ·split at h
  ·cases h
  ·cases h
 ·split at h
  ·rename_i h0 h1;cases h;rw [ue_some h0,ue_some h1];rfl
  ·cases h
 ·cases h
theorem w118uop {r:Res} {d:Int×(List UInt8)×Int} (h:w118un r=some (.inr d)):r=w118r1 (d.1) (d.2.1) (d.2.2):=by
 unfold w118un at h
 split at h
 ·split at h
  ·rename_i h1 h2;cases h;rw [ue_some h1,ue_some h2];rfl
  ·cases h
 ·split at h
  ·cases h
  ·cases h
 ·cases h
def w118z (N:Nat) (c1:UInt8) (g0:(List UInt8)) (g1:Int):Option (((List UInt8)×Int) ⊕ (Int×(List UInt8)×Int)):=(w118 N c1 g0 g1).bind w118un
theorem w118fin {N:Nat} (hc:CxOk (w118c N)) {c1:UInt8} {g0:(List UInt8)} {g1:Int} {d:(List UInt8)×Int} (hd:w118z N c1 g0 g1=some (.inl d)):Does Tryd.prog 118 (([.ref 50 0,.e .u8 c1]:List X).map X.D) (HA [(50,.box 77 [.e .tx g0,.e (.i .i64) g1])]) (w118r0 (d.1) (d.2)).1.D (HA (w118r0 (d.1) (d.2)).2):=by
 obtain ⟨r,hr,hu⟩:=Option.bind_eq_some_iff.1 hd
 have:=w118does hc hr
 rw [w118uo hu] at this
 exact this
theorem w118finp {N:Nat} (hc:CxOk (w118c N)) {c1:UInt8} {g0:(List UInt8)} {g1:Int} {d:Int×(List UInt8)×Int} (hd:w118z N c1 g0 g1=some (.inr d)):DoesR Tryd.prog 118 (([.ref 50 0,.e .u8 c1]:List X).map X.D) (HA [(50,.box 77 [.e .tx g0,.e (.i .i64) g1])]) (w118r1 (d.1) (d.2.1) (d.2.2)):=by
 obtain ⟨r,hr,hu⟩:=Option.bind_eq_some_iff.1 hd
 have:=w118does hc hr
 rw [w118uop hu] at this
 exact this
def w118in (xs:List X) (H:XH):Option (UInt8×(List UInt8)×Int):=match xs,H with
 | [.ref 50 0,x0],[(50,.box 77 [x1,x2])]=>(match ue .u8 x0,ue .tx x1,ue (.i .i64) x2 with | some a0,some a1,some a2=>some (a0,a1,a2) | _,_,_=>none)
 | _,_=>none
theorem w118io {xs:List X} {H:XH} {d:UInt8×(List UInt8)×Int} (h:w118in xs H=some d):xs=[.ref 50 0,.e .u8 (d.1)]∧H=[(50,.box 77 [.e .tx (d.2.1),.e (.i .i64) (d.2.2)])]:=by
 unfold w118in at h
 split at h
 ·split at h
  ·rename_i h0 h1 h2;cases h;rw [ue_some h0,ue_some h1,ue_some h2];exact ⟨rfl,rfl⟩
  ·cases h
 ·cases h
def w118p (N:Nat) (c1:UInt8) (g0:(List UInt8)) (g1:Int):Bool:=(w118z N c1 g0 g1).isSome
def w118b_ (N:Nat) (c1:UInt8) (g0:(List UInt8)) (g1:Int):Bool:=isL (w118z N c1 g0 g1)
def w118y0 (N:Nat) (c1:UInt8) (g0:(List UInt8)) (g1:Int):(List UInt8):=(sumL ([],0) (w118z N c1 g0 g1)).1
def w118y1 (N:Nat) (c1:UInt8) (g0:(List UInt8)) (g1:Int):Int:=(sumL ([],0) (w118z N c1 g0 g1)).2
def w118pv0 (N:Nat) (c1:UInt8) (g0:(List UInt8)) (g1:Int):Int:=(sumR (0,[],0) (w118z N c1 g0 g1)).1
def w118pv1 (N:Nat) (c1:UInt8) (g0:(List UInt8)) (g1:Int):(List UInt8):=(sumR (0,[],0) (w118z N c1 g0 g1)).2.1
def w118pv2 (N:Nat) (c1:UInt8) (g0:(List UInt8)) (g1:Int):Int:=(sumR (0,[],0) (w118z N c1 g0 g1)).2.2
def w118e (N:Nat):EntP:=entQ w118in (fun d=>w118p N (d.1) (d.2.1) (d.2.2)) (fun d=>some (w118b_ N (d.1) (d.2.1) (d.2.2))) (fun d=>w118r0 (w118y0 N (d.1) (d.2.1) (d.2.2)) (w118y1 N (d.1) (d.2.1) (d.2.2))) (fun d=>w118r1 (w118pv0 N (d.1) (d.2.1) (d.2.2)) (w118pv1 N (d.1) (d.2.1) (d.2.2)) (w118pv2 N (d.1) (d.2.1) (d.2.2)))
theorem w118ok (N:Nat):EOkP Tryd.prog 118 (w118e N):=entQ_ok w118io (fun d h=>panStep (zz:=w118z N (d.1) (d.2.1) (d.2.2)) (R:=fun y=>w118r0 (y.1) (y.2)) (R':=fun y=>w118r1 (y.1) (y.2.1) (y.2.2)) (d0:=([],0)) (d0':=(0,[],0)) (fun _ hy=>w118fin (w118cx N) hy) (fun _ hy=>w118finp (w118cx N) hy) h)
def w87r0 (a0:Bool) (a1:Int) (a2:UInt8):Res:=(.e .bo a0,[(50,.box 3 [.e (.i .i64) a1]),(51,.box 5 [.e .u8 a2])])
noncomputable def w87L (_:Nat):List (Nat×Ent'):=[]
noncomputable def w87c (N:Nat):Cx:=⟨Tryd.prog,25,w87L N,[]⟩
noncomputable def w87b:Code:=Tryd.f87.body.getD .skip
theorem w87cx (N:Nat):CxOk (w87c N):=ctx_ok (by kernel_rfl) .nil .nil
def w87G [Alg] (_:Nat)  (o0_0 _o0_1 o0_2:Int) (o0_3:UInt8) (g0:Int) (k510:UInt8):O:=
 some (w87r0 (decide (o0_2=g0)&&decide (o0_0=(2:Int))&&decide (o0_3=k510)) g0 k510)
def w87 [Alg] (N:Nat) (o0_0 o0_1 o0_2:Int) (o0_3:UInt8) (g0:Int) (k510:UInt8):O:=w87G N  o0_0 o0_1 o0_2 o0_3 g0 k510
noncomputable def w87h [Alg] (_:Nat):Hint:=.d
theorem w87hk (N:Nat):HintOk (w87c N) Tryd.f87.ntmps (w87h N) w87b:=hk_of _ _ trivial
theorem w87q [Alg] (N:Nat) (o0_0 o0_1 o0_2:Int) (o0_3:UInt8) (g0:Int) (k510:UInt8):w87G N  o0_0 o0_1 o0_2 o0_3 g0 k510=exec (w87c N) Tryd.f87.ntmps (w87h N) w87b ⟨argT 0 [.agg [.e (.i .i64) o0_0,.e (.i .i64) o0_1,.e (.i .i64) o0_2,.e .u8 o0_3],.ref 50 0,.ref 51 0],[(50,.box 3 [.e (.i .i64) g0]),(51,.box 5 [.e .u8 k510])],100⟩ (finX (w87c N) Tryd.f87 true):=by kernel_rfl
theorem w87does {N:Nat} (hc:CxOk (w87c N)) {o0_0 o0_1 o0_2:Int} {o0_3:UInt8} {g0:Int} {k510:UInt8} {r:Res} (h:w87 N o0_0 o0_1 o0_2 o0_3 g0 k510=some r):DoesR Tryd.prog 87 (([.agg [.e (.i .i64) o0_0,.e (.i .i64) o0_1,.e (.i .i64) o0_2,.e .u8 o0_3],.ref 50 0,.ref 51 0]:List X).map X.D) (HA [(50,.box 3 [.e (.i .i64) g0]),(51,.box 5 [.e .u8 k510])]) r:=
 fun_ok hc (f:=87) (fn:=Tryd.f87) (code:=w87b) (by kernel_rfl) (by kernel_rfl) (w87hk N) (Nat.le_of_ble_eq_true (by kernel_rfl)) (ow:=true) ((w87q N o0_0 o0_1 o0_2 o0_3 g0 k510).symm.trans (by exact h))
def w87un (r:Res):Option (Bool×Int×UInt8):=match r with
 | (x0,[(50,.box 3 [x1]),(51,.box 5 [x2])])=>(match ue .bo x0,ue (.i .i64) x1,ue .u8 x2 with | some a0,some a1,some a2=>some (a0,a1,a2) | _,_,_=>none)
 | _=>none
theorem w87uo {r:Res} {d:Bool×Int×UInt8} (h:w87un r=some d):r=w87r0 (d.1) (d.2.1) (d.2.2):=by
 unfold w87un at h
 split at h
 ·split at h
  ·rename_i h0 h1 h2;cases h;rw [ue_some h0,ue_some h1,ue_some h2];rfl
  ·cases h
 ·cases h
def w87z (N:Nat) (o0_0 o0_1 o0_2:Int) (o0_3:UInt8) (g0:Int) (k510:UInt8):Option (Bool×Int×UInt8):=(w87 N o0_0 o0_1 o0_2 o0_3 g0 k510).bind w87un
theorem w87fin {N:Nat} (hc:CxOk (w87c N)) {o0_0 o0_1 o0_2:Int} {o0_3:UInt8} {g0:Int} {k510:UInt8} {d:Bool×Int×UInt8} (hd:w87z N o0_0 o0_1 o0_2 o0_3 g0 k510=some d):Does Tryd.prog 87 (([.agg [.e (.i .i64) o0_0,.e (.i .i64) o0_1,.e (.i .i64) o0_2,.e .u8 o0_3],.ref 50 0,.ref 51 0]:List X).map X.D) (HA [(50,.box 3 [.e (.i .i64) g0]),(51,.box 5 [.e .u8 k510])]) (w87r0 (d.1) (d.2.1) (d.2.2)).1.D (HA (w87r0 (d.1) (d.2.1) (d.2.2)).2):=by
 obtain ⟨r,hr,hu⟩:=Option.bind_eq_some_iff.1 hd
 have:=w87does hc hr
 rw [w87uo hu] at this
 exact this
def w87p (N:Nat) (o0_0 o0_1 o0_2:Int) (o0_3:UInt8) (g0:Int) (k510:UInt8):Bool:=(w87z N o0_0 o0_1 o0_2 o0_3 g0 k510).isSome
def w87y0 (N:Nat) (o0_0 o0_1 o0_2:Int) (o0_3:UInt8) (g0:Int) (k510:UInt8):Bool:=((w87z N o0_0 o0_1 o0_2 o0_3 g0 k510).getD (false,0,0)).1
def w87y1 (N:Nat) (o0_0 o0_1 o0_2:Int) (o0_3:UInt8) (g0:Int) (k510:UInt8):Int:=((w87z N o0_0 o0_1 o0_2 o0_3 g0 k510).getD (false,0,0)).2.1
def w87y2 (N:Nat) (o0_0 o0_1 o0_2:Int) (o0_3:UInt8) (g0:Int) (k510:UInt8):UInt8:=((w87z N o0_0 o0_1 o0_2 o0_3 g0 k510).getD (false,0,0)).2.2
def w87in (xs:List X) (H:XH):Option (Int×Int×Int×UInt8×Int×UInt8):=match xs,H with
 | [.agg [x0,x1,x2,x3],.ref 50 0,.ref 51 0],[(50,.box 3 [x4]),(51,.box 5 [x5])]=>(match ue (.i .i64) x0,ue (.i .i64) x1,ue (.i .i64) x2,ue .u8 x3,ue (.i .i64) x4,ue .u8 x5 with | some a0,some a1,some a2,some a3,some a4,some a5=>some (a0,a1,a2,a3,a4,a5) | _,_,_,_,_,_=>none)
 | _,_=>none
theorem w87io {xs:List X} {H:XH} {d:Int×Int×Int×UInt8×Int×UInt8} (h:w87in xs H=some d):xs=[.agg [.e (.i .i64) (d.1),.e (.i .i64) (d.2.1),.e (.i .i64) (d.2.2.1),.e .u8 (d.2.2.2.1)],.ref 50 0,.ref 51 0]∧H=[(50,.box 3 [.e (.i .i64) (d.2.2.2.2.1)]),(51,.box 5 [.e .u8 (d.2.2.2.2.2)])]:=by
 unfold w87in at h
 split at h
 ·split at h
  ·rename_i h0 h1 h2 h3 h4 h5;cases h;rw [ue_some h0,ue_some h1,ue_some h2,ue_some h3,ue_some h4,ue_some h5];exact ⟨rfl,rfl⟩
  ·cases h
 ·cases h
def w87e (N:Nat):Ent':=fun xs H=>match w87in xs H with | some d=>some (w87p N (d.1) (d.2.1) (d.2.2.1) (d.2.2.2.1) (d.2.2.2.2.1) (d.2.2.2.2.2),w87r0 (w87y0 N (d.1) (d.2.1) (d.2.2.1) (d.2.2.2.1) (d.2.2.2.2.1) (d.2.2.2.2.2)) (w87y1 N (d.1) (d.2.1) (d.2.2.1) (d.2.2.2.1) (d.2.2.2.2.1) (d.2.2.2.2.2)) (w87y2 N (d.1) (d.2.1) (d.2.2.1) (d.2.2.2.1) (d.2.2.2.2.1) (d.2.2.2.2.2))) | none=>none
theorem w87re {N:Nat} {o0_0 o0_1 o0_2:Int} {o0_3:UInt8} {g0:Int} {k510:UInt8} {d:Bool×Int×UInt8} (hd:w87z N o0_0 o0_1 o0_2 o0_3 g0 k510=some d):w87r0 (w87y0 N o0_0 o0_1 o0_2 o0_3 g0 k510) (w87y1 N o0_0 o0_1 o0_2 o0_3 g0 k510) (w87y2 N o0_0 o0_1 o0_2 o0_3 g0 k510)=w87r0 (d.1) (d.2.1) (d.2.2):=by unfold w87y0 w87y1 w87y2;rw [hd];rfl
theorem w87ok (N:Nat):EOk Tryd.prog 87 (w87e N):=fun xs H pre r he hp=>by
 unfold w87e at he
 split at he
 ·rename_i d hd
  have he:=Option.some.inj he
  have h1:=congrArg Prod.fst he
  have h2:=congrArg Prod.snd he
  simp only at h1 h2
  obtain ⟨e1,e2⟩:=w87io hd
  rw [e1,e2,← h2]
  have h:(w87z N (d.1) (d.2.1) (d.2.2.1) (d.2.2.2.1) (d.2.2.2.2.1) (d.2.2.2.2.2)).isSome=true:=h1.trans hp
  obtain ⟨d',hd'⟩:=Option.isSome_iff_exists.1 h
  have f:=w87fin (w87cx N) hd'
  rw [← w87re hd'] at f
  exact f
 ·cases he
def w86r0 (a0 a1:Int) (a2:UInt8):Res:=(.e (.i .i64) a0,[(50,.box 3 [.e (.i .i64) a1]),(51,.box 5 [.e .u8 a2])])
noncomputable def w86L (N:Nat):List (Nat×Ent'):=[(87,w87e N)]
noncomputable def w86c (N:Nat):Cx:=⟨Tryd.prog,25,w86L N,[]⟩
noncomputable def w86b:Code:=Tryd.f86.body.getD .skip
theorem w86cx (N:Nat):CxOk (w86c N):=ctx_ok (by kernel_rfl) (.cons (by kernel_rfl) (w87ok N) .nil) .nil
def w86F0 [Alg] (N:Nat)  (self:Int→Int→UInt8→O) (k0:Int→Int→UInt8→O) (k1:Int→UInt8→O) (x0_0:(List (Int×(Int×(Int×UInt8))))) (x0_1 x0_2 x0_3:Int) (x0_4:UInt8):O:=
 br (decide (x0_2 < x0_1))
  (gx x0_0 x0_2 fun y3=>
  ck (w87p N y3.1 y3.2.1 y3.2.2.1 y3.2.2.2 x0_3 x0_4) <|
  br (w87y0 N y3.1 y3.2.1 y3.2.2.1 y3.2.2.2 x0_3 x0_4)
   (k0 x0_2 (w87y1 N y3.1 y3.2.1 y3.2.2.1 y3.2.2.2 x0_3 x0_4) (w87y2 N y3.1 y3.2.1 y3.2.2.1 y3.2.2.2 x0_3 x0_4))
   (self (IntKind.i64.wrap (x0_2+(1:Int))) (w87y1 N y3.1 y3.2.1 y3.2.2.1 y3.2.2.2 x0_3 x0_4) (w87y2 N y3.1 y3.2.1 y3.2.2.1 y3.2.2.2 x0_3 x0_4)))
  (k1 x0_3 x0_4)
noncomputable def w86b0:Code:=atC [1,0,1,0,0] w86b
def w86m0:Nm:=⟨[0,1,7,8],[],[]⟩
def w86I0 (x:(List (Int×(Int×(Int×UInt8))))×Int×Int×Int×UInt8):Sg:=⟨[(0,.e (.sl (.pr (.i .i64) (.pr (.i .i64) (.pr (.i .i64) .u8)))) x.1),(1,.fn 87 [.ref 50 0,.ref 51 0]),(7,.e (.i .i64) x.2.1),(8,.e (.i .i64) x.2.2.1)],[(50,.box 3 [.e (.i .i64) x.2.2.2.1]),(51,.box 5 [.e .u8 x.2.2.2.2])],100⟩
def w86u0 (σ:Sg):(List (Int×(Int×(Int×UInt8))))×Int×Int×Int×UInt8:=(lvT (.sl (.pr (.i .i64) (.pr (.i .i64) (.pr (.i .i64) .u8)))) 0 0 σ,lvT (.i .i64) 7 0 σ,lvT (.i .i64) 8 0 σ,lvH (.i .i64) 50 0 σ,lvH .u8 51 0 σ)
theorem w86ui0:∀ x,w86u0 (w86I0 x)=x:=fun _=>by kernel_rfl
def w86X0_0 (y:Int×Int×UInt8):Exit×Sg:=(.ret,⟨[(4,.e (.i .i64) y.1)],[(50,.box 3 [.e (.i .i64) y.2.1]),(51,.box 5 [.e .u8 y.2.2])],100⟩)
def w86v0_0 (_:Exit) (σ:Sg):Int×Int×UInt8:=(lvT (.i .i64) 4 0 σ,lvH (.i .i64) 50 0 σ,lvH .u8 51 0 σ)
def w86X0_1 (y:Int×UInt8):Exit×Sg:=((.exit 0),⟨[],[(50,.box 3 [.e (.i .i64) y.1]),(51,.box 5 [.e .u8 y.2])],100⟩)
def w86v0_1 (_:Exit) (σ:Sg):Int×UInt8:=(lvH (.i .i64) 50 0 σ,lvH .u8 51 0 σ)
def w86w0:List (Exit×Nm):=[(.ret,⟨[4],[],[]⟩),((.exit 0),⟨[],[],[]⟩)]
theorem w86o0:Outs w86v0_0 w86v0_1 (fun _ _=>()) w86X0_0 w86X0_1 (noX 2) (exC .ret) (exC (.exit 0)) (exC (.goto 2)):=⟨fun _=>by kernel_rfl,fun _=>by kernel_rfl,fun _=>by kernel_rfl,fun _=>by kernel_rfl,fun _=>by kernel_rfl,fun _=>by kernel_rfl,exNe_ok (by kernel_rfl),exNe_ok (by kernel_rfl),exNe_ok (by kernel_rfl)⟩
def w86l0 [Alg] (N:Nat):Nat→((List (Int×(Int×(Int×UInt8))))×Int×Int×Int×UInt8)→((Int×Int×UInt8)→O)→((Int×UInt8)→O)→((Unit)→O)→O
 | 0,_,_,_,_=>none
 | n+1,x,k0,k1,k2=>w86F0 N  (fun v0 v1 v2=>w86l0 N n (x.1,x.2.1,v0,v1,v2) k0 k1 k2) (fun y0 y1 y2=>k0 (y0,y1,y2)) (fun y0 y1=>k1 (y0,y1)) x.1 x.2.1 x.2.2.1 x.2.2.2.1 x.2.2.2.2
def w86n0 [Alg] (N:Nat) (a0:(List (Int×(Int×(Int×UInt8))))) (a1 a2 a3:Int) (a4:UInt8) (k0:Int→Int→UInt8→O) (k1:Int→UInt8→O):O:=w86l0 N N (a0,a1,a2,a3,a4) (fun y=>k0 y.1 y.2.1 y.2.2) (fun y=>k1 y.1 y.2) (fun _=>none)
noncomputable def w86s0 [Alg] (N:Nat) (a0:(List (Int×(Int×(Int×UInt8))))) (a1 a2 a3:Int) (a4:UInt8) (k0:Int→Int→UInt8→O) (k1:Int→UInt8→O):O:=subL w86I0 w86u0 (w86l0 N N) (w86I0 (a0,a1,a2,a3,a4)) (fun y=>k0 y.1 y.2.1 y.2.2) (fun y=>k1 y.1 y.2) (fun _=>none)
theorem w86e0 [Alg] (N:Nat):w86s0 N=w86n0 N:=funext fun _=>funext fun _=>funext fun _=>funext fun _=>funext fun _=>funext fun _=>funext fun _=>subL_I w86ui0 _ _ _ _
noncomputable def w86h0 [Alg] (_:Nat):Hint:=.d
theorem w86hk0 (N:Nat):HintOk (w86c N) Tryd.f86.ntmps (w86h0 N) w86b0:=hk_of _ _ trivial
theorem w86q0 [Alg] (N:Nat) (self:Sg→O) (K:Exit→Sg→O) (x:(List (Int×(Int×(Int×UInt8))))×Int×Int×Int×UInt8):w86F0 N  (fun v0 v1 v2=>self (w86I0 (x.1,x.2.1,v0,v1,v2))) (fun y0 y1 y2=>K (w86X0_0 (y0,y1,y2)).1 (w86X0_0 (y0,y1,y2)).2) (fun y0 y1=>K (w86X0_1 (y0,y1)).1 (w86X0_1 (y0,y1)).2) x.1 x.2.1 x.2.2.1 x.2.2.2.1 x.2.2.2.2=exec (w86c N) Tryd.f86.ntmps (w86h0 N) w86b0 (w86I0 x) (roundX w86m0 w86w0 self K):=by kernel_rfl
theorem w86S0 (N:Nat) (hc:CxOk (w86c N)):SubOk (w86c N) Tryd.f86.ntmps (.loop w86b0) w86X0_0 w86X0_1 (noX 2) (subL w86I0 w86u0 (w86l0 N N)):=
 sub_loop hc (w86hk0 N) w86o0 (n:=N) (fun x K=>loop_ind (w86l0 N) (fun _ _ _ _=>rfl) (fun n K ih x=>by
  have h:w86F0 N  (fun v0 v1 v2=>w86l0 N n (x.1,x.2.1,v0,v1,v2) (fun y=>K (w86X0_0 y).1 (w86X0_0 y).2) (fun y=>K (w86X0_1 y).1 (w86X0_1 y).2) (fun y=>K ((noX 2) y).1 ((noX 2) y).2)) (fun y0 y1 y2=>K (w86X0_0 (y0,y1,y2)).1 (w86X0_0 (y0,y1,y2)).2) (fun y0 y1=>K (w86X0_1 (y0,y1)).1 (w86X0_1 (y0,y1)).2) x.1 x.2.1 x.2.2.1 x.2.2.2.1 x.2.2.2.2=w86F0 N  (fun v0 v1 v2=>loopX (w86c N) Tryd.f86.ntmps (w86h0 N) w86b0 w86m0 w86w0 n (w86I0 (x.1,x.2.1,v0,v1,v2)) K) (fun y0 y1 y2=>K (w86X0_0 (y0,y1,y2)).1 (w86X0_0 (y0,y1,y2)).2) (fun y0 y1=>K (w86X0_1 (y0,y1)).1 (w86X0_1 (y0,y1)).2) x.1 x.2.1 x.2.2.1 x.2.2.2.1 x.2.2.2.2:=by rw [ show (fun v0 v1 v2=>w86l0 N n (x.1,x.2.1,v0,v1,v2) (fun y=>K (w86X0_0 y).1 (w86X0_0 y).2) (fun y=>K (w86X0_1 y).1 (w86X0_1 y).2) (fun y=>K ((noX 2) y).1 ((noX 2) y).2))=(fun v0 v1 v2=>loopX (w86c N) Tryd.f86.ntmps (w86h0 N) w86b0 w86m0 w86w0 n (w86I0 (x.1,x.2.1,v0,v1,v2)) K) from funext fun _=>funext fun _=>funext fun _=>ih _]
  exact h.trans (w86q0 N (fun σ=>loopX (w86c N) Tryd.f86.ntmps (w86h0 N) w86b0 w86m0 w86w0 n σ K) K x)) N x K)
def w86G [Alg] (_:Nat) (in0:(List (Int×(Int×(Int×UInt8))))→Int→Int→Int→UInt8→(Int→Int→UInt8→O)→(Int→UInt8→O)→O) (s0:(List (Int×(Int×(Int×UInt8))))) (g0:Int) (k510:UInt8):O:=
 in0 s0 ((↑s0.length:Int)) ((0:Int)) g0 k510
  (fun z4 z5 z6=>
   some (w86r0 z4 z5 z6))
  (fun z7 z8=>
   some (w86r0 ((-1:Int)) z7 z8))
def w86 [Alg] (N:Nat) (s0:(List (Int×(Int×(Int×UInt8))))) (g0:Int) (k510:UInt8):O:=w86G N (w86n0 N) s0 g0 k510
noncomputable def w86h [Alg] (N:Nat):Hint:=(.seq .d (.seq (.seq .d (.block (.sub w86m0 _ _ _ w86X0_0 w86X0_1 (noX 2) (subL w86I0 w86u0 (w86l0 N N))))) .d))
theorem w86hk (N:Nat) (hc:CxOk (w86c N)):HintOk (w86c N) Tryd.f86.ntmps (w86h N) w86b:=hk_of _ _ (And.intro trivial (And.intro (And.intro trivial (w86S0 N hc)) trivial))
theorem w86q [Alg] (N:Nat) (s0:(List (Int×(Int×(Int×UInt8))))) (g0:Int) (k510:UInt8):w86G N (w86s0 N) s0 g0 k510=exec (w86c N) Tryd.f86.ntmps (w86h N) w86b ⟨argT 0 [.e (.sl (.pr (.i .i64) (.pr (.i .i64) (.pr (.i .i64) .u8)))) s0,.fn 87 [.ref 50 0,.ref 51 0]],[(50,.box 3 [.e (.i .i64) g0]),(51,.box 5 [.e .u8 k510])],100⟩ (finX (w86c N) Tryd.f86 true):=by kernel_rfl
theorem w86does {N:Nat} (hc:CxOk (w86c N)) {s0:(List (Int×(Int×(Int×UInt8))))} {g0:Int} {k510:UInt8} {r:Res} (h:w86 N s0 g0 k510=some r):DoesR Tryd.prog 86 (([.e (.sl (.pr (.i .i64) (.pr (.i .i64) (.pr (.i .i64) .u8)))) s0,.fn 87 [.ref 50 0,.ref 51 0]]:List X).map X.D) (HA [(50,.box 3 [.e (.i .i64) g0]),(51,.box 5 [.e .u8 k510])]) r:=
 fun_ok hc (f:=86) (fn:=Tryd.f86) (code:=w86b) (by kernel_rfl) (by kernel_rfl) (w86hk N hc) (Nat.le_of_ble_eq_true (by kernel_rfl)) (ow:=true) ((w86q N s0 g0 k510).symm.trans (by rw [w86e0 N];exact h))
def w86un (r:Res):Option (Int×Int×UInt8):=match r with
 | (x0,[(50,.box 3 [x1]),(51,.box 5 [x2])])=>(match ue (.i .i64) x0,ue (.i .i64) x1,ue .u8 x2 with | some a0,some a1,some a2=>some (a0,a1,a2) | _,_,_=>none)
 | _=>none
theorem w86uo {r:Res} {d:Int×Int×UInt8} (h:w86un r=some d):r=w86r0 (d.1) (d.2.1) (d.2.2):=by
 unfold w86un at h
 split at h
 ·split at h
  ·rename_i h0 h1 h2;cases h;rw [ue_some h0,ue_some h1,ue_some h2];rfl
  ·cases h
 ·cases h
def w86z (N:Nat) (s0:(List (Int×(Int×(Int×UInt8))))) (g0:Int) (k510:UInt8):Option (Int×Int×UInt8):=(w86 N s0 g0 k510).bind w86un
theorem w86fin {N:Nat} (hc:CxOk (w86c N)) {s0:(List (Int×(Int×(Int×UInt8))))} {g0:Int} {k510:UInt8} {d:Int×Int×UInt8} (hd:w86z N s0 g0 k510=some d):Does Tryd.prog 86 (([.e (.sl (.pr (.i .i64) (.pr (.i .i64) (.pr (.i .i64) .u8)))) s0,.fn 87 [.ref 50 0,.ref 51 0]]:List X).map X.D) (HA [(50,.box 3 [.e (.i .i64) g0]),(51,.box 5 [.e .u8 k510])]) (w86r0 (d.1) (d.2.1) (d.2.2)).1.D (HA (w86r0 (d.1) (d.2.1) (d.2.2)).2):=by
 obtain ⟨r,hr,hu⟩:=Option.bind_eq_some_iff.1 hd
 have:=w86does hc hr
 rw [w86uo hu] at this
 exact this
def w86p (N:Nat) (s0:(List (Int×(Int×(Int×UInt8))))) (g0:Int) (k510:UInt8):Bool:=(w86z N s0 g0 k510).isSome
def w86y0 (N:Nat) (s0:(List (Int×(Int×(Int×UInt8))))) (g0:Int) (k510:UInt8):Int:=((w86z N s0 g0 k510).getD (0,0,0)).1
def w86y1 (N:Nat) (s0:(List (Int×(Int×(Int×UInt8))))) (g0:Int) (k510:UInt8):Int:=((w86z N s0 g0 k510).getD (0,0,0)).2.1
def w86y2 (N:Nat) (s0:(List (Int×(Int×(Int×UInt8))))) (g0:Int) (k510:UInt8):UInt8:=((w86z N s0 g0 k510).getD (0,0,0)).2.2
def w86in (xs:List X) (H:XH):Option ((List (Int×(Int×(Int×UInt8))))×Int×UInt8):=match xs,H with
 | [x0,.fn 87 [.ref 50 0,.ref 51 0]],[(50,.box 3 [x1]),(51,.box 5 [x2])]=>(match ue (.sl (.pr (.i .i64) (.pr (.i .i64) (.pr (.i .i64) .u8)))) x0,ue (.i .i64) x1,ue .u8 x2 with | some a0,some a1,some a2=>some (a0,a1,a2) | _,_,_=>none)
 | _,_=>none
theorem w86io {xs:List X} {H:XH} {d:(List (Int×(Int×(Int×UInt8))))×Int×UInt8} (h:w86in xs H=some d):xs=[.e (.sl (.pr (.i .i64) (.pr (.i .i64) (.pr (.i .i64) .u8)))) (d.1),.fn 87 [.ref 50 0,.ref 51 0]]∧H=[(50,.box 3 [.e (.i .i64) (d.2.1)]),(51,.box 5 [.e .u8 (d.2.2)])]:=by
 unfold w86in at h
 split at h
 ·split at h
  ·rename_i h0 h1 h2;cases h;rw [ue_some h0,ue_some h1,ue_some h2];exact ⟨rfl,rfl⟩
  ·cases h
 ·cases h
def w86e (N:Nat):Ent':=fun xs H=>match w86in xs H with | some d=>some (w86p N (d.1) (d.2.1) (d.2.2),w86r0 (w86y0 N (d.1) (d.2.1) (d.2.2)) (w86y1 N (d.1) (d.2.1) (d.2.2)) (w86y2 N (d.1) (d.2.1) (d.2.2))) | none=>none
theorem w86re {N:Nat} {s0:(List (Int×(Int×(Int×UInt8))))} {g0:Int} {k510:UInt8} {d:Int×Int×UInt8} (hd:w86z N s0 g0 k510=some d):w86r0 (w86y0 N s0 g0 k510) (w86y1 N s0 g0 k510) (w86y2 N s0 g0 k510)=w86r0 (d.1) (d.2.1) (d.2.2):=by unfold w86y0 w86y1 w86y2;rw [hd];rfl
theorem w86ok (N:Nat):EOk Tryd.prog 86 (w86e N):=fun xs H pre r he hp=>by
 unfold w86e at he
 split at he
 ·rename_i d hd
  have he:=Option.some.inj he
  have h1:=congrArg Prod.fst he
  have h2:=congrArg Prod.snd he
  simp only at h1 h2
  obtain ⟨e1,e2⟩:=w86io hd
  rw [e1,e2,← h2]
  have h:(w86z N (d.1) (d.2.1) (d.2.2)).isSome=true:=h1.trans hp
  obtain ⟨d',hd'⟩:=Option.isSome_iff_exists.1 h
  have f:=w86fin (w86cx N) hd'
  rw [← w86re hd'] at f
  exact f
 ·cases he
def w107r0 (a0 a1:Int) (a2:(List Ex)) (a3:(List UInt8)) (a4:Int):Res:=(.agg [.e (.i .i64) a0,.e (.i .i64) a1,.e (.sl .ex) a2],[(50,.box 77 [.e .tx a3,.e (.i .i64) a4])])
def w107r1 (a0:Int) (a1:(List UInt8)) (a2:Int):Res:=(.pan (.iface 73 (.int .i64 a0)),[(50,.box 77 [.e .tx a1,.e (.i .i64) a2])])
def w107in (xs:List X) (H:XH):Option ((List UInt8)×Int):=match xs,H with
 | [.ref 50 0],[(50,.box 77 [x0,x1])]=>(match ue .tx x0,ue (.i .i64) x1 with | some a0,some a1=>some (a0,a1) | _,_=>none)
 | _,_=>none
theorem w107io {xs:List X} {H:XH} {d:(List UInt8)×Int} (h:w107in xs H=some d):xs=[.ref 50 0]∧H=[(50,.box 77 [.e .tx (d.1),.e (.i .i64) (d.2)])]:=by
 unfold w107in at h
 split at h
 ·split at h
  ·rename_i h0 h1;cases h;rw [ue_some h0,ue_some h1];exact ⟨rfl,rfl⟩
  ·cases h
 ·cases h
abbrev w107T:=Nat×(((List UInt8)→Int→Option ((Int×Int×(List Ex)×(List UInt8)×Int) ⊕ (Int×(List UInt8)×Int)))×((List UInt8)→Int→Option ((Int×Int×(List Ex)×(List UInt8)×Int) ⊕ (Int×(List UInt8)×Int)))×(Int→(List UInt8)→Int→Option ((Int×Int×(List Ex)×(List UInt8)×Int) ⊕ (Int×(List UInt8)×Int))))
def w107E (N:w107T):EntP:=entQ w107in (fun d=>(N.2.1 (d.1) (d.2)).isSome) (fun d=>some (isL (N.2.1 (d.1) (d.2)))) (fun d=>w107r0 ((sumL (0,0,[],[],0) (N.2.1 (d.1) (d.2))).1) ((sumL (0,0,[],[],0) (N.2.1 (d.1) (d.2))).2.1) ((sumL (0,0,[],[],0) (N.2.1 (d.1) (d.2))).2.2.1) ((sumL (0,0,[],[],0) (N.2.1 (d.1) (d.2))).2.2.2.1) ((sumL (0,0,[],[],0) (N.2.1 (d.1) (d.2))).2.2.2.2)) (fun d=>w107r1 ((sumR (0,[],0) (N.2.1 (d.1) (d.2))).1) ((sumR (0,[],0) (N.2.1 (d.1) (d.2))).2.1) ((sumR (0,[],0) (N.2.1 (d.1) (d.2))).2.2))
def w85r0 (a0 a1:Int) (a2:(List Ex)) (a3:(List UInt8)) (a4:Int):Res:=(.agg [.e (.i .i64) a0,.e (.i .i64) a1,.e (.sl .ex) a2],[(50,.box 77 [.e .tx a3,.e (.i .i64) a4])])
def w85r1 (a0:Int) (a1:(List UInt8)) (a2:Int):Res:=(.pan (.iface 73 (.int .i64 a0)),[(50,.box 77 [.e .tx a1,.e (.i .i64) a2])])
def w85in (xs:List X) (H:XH):Option ((List UInt8)×Int):=match xs,H with
 | [.ref 50 0],[(50,.box 77 [x0,x1])]=>(match ue .tx x0,ue (.i .i64) x1 with | some a0,some a1=>some (a0,a1) | _,_=>none)
 | _,_=>none
theorem w85io {xs:List X} {H:XH} {d:(List UInt8)×Int} (h:w85in xs H=some d):xs=[.ref 50 0]∧H=[(50,.box 77 [.e .tx (d.1),.e (.i .i64) (d.2)])]:=by
 unfold w85in at h
 split at h
 ·split at h
  ·rename_i h0 h1;cases h;rw [ue_some h0,ue_some h1];exact ⟨rfl,rfl⟩
  ·cases h
 ·cases h
def w85E (N:w107T):EntP:=entQ w85in (fun d=>(N.2.2.1 (d.1) (d.2)).isSome) (fun d=>some (isL (N.2.2.1 (d.1) (d.2)))) (fun d=>w85r0 ((sumL (0,0,[],[],0) (N.2.2.1 (d.1) (d.2))).1) ((sumL (0,0,[],[],0) (N.2.2.1 (d.1) (d.2))).2.1) ((sumL (0,0,[],[],0) (N.2.2.1 (d.1) (d.2))).2.2.1) ((sumL (0,0,[],[],0) (N.2.2.1 (d.1) (d.2))).2.2.2.1) ((sumL (0,0,[],[],0) (N.2.2.1 (d.1) (d.2))).2.2.2.2)) (fun d=>w85r1 ((sumR (0,[],0) (N.2.2.1 (d.1) (d.2))).1) ((sumR (0,[],0) (N.2.2.1 (d.1) (d.2))).2.1) ((sumR (0,[],0) (N.2.2.1 (d.1) (d.2))).2.2))
def w53r0 (a0 a1:Int) (a2:(List Ex)) (a3:(List UInt8)) (a4:Int):Res:=(.agg [.e (.i .i64) a0,.e (.i .i64) a1,.e (.sl .ex) a2],[(50,.box 77 [.e .tx a3,.e (.i .i64) a4])])
def w53r1 (a0:Int) (a1:(List UInt8)) (a2:Int):Res:=(.pan (.iface 73 (.int .i64 a0)),[(50,.box 77 [.e .tx a1,.e (.i .i64) a2])])
def w53in (xs:List X) (H:XH):Option (Int×(List UInt8)×Int):=match xs,H with
 | [.ref 50 0,x0],[(50,.box 77 [x1,x2])]=>(match ue (.i .i64) x0,ue .tx x1,ue (.i .i64) x2 with | some a0,some a1,some a2=>some (a0,a1,a2) | _,_,_=>none)
 | _,_=>none
theorem w53io {xs:List X} {H:XH} {d:Int×(List UInt8)×Int} (h:w53in xs H=some d):xs=[.ref 50 0,.e (.i .i64) (d.1)]∧H=[(50,.box 77 [.e .tx (d.2.1),.e (.i .i64) (d.2.2)])]:=by
 unfold w53in at h
 split at h
 ·split at h
  ·rename_i h0 h1 h2;cases h;rw [ue_some h0,ue_some h1,ue_some h2];exact ⟨rfl,rfl⟩
  ·cases h
 ·cases h
def w53E (N:w107T):EntP:=entQ w53in (fun d=>(N.2.2.2 (d.1) (d.2.1) (d.2.2)).isSome) (fun d=>some (isL (N.2.2.2 (d.1) (d.2.1) (d.2.2)))) (fun d=>w53r0 ((sumL (0,0,[],[],0) (N.2.2.2 (d.1) (d.2.1) (d.2.2))).1) ((sumL (0,0,[],[],0) (N.2.2.2 (d.1) (d.2.1) (d.2.2))).2.1) ((sumL (0,0,[],[],0) (N.2.2.2 (d.1) (d.2.1) (d.2.2))).2.2.1) ((sumL (0,0,[],[],0) (N.2.2.2 (d.1) (d.2.1) (d.2.2))).2.2.2.1) ((sumL (0,0,[],[],0) (N.2.2.2 (d.1) (d.2.1) (d.2.2))).2.2.2.2)) (fun d=>w53r1 ((sumR (0,[],0) (N.2.2.2 (d.1) (d.2.1) (d.2.2))).1) ((sumR (0,[],0) (N.2.2.2 (d.1) (d.2.1) (d.2.2))).2.1) ((sumR (0,[],0) (N.2.2.2 (d.1) (d.2.1) (d.2.2))).2.2))
noncomputable def w107L (N:w107T):List (Nat×Ent'):=[(54,w54e N.1)]
noncomputable def w107Lp (N:w107T):List (Nat×EntP):=[(107,w107E N),(85,w85E N),(53,w53E N),(117,w117e N.1),(118,w118e N.1)]
noncomputable def w107c (N:w107T):Cx:=⟨Tryd.prog,25,w107L N,w107Lp N⟩
noncomputable def w107b:Code:=Tryd.f107.body.getD .skip
theorem w107cx (N:w107T) (hw107:EOkP Tryd.prog 107 (w107E N)) (hw85:EOkP Tryd.prog 85 (w85E N)) (hw53:EOkP Tryd.prog 53 (w53E N)):CxOk (w107c N):=ctx_ok (by kernel_rfl) (.cons (by kernel_rfl) (w54ok N.1) .nil) (.cons (by kernel_rfl) hw107 (.cons (by kernel_rfl) hw85 (.cons (by kernel_rfl) hw53 (.cons (by kernel_rfl) (w117ok N.1) (.cons (by kernel_rfl) (w118ok N.1) .nil)))))
def w107G [Alg] (N:w107T)  (g0:(List UInt8)) (g1:Int):O:=
 ck (w54p N.1 g0 g1) <|
 br (decide ((48:UInt8)≤w54y0 N.1 g0 g1)&&decide (w54y0 N.1 g0 g1≤(57:UInt8)))
  (ck (w117p N.1 (w54y1 N.1 g0 g1) (w54y2 N.1 g0 g1)) <|
  br (w117b_ N.1 (w54y1 N.1 g0 g1) (w54y2 N.1 g0 g1))
   (some (w107r0 ((w117y0 N.1 (w54y1 N.1 g0 g1) (w54y2 N.1 g0 g1))) ((w117y1 N.1 (w54y1 N.1 g0 g1) (w54y2 N.1 g0 g1))) ((w117y2 N.1 (w54y1 N.1 g0 g1) (w54y2 N.1 g0 g1))) (w117y3 N.1 (w54y1 N.1 g0 g1) (w54y2 N.1 g0 g1)) (w117y4 N.1 (w54y1 N.1 g0 g1) (w54y2 N.1 g0 g1))))
   (some (w107r1 (w117pv0 N.1 (w54y1 N.1 g0 g1) (w54y2 N.1 g0 g1)) (w117pv1 N.1 (w54y1 N.1 g0 g1) (w54y2 N.1 g0 g1)) (w117pv2 N.1 (w54y1 N.1 g0 g1) (w54y2 N.1 g0 g1)))))
  (br (decide ((97:UInt8)≤w54y0 N.1 g0 g1)&&decide (w54y0 N.1 g0 g1≤(122:UInt8)))
   (some (w107r0 ((1:Int)) ((IntKind.i64.wrap (↑(w54y0 N.1 g0 g1 - (97:UInt8)).toNat:Int))) ([]) (w54y1 N.1 g0 g1) (IntKind.i64.wrap (w54y2 N.1 g0 g1+(1:Int)))))
   (br (decide (w54y0 N.1 g0 g1=(82:UInt8)))
    (ck (w118p N.1 (40:UInt8) (w54y1 N.1 g0 g1) (IntKind.i64.wrap (w54y2 N.1 g0 g1+(1:Int)))) <|
    br (w118b_ N.1 (40:UInt8) (w54y1 N.1 g0 g1) (IntKind.i64.wrap (w54y2 N.1 g0 g1+(1:Int))))
     (ck ((N.snd.snd.2 (1:Int) (w118y0 N.1 (40:UInt8) (w54y1 N.1 g0 g1) (IntKind.i64.wrap (w54y2 N.1 g0 g1+(1:Int)))) (w118y1 N.1 (40:UInt8) (w54y1 N.1 g0 g1) (IntKind.i64.wrap (w54y2 N.1 g0 g1+(1:Int))))).isSome) <|
     br (isL (N.snd.snd.2 (1:Int) (w118y0 N.1 (40:UInt8) (w54y1 N.1 g0 g1) (IntKind.i64.wrap (w54y2 N.1 g0 g1+(1:Int)))) (w118y1 N.1 (40:UInt8) (w54y1 N.1 g0 g1) (IntKind.i64.wrap (w54y2 N.1 g0 g1+(1:Int))))))
      (ck (w118p N.1 (41:UInt8) (sumL ((0:Int),(0:Int),[],[],(0:Int)) (N.snd.snd.2 (1:Int) (w118y0 N.1 (40:UInt8) (w54y1 N.1 g0 g1) (IntKind.i64.wrap (w54y2 N.1 g0 g1+(1:Int)))) (w118y1 N.1 (40:UInt8) (w54y1 N.1 g0 g1) (IntKind.i64.wrap (w54y2 N.1 g0 g1+(1:Int)))))).2.2.2.1 (sumL ((0:Int),(0:Int),[],[],(0:Int)) (N.snd.snd.2 (1:Int) (w118y0 N.1 (40:UInt8) (w54y1 N.1 g0 g1) (IntKind.i64.wrap (w54y2 N.1 g0 g1+(1:Int)))) (w118y1 N.1 (40:UInt8) (w54y1 N.1 g0 g1) (IntKind.i64.wrap (w54y2 N.1 g0 g1+(1:Int)))))).2.2.2.2) <|
      br (w118b_ N.1 (41:UInt8) (sumL ((0:Int),(0:Int),[],[],(0:Int)) (N.snd.snd.2 (1:Int) (w118y0 N.1 (40:UInt8) (w54y1 N.1 g0 g1) (IntKind.i64.wrap (w54y2 N.1 g0 g1+(1:Int)))) (w118y1 N.1 (40:UInt8) (w54y1 N.1 g0 g1) (IntKind.i64.wrap (w54y2 N.1 g0 g1+(1:Int)))))).2.2.2.1 (sumL ((0:Int),(0:Int),[],[],(0:Int)) (N.snd.snd.2 (1:Int) (w118y0 N.1 (40:UInt8) (w54y1 N.1 g0 g1) (IntKind.i64.wrap (w54y2 N.1 g0 g1+(1:Int)))) (w118y1 N.1 (40:UInt8) (w54y1 N.1 g0 g1) (IntKind.i64.wrap (w54y2 N.1 g0 g1+(1:Int)))))).2.2.2.2)
       (some (w107r0 ((8:Int)) ((0:Int)) ([Ex.mk (sumL ((0:Int),(0:Int),[],[],(0:Int)) (N.snd.snd.2 (1:Int) (w118y0 N.1 (40:UInt8) (w54y1 N.1 g0 g1) (IntKind.i64.wrap (w54y2 N.1 g0 g1+(1:Int)))) (w118y1 N.1 (40:UInt8) (w54y1 N.1 g0 g1) (IntKind.i64.wrap (w54y2 N.1 g0 g1+(1:Int)))))).1 (sumL ((0:Int),(0:Int),[],[],(0:Int)) (N.snd.snd.2 (1:Int) (w118y0 N.1 (40:UInt8) (w54y1 N.1 g0 g1) (IntKind.i64.wrap (w54y2 N.1 g0 g1+(1:Int)))) (w118y1 N.1 (40:UInt8) (w54y1 N.1 g0 g1) (IntKind.i64.wrap (w54y2 N.1 g0 g1+(1:Int)))))).2.1 (sumL ((0:Int),(0:Int),[],[],(0:Int)) (N.snd.snd.2 (1:Int) (w118y0 N.1 (40:UInt8) (w54y1 N.1 g0 g1) (IntKind.i64.wrap (w54y2 N.1 g0 g1+(1:Int)))) (w118y1 N.1 (40:UInt8) (w54y1 N.1 g0 g1) (IntKind.i64.wrap (w54y2 N.1 g0 g1+(1:Int)))))).2.2.1]) (w118y0 N.1 (41:UInt8) (sumL ((0:Int),(0:Int),[],[],(0:Int)) (N.snd.snd.2 (1:Int) (w118y0 N.1 (40:UInt8) (w54y1 N.1 g0 g1) (IntKind.i64.wrap (w54y2 N.1 g0 g1+(1:Int)))) (w118y1 N.1 (40:UInt8) (w54y1 N.1 g0 g1) (IntKind.i64.wrap (w54y2 N.1 g0 g1+(1:Int)))))).2.2.2.1 (sumL ((0:Int),(0:Int),[],[],(0:Int)) (N.snd.snd.2 (1:Int) (w118y0 N.1 (40:UInt8) (w54y1 N.1 g0 g1) (IntKind.i64.wrap (w54y2 N.1 g0 g1+(1:Int)))) (w118y1 N.1 (40:UInt8) (w54y1 N.1 g0 g1) (IntKind.i64.wrap (w54y2 N.1 g0 g1+(1:Int)))))).2.2.2.2) (w118y1 N.1 (41:UInt8) (sumL ((0:Int),(0:Int),[],[],(0:Int)) (N.snd.snd.2 (1:Int) (w118y0 N.1 (40:UInt8) (w54y1 N.1 g0 g1) (IntKind.i64.wrap (w54y2 N.1 g0 g1+(1:Int)))) (w118y1 N.1 (40:UInt8) (w54y1 N.1 g0 g1) (IntKind.i64.wrap (w54y2 N.1 g0 g1+(1:Int)))))).2.2.2.1 (sumL ((0:Int),(0:Int),[],[],(0:Int)) (N.snd.snd.2 (1:Int) (w118y0 N.1 (40:UInt8) (w54y1 N.1 g0 g1) (IntKind.i64.wrap (w54y2 N.1 g0 g1+(1:Int)))) (w118y1 N.1 (40:UInt8) (w54y1 N.1 g0 g1) (IntKind.i64.wrap (w54y2 N.1 g0 g1+(1:Int)))))).2.2.2.2)))
       (some (w107r1 (w118pv0 N.1 (41:UInt8) (sumL ((0:Int),(0:Int),[],[],(0:Int)) (N.snd.snd.2 (1:Int) (w118y0 N.1 (40:UInt8) (w54y1 N.1 g0 g1) (IntKind.i64.wrap (w54y2 N.1 g0 g1+(1:Int)))) (w118y1 N.1 (40:UInt8) (w54y1 N.1 g0 g1) (IntKind.i64.wrap (w54y2 N.1 g0 g1+(1:Int)))))).2.2.2.1 (sumL ((0:Int),(0:Int),[],[],(0:Int)) (N.snd.snd.2 (1:Int) (w118y0 N.1 (40:UInt8) (w54y1 N.1 g0 g1) (IntKind.i64.wrap (w54y2 N.1 g0 g1+(1:Int)))) (w118y1 N.1 (40:UInt8) (w54y1 N.1 g0 g1) (IntKind.i64.wrap (w54y2 N.1 g0 g1+(1:Int)))))).2.2.2.2) (w118pv1 N.1 (41:UInt8) (sumL ((0:Int),(0:Int),[],[],(0:Int)) (N.snd.snd.2 (1:Int) (w118y0 N.1 (40:UInt8) (w54y1 N.1 g0 g1) (IntKind.i64.wrap (w54y2 N.1 g0 g1+(1:Int)))) (w118y1 N.1 (40:UInt8) (w54y1 N.1 g0 g1) (IntKind.i64.wrap (w54y2 N.1 g0 g1+(1:Int)))))).2.2.2.1 (sumL ((0:Int),(0:Int),[],[],(0:Int)) (N.snd.snd.2 (1:Int) (w118y0 N.1 (40:UInt8) (w54y1 N.1 g0 g1) (IntKind.i64.wrap (w54y2 N.1 g0 g1+(1:Int)))) (w118y1 N.1 (40:UInt8) (w54y1 N.1 g0 g1) (IntKind.i64.wrap (w54y2 N.1 g0 g1+(1:Int)))))).2.2.2.2) (w118pv2 N.1 (41:UInt8) (sumL ((0:Int),(0:Int),[],[],(0:Int)) (N.snd.snd.2 (1:Int) (w118y0 N.1 (40:UInt8) (w54y1 N.1 g0 g1) (IntKind.i64.wrap (w54y2 N.1 g0 g1+(1:Int)))) (w118y1 N.1 (40:UInt8) (w54y1 N.1 g0 g1) (IntKind.i64.wrap (w54y2 N.1 g0 g1+(1:Int)))))).2.2.2.1 (sumL ((0:Int),(0:Int),[],[],(0:Int)) (N.snd.snd.2 (1:Int) (w118y0 N.1 (40:UInt8) (w54y1 N.1 g0 g1) (IntKind.i64.wrap (w54y2 N.1 g0 g1+(1:Int)))) (w118y1 N.1 (40:UInt8) (w54y1 N.1 g0 g1) (IntKind.i64.wrap (w54y2 N.1 g0 g1+(1:Int)))))).2.2.2.2))))
      (some (w107r1 ((sumR ((0:Int),[],(0:Int)) (N.snd.snd.2 (1:Int) (w118y0 N.1 (40:UInt8) (w54y1 N.1 g0 g1) (IntKind.i64.wrap (w54y2 N.1 g0 g1+(1:Int)))) (w118y1 N.1 (40:UInt8) (w54y1 N.1 g0 g1) (IntKind.i64.wrap (w54y2 N.1 g0 g1+(1:Int)))))).1) ((sumR ((0:Int),[],(0:Int)) (N.snd.snd.2 (1:Int) (w118y0 N.1 (40:UInt8) (w54y1 N.1 g0 g1) (IntKind.i64.wrap (w54y2 N.1 g0 g1+(1:Int)))) (w118y1 N.1 (40:UInt8) (w54y1 N.1 g0 g1) (IntKind.i64.wrap (w54y2 N.1 g0 g1+(1:Int)))))).2.1) ((sumR ((0:Int),[],(0:Int)) (N.snd.snd.2 (1:Int) (w118y0 N.1 (40:UInt8) (w54y1 N.1 g0 g1) (IntKind.i64.wrap (w54y2 N.1 g0 g1+(1:Int)))) (w118y1 N.1 (40:UInt8) (w54y1 N.1 g0 g1) (IntKind.i64.wrap (w54y2 N.1 g0 g1+(1:Int)))))).2.2))))
     (some (w107r1 (w118pv0 N.1 (40:UInt8) (w54y1 N.1 g0 g1) (IntKind.i64.wrap (w54y2 N.1 g0 g1+(1:Int)))) (w118pv1 N.1 (40:UInt8) (w54y1 N.1 g0 g1) (IntKind.i64.wrap (w54y2 N.1 g0 g1+(1:Int)))) (w118pv2 N.1 (40:UInt8) (w54y1 N.1 g0 g1) (IntKind.i64.wrap (w54y2 N.1 g0 g1+(1:Int)))))))
    (ck (w118p N.1 (40:UInt8) (w54y1 N.1 g0 g1) (w54y2 N.1 g0 g1)) <|
    br (w118b_ N.1 (40:UInt8) (w54y1 N.1 g0 g1) (w54y2 N.1 g0 g1))
     (ck ((N.snd.snd.2 (1:Int) (w118y0 N.1 (40:UInt8) (w54y1 N.1 g0 g1) (w54y2 N.1 g0 g1)) (w118y1 N.1 (40:UInt8) (w54y1 N.1 g0 g1) (w54y2 N.1 g0 g1))).isSome) <|
     br (isL (N.snd.snd.2 (1:Int) (w118y0 N.1 (40:UInt8) (w54y1 N.1 g0 g1) (w54y2 N.1 g0 g1)) (w118y1 N.1 (40:UInt8) (w54y1 N.1 g0 g1) (w54y2 N.1 g0 g1))))
      (ck (w118p N.1 (41:UInt8) (sumL ((0:Int),(0:Int),[],[],(0:Int)) (N.snd.snd.2 (1:Int) (w118y0 N.1 (40:UInt8) (w54y1 N.1 g0 g1) (w54y2 N.1 g0 g1)) (w118y1 N.1 (40:UInt8) (w54y1 N.1 g0 g1) (w54y2 N.1 g0 g1)))).2.2.2.1 (sumL ((0:Int),(0:Int),[],[],(0:Int)) (N.snd.snd.2 (1:Int) (w118y0 N.1 (40:UInt8) (w54y1 N.1 g0 g1) (w54y2 N.1 g0 g1)) (w118y1 N.1 (40:UInt8) (w54y1 N.1 g0 g1) (w54y2 N.1 g0 g1)))).2.2.2.2) <|
      br (w118b_ N.1 (41:UInt8) (sumL ((0:Int),(0:Int),[],[],(0:Int)) (N.snd.snd.2 (1:Int) (w118y0 N.1 (40:UInt8) (w54y1 N.1 g0 g1) (w54y2 N.1 g0 g1)) (w118y1 N.1 (40:UInt8) (w54y1 N.1 g0 g1) (w54y2 N.1 g0 g1)))).2.2.2.1 (sumL ((0:Int),(0:Int),[],[],(0:Int)) (N.snd.snd.2 (1:Int) (w118y0 N.1 (40:UInt8) (w54y1 N.1 g0 g1) (w54y2 N.1 g0 g1)) (w118y1 N.1 (40:UInt8) (w54y1 N.1 g0 g1) (w54y2 N.1 g0 g1)))).2.2.2.2)
       (some (w107r0 ((sumL ((0:Int),(0:Int),[],[],(0:Int)) (N.snd.snd.2 (1:Int) (w118y0 N.1 (40:UInt8) (w54y1 N.1 g0 g1) (w54y2 N.1 g0 g1)) (w118y1 N.1 (40:UInt8) (w54y1 N.1 g0 g1) (w54y2 N.1 g0 g1)))).1) ((sumL ((0:Int),(0:Int),[],[],(0:Int)) (N.snd.snd.2 (1:Int) (w118y0 N.1 (40:UInt8) (w54y1 N.1 g0 g1) (w54y2 N.1 g0 g1)) (w118y1 N.1 (40:UInt8) (w54y1 N.1 g0 g1) (w54y2 N.1 g0 g1)))).2.1) ((sumL ((0:Int),(0:Int),[],[],(0:Int)) (N.snd.snd.2 (1:Int) (w118y0 N.1 (40:UInt8) (w54y1 N.1 g0 g1) (w54y2 N.1 g0 g1)) (w118y1 N.1 (40:UInt8) (w54y1 N.1 g0 g1) (w54y2 N.1 g0 g1)))).2.2.1) (w118y0 N.1 (41:UInt8) (sumL ((0:Int),(0:Int),[],[],(0:Int)) (N.snd.snd.2 (1:Int) (w118y0 N.1 (40:UInt8) (w54y1 N.1 g0 g1) (w54y2 N.1 g0 g1)) (w118y1 N.1 (40:UInt8) (w54y1 N.1 g0 g1) (w54y2 N.1 g0 g1)))).2.2.2.1 (sumL ((0:Int),(0:Int),[],[],(0:Int)) (N.snd.snd.2 (1:Int) (w118y0 N.1 (40:UInt8) (w54y1 N.1 g0 g1) (w54y2 N.1 g0 g1)) (w118y1 N.1 (40:UInt8) (w54y1 N.1 g0 g1) (w54y2 N.1 g0 g1)))).2.2.2.2) (w118y1 N.1 (41:UInt8) (sumL ((0:Int),(0:Int),[],[],(0:Int)) (N.snd.snd.2 (1:Int) (w118y0 N.1 (40:UInt8) (w54y1 N.1 g0 g1) (w54y2 N.1 g0 g1)) (w118y1 N.1 (40:UInt8) (w54y1 N.1 g0 g1) (w54y2 N.1 g0 g1)))).2.2.2.1 (sumL ((0:Int),(0:Int),[],[],(0:Int)) (N.snd.snd.2 (1:Int) (w118y0 N.1 (40:UInt8) (w54y1 N.1 g0 g1) (w54y2 N.1 g0 g1)) (w118y1 N.1 (40:UInt8) (w54y1 N.1 g0 g1) (w54y2 N.1 g0 g1)))).2.2.2.2)))
       (some (w107r1 (w118pv0 N.1 (41:UInt8) (sumL ((0:Int),(0:Int),[],[],(0:Int)) (N.snd.snd.2 (1:Int) (w118y0 N.1 (40:UInt8) (w54y1 N.1 g0 g1) (w54y2 N.1 g0 g1)) (w118y1 N.1 (40:UInt8) (w54y1 N.1 g0 g1) (w54y2 N.1 g0 g1)))).2.2.2.1 (sumL ((0:Int),(0:Int),[],[],(0:Int)) (N.snd.snd.2 (1:Int) (w118y0 N.1 (40:UInt8) (w54y1 N.1 g0 g1) (w54y2 N.1 g0 g1)) (w118y1 N.1 (40:UInt8) (w54y1 N.1 g0 g1) (w54y2 N.1 g0 g1)))).2.2.2.2) (w118pv1 N.1 (41:UInt8) (sumL ((0:Int),(0:Int),[],[],(0:Int)) (N.snd.snd.2 (1:Int) (w118y0 N.1 (40:UInt8) (w54y1 N.1 g0 g1) (w54y2 N.1 g0 g1)) (w118y1 N.1 (40:UInt8) (w54y1 N.1 g0 g1) (w54y2 N.1 g0 g1)))).2.2.2.1 (sumL ((0:Int),(0:Int),[],[],(0:Int)) (N.snd.snd.2 (1:Int) (w118y0 N.1 (40:UInt8) (w54y1 N.1 g0 g1) (w54y2 N.1 g0 g1)) (w118y1 N.1 (40:UInt8) (w54y1 N.1 g0 g1) (w54y2 N.1 g0 g1)))).2.2.2.2) (w118pv2 N.1 (41:UInt8) (sumL ((0:Int),(0:Int),[],[],(0:Int)) (N.snd.snd.2 (1:Int) (w118y0 N.1 (40:UInt8) (w54y1 N.1 g0 g1) (w54y2 N.1 g0 g1)) (w118y1 N.1 (40:UInt8) (w54y1 N.1 g0 g1) (w54y2 N.1 g0 g1)))).2.2.2.1 (sumL ((0:Int),(0:Int),[],[],(0:Int)) (N.snd.snd.2 (1:Int) (w118y0 N.1 (40:UInt8) (w54y1 N.1 g0 g1) (w54y2 N.1 g0 g1)) (w118y1 N.1 (40:UInt8) (w54y1 N.1 g0 g1) (w54y2 N.1 g0 g1)))).2.2.2.2))))
      (some (w107r1 ((sumR ((0:Int),[],(0:Int)) (N.snd.snd.2 (1:Int) (w118y0 N.1 (40:UInt8) (w54y1 N.1 g0 g1) (w54y2 N.1 g0 g1)) (w118y1 N.1 (40:UInt8) (w54y1 N.1 g0 g1) (w54y2 N.1 g0 g1)))).1) ((sumR ((0:Int),[],(0:Int)) (N.snd.snd.2 (1:Int) (w118y0 N.1 (40:UInt8) (w54y1 N.1 g0 g1) (w54y2 N.1 g0 g1)) (w118y1 N.1 (40:UInt8) (w54y1 N.1 g0 g1) (w54y2 N.1 g0 g1)))).2.1) ((sumR ((0:Int),[],(0:Int)) (N.snd.snd.2 (1:Int) (w118y0 N.1 (40:UInt8) (w54y1 N.1 g0 g1) (w54y2 N.1 g0 g1)) (w118y1 N.1 (40:UInt8) (w54y1 N.1 g0 g1) (w54y2 N.1 g0 g1)))).2.2))))
     (some (w107r1 (w118pv0 N.1 (40:UInt8) (w54y1 N.1 g0 g1) (w54y2 N.1 g0 g1)) (w118pv1 N.1 (40:UInt8) (w54y1 N.1 g0 g1) (w54y2 N.1 g0 g1)) (w118pv2 N.1 (40:UInt8) (w54y1 N.1 g0 g1) (w54y2 N.1 g0 g1)))))))
def w107 [Alg] (N:w107T) (g0:(List UInt8)) (g1:Int):O:=w107G N  g0 g1
noncomputable def w107h [Alg] (_:w107T):Hint:=.d
theorem w107hk (N:w107T):HintOk (w107c N) Tryd.f107.ntmps (w107h N) w107b:=hk_of _ _ trivial
theorem w107q [Alg] (N:w107T) (g0:(List UInt8)) (g1:Int):w107G N  g0 g1=exec (w107c N) Tryd.f107.ntmps (w107h N) w107b ⟨argT 0 [.ref 50 0],[(50,.box 77 [.e .tx g0,.e (.i .i64) g1])],100⟩ (finX (w107c N) Tryd.f107 false):=by kernel_rfl
theorem w107does {N:w107T} (hc:CxOk (w107c N)) {g0:(List UInt8)} {g1:Int} {r:Res} (h:w107 N g0 g1=some r):DoesR Tryd.prog 107 (([.ref 50 0]:List X).map X.D) (HA [(50,.box 77 [.e .tx g0,.e (.i .i64) g1])]) r:=
 fun_ok hc (f:=107) (fn:=Tryd.f107) (code:=w107b) (by kernel_rfl) (by kernel_rfl) (w107hk N) (Nat.le_of_ble_eq_true (by kernel_rfl)) (ow:=false) ((w107q N g0 g1).symm.trans (by exact h))
def w107un (r:Res):Option ((Int×Int×(List Ex)×(List UInt8)×Int) ⊕ (Int×(List UInt8)×Int)):=match r with
 | (.pan (.iface 73 (.int .i64 a0)),[(50,.box 77 [x1,x2])])=>(match ue .tx x1,ue (.i .i64) x2 with | some a1,some a2=>some (.inr (a0,a1,a2)) | _,_=>none)
 | (.agg [x0,x1,x2],[(50,.box 77 [x3,x4])])=>(match ue (.i .i64) x0,ue (.i .i64) x1,ue (.sl .ex) x2,ue .tx x3,ue (.i .i64) x4 with | some a0,some a1,some a2,some a3,some a4=>some (.inl (a0,a1,a2,a3,a4)) | _,_,_,_,_=>none)
 | _=>none
theorem w107uo {r:Res} {d:Int×Int×(List Ex)×(List UInt8)×Int} (h:w107un r=some (.inl d)):r=w107r0 (d.1) (d.2.1) (d.2.2.1) (d.2.2.2.1) (d.2.2.2.2):=by
 unfold w107un at h
 split at h
 ·split at h
  ·cases h
  ·cases h
 ·split at h
  ·rename_i h0 h1 h2 h3 h4;cases h;rw [ue_some h0,ue_some h1,ue_some h2,ue_some h3,ue_some h4];rfl
  ·cases h
 ·cases h
theorem w107uop {r:Res} {d:Int×(List UInt8)×Int} (h:w107un r=some (.inr d)):r=w107r1 (d.1) (d.2.1) (d.2.2):=by
 unfold w107un at h
 split at h
 ·split at h
  ·rename_i h1 h2;cases h;rw [ue_some h1,ue_some h2];rfl
  ·cases h
 ·split at h
  ·cases h
  ·cases h
 ·cases h
def w107z (N:w107T) (g0:(List UInt8)) (g1:Int):Option ((Int×Int×(List Ex)×(List UInt8)×Int) ⊕ (Int×(List UInt8)×Int)):=(w107 N g0 g1).bind w107un
theorem w107fin {N:w107T} (hc:CxOk (w107c N)) {g0:(List UInt8)} {g1:Int} {d:Int×Int×(List Ex)×(List UInt8)×Int} (hd:w107z N g0 g1=some (.inl d)):Does Tryd.prog 107 (([.ref 50 0]:List X).map X.D) (HA [(50,.box 77 [.e .tx g0,.e (.i .i64) g1])]) (w107r0 (d.1) (d.2.1) (d.2.2.1) (d.2.2.2.1) (d.2.2.2.2)).1.D (HA (w107r0 (d.1) (d.2.1) (d.2.2.1) (d.2.2.2.1) (d.2.2.2.2)).2):=by
 obtain ⟨r,hr,hu⟩:=Option.bind_eq_some_iff.1 hd
 have:=w107does hc hr
 rw [w107uo hu] at this
 exact this
theorem w107finp {N:w107T} (hc:CxOk (w107c N)) {g0:(List UInt8)} {g1:Int} {d:Int×(List UInt8)×Int} (hd:w107z N g0 g1=some (.inr d)):DoesR Tryd.prog 107 (([.ref 50 0]:List X).map X.D) (HA [(50,.box 77 [.e .tx g0,.e (.i .i64) g1])]) (w107r1 (d.1) (d.2.1) (d.2.2)):=by
 obtain ⟨r,hr,hu⟩:=Option.bind_eq_some_iff.1 hd
 have:=w107does hc hr
 rw [w107uop hu] at this
 exact this
noncomputable def w85L (N:w107T):List (Nat×Ent'):=[(54,w54e N.1)]
noncomputable def w85Lp (N:w107T):List (Nat×EntP):=[(107,w107E N),(85,w85E N),(53,w53E N)]
noncomputable def w85c (N:w107T):Cx:=⟨Tryd.prog,25,w85L N,w85Lp N⟩
noncomputable def w85b:Code:=Tryd.f85.body.getD .skip
theorem w85cx (N:w107T) (hw107:EOkP Tryd.prog 107 (w107E N)) (hw85:EOkP Tryd.prog 85 (w85E N)) (hw53:EOkP Tryd.prog 53 (w53E N)):CxOk (w85c N):=ctx_ok (by kernel_rfl) (.cons (by kernel_rfl) (w54ok N.1) .nil) (.cons (by kernel_rfl) hw107 (.cons (by kernel_rfl) hw85 (.cons (by kernel_rfl) hw53 .nil)))
def w85G [Alg] (N:w107T)  (g0:(List UInt8)) (g1:Int):O:=
 ck (w54p N.1 g0 g1) <|
 br (decide (w54y0 N.1 g0 g1=(45:UInt8)))
  (ck ((N.snd.snd.1 (w54y1 N.1 g0 g1) (IntKind.i64.wrap (w54y2 N.1 g0 g1+(1:Int)))).isSome) <|
  br (isL (N.snd.snd.1 (w54y1 N.1 g0 g1) (IntKind.i64.wrap (w54y2 N.1 g0 g1+(1:Int)))))
   (some (w85r0 ((2:Int)) ((0:Int)) ([Ex.mk (sumL ((0:Int),(0:Int),[],[],(0:Int)) (N.snd.snd.1 (w54y1 N.1 g0 g1) (IntKind.i64.wrap (w54y2 N.1 g0 g1+(1:Int))))).1 (sumL ((0:Int),(0:Int),[],[],(0:Int)) (N.snd.snd.1 (w54y1 N.1 g0 g1) (IntKind.i64.wrap (w54y2 N.1 g0 g1+(1:Int))))).2.1 (sumL ((0:Int),(0:Int),[],[],(0:Int)) (N.snd.snd.1 (w54y1 N.1 g0 g1) (IntKind.i64.wrap (w54y2 N.1 g0 g1+(1:Int))))).2.2.1]) ((sumL ((0:Int),(0:Int),[],[],(0:Int)) (N.snd.snd.1 (w54y1 N.1 g0 g1) (IntKind.i64.wrap (w54y2 N.1 g0 g1+(1:Int))))).2.2.2.1) ((sumL ((0:Int),(0:Int),[],[],(0:Int)) (N.snd.snd.1 (w54y1 N.1 g0 g1) (IntKind.i64.wrap (w54y2 N.1 g0 g1+(1:Int))))).2.2.2.2)))
   (some (w85r1 ((sumR ((0:Int),[],(0:Int)) (N.snd.snd.1 (w54y1 N.1 g0 g1) (IntKind.i64.wrap (w54y2 N.1 g0 g1+(1:Int))))).1) ((sumR ((0:Int),[],(0:Int)) (N.snd.snd.1 (w54y1 N.1 g0 g1) (IntKind.i64.wrap (w54y2 N.1 g0 g1+(1:Int))))).2.1) ((sumR ((0:Int),[],(0:Int)) (N.snd.snd.1 (w54y1 N.1 g0 g1) (IntKind.i64.wrap (w54y2 N.1 g0 g1+(1:Int))))).2.2))))
  (ck ((N.snd.1 (w54y1 N.1 g0 g1) (w54y2 N.1 g0 g1)).isSome) <|
  br (isL (N.snd.1 (w54y1 N.1 g0 g1) (w54y2 N.1 g0 g1)))
   (ck (w54p N.1 (sumL ((0:Int),(0:Int),[],[],(0:Int)) (N.snd.1 (w54y1 N.1 g0 g1) (w54y2 N.1 g0 g1))).2.2.2.1 (sumL ((0:Int),(0:Int),[],[],(0:Int)) (N.snd.1 (w54y1 N.1 g0 g1) (w54y2 N.1 g0 g1))).2.2.2.2) <|
   br (decide (w54y0 N.1 (sumL ((0:Int),(0:Int),[],[],(0:Int)) (N.snd.1 (w54y1 N.1 g0 g1) (w54y2 N.1 g0 g1))).2.2.2.1 (sumL ((0:Int),(0:Int),[],[],(0:Int)) (N.snd.1 (w54y1 N.1 g0 g1) (w54y2 N.1 g0 g1))).2.2.2.2=(94:UInt8)))
    (ck ((N.snd.snd.1 (w54y1 N.1 (sumL ((0:Int),(0:Int),[],[],(0:Int)) (N.snd.1 (w54y1 N.1 g0 g1) (w54y2 N.1 g0 g1))).2.2.2.1 (sumL ((0:Int),(0:Int),[],[],(0:Int)) (N.snd.1 (w54y1 N.1 g0 g1) (w54y2 N.1 g0 g1))).2.2.2.2) (IntKind.i64.wrap (w54y2 N.1 (sumL ((0:Int),(0:Int),[],[],(0:Int)) (N.snd.1 (w54y1 N.1 g0 g1) (w54y2 N.1 g0 g1))).2.2.2.1 (sumL ((0:Int),(0:Int),[],[],(0:Int)) (N.snd.1 (w54y1 N.1 g0 g1) (w54y2 N.1 g0 g1))).2.2.2.2+(1:Int)))).isSome) <|
    br (isL (N.snd.snd.1 (w54y1 N.1 (sumL ((0:Int),(0:Int),[],[],(0:Int)) (N.snd.1 (w54y1 N.1 g0 g1) (w54y2 N.1 g0 g1))).2.2.2.1 (sumL ((0:Int),(0:Int),[],[],(0:Int)) (N.snd.1 (w54y1 N.1 g0 g1) (w54y2 N.1 g0 g1))).2.2.2.2) (IntKind.i64.wrap (w54y2 N.1 (sumL ((0:Int),(0:Int),[],[],(0:Int)) (N.snd.1 (w54y1 N.1 g0 g1) (w54y2 N.1 g0 g1))).2.2.2.1 (sumL ((0:Int),(0:Int),[],[],(0:Int)) (N.snd.1 (w54y1 N.1 g0 g1) (w54y2 N.1 g0 g1))).2.2.2.2+(1:Int)))))
     (some (w85r0 ((7:Int)) ((0:Int)) ([Ex.mk (sumL ((0:Int),(0:Int),[],[],(0:Int)) (N.snd.1 (w54y1 N.1 g0 g1) (w54y2 N.1 g0 g1))).1 (sumL ((0:Int),(0:Int),[],[],(0:Int)) (N.snd.1 (w54y1 N.1 g0 g1) (w54y2 N.1 g0 g1))).2.1 (sumL ((0:Int),(0:Int),[],[],(0:Int)) (N.snd.1 (w54y1 N.1 g0 g1) (w54y2 N.1 g0 g1))).2.2.1,Ex.mk (sumL ((0:Int),(0:Int),[],[],(0:Int)) (N.snd.snd.1 (w54y1 N.1 (sumL ((0:Int),(0:Int),[],[],(0:Int)) (N.snd.1 (w54y1 N.1 g0 g1) (w54y2 N.1 g0 g1))).2.2.2.1 (sumL ((0:Int),(0:Int),[],[],(0:Int)) (N.snd.1 (w54y1 N.1 g0 g1) (w54y2 N.1 g0 g1))).2.2.2.2) (IntKind.i64.wrap (w54y2 N.1 (sumL ((0:Int),(0:Int),[],[],(0:Int)) (N.snd.1 (w54y1 N.1 g0 g1) (w54y2 N.1 g0 g1))).2.2.2.1 (sumL ((0:Int),(0:Int),[],[],(0:Int)) (N.snd.1 (w54y1 N.1 g0 g1) (w54y2 N.1 g0 g1))).2.2.2.2+(1:Int))))).1 (sumL ((0:Int),(0:Int),[],[],(0:Int)) (N.snd.snd.1 (w54y1 N.1 (sumL ((0:Int),(0:Int),[],[],(0:Int)) (N.snd.1 (w54y1 N.1 g0 g1) (w54y2 N.1 g0 g1))).2.2.2.1 (sumL ((0:Int),(0:Int),[],[],(0:Int)) (N.snd.1 (w54y1 N.1 g0 g1) (w54y2 N.1 g0 g1))).2.2.2.2) (IntKind.i64.wrap (w54y2 N.1 (sumL ((0:Int),(0:Int),[],[],(0:Int)) (N.snd.1 (w54y1 N.1 g0 g1) (w54y2 N.1 g0 g1))).2.2.2.1 (sumL ((0:Int),(0:Int),[],[],(0:Int)) (N.snd.1 (w54y1 N.1 g0 g1) (w54y2 N.1 g0 g1))).2.2.2.2+(1:Int))))).2.1 (sumL ((0:Int),(0:Int),[],[],(0:Int)) (N.snd.snd.1 (w54y1 N.1 (sumL ((0:Int),(0:Int),[],[],(0:Int)) (N.snd.1 (w54y1 N.1 g0 g1) (w54y2 N.1 g0 g1))).2.2.2.1 (sumL ((0:Int),(0:Int),[],[],(0:Int)) (N.snd.1 (w54y1 N.1 g0 g1) (w54y2 N.1 g0 g1))).2.2.2.2) (IntKind.i64.wrap (w54y2 N.1 (sumL ((0:Int),(0:Int),[],[],(0:Int)) (N.snd.1 (w54y1 N.1 g0 g1) (w54y2 N.1 g0 g1))).2.2.2.1 (sumL ((0:Int),(0:Int),[],[],(0:Int)) (N.snd.1 (w54y1 N.1 g0 g1) (w54y2 N.1 g0 g1))).2.2.2.2+(1:Int))))).2.2.1]) ((sumL ((0:Int),(0:Int),[],[],(0:Int)) (N.snd.snd.1 (w54y1 N.1 (sumL ((0:Int),(0:Int),[],[],(0:Int)) (N.snd.1 (w54y1 N.1 g0 g1) (w54y2 N.1 g0 g1))).2.2.2.1 (sumL ((0:Int),(0:Int),[],[],(0:Int)) (N.snd.1 (w54y1 N.1 g0 g1) (w54y2 N.1 g0 g1))).2.2.2.2) (IntKind.i64.wrap (w54y2 N.1 (sumL ((0:Int),(0:Int),[],[],(0:Int)) (N.snd.1 (w54y1 N.1 g0 g1) (w54y2 N.1 g0 g1))).2.2.2.1 (sumL ((0:Int),(0:Int),[],[],(0:Int)) (N.snd.1 (w54y1 N.1 g0 g1) (w54y2 N.1 g0 g1))).2.2.2.2+(1:Int))))).2.2.2.1) ((sumL ((0:Int),(0:Int),[],[],(0:Int)) (N.snd.snd.1 (w54y1 N.1 (sumL ((0:Int),(0:Int),[],[],(0:Int)) (N.snd.1 (w54y1 N.1 g0 g1) (w54y2 N.1 g0 g1))).2.2.2.1 (sumL ((0:Int),(0:Int),[],[],(0:Int)) (N.snd.1 (w54y1 N.1 g0 g1) (w54y2 N.1 g0 g1))).2.2.2.2) (IntKind.i64.wrap (w54y2 N.1 (sumL ((0:Int),(0:Int),[],[],(0:Int)) (N.snd.1 (w54y1 N.1 g0 g1) (w54y2 N.1 g0 g1))).2.2.2.1 (sumL ((0:Int),(0:Int),[],[],(0:Int)) (N.snd.1 (w54y1 N.1 g0 g1) (w54y2 N.1 g0 g1))).2.2.2.2+(1:Int))))).2.2.2.2)))
     (some (w85r1 ((sumR ((0:Int),[],(0:Int)) (N.snd.snd.1 (w54y1 N.1 (sumL ((0:Int),(0:Int),[],[],(0:Int)) (N.snd.1 (w54y1 N.1 g0 g1) (w54y2 N.1 g0 g1))).2.2.2.1 (sumL ((0:Int),(0:Int),[],[],(0:Int)) (N.snd.1 (w54y1 N.1 g0 g1) (w54y2 N.1 g0 g1))).2.2.2.2) (IntKind.i64.wrap (w54y2 N.1 (sumL ((0:Int),(0:Int),[],[],(0:Int)) (N.snd.1 (w54y1 N.1 g0 g1) (w54y2 N.1 g0 g1))).2.2.2.1 (sumL ((0:Int),(0:Int),[],[],(0:Int)) (N.snd.1 (w54y1 N.1 g0 g1) (w54y2 N.1 g0 g1))).2.2.2.2+(1:Int))))).1) ((sumR ((0:Int),[],(0:Int)) (N.snd.snd.1 (w54y1 N.1 (sumL ((0:Int),(0:Int),[],[],(0:Int)) (N.snd.1 (w54y1 N.1 g0 g1) (w54y2 N.1 g0 g1))).2.2.2.1 (sumL ((0:Int),(0:Int),[],[],(0:Int)) (N.snd.1 (w54y1 N.1 g0 g1) (w54y2 N.1 g0 g1))).2.2.2.2) (IntKind.i64.wrap (w54y2 N.1 (sumL ((0:Int),(0:Int),[],[],(0:Int)) (N.snd.1 (w54y1 N.1 g0 g1) (w54y2 N.1 g0 g1))).2.2.2.1 (sumL ((0:Int),(0:Int),[],[],(0:Int)) (N.snd.1 (w54y1 N.1 g0 g1) (w54y2 N.1 g0 g1))).2.2.2.2+(1:Int))))).2.1) ((sumR ((0:Int),[],(0:Int)) (N.snd.snd.1 (w54y1 N.1 (sumL ((0:Int),(0:Int),[],[],(0:Int)) (N.snd.1 (w54y1 N.1 g0 g1) (w54y2 N.1 g0 g1))).2.2.2.1 (sumL ((0:Int),(0:Int),[],[],(0:Int)) (N.snd.1 (w54y1 N.1 g0 g1) (w54y2 N.1 g0 g1))).2.2.2.2) (IntKind.i64.wrap (w54y2 N.1 (sumL ((0:Int),(0:Int),[],[],(0:Int)) (N.snd.1 (w54y1 N.1 g0 g1) (w54y2 N.1 g0 g1))).2.2.2.1 (sumL ((0:Int),(0:Int),[],[],(0:Int)) (N.snd.1 (w54y1 N.1 g0 g1) (w54y2 N.1 g0 g1))).2.2.2.2+(1:Int))))).2.2))))
    (some (w85r0 ((sumL ((0:Int),(0:Int),[],[],(0:Int)) (N.snd.1 (w54y1 N.1 g0 g1) (w54y2 N.1 g0 g1))).1) ((sumL ((0:Int),(0:Int),[],[],(0:Int)) (N.snd.1 (w54y1 N.1 g0 g1) (w54y2 N.1 g0 g1))).2.1) ((sumL ((0:Int),(0:Int),[],[],(0:Int)) (N.snd.1 (w54y1 N.1 g0 g1) (w54y2 N.1 g0 g1))).2.2.1) (w54y1 N.1 (sumL ((0:Int),(0:Int),[],[],(0:Int)) (N.snd.1 (w54y1 N.1 g0 g1) (w54y2 N.1 g0 g1))).2.2.2.1 (sumL ((0:Int),(0:Int),[],[],(0:Int)) (N.snd.1 (w54y1 N.1 g0 g1) (w54y2 N.1 g0 g1))).2.2.2.2) (w54y2 N.1 (sumL ((0:Int),(0:Int),[],[],(0:Int)) (N.snd.1 (w54y1 N.1 g0 g1) (w54y2 N.1 g0 g1))).2.2.2.1 (sumL ((0:Int),(0:Int),[],[],(0:Int)) (N.snd.1 (w54y1 N.1 g0 g1) (w54y2 N.1 g0 g1))).2.2.2.2))))
   (some (w85r1 ((sumR ((0:Int),[],(0:Int)) (N.snd.1 (w54y1 N.1 g0 g1) (w54y2 N.1 g0 g1))).1) ((sumR ((0:Int),[],(0:Int)) (N.snd.1 (w54y1 N.1 g0 g1) (w54y2 N.1 g0 g1))).2.1) ((sumR ((0:Int),[],(0:Int)) (N.snd.1 (w54y1 N.1 g0 g1) (w54y2 N.1 g0 g1))).2.2))))
def w85 [Alg] (N:w107T) (g0:(List UInt8)) (g1:Int):O:=w85G N  g0 g1
noncomputable def w85h [Alg] (_:w107T):Hint:=(.seq .d (.seq .d (.seq .d (.seq (.seq .d (.cond (.seq .d (.seq (.reg [] [] [[],[],[50],[],[],[100]]) .d)) .d)) .d))))
theorem w85hk (N:w107T):HintOk (w85c N) Tryd.f85.ntmps (w85h N) w85b:=hk_of _ _ (And.intro trivial (And.intro trivial (And.intro trivial (And.intro (And.intro trivial (And.intro (And.intro trivial (And.intro trivial trivial)) trivial)) trivial))))
theorem w85q [Alg] (N:w107T) (g0:(List UInt8)) (g1:Int):w85G N  g0 g1=exec (w85c N) Tryd.f85.ntmps (w85h N) w85b ⟨argT 0 [.ref 50 0],[(50,.box 77 [.e .tx g0,.e (.i .i64) g1])],100⟩ (finX (w85c N) Tryd.f85 false):=by kernel_rfl
theorem w85does {N:w107T} (hc:CxOk (w85c N)) {g0:(List UInt8)} {g1:Int} {r:Res} (h:w85 N g0 g1=some r):DoesR Tryd.prog 85 (([.ref 50 0]:List X).map X.D) (HA [(50,.box 77 [.e .tx g0,.e (.i .i64) g1])]) r:=
 fun_ok hc (f:=85) (fn:=Tryd.f85) (code:=w85b) (by kernel_rfl) (by kernel_rfl) (w85hk N) (Nat.le_of_ble_eq_true (by kernel_rfl)) (ow:=false) ((w85q N g0 g1).symm.trans (by exact h))
def w85un (r:Res):Option ((Int×Int×(List Ex)×(List UInt8)×Int) ⊕ (Int×(List UInt8)×Int)):=match r with
 | (.pan (.iface 73 (.int .i64 a0)),[(50,.box 77 [x1,x2])])=>(match ue .tx x1,ue (.i .i64) x2 with | some a1,some a2=>some (.inr (a0,a1,a2)) | _,_=>none)
 | (.agg [x0,x1,x2],[(50,.box 77 [x3,x4])])=>(match ue (.i .i64) x0,ue (.i .i64) x1,ue (.sl .ex) x2,ue .tx x3,ue (.i .i64) x4 with | some a0,some a1,some a2,some a3,some a4=>some (.inl (a0,a1,a2,a3,a4)) | _,_,_,_,_=>none)
 | _=>none
theorem w85uo {r:Res} {d:Int×Int×(List Ex)×(List UInt8)×Int} (h:w85un r=some (.inl d)):r=w85r0 (d.1) (d.2.1) (d.2.2.1) (d.2.2.2.1) (d.2.2.2.2):=by
 unfold w85un at h
 split at h
 ·split at h
  ·cases h
  ·cases h
 ·split at h
  ·rename_i h0 h1 h2 h3 h4;cases h;rw [ue_some h0,ue_some h1,ue_some h2,ue_some h3,ue_some h4];rfl
  ·cases h
 ·cases h
theorem w85uop {r:Res} {d:Int×(List UInt8)×Int} (h:w85un r=some (.inr d)):r=w85r1 (d.1) (d.2.1) (d.2.2):=by
 unfold w85un at h
 split at h
 ·split at h
  ·rename_i h1 h2;cases h;rw [ue_some h1,ue_some h2];rfl
  ·cases h
 ·split at h
  ·cases h
  ·cases h
 ·cases h
def w85z (N:w107T) (g0:(List UInt8)) (g1:Int):Option ((Int×Int×(List Ex)×(List UInt8)×Int) ⊕ (Int×(List UInt8)×Int)):=(w85 N g0 g1).bind w85un
theorem w85fin {N:w107T} (hc:CxOk (w85c N)) {g0:(List UInt8)} {g1:Int} {d:Int×Int×(List Ex)×(List UInt8)×Int} (hd:w85z N g0 g1=some (.inl d)):Does Tryd.prog 85 (([.ref 50 0]:List X).map X.D) (HA [(50,.box 77 [.e .tx g0,.e (.i .i64) g1])]) (w85r0 (d.1) (d.2.1) (d.2.2.1) (d.2.2.2.1) (d.2.2.2.2)).1.D (HA (w85r0 (d.1) (d.2.1) (d.2.2.1) (d.2.2.2.1) (d.2.2.2.2)).2):=by
 obtain ⟨r,hr,hu⟩:=Option.bind_eq_some_iff.1 hd
 have:=w85does hc hr
 rw [w85uo hu] at this
 exact this
theorem w85finp {N:w107T} (hc:CxOk (w85c N)) {g0:(List UInt8)} {g1:Int} {d:Int×(List UInt8)×Int} (hd:w85z N g0 g1=some (.inr d)):DoesR Tryd.prog 85 (([.ref 50 0]:List X).map X.D) (HA [(50,.box 77 [.e .tx g0,.e (.i .i64) g1])]) (w85r1 (d.1) (d.2.1) (d.2.2)):=by
 obtain ⟨r,hr,hu⟩:=Option.bind_eq_some_iff.1 hd
 have:=w85does hc hr
 rw [w85uop hu] at this
 exact this
noncomputable def w53L (N:w107T):List (Nat×Ent'):=[(54,w54e N.1),(87,w87e N.1),(86,w86e N.1)]
noncomputable def w53Lp (N:w107T):List (Nat×EntP):=[(107,w107E N),(85,w85E N),(53,w53E N)]
noncomputable def w53c (N:w107T):Cx:=⟨Tryd.prog,25,w53L N,w53Lp N⟩
noncomputable def w53b:Code:=Tryd.f53.body.getD .skip
theorem w53cx (N:w107T) (hw107:EOkP Tryd.prog 107 (w107E N)) (hw85:EOkP Tryd.prog 85 (w85E N)) (hw53:EOkP Tryd.prog 53 (w53E N)):CxOk (w53c N):=ctx_ok (by kernel_rfl) (.cons (by kernel_rfl) (w54ok N.1) (.cons (by kernel_rfl) (w87ok N.1) (.cons (by kernel_rfl) (w86ok N.1) .nil))) (.cons (by kernel_rfl) hw107 (.cons (by kernel_rfl) hw85 (.cons (by kernel_rfl) hw53 .nil)))
def w53F0 [Alg] (N:w107T)  (self:(List UInt8)→Int→Int→Int→Int→(List Ex)→O) (k0:(List UInt8)→Int→Int→Int→(List Ex)→O) (k1:Int→(List UInt8)→Int→O) (_x0_3 _x0_4:Int) (x0_0:(List UInt8)) (x0_1 x0_2 x0_5 x0_6:Int) (x0_7:(List Ex)):O:=
 ck (w54p N.1 x0_0 x0_1) <|
 ck (w86p N.1 [((0:Int),(999999:Int),(4:Int),(0:UInt8)),((0:Int),(25:Int),(4:Int),(0:UInt8)),((1:Int),(0:Int),(3:Int),(45:UInt8)),((2:Int),(0:Int),(1:Int),(43:UInt8)),((2:Int),(0:Int),(1:Int),(45:UInt8)),((2:Int),(0:Int),(2:Int),(42:UInt8)),((2:Int),(0:Int),(2:Int),(47:UInt8)),((2:Int),(0:Int),(3:Int),(94:UInt8)),((1:Int),(0:Int),(4:Int),(82:UInt8)),((2:Int),(0:Int),(0:Int),(61:UInt8)),((2:Int),(0:Int),(0:Int),(60:UInt8))] x0_2 (w54y0 N.1 x0_0 x0_1)) <|
 br (decide (w86y0 N.1 [((0:Int),(999999:Int),(4:Int),(0:UInt8)),((0:Int),(25:Int),(4:Int),(0:UInt8)),((1:Int),(0:Int),(3:Int),(45:UInt8)),((2:Int),(0:Int),(1:Int),(43:UInt8)),((2:Int),(0:Int),(1:Int),(45:UInt8)),((2:Int),(0:Int),(2:Int),(42:UInt8)),((2:Int),(0:Int),(2:Int),(47:UInt8)),((2:Int),(0:Int),(3:Int),(94:UInt8)),((1:Int),(0:Int),(4:Int),(82:UInt8)),((2:Int),(0:Int),(0:Int),(61:UInt8)),((2:Int),(0:Int),(0:Int),(60:UInt8))] x0_2 (w54y0 N.1 x0_0 x0_1) < (0:Int))||decide (w86y2 N.1 [((0:Int),(999999:Int),(4:Int),(0:UInt8)),((0:Int),(25:Int),(4:Int),(0:UInt8)),((1:Int),(0:Int),(3:Int),(45:UInt8)),((2:Int),(0:Int),(1:Int),(43:UInt8)),((2:Int),(0:Int),(1:Int),(45:UInt8)),((2:Int),(0:Int),(2:Int),(42:UInt8)),((2:Int),(0:Int),(2:Int),(47:UInt8)),((2:Int),(0:Int),(3:Int),(94:UInt8)),((1:Int),(0:Int),(4:Int),(82:UInt8)),((2:Int),(0:Int),(0:Int),(61:UInt8)),((2:Int),(0:Int),(0:Int),(60:UInt8))] x0_2 (w54y0 N.1 x0_0 x0_1)=(0:UInt8)))
  (k0 (w54y1 N.1 x0_0 x0_1) (w54y2 N.1 x0_0 x0_1) x0_5 x0_6 x0_7)
  (ck ((N.snd.snd.2 (IntKind.i64.wrap (w86y1 N.1 [((0:Int),(999999:Int),(4:Int),(0:UInt8)),((0:Int),(25:Int),(4:Int),(0:UInt8)),((1:Int),(0:Int),(3:Int),(45:UInt8)),((2:Int),(0:Int),(1:Int),(43:UInt8)),((2:Int),(0:Int),(1:Int),(45:UInt8)),((2:Int),(0:Int),(2:Int),(42:UInt8)),((2:Int),(0:Int),(2:Int),(47:UInt8)),((2:Int),(0:Int),(3:Int),(94:UInt8)),((1:Int),(0:Int),(4:Int),(82:UInt8)),((2:Int),(0:Int),(0:Int),(61:UInt8)),((2:Int),(0:Int),(0:Int),(60:UInt8))] x0_2 (w54y0 N.1 x0_0 x0_1)+(1:Int))) (w54y1 N.1 x0_0 x0_1) (IntKind.i64.wrap (w54y2 N.1 x0_0 x0_1+(1:Int)))).isSome) <|
  br (isL (N.snd.snd.2 (IntKind.i64.wrap (w86y1 N.1 [((0:Int),(999999:Int),(4:Int),(0:UInt8)),((0:Int),(25:Int),(4:Int),(0:UInt8)),((1:Int),(0:Int),(3:Int),(45:UInt8)),((2:Int),(0:Int),(1:Int),(43:UInt8)),((2:Int),(0:Int),(1:Int),(45:UInt8)),((2:Int),(0:Int),(2:Int),(42:UInt8)),((2:Int),(0:Int),(2:Int),(47:UInt8)),((2:Int),(0:Int),(3:Int),(94:UInt8)),((1:Int),(0:Int),(4:Int),(82:UInt8)),((2:Int),(0:Int),(0:Int),(61:UInt8)),((2:Int),(0:Int),(0:Int),(60:UInt8))] x0_2 (w54y0 N.1 x0_0 x0_1)+(1:Int))) (w54y1 N.1 x0_0 x0_1) (IntKind.i64.wrap (w54y2 N.1 x0_0 x0_1+(1:Int)))))
   (br (decide (w86y1 N.1 [((0:Int),(999999:Int),(4:Int),(0:UInt8)),((0:Int),(25:Int),(4:Int),(0:UInt8)),((1:Int),(0:Int),(3:Int),(45:UInt8)),((2:Int),(0:Int),(1:Int),(43:UInt8)),((2:Int),(0:Int),(1:Int),(45:UInt8)),((2:Int),(0:Int),(2:Int),(42:UInt8)),((2:Int),(0:Int),(2:Int),(47:UInt8)),((2:Int),(0:Int),(3:Int),(94:UInt8)),((1:Int),(0:Int),(4:Int),(82:UInt8)),((2:Int),(0:Int),(0:Int),(61:UInt8)),((2:Int),(0:Int),(0:Int),(60:UInt8))] x0_2 (w54y0 N.1 x0_0 x0_1)=(0:Int)))
    (k0 ((sumL ((0:Int),(0:Int),[],[],(0:Int)) (N.snd.snd.2 (IntKind.i64.wrap (w86y1 N.1 [((0:Int),(999999:Int),(4:Int),(0:UInt8)),((0:Int),(25:Int),(4:Int),(0:UInt8)),((1:Int),(0:Int),(3:Int),(45:UInt8)),((2:Int),(0:Int),(1:Int),(43:UInt8)),((2:Int),(0:Int),(1:Int),(45:UInt8)),((2:Int),(0:Int),(2:Int),(42:UInt8)),((2:Int),(0:Int),(2:Int),(47:UInt8)),((2:Int),(0:Int),(3:Int),(94:UInt8)),((1:Int),(0:Int),(4:Int),(82:UInt8)),((2:Int),(0:Int),(0:Int),(61:UInt8)),((2:Int),(0:Int),(0:Int),(60:UInt8))] x0_2 (w54y0 N.1 x0_0 x0_1)+(1:Int))) (w54y1 N.1 x0_0 x0_1) (IntKind.i64.wrap (w54y2 N.1 x0_0 x0_1+(1:Int))))).2.2.2.1) ((sumL ((0:Int),(0:Int),[],[],(0:Int)) (N.snd.snd.2 (IntKind.i64.wrap (w86y1 N.1 [((0:Int),(999999:Int),(4:Int),(0:UInt8)),((0:Int),(25:Int),(4:Int),(0:UInt8)),((1:Int),(0:Int),(3:Int),(45:UInt8)),((2:Int),(0:Int),(1:Int),(43:UInt8)),((2:Int),(0:Int),(1:Int),(45:UInt8)),((2:Int),(0:Int),(2:Int),(42:UInt8)),((2:Int),(0:Int),(2:Int),(47:UInt8)),((2:Int),(0:Int),(3:Int),(94:UInt8)),((1:Int),(0:Int),(4:Int),(82:UInt8)),((2:Int),(0:Int),(0:Int),(61:UInt8)),((2:Int),(0:Int),(0:Int),(60:UInt8))] x0_2 (w54y0 N.1 x0_0 x0_1)+(1:Int))) (w54y1 N.1 x0_0 x0_1) (IntKind.i64.wrap (w54y2 N.1 x0_0 x0_1+(1:Int))))).2.2.2.2) (w86y0 N.1 [((0:Int),(999999:Int),(4:Int),(0:UInt8)),((0:Int),(25:Int),(4:Int),(0:UInt8)),((1:Int),(0:Int),(3:Int),(45:UInt8)),((2:Int),(0:Int),(1:Int),(43:UInt8)),((2:Int),(0:Int),(1:Int),(45:UInt8)),((2:Int),(0:Int),(2:Int),(42:UInt8)),((2:Int),(0:Int),(2:Int),(47:UInt8)),((2:Int),(0:Int),(3:Int),(94:UInt8)),((1:Int),(0:Int),(4:Int),(82:UInt8)),((2:Int),(0:Int),(0:Int),(61:UInt8)),((2:Int),(0:Int),(0:Int),(60:UInt8))] x0_2 (w54y0 N.1 x0_0 x0_1)) ((0:Int)) [Ex.mk x0_5 x0_6 x0_7,Ex.mk (sumL ((0:Int),(0:Int),[],[],(0:Int)) (N.snd.snd.2 (IntKind.i64.wrap (w86y1 N.1 [((0:Int),(999999:Int),(4:Int),(0:UInt8)),((0:Int),(25:Int),(4:Int),(0:UInt8)),((1:Int),(0:Int),(3:Int),(45:UInt8)),((2:Int),(0:Int),(1:Int),(43:UInt8)),((2:Int),(0:Int),(1:Int),(45:UInt8)),((2:Int),(0:Int),(2:Int),(42:UInt8)),((2:Int),(0:Int),(2:Int),(47:UInt8)),((2:Int),(0:Int),(3:Int),(94:UInt8)),((1:Int),(0:Int),(4:Int),(82:UInt8)),((2:Int),(0:Int),(0:Int),(61:UInt8)),((2:Int),(0:Int),(0:Int),(60:UInt8))] x0_2 (w54y0 N.1 x0_0 x0_1)+(1:Int))) (w54y1 N.1 x0_0 x0_1) (IntKind.i64.wrap (w54y2 N.1 x0_0 x0_1+(1:Int))))).1 (sumL ((0:Int),(0:Int),[],[],(0:Int)) (N.snd.snd.2 (IntKind.i64.wrap (w86y1 N.1 [((0:Int),(999999:Int),(4:Int),(0:UInt8)),((0:Int),(25:Int),(4:Int),(0:UInt8)),((1:Int),(0:Int),(3:Int),(45:UInt8)),((2:Int),(0:Int),(1:Int),(43:UInt8)),((2:Int),(0:Int),(1:Int),(45:UInt8)),((2:Int),(0:Int),(2:Int),(42:UInt8)),((2:Int),(0:Int),(2:Int),(47:UInt8)),((2:Int),(0:Int),(3:Int),(94:UInt8)),((1:Int),(0:Int),(4:Int),(82:UInt8)),((2:Int),(0:Int),(0:Int),(61:UInt8)),((2:Int),(0:Int),(0:Int),(60:UInt8))] x0_2 (w54y0 N.1 x0_0 x0_1)+(1:Int))) (w54y1 N.1 x0_0 x0_1) (IntKind.i64.wrap (w54y2 N.1 x0_0 x0_1+(1:Int))))).2.1 (sumL ((0:Int),(0:Int),[],[],(0:Int)) (N.snd.snd.2 (IntKind.i64.wrap (w86y1 N.1 [((0:Int),(999999:Int),(4:Int),(0:UInt8)),((0:Int),(25:Int),(4:Int),(0:UInt8)),((1:Int),(0:Int),(3:Int),(45:UInt8)),((2:Int),(0:Int),(1:Int),(43:UInt8)),((2:Int),(0:Int),(1:Int),(45:UInt8)),((2:Int),(0:Int),(2:Int),(42:UInt8)),((2:Int),(0:Int),(2:Int),(47:UInt8)),((2:Int),(0:Int),(3:Int),(94:UInt8)),((1:Int),(0:Int),(4:Int),(82:UInt8)),((2:Int),(0:Int),(0:Int),(61:UInt8)),((2:Int),(0:Int),(0:Int),(60:UInt8))] x0_2 (w54y0 N.1 x0_0 x0_1)+(1:Int))) (w54y1 N.1 x0_0 x0_1) (IntKind.i64.wrap (w54y2 N.1 x0_0 x0_1+(1:Int))))).2.2.1])
    (self ((sumL ((0:Int),(0:Int),[],[],(0:Int)) (N.snd.snd.2 (IntKind.i64.wrap (w86y1 N.1 [((0:Int),(999999:Int),(4:Int),(0:UInt8)),((0:Int),(25:Int),(4:Int),(0:UInt8)),((1:Int),(0:Int),(3:Int),(45:UInt8)),((2:Int),(0:Int),(1:Int),(43:UInt8)),((2:Int),(0:Int),(1:Int),(45:UInt8)),((2:Int),(0:Int),(2:Int),(42:UInt8)),((2:Int),(0:Int),(2:Int),(47:UInt8)),((2:Int),(0:Int),(3:Int),(94:UInt8)),((1:Int),(0:Int),(4:Int),(82:UInt8)),((2:Int),(0:Int),(0:Int),(61:UInt8)),((2:Int),(0:Int),(0:Int),(60:UInt8))] x0_2 (w54y0 N.1 x0_0 x0_1)+(1:Int))) (w54y1 N.1 x0_0 x0_1) (IntKind.i64.wrap (w54y2 N.1 x0_0 x0_1+(1:Int))))).2.2.2.1) ((sumL ((0:Int),(0:Int),[],[],(0:Int)) (N.snd.snd.2 (IntKind.i64.wrap (w86y1 N.1 [((0:Int),(999999:Int),(4:Int),(0:UInt8)),((0:Int),(25:Int),(4:Int),(0:UInt8)),((1:Int),(0:Int),(3:Int),(45:UInt8)),((2:Int),(0:Int),(1:Int),(43:UInt8)),((2:Int),(0:Int),(1:Int),(45:UInt8)),((2:Int),(0:Int),(2:Int),(42:UInt8)),((2:Int),(0:Int),(2:Int),(47:UInt8)),((2:Int),(0:Int),(3:Int),(94:UInt8)),((1:Int),(0:Int),(4:Int),(82:UInt8)),((2:Int),(0:Int),(0:Int),(61:UInt8)),((2:Int),(0:Int),(0:Int),(60:UInt8))] x0_2 (w54y0 N.1 x0_0 x0_1)+(1:Int))) (w54y1 N.1 x0_0 x0_1) (IntKind.i64.wrap (w54y2 N.1 x0_0 x0_1+(1:Int))))).2.2.2.2) (w86y1 N.1 [((0:Int),(999999:Int),(4:Int),(0:UInt8)),((0:Int),(25:Int),(4:Int),(0:UInt8)),((1:Int),(0:Int),(3:Int),(45:UInt8)),((2:Int),(0:Int),(1:Int),(43:UInt8)),((2:Int),(0:Int),(1:Int),(45:UInt8)),((2:Int),(0:Int),(2:Int),(42:UInt8)),((2:Int),(0:Int),(2:Int),(47:UInt8)),((2:Int),(0:Int),(3:Int),(94:UInt8)),((1:Int),(0:Int),(4:Int),(82:UInt8)),((2:Int),(0:Int),(0:Int),(61:UInt8)),((2:Int),(0:Int),(0:Int),(60:UInt8))] x0_2 (w54y0 N.1 x0_0 x0_1)) (w86y0 N.1 [((0:Int),(999999:Int),(4:Int),(0:UInt8)),((0:Int),(25:Int),(4:Int),(0:UInt8)),((1:Int),(0:Int),(3:Int),(45:UInt8)),((2:Int),(0:Int),(1:Int),(43:UInt8)),((2:Int),(0:Int),(1:Int),(45:UInt8)),((2:Int),(0:Int),(2:Int),(42:UInt8)),((2:Int),(0:Int),(2:Int),(47:UInt8)),((2:Int),(0:Int),(3:Int),(94:UInt8)),((1:Int),(0:Int),(4:Int),(82:UInt8)),((2:Int),(0:Int),(0:Int),(61:UInt8)),((2:Int),(0:Int),(0:Int),(60:UInt8))] x0_2 (w54y0 N.1 x0_0 x0_1)) ((0:Int)) [Ex.mk x0_5 x0_6 x0_7,Ex.mk (sumL ((0:Int),(0:Int),[],[],(0:Int)) (N.snd.snd.2 (IntKind.i64.wrap (w86y1 N.1 [((0:Int),(999999:Int),(4:Int),(0:UInt8)),((0:Int),(25:Int),(4:Int),(0:UInt8)),((1:Int),(0:Int),(3:Int),(45:UInt8)),((2:Int),(0:Int),(1:Int),(43:UInt8)),((2:Int),(0:Int),(1:Int),(45:UInt8)),((2:Int),(0:Int),(2:Int),(42:UInt8)),((2:Int),(0:Int),(2:Int),(47:UInt8)),((2:Int),(0:Int),(3:Int),(94:UInt8)),((1:Int),(0:Int),(4:Int),(82:UInt8)),((2:Int),(0:Int),(0:Int),(61:UInt8)),((2:Int),(0:Int),(0:Int),(60:UInt8))] x0_2 (w54y0 N.1 x0_0 x0_1)+(1:Int))) (w54y1 N.1 x0_0 x0_1) (IntKind.i64.wrap (w54y2 N.1 x0_0 x0_1+(1:Int))))).1 (sumL ((0:Int),(0:Int),[],[],(0:Int)) (N.snd.snd.2 (IntKind.i64.wrap (w86y1 N.1 [((0:Int),(999999:Int),(4:Int),(0:UInt8)),((0:Int),(25:Int),(4:Int),(0:UInt8)),((1:Int),(0:Int),(3:Int),(45:UInt8)),((2:Int),(0:Int),(1:Int),(43:UInt8)),((2:Int),(0:Int),(1:Int),(45:UInt8)),((2:Int),(0:Int),(2:Int),(42:UInt8)),((2:Int),(0:Int),(2:Int),(47:UInt8)),((2:Int),(0:Int),(3:Int),(94:UInt8)),((1:Int),(0:Int),(4:Int),(82:UInt8)),((2:Int),(0:Int),(0:Int),(61:UInt8)),((2:Int),(0:Int),(0:Int),(60:UInt8))] x0_2 (w54y0 N.1 x0_0 x0_1)+(1:Int))) (w54y1 N.1 x0_0 x0_1) (IntKind.i64.wrap (w54y2 N.1 x0_0 x0_1+(1:Int))))).2.1 (sumL ((0:Int),(0:Int),[],[],(0:Int)) (N.snd.snd.2 (IntKind.i64.wrap (w86y1 N.1 [((0:Int),(999999:Int),(4:Int),(0:UInt8)),((0:Int),(25:Int),(4:Int),(0:UInt8)),((1:Int),(0:Int),(3:Int),(45:UInt8)),((2:Int),(0:Int),(1:Int),(43:UInt8)),((2:Int),(0:Int),(1:Int),(45:UInt8)),((2:Int),(0:Int),(2:Int),(42:UInt8)),((2:Int),(0:Int),(2:Int),(47:UInt8)),((2:Int),(0:Int),(3:Int),(94:UInt8)),((1:Int),(0:Int),(4:Int),(82:UInt8)),((2:Int),(0:Int),(0:Int),(61:UInt8)),((2:Int),(0:Int),(0:Int),(60:UInt8))] x0_2 (w54y0 N.1 x0_0 x0_1)+(1:Int))) (w54y1 N.1 x0_0 x0_1) (IntKind.i64.wrap (w54y2 N.1 x0_0 x0_1+(1:Int))))).2.2.1]))
   (k1 ((sumR ((0:Int),[],(0:Int)) (N.snd.snd.2 (IntKind.i64.wrap (w86y1 N.1 [((0:Int),(999999:Int),(4:Int),(0:UInt8)),((0:Int),(25:Int),(4:Int),(0:UInt8)),((1:Int),(0:Int),(3:Int),(45:UInt8)),((2:Int),(0:Int),(1:Int),(43:UInt8)),((2:Int),(0:Int),(1:Int),(45:UInt8)),((2:Int),(0:Int),(2:Int),(42:UInt8)),((2:Int),(0:Int),(2:Int),(47:UInt8)),((2:Int),(0:Int),(3:Int),(94:UInt8)),((1:Int),(0:Int),(4:Int),(82:UInt8)),((2:Int),(0:Int),(0:Int),(61:UInt8)),((2:Int),(0:Int),(0:Int),(60:UInt8))] x0_2 (w54y0 N.1 x0_0 x0_1)+(1:Int))) (w54y1 N.1 x0_0 x0_1) (IntKind.i64.wrap (w54y2 N.1 x0_0 x0_1+(1:Int))))).1) ((sumR ((0:Int),[],(0:Int)) (N.snd.snd.2 (IntKind.i64.wrap (w86y1 N.1 [((0:Int),(999999:Int),(4:Int),(0:UInt8)),((0:Int),(25:Int),(4:Int),(0:UInt8)),((1:Int),(0:Int),(3:Int),(45:UInt8)),((2:Int),(0:Int),(1:Int),(43:UInt8)),((2:Int),(0:Int),(1:Int),(45:UInt8)),((2:Int),(0:Int),(2:Int),(42:UInt8)),((2:Int),(0:Int),(2:Int),(47:UInt8)),((2:Int),(0:Int),(3:Int),(94:UInt8)),((1:Int),(0:Int),(4:Int),(82:UInt8)),((2:Int),(0:Int),(0:Int),(61:UInt8)),((2:Int),(0:Int),(0:Int),(60:UInt8))] x0_2 (w54y0 N.1 x0_0 x0_1)+(1:Int))) (w54y1 N.1 x0_0 x0_1) (IntKind.i64.wrap (w54y2 N.1 x0_0 x0_1+(1:Int))))).2.1) ((sumR ((0:Int),[],(0:Int)) (N.snd.snd.2 (IntKind.i64.wrap (w86y1 N.1 [((0:Int),(999999:Int),(4:Int),(0:UInt8)),((0:Int),(25:Int),(4:Int),(0:UInt8)),((1:Int),(0:Int),(3:Int),(45:UInt8)),((2:Int),(0:Int),(1:Int),(43:UInt8)),((2:Int),(0:Int),(1:Int),(45:UInt8)),((2:Int),(0:Int),(2:Int),(42:UInt8)),((2:Int),(0:Int),(2:Int),(47:UInt8)),((2:Int),(0:Int),(3:Int),(94:UInt8)),((1:Int),(0:Int),(4:Int),(82:UInt8)),((2:Int),(0:Int),(0:Int),(61:UInt8)),((2:Int),(0:Int),(0:Int),(60:UInt8))] x0_2 (w54y0 N.1 x0_0 x0_1)+(1:Int))) (w54y1 N.1 x0_0 x0_1) (IntKind.i64.wrap (w54y2 N.1 x0_0 x0_1+(1:Int))))).2.2)))
noncomputable def w53b0:Code:=atC [1,1,1,0,0] w53b
def w53m0:Nm:=⟨[0,3,4,5],[],[.cv 5 2 (.sl .ex)]⟩
def w53I0 (x:(List UInt8)×Int×Int×Int×Int×Int×Int×(List Ex)):Sg:=⟨[(0,.ref 50 0),(3,.ref 0 0),(4,.ref 1 0),(5,.ref 2 0)],[(50,.box 77 [.e .tx x.1,.e (.i .i64) x.2.1]),(0,.box 3 [.e (.i .i64) x.2.2.1]),(1,.box 25 [.e (.i .i64) x.2.2.2.1,.e (.i .i64) x.2.2.2.2.1,.nilS]),(2,.box 25 [.e (.i .i64) x.2.2.2.2.2.1,.e (.i .i64) x.2.2.2.2.2.2.1,.e (.sl .ex) x.2.2.2.2.2.2.2])],100⟩
def w53u0 (σ:Sg):(List UInt8)×Int×Int×Int×Int×Int×Int×(List Ex):=(lvH .tx 50 0 σ,lvH (.i .i64) 50 1 σ,lvH (.i .i64) 0 0 σ,lvH (.i .i64) 1 0 σ,lvH (.i .i64) 1 1 σ,lvH (.i .i64) 2 0 σ,lvH (.i .i64) 2 1 σ,lvH (.sl .ex) 2 2 σ)
theorem w53ui0:∀ x,w53u0 (w53I0 x)=x:=fun _=>by kernel_rfl
def w53X0_0 (y:(List UInt8)×Int×Int×Int×(List Ex)):Exit×Sg:=(.ret,⟨[(4,.ref 0 0)],[(50,.box 77 [.e .tx y.1,.e (.i .i64) y.2.1]),(0,.box 25 [.e (.i .i64) y.2.2.1,.e (.i .i64) y.2.2.2.1,.e (.sl .ex) y.2.2.2.2])],100⟩)
def w53v0_0 (_:Exit) (σ:Sg):(List UInt8)×Int×Int×Int×(List Ex):=(lvH .tx 50 0 σ,lvH (.i .i64) 50 1 σ,lvH (.i .i64) 0 0 σ,lvH (.i .i64) 0 1 σ,lvH (.sl .ex) 0 2 σ)
def w53X0_1 (y:Int×(List UInt8)×Int):Exit×Sg:=((.panic [pent (.iface 73 (.int .i64 y.1))]),⟨[],[(50,.box 77 [.e .tx y.2.1,.e (.i .i64) y.2.2])],100⟩)
def w53v0_1 (e:Exit) (σ:Sg):Int×(List UInt8)×Int:=(lvP e,lvH .tx 50 0 σ,lvH (.i .i64) 50 1 σ)
def w53w0:List (Exit×Nm):=[(.ret,⟨[4],[],[.cv 4 2 (.sl .ex)]⟩),((.panic []),⟨[],[],[]⟩)]
theorem w53o0:Outs w53v0_0 w53v0_1 (fun _ _=>()) w53X0_0 w53X0_1 (noX 2) (exC .ret) (exC (.panic [])) (exC (.goto 2)):=⟨fun _=>by kernel_rfl,fun _=>by kernel_rfl,fun _=>by kernel_rfl,fun _=>by kernel_rfl,fun _=>by kernel_rfl,fun _=>by kernel_rfl,exNe_ok (by kernel_rfl),exNe_ok (by kernel_rfl),exNe_ok (by kernel_rfl)⟩
def w53l0 [Alg] (N:w107T):Nat→((List UInt8)×Int×Int×Int×Int×Int×Int×(List Ex))→(((List UInt8)×Int×Int×Int×(List Ex))→O)→((Int×(List UInt8)×Int)→O)→((Unit)→O)→O
 | 0,_,_,_,_=>none
 | n+1,x,k0,k1,k2=>w53F0 N  (fun v0 v1 v2 v3 v4 v5=>w53l0 N n (v0,v1,v2,x.2.2.2.1,x.2.2.2.2.1,v3,v4,v5) k0 k1 k2) (fun y0 y1 y2 y3 y4=>k0 (y0,y1,y2,y3,y4)) (fun y0 y1 y2=>k1 (y0,y1,y2)) x.2.2.2.1 x.2.2.2.2.1 x.1 x.2.1 x.2.2.1 x.2.2.2.2.2.1 x.2.2.2.2.2.2.1 x.2.2.2.2.2.2.2
def w53n0 [Alg] (N:w107T) (a0:(List UInt8)) (a1 a2 a3 a4 a5 a6:Int) (a7:(List Ex)) (k0:(List UInt8)→Int→Int→Int→(List Ex)→O) (k1:Int→(List UInt8)→Int→O):O:=w53l0 N N.1 (a0,a1,a2,a3,a4,a5,a6,a7) (fun y=>k0 y.1 y.2.1 y.2.2.1 y.2.2.2.1 y.2.2.2.2) (fun y=>k1 y.1 y.2.1 y.2.2) (fun _=>none)
noncomputable def w53s0 [Alg] (N:w107T) (a0:(List UInt8)) (a1 a2 a3 a4 a5 a6:Int) (a7:(List Ex)) (k0:(List UInt8)→Int→Int→Int→(List Ex)→O) (k1:Int→(List UInt8)→Int→O):O:=subL w53I0 w53u0 (w53l0 N N.1) (w53I0 (a0,a1,a2,a3,a4,a5,a6,a7)) (fun y=>k0 y.1 y.2.1 y.2.2.1 y.2.2.2.1 y.2.2.2.2) (fun y=>k1 y.1 y.2.1 y.2.2) (fun _=>none)
theorem w53e0 [Alg] (N:w107T):w53s0 N=w53n0 N:=funext fun _=>funext fun _=>funext fun _=>funext fun _=>funext fun _=>funext fun _=>funext fun _=>funext fun _=>funext fun _=>funext fun _=>subL_I w53ui0 _ _ _ _
noncomputable def w53h0 [Alg] (_:w107T):Hint:=(.block (.seq .d (.seq .d (.seq .d (.seq .d (.seq (.reg [] [] [[],[],[],[],[],[50],[],[],[2]]) .d))))))
theorem w53hk0 (N:w107T):HintOk (w53c N) Tryd.f53.ntmps (w53h0 N) w53b0:=hk_of _ _ (And.intro trivial (And.intro trivial (And.intro trivial (And.intro trivial (And.intro trivial trivial)))))
theorem w53q0 [Alg] (N:w107T) (self:Sg→O) (K:Exit→Sg→O) (x:(List UInt8)×Int×Int×Int×Int×Int×Int×(List Ex)):w53F0 N  (fun v0 v1 v2 v3 v4 v5=>self (w53I0 (v0,v1,v2,x.2.2.2.1,x.2.2.2.2.1,v3,v4,v5))) (fun y0 y1 y2 y3 y4=>K (w53X0_0 (y0,y1,y2,y3,y4)).1 (w53X0_0 (y0,y1,y2,y3,y4)).2) (fun y0 y1 y2=>K (w53X0_1 (y0,y1,y2)).1 (w53X0_1 (y0,y1,y2)).2) x.2.2.2.1 x.2.2.2.2.1 x.1 x.2.1 x.2.2.1 x.2.2.2.2.2.1 x.2.2.2.2.2.2.1 x.2.2.2.2.2.2.2=exec (w53c N) Tryd.f53.ntmps (w53h0 N) w53b0 (w53I0 x) (roundX w53m0 w53w0 self K):=by kernel_rfl
theorem w53S0 (N:w107T) (hc:CxOk (w53c N)):SubOk (w53c N) Tryd.f53.ntmps (.loop w53b0) w53X0_0 w53X0_1 (noX 2) (subL w53I0 w53u0 (w53l0 N N.1)):=
 sub_loop hc (w53hk0 N) w53o0 (n:=N.1) (fun x K=>loop_ind (w53l0 N) (fun _ _ _ _=>rfl) (fun n K ih x=>by
  have h:w53F0 N  (fun v0 v1 v2 v3 v4 v5=>w53l0 N n (v0,v1,v2,x.2.2.2.1,x.2.2.2.2.1,v3,v4,v5) (fun y=>K (w53X0_0 y).1 (w53X0_0 y).2) (fun y=>K (w53X0_1 y).1 (w53X0_1 y).2) (fun y=>K ((noX 2) y).1 ((noX 2) y).2)) (fun y0 y1 y2 y3 y4=>K (w53X0_0 (y0,y1,y2,y3,y4)).1 (w53X0_0 (y0,y1,y2,y3,y4)).2) (fun y0 y1 y2=>K (w53X0_1 (y0,y1,y2)).1 (w53X0_1 (y0,y1,y2)).2) x.2.2.2.1 x.2.2.2.2.1 x.1 x.2.1 x.2.2.1 x.2.2.2.2.2.1 x.2.2.2.2.2.2.1 x.2.2.2.2.2.2.2=w53F0 N  (fun v0 v1 v2 v3 v4 v5=>loopX (w53c N) Tryd.f53.ntmps (w53h0 N) w53b0 w53m0 w53w0 n (w53I0 (v0,v1,v2,x.2.2.2.1,x.2.2.2.2.1,v3,v4,v5)) K) (fun y0 y1 y2 y3 y4=>K (w53X0_0 (y0,y1,y2,y3,y4)).1 (w53X0_0 (y0,y1,y2,y3,y4)).2) (fun y0 y1 y2=>K (w53X0_1 (y0,y1,y2)).1 (w53X0_1 (y0,y1,y2)).2) x.2.2.2.1 x.2.2.2.2.1 x.1 x.2.1 x.2.2.1 x.2.2.2.2.2.1 x.2.2.2.2.2.2.1 x.2.2.2.2.2.2.2:=by rw [ show (fun v0 v1 v2 v3 v4 v5=>w53l0 N n (v0,v1,v2,x.2.2.2.1,x.2.2.2.2.1,v3,v4,v5) (fun y=>K (w53X0_0 y).1 (w53X0_0 y).2) (fun y=>K (w53X0_1 y).1 (w53X0_1 y).2) (fun y=>K ((noX 2) y).1 ((noX 2) y).2))=(fun v0 v1 v2 v3 v4 v5=>loopX (w53c N) Tryd.f53.ntmps (w53h0 N) w53b0 w53m0 w53w0 n (w53I0 (v0,v1,v2,x.2.2.2.1,x.2.2.2.2.1,v3,v4,v5)) K) from funext fun _=>funext fun _=>funext fun _=>funext fun _=>funext fun _=>funext fun _=>ih _]
  exact h.trans (w53q0 N (fun σ=>loopX (w53c N) Tryd.f53.ntmps (w53h0 N) w53b0 w53m0 w53w0 n σ K) K x)) N.1 x K)
def w53G [Alg] (N:w107T) (in0:(List UInt8)→Int→Int→Int→Int→Int→Int→(List Ex)→((List UInt8)→Int→Int→Int→(List Ex)→O)→(Int→(List UInt8)→Int→O)→O) (n1:Int) (g0:(List UInt8)) (g1:Int):O:=
 br (decide (n1=(3:Int)))
  (ck ((N.snd.snd.1 g0 g1).isSome) <|
  br (isL (N.snd.snd.1 g0 g1))
   (some (w53r0 ((sumL ((0:Int),(0:Int),[],[],(0:Int)) (N.snd.snd.1 g0 g1)).1) ((sumL ((0:Int),(0:Int),[],[],(0:Int)) (N.snd.snd.1 g0 g1)).2.1) ((sumL ((0:Int),(0:Int),[],[],(0:Int)) (N.snd.snd.1 g0 g1)).2.2.1) ((sumL ((0:Int),(0:Int),[],[],(0:Int)) (N.snd.snd.1 g0 g1)).2.2.2.1) ((sumL ((0:Int),(0:Int),[],[],(0:Int)) (N.snd.snd.1 g0 g1)).2.2.2.2)))
   (some (w53r1 ((sumR ((0:Int),[],(0:Int)) (N.snd.snd.1 g0 g1)).1) ((sumR ((0:Int),[],(0:Int)) (N.snd.snd.1 g0 g1)).2.1) ((sumR ((0:Int),[],(0:Int)) (N.snd.snd.1 g0 g1)).2.2))))
  (ck ((N.snd.snd.2 (IntKind.i64.wrap (n1+(1:Int))) g0 g1).isSome) <|
  br (isL (N.snd.snd.2 (IntKind.i64.wrap (n1+(1:Int))) g0 g1))
   (in0 ((sumL ((0:Int),(0:Int),[],[],(0:Int)) (N.snd.snd.2 (IntKind.i64.wrap (n1+(1:Int))) g0 g1)).2.2.2.1) ((sumL ((0:Int),(0:Int),[],[],(0:Int)) (N.snd.snd.2 (IntKind.i64.wrap (n1+(1:Int))) g0 g1)).2.2.2.2) n1 ((0:Int)) ((0:Int)) ((sumL ((0:Int),(0:Int),[],[],(0:Int)) (N.snd.snd.2 (IntKind.i64.wrap (n1+(1:Int))) g0 g1)).1) ((sumL ((0:Int),(0:Int),[],[],(0:Int)) (N.snd.snd.2 (IntKind.i64.wrap (n1+(1:Int))) g0 g1)).2.1) ((sumL ((0:Int),(0:Int),[],[],(0:Int)) (N.snd.snd.2 (IntKind.i64.wrap (n1+(1:Int))) g0 g1)).2.2.1)
    (fun z1 z2 z3 z4 z5=>
     some (w53r0 (z3) (z4) (z5) z1 z2))
    (fun z6 z7 z8=>
     some (w53r1 z6 z7 z8)))
   (some (w53r1 ((sumR ((0:Int),[],(0:Int)) (N.snd.snd.2 (IntKind.i64.wrap (n1+(1:Int))) g0 g1)).1) ((sumR ((0:Int),[],(0:Int)) (N.snd.snd.2 (IntKind.i64.wrap (n1+(1:Int))) g0 g1)).2.1) ((sumR ((0:Int),[],(0:Int)) (N.snd.snd.2 (IntKind.i64.wrap (n1+(1:Int))) g0 g1)).2.2))))
def w53 [Alg] (N:w107T) (n1:Int) (g0:(List UInt8)) (g1:Int):O:=w53G N (w53n0 N) n1 g0 g1
noncomputable def w53h [Alg] (N:w107T):Hint:=(.seq .d (.seq .d (.seq .d (.block (.sub w53m0 _ _ _ w53X0_0 w53X0_1 (noX 2) (subL w53I0 w53u0 (w53l0 N N.1)))))))
theorem w53hk (N:w107T) (hc:CxOk (w53c N)):HintOk (w53c N) Tryd.f53.ntmps (w53h N) w53b:=hk_of _ _ (And.intro trivial (And.intro trivial (And.intro trivial (w53S0 N hc))))
theorem w53q [Alg] (N:w107T) (n1:Int) (g0:(List UInt8)) (g1:Int):w53G N (w53s0 N) n1 g0 g1=exec (w53c N) Tryd.f53.ntmps (w53h N) w53b ⟨argT 0 [.ref 50 0,.e (.i .i64) n1],[(50,.box 77 [.e .tx g0,.e (.i .i64) g1])],100⟩ (finX (w53c N) Tryd.f53 false):=by kernel_rfl
theorem w53does {N:w107T} (hc:CxOk (w53c N)) {n1:Int} {g0:(List UInt8)} {g1:Int} {r:Res} (h:w53 N n1 g0 g1=some r):DoesR Tryd.prog 53 (([.ref 50 0,.e (.i .i64) n1]:List X).map X.D) (HA [(50,.box 77 [.e .tx g0,.e (.i .i64) g1])]) r:=
 fun_ok hc (f:=53) (fn:=Tryd.f53) (code:=w53b) (by kernel_rfl) (by kernel_rfl) (w53hk N hc) (Nat.le_of_ble_eq_true (by kernel_rfl)) (ow:=false) ((w53q N n1 g0 g1).symm.trans (by rw [w53e0 N];exact h))
def w53un (r:Res):Option ((Int×Int×(List Ex)×(List UInt8)×Int) ⊕ (Int×(List UInt8)×Int)):=match r with
 | (.pan (.iface 73 (.int .i64 a0)),[(50,.box 77 [x1,x2])])=>(match ue .tx x1,ue (.i .i64) x2 with | some a1,some a2=>some (.inr (a0,a1,a2)) | _,_=>none)
 | (.agg [x0,x1,x2],[(50,.box 77 [x3,x4])])=>(match ue (.i .i64) x0,ue (.i .i64) x1,ue (.sl .ex) x2,ue .tx x3,ue (.i .i64) x4 with | some a0,some a1,some a2,some a3,some a4=>some (.inl (a0,a1,a2,a3,a4)) | _,_,_,_,_=>none)
 | _=>none
theorem w53uo {r:Res} {d:Int×Int×(List Ex)×(List UInt8)×Int} (h:w53un r=some (.inl d)):r=w53r0 (d.1) (d.2.1) (d.2.2.1) (d.2.2.2.1) (d.2.2.2.2):=by
 unfold w53un at h
 split at h
 ·split at h
  ·cases h
  ·cases h
 ·split at h
  ·rename_i h0 h1 h2 h3 h4;cases h;rw [ue_some h0,ue_some h1,ue_some h2,ue_some h3,ue_some h4];rfl
  ·cases h
 ·cases h
theorem w53uop {r:Res} {d:Int×(List UInt8)×Int} (h:w53un r=some (.inr d)):r=w53r1 (d.1) (d.2.1) (d.2.2):=by
 unfold w53un at h
 split at h
 ·split at h
  ·rename_i h1 h2;cases h;rw [ue_some h1,ue_some h2];rfl
  ·cases h
 ·split at h
  ·cases h
  ·cases h
 ·cases h
def w53z (N:w107T) (n1:Int) (g0:(List UInt8)) (g1:Int):Option ((Int×Int×(List Ex)×(List UInt8)×Int) ⊕ (Int×(List UInt8)×Int)):=(w53 N n1 g0 g1).bind w53un
theorem w53fin {N:w107T} (hc:CxOk (w53c N)) {n1:Int} {g0:(List UInt8)} {g1:Int} {d:Int×Int×(List Ex)×(List UInt8)×Int} (hd:w53z N n1 g0 g1=some (.inl d)):Does Tryd.prog 53 (([.ref 50 0,.e (.i .i64) n1]:List X).map X.D) (HA [(50,.box 77 [.e .tx g0,.e (.i .i64) g1])]) (w53r0 (d.1) (d.2.1) (d.2.2.1) (d.2.2.2.1) (d.2.2.2.2)).1.D (HA (w53r0 (d.1) (d.2.1) (d.2.2.1) (d.2.2.2.1) (d.2.2.2.2)).2):=by
 obtain ⟨r,hr,hu⟩:=Option.bind_eq_some_iff.1 hd
 have:=w53does hc hr
 rw [w53uo hu] at this
 exact this
theorem w53finp {N:w107T} (hc:CxOk (w53c N)) {n1:Int} {g0:(List UInt8)} {g1:Int} {d:Int×(List UInt8)×Int} (hd:w53z N n1 g0 g1=some (.inr d)):DoesR Tryd.prog 53 (([.ref 50 0,.e (.i .i64) n1]:List X).map X.D) (HA [(50,.box 77 [.e .tx g0,.e (.i .i64) g1])]) (w53r1 (d.1) (d.2.1) (d.2.2)):=by
 obtain ⟨r,hr,hu⟩:=Option.bind_eq_some_iff.1 hd
 have:=w53does hc hr
 rw [w53uop hu] at this
 exact this
def w107gY (N:Nat):Nat→((List UInt8)→Int→Option ((Int×Int×(List Ex)×(List UInt8)×Int) ⊕ (Int×(List UInt8)×Int)))×((List UInt8)→Int→Option ((Int×Int×(List Ex)×(List UInt8)×Int) ⊕ (Int×(List UInt8)×Int)))×(Int→(List UInt8)→Int→Option ((Int×Int×(List Ex)×(List UInt8)×Int) ⊕ (Int×(List UInt8)×Int)))
 | 0=>(fun _ _=>none,fun _ _=>none,fun _ _ _=>none)
 | n+1=>(fun g0 g1=>w107z (N,w107gY N n) g0 g1,fun g0 g1=>w85z (N,w107gY N n) g0 g1,fun n1 g0 g1=>w53z (N,w107gY N n) n1 g0 g1)
theorem w107gYok (N:Nat):∀ n,EOkP Tryd.prog 107 (w107E (N,w107gY N n))∧EOkP Tryd.prog 85 (w85E (N,w107gY N n))∧EOkP Tryd.prog 53 (w53E (N,w107gY N n))
 | 0=>⟨entQ_ok w107io (fun _ h=>by cases h),entQ_ok w85io (fun _ h=>by cases h),entQ_ok w53io (fun _ h=>by cases h)⟩
 | n+1=>
   have ih:=w107gYok N n
   ⟨entQ_ok w107io (fun d h=>panStep (zz:=w107z (N,w107gY N n) (d.1) (d.2)) (R:=fun y=>w107r0 (y.1) (y.2.1) (y.2.2.1) (y.2.2.2.1) (y.2.2.2.2)) (R':=fun y=>w107r1 (y.1) (y.2.1) (y.2.2)) (d0:=(0,0,[],[],0)) (d0':=(0,[],0)) (fun _ hy=>w107fin (w107cx (N,w107gY N n) ih.1 ih.2.1 ih.2.2) hy) (fun _ hy=>w107finp (w107cx (N,w107gY N n) ih.1 ih.2.1 ih.2.2) hy) h),entQ_ok w85io (fun d h=>panStep (zz:=w85z (N,w107gY N n) (d.1) (d.2)) (R:=fun y=>w85r0 (y.1) (y.2.1) (y.2.2.1) (y.2.2.2.1) (y.2.2.2.2)) (R':=fun y=>w85r1 (y.1) (y.2.1) (y.2.2)) (d0:=(0,0,[],[],0)) (d0':=(0,[],0)) (fun _ hy=>w85fin (w85cx (N,w107gY N n) ih.1 ih.2.1 ih.2.2) hy) (fun _ hy=>w85finp (w85cx (N,w107gY N n) ih.1 ih.2.1 ih.2.2) hy) h),entQ_ok w53io (fun d h=>panStep (zz:=w53z (N,w107gY N n) (d.1) (d.2.1) (d.2.2)) (R:=fun y=>w53r0 (y.1) (y.2.1) (y.2.2.1) (y.2.2.2.1) (y.2.2.2.2)) (R':=fun y=>w53r1 (y.1) (y.2.1) (y.2.2)) (d0:=(0,0,[],[],0)) (d0':=(0,[],0)) (fun _ hy=>w53fin (w53cx (N,w107gY N n) ih.1 ih.2.1 ih.2.2) hy) (fun _ hy=>w53finp (w53cx (N,w107gY N n) ih.1 ih.2.1 ih.2.2) hy) h)⟩
def w53p (N:Nat) (n1:Int) (g0:(List UInt8)) (g1:Int):Bool:=((w107gY N N).2.2 n1 g0 g1).isSome
def w53y0 (N:Nat) (n1:Int) (g0:(List UInt8)) (g1:Int):Int:=(sumL (0,0,[],[],0) ((w107gY N N).2.2 n1 g0 g1)).1
def w53y1 (N:Nat) (n1:Int) (g0:(List UInt8)) (g1:Int):Int:=(sumL (0,0,[],[],0) ((w107gY N N).2.2 n1 g0 g1)).2.1
def w53y2 (N:Nat) (n1:Int) (g0:(List UInt8)) (g1:Int):(List Ex):=(sumL (0,0,[],[],0) ((w107gY N N).2.2 n1 g0 g1)).2.2.1
def w53y3 (N:Nat) (n1:Int) (g0:(List UInt8)) (g1:Int):(List UInt8):=(sumL (0,0,[],[],0) ((w107gY N N).2.2 n1 g0 g1)).2.2.2.1
def w53y4 (N:Nat) (n1:Int) (g0:(List UInt8)) (g1:Int):Int:=(sumL (0,0,[],[],0) ((w107gY N N).2.2 n1 g0 g1)).2.2.2.2
def w53b_ (N:Nat) (n1:Int) (g0:(List UInt8)) (g1:Int):Bool:=isL ((w107gY N N).2.2 n1 g0 g1)
def w53pv0 (N:Nat) (n1:Int) (g0:(List UInt8)) (g1:Int):Int:=(sumR (0,[],0) ((w107gY N N).2.2 n1 g0 g1)).1
def w53pv1 (N:Nat) (n1:Int) (g0:(List UInt8)) (g1:Int):(List UInt8):=(sumR (0,[],0) ((w107gY N N).2.2 n1 g0 g1)).2.1
def w53pv2 (N:Nat) (n1:Int) (g0:(List UInt8)) (g1:Int):Int:=(sumR (0,[],0) ((w107gY N N).2.2 n1 g0 g1)).2.2
def w53e (N:Nat):EntP:=entQ w53in (fun d=>w53p N (d.1) (d.2.1) (d.2.2)) (fun d=>some (w53b_ N (d.1) (d.2.1) (d.2.2))) (fun d=>w53r0 (w53y0 N (d.1) (d.2.1) (d.2.2)) (w53y1 N (d.1) (d.2.1) (d.2.2)) (w53y2 N (d.1) (d.2.1) (d.2.2)) (w53y3 N (d.1) (d.2.1) (d.2.2)) (w53y4 N (d.1) (d.2.1) (d.2.2))) (fun d=>w53r1 (w53pv0 N (d.1) (d.2.1) (d.2.2)) (w53pv1 N (d.1) (d.2.1) (d.2.2)) (w53pv2 N (d.1) (d.2.1) (d.2.2)))
theorem w53ok (N:Nat):EOkP Tryd.prog 53 (w53e N):=(w107gYok N N).2.2
def w32r0 (a0:Int):Res:=(.e (.i .i64) a0,[])
abbrev w32T:=Nat×(Int→Int→(List Ex)→Option (Int))
noncomputable def w32L (N:w32T):List (Nat×Ent'):=[(32,E1 .ex  (fun x0=>((N.2 (Ex.op x0) (Ex.num x0) (Ex.kids x0)).isSome,w32r0 (((N.2 (Ex.op x0) (Ex.num x0) (Ex.kids x0)).getD 0)))))]
noncomputable def w32c (N:w32T):Cx:=⟨Tryd.prog,25,w32L N,[]⟩
noncomputable def w32b:Code:=Tryd.f32.body.getD .skip
theorem w32cx (N:w32T) (hs:EOk Tryd.prog 32 (E1 .ex  (fun x0=>((N.2 (Ex.op x0) (Ex.num x0) (Ex.kids x0)).isSome,w32r0 (((N.2 (Ex.op x0) (Ex.num x0) (Ex.kids x0)).getD 0)))))):CxOk (w32c N):=ctx_ok (by kernel_rfl) (.cons (by kernel_rfl) hs .nil) .nil
def w32F0 [Alg] (N:w32T)  (self:Int→Int→O) (k0:Int→O) (x0_1:(List Ex)) (x0_2 x0_0 x0_3:Int):O:=
 br (decide (x0_3 < x0_2))
  (gx x0_1 x0_3 fun y3=>
  ck ((N.2 y3.op y3.num y3.kids).isSome) <|
  self (IntKind.i64.wrap (x0_0+(N.2 y3.op y3.num y3.kids).getD (0:Int))) (IntKind.i64.wrap (x0_3+(1:Int))))
  (k0 x0_0)
noncomputable def w32b0:Code:=atC [1,1,0,1,0,0] w32b
def w32m0:Nm:=⟨[3,7,8,9],[],[]⟩
def w32I0 (x:Int×(List Ex)×Int×Int):Sg:=⟨[(3,.e (.i .i64) x.1),(7,.e (.sl .ex) x.2.1),(8,.e (.i .i64) x.2.2.1),(9,.e (.i .i64) x.2.2.2)],[],100⟩
def w32u0 (σ:Sg):Int×(List Ex)×Int×Int:=(lvT (.i .i64) 3 0 σ,lvT (.sl .ex) 7 0 σ,lvT (.i .i64) 8 0 σ,lvT (.i .i64) 9 0 σ)
theorem w32ui0:∀ x,w32u0 (w32I0 x)=x:=fun _=>by kernel_rfl
def w32X0_0 (y:Int):Exit×Sg:=((.exit 0),⟨[(3,.e (.i .i64) y)],[],100⟩)
def w32v0_0 (_:Exit) (σ:Sg):Int:=lvT (.i .i64) 3 0 σ
def w32w0:List (Exit×Nm):=[((.exit 0),⟨[3],[],[]⟩)]
theorem w32o0:Outs w32v0_0 (fun _ _=>()) (fun _ _=>()) w32X0_0 (noX 1) (noX 2) (exC (.exit 0)) (exC (.goto 1)) (exC (.goto 2)):=⟨fun _=>by kernel_rfl,fun _=>by kernel_rfl,fun _=>by kernel_rfl,fun _=>by kernel_rfl,fun _=>by kernel_rfl,fun _=>by kernel_rfl,exNe_ok (by kernel_rfl),exNe_ok (by kernel_rfl),exNe_ok (by kernel_rfl)⟩
def w32l0 [Alg] (N:w32T):Nat→(Int×(List Ex)×Int×Int)→((Int)→O)→((Unit)→O)→((Unit)→O)→O
 | 0,_,_,_,_=>none
 | n+1,x,k0,k1,k2=>w32F0 N  (fun v0 v1=>w32l0 N n (v0,x.2.1,x.2.2.1,v1) k0 k1 k2) (fun y0=>k0 y0) x.2.1 x.2.2.1 x.1 x.2.2.2
def w32n0 [Alg] (N:w32T) (a0:Int) (a1:(List Ex)) (a2 a3:Int) (k0:Int→O):O:=w32l0 N N.1 (a0,a1,a2,a3) (fun y=>k0 y) (fun _=>none) (fun _=>none)
noncomputable def w32s0 [Alg] (N:w32T) (a0:Int) (a1:(List Ex)) (a2 a3:Int) (k0:Int→O):O:=subL w32I0 w32u0 (w32l0 N N.1) (w32I0 (a0,a1,a2,a3)) (fun y=>k0 y) (fun _=>none) (fun _=>none)
theorem w32e0 [Alg] (N:w32T):w32s0 N=w32n0 N:=funext fun _=>funext fun _=>funext fun _=>funext fun _=>funext fun _=>subL_I w32ui0 _ _ _ _
noncomputable def w32h0 [Alg] (_:w32T):Hint:=.d
theorem w32hk0 (N:w32T):HintOk (w32c N) Tryd.f32.ntmps (w32h0 N) w32b0:=hk_of _ _ trivial
theorem w32q0 [Alg] (N:w32T) (self:Sg→O) (K:Exit→Sg→O) (x:Int×(List Ex)×Int×Int):w32F0 N  (fun v0 v1=>self (w32I0 (v0,x.2.1,x.2.2.1,v1))) (fun y0=>K (w32X0_0 y0).1 (w32X0_0 y0).2) x.2.1 x.2.2.1 x.1 x.2.2.2=exec (w32c N) Tryd.f32.ntmps (w32h0 N) w32b0 (w32I0 x) (roundX w32m0 w32w0 self K):=by kernel_rfl
theorem w32S0 (N:w32T) (hc:CxOk (w32c N)):SubOk (w32c N) Tryd.f32.ntmps (.loop w32b0) w32X0_0 (noX 1) (noX 2) (subL w32I0 w32u0 (w32l0 N N.1)):=
 sub_loop hc (w32hk0 N) w32o0 (n:=N.1) (fun x K=>loop_ind (w32l0 N) (fun _ _ _ _=>rfl) (fun n K ih x=>by
  have h:w32F0 N  (fun v0 v1=>w32l0 N n (v0,x.2.1,x.2.2.1,v1) (fun y=>K (w32X0_0 y).1 (w32X0_0 y).2) (fun y=>K ((noX 1) y).1 ((noX 1) y).2) (fun y=>K ((noX 2) y).1 ((noX 2) y).2)) (fun y0=>K (w32X0_0 y0).1 (w32X0_0 y0).2) x.2.1 x.2.2.1 x.1 x.2.2.2=w32F0 N  (fun v0 v1=>loopX (w32c N) Tryd.f32.ntmps (w32h0 N) w32b0 w32m0 w32w0 n (w32I0 (v0,x.2.1,x.2.2.1,v1)) K) (fun y0=>K (w32X0_0 y0).1 (w32X0_0 y0).2) x.2.1 x.2.2.1 x.1 x.2.2.2:=by rw [ show (fun v0 v1=>w32l0 N n (v0,x.2.1,x.2.2.1,v1) (fun y=>K (w32X0_0 y).1 (w32X0_0 y).2) (fun y=>K ((noX 1) y).1 ((noX 1) y).2) (fun y=>K ((noX 2) y).1 ((noX 2) y).2))=(fun v0 v1=>loopX (w32c N) Tryd.f32.ntmps (w32h0 N) w32b0 w32m0 w32w0 n (w32I0 (v0,x.2.1,x.2.2.1,v1)) K) from funext fun _=>funext fun _=>ih _]
  exact h.trans (w32q0 N (fun σ=>loopX (w32c N) Tryd.f32.ntmps (w32h0 N) w32b0 w32m0 w32w0 n σ K) K x)) N.1 x K)
def w32G [Alg] (_:w32T) (in0:Int→(List Ex)→Int→Int→(Int→O)→O) (_e0_0 _e0_1:Int) (C:(List Ex)):O:=
 in0 ((1:Int)) C ((↑C.length:Int)) ((0:Int))
  (fun z4=>
   some (w32r0 z4))
def w32 [Alg] (N:w32T) (A B:Int) (C:(List Ex)):O:=w32G N (w32n0 N) A B C
noncomputable def w32h [Alg] (N:w32T):Hint:=(.seq .d (.seq .d (.seq (.seq .d (.block (.sub w32m0 _ _ _ w32X0_0 (noX 1) (noX 2) (subL w32I0 w32u0 (w32l0 N N.1))))) .d)))
theorem w32hk (N:w32T) (hc:CxOk (w32c N)):HintOk (w32c N) Tryd.f32.ntmps (w32h N) w32b:=hk_of _ _ (And.intro trivial (And.intro trivial (And.intro (And.intro trivial (w32S0 N hc)) trivial)))
theorem w32q [Alg] (N:w32T) (A B:Int) (C:(List Ex)):w32G N (w32s0 N) A B C=exec (w32c N) Tryd.f32.ntmps (w32h N) w32b ⟨argT 0 [.agg [.e (.i .i64) A,.e (.i .i64) B,.e (.sl .ex) C]],[],100⟩ (finX (w32c N) Tryd.f32 false):=by kernel_rfl
theorem w32does {N:w32T} (hc:CxOk (w32c N)) {A B:Int} {C:(List Ex)} {r:Res} (h:w32 N A B C=some r):DoesR Tryd.prog 32 (([.agg [.e (.i .i64) A,.e (.i .i64) B,.e (.sl .ex) C]]:List X).map X.D) (HA []) r:=
 fun_ok hc (f:=32) (fn:=Tryd.f32) (code:=w32b) (by kernel_rfl) (by kernel_rfl) (w32hk N hc) (Nat.le_of_ble_eq_true (by kernel_rfl)) (ow:=false) ((w32q N A B C).symm.trans (by rw [w32e0 N];exact h))
def w32un (r:Res):Option (Int):=match r with
 | (x0,[])=>(match ue (.i .i64) x0 with | some a0=>some a0 | _=>none)
 | _=>none
theorem w32uo {r:Res} {d:Int} (h:w32un r=some d):r=w32r0 (d):=by
 unfold w32un at h
 split at h
 ·split at h
  ·rename_i h0;cases h;rw [ue_some h0];rfl
  ·cases h
 ·cases h
def w32z (N:w32T) (A B:Int) (C:(List Ex)):Option (Int):=(w32 N A B C).bind w32un
theorem w32fin {N:w32T} (hc:CxOk (w32c N)) {A B:Int} {C:(List Ex)} {d:Int} (hd:w32z N A B C=some d):Does Tryd.prog 32 (([.agg [.e (.i .i64) A,.e (.i .i64) B,.e (.sl .ex) C]]:List X).map X.D) (HA []) (w32r0 (d)).1.D (HA (w32r0 (d)).2):=by
 obtain ⟨r,hr,hu⟩:=Option.bind_eq_some_iff.1 hd
 have:=w32does hc hr
 rw [w32uo hu] at this
 exact this
def w32Y (N:Nat):Nat→Int→Int→(List Ex)→Option (Int)
 | 0,_,_,_=>none
 | n+1,A,B,C=>w32z (N,w32Y N n) A B C
theorem w32Yok (N:Nat):∀ n,EOk Tryd.prog 32 (E1 .ex  (fun x0=>((w32Y N n (Ex.op x0) (Ex.num x0) (Ex.kids x0)).isSome,w32r0 (((w32Y N n (Ex.op x0) (Ex.num x0) (Ex.kids x0)).getD 0)))))
 | 0=>EOk.e1 (fun _ h=>by cases h)
 | n+1=>EOk.e1 (fun x0 h=>by
   obtain ⟨d,hd⟩:=Option.isSome_iff_exists.1 h
   have hd':w32Y N (n+1) (Ex.op x0) (Ex.num x0) (Ex.kids x0)=some d:=hd
   have e:w32r0 (((w32Y N (n+1) (Ex.op x0) (Ex.num x0) (Ex.kids x0)).getD 0))=w32r0 (d):=by rw [hd'];rfl
   show Does _ _ _ _ (w32r0 (((w32Y N (n+1) (Ex.op x0) (Ex.num x0) (Ex.kids x0)).getD 0))).1.D (HA (w32r0 (((w32Y N (n+1) (Ex.op x0) (Ex.num x0) (Ex.kids x0)).getD 0))).2)
   rw [e]
   exact w32fin (N:=(N,w32Y N n)) (w32cx (N,w32Y N n) (w32Yok N n)) hd')
def w32p (N:Nat) (A B:Int) (C:(List Ex)):Bool:=(w32Y N N A B C).isSome
def w32y0 (N:Nat) (A B:Int) (C:(List Ex)):Int:=((w32Y N N A B C).getD 0)
def w32e (N:Nat):Ent':=E1 .ex  (fun x0=>(w32p N (Ex.op x0) (Ex.num x0) (Ex.kids x0),w32r0 (w32y0 N (Ex.op x0) (Ex.num x0) (Ex.kids x0))))
theorem w32ok (N:Nat):EOk Tryd.prog 32 (w32e N):=w32Yok N N
def w34r0 (a0:Int):Res:=(.e (.i .i64) a0,[])
noncomputable def w34L (N:w32T):List (Nat×Ent'):=[(34,E1 .ex  (fun x0=>((N.2 (Ex.op x0) (Ex.num x0) (Ex.kids x0)).isSome,w34r0 (((N.2 (Ex.op x0) (Ex.num x0) (Ex.kids x0)).getD 0)))))]
noncomputable def w34c (N:w32T):Cx:=⟨Tryd.prog,25,w34L N,[]⟩
noncomputable def w34b:Code:=Tryd.f34.body.getD .skip
theorem w34cx (N:w32T) (hs:EOk Tryd.prog 34 (E1 .ex  (fun x0=>((N.2 (Ex.op x0) (Ex.num x0) (Ex.kids x0)).isSome,w34r0 (((N.2 (Ex.op x0) (Ex.num x0) (Ex.kids x0)).getD 0)))))):CxOk (w34c N):=ctx_ok (by kernel_rfl) (.cons (by kernel_rfl) hs .nil) .nil
def w34F0 [Alg] (N:w32T)  (self:Int→Int→O) (k0:Int→O) (x0_1:(List Ex)) (x0_2 x0_0 x0_3:Int):O:=
 br (decide (x0_3 < x0_2))
  (gx x0_1 x0_3 fun y3=>
  ck ((N.2 y3.op y3.num y3.kids).isSome) <|
  self (max x0_0 ((N.2 y3.op y3.num y3.kids).getD (0:Int))) (IntKind.i64.wrap (x0_3+(1:Int))))
  (k0 x0_0)
noncomputable def w34b0:Code:=atC [1,1,0,1,0,0] w34b
def w34m0:Nm:=⟨[3,7,8,9],[],[]⟩
def w34I0 (x:Int×(List Ex)×Int×Int):Sg:=⟨[(3,.e (.i .i64) x.1),(7,.e (.sl .ex) x.2.1),(8,.e (.i .i64) x.2.2.1),(9,.e (.i .i64) x.2.2.2)],[],100⟩
def w34u0 (σ:Sg):Int×(List Ex)×Int×Int:=(lvT (.i .i64) 3 0 σ,lvT (.sl .ex) 7 0 σ,lvT (.i .i64) 8 0 σ,lvT (.i .i64) 9 0 σ)
theorem w34ui0:∀ x,w34u0 (w34I0 x)=x:=fun _=>by kernel_rfl
def w34X0_0 (y:Int):Exit×Sg:=((.exit 0),⟨[(3,.e (.i .i64) y)],[],100⟩)
def w34v0_0 (_:Exit) (σ:Sg):Int:=lvT (.i .i64) 3 0 σ
def w34w0:List (Exit×Nm):=[((.exit 0),⟨[3],[],[]⟩)]
theorem w34o0:Outs w34v0_0 (fun _ _=>()) (fun _ _=>()) w34X0_0 (noX 1) (noX 2) (exC (.exit 0)) (exC (.goto 1)) (exC (.goto 2)):=⟨fun _=>by kernel_rfl,fun _=>by kernel_rfl,fun _=>by kernel_rfl,fun _=>by kernel_rfl,fun _=>by kernel_rfl,fun _=>by kernel_rfl,exNe_ok (by kernel_rfl),exNe_ok (by kernel_rfl),exNe_ok (by kernel_rfl)⟩
def w34l0 [Alg] (N:w32T):Nat→(Int×(List Ex)×Int×Int)→((Int)→O)→((Unit)→O)→((Unit)→O)→O
 | 0,_,_,_,_=>none
 | n+1,x,k0,k1,k2=>w34F0 N  (fun v0 v1=>w34l0 N n (v0,x.2.1,x.2.2.1,v1) k0 k1 k2) (fun y0=>k0 y0) x.2.1 x.2.2.1 x.1 x.2.2.2
def w34n0 [Alg] (N:w32T) (a0:Int) (a1:(List Ex)) (a2 a3:Int) (k0:Int→O):O:=w34l0 N N.1 (a0,a1,a2,a3) (fun y=>k0 y) (fun _=>none) (fun _=>none)
noncomputable def w34s0 [Alg] (N:w32T) (a0:Int) (a1:(List Ex)) (a2 a3:Int) (k0:Int→O):O:=subL w34I0 w34u0 (w34l0 N N.1) (w34I0 (a0,a1,a2,a3)) (fun y=>k0 y) (fun _=>none) (fun _=>none)
theorem w34e0 [Alg] (N:w32T):w34s0 N=w34n0 N:=funext fun _=>funext fun _=>funext fun _=>funext fun _=>funext fun _=>subL_I w34ui0 _ _ _ _
noncomputable def w34h0 [Alg] (_:w32T):Hint:=.d
theorem w34hk0 (N:w32T):HintOk (w34c N) Tryd.f34.ntmps (w34h0 N) w34b0:=hk_of _ _ trivial
theorem w34q0 [Alg] (N:w32T) (self:Sg→O) (K:Exit→Sg→O) (x:Int×(List Ex)×Int×Int):w34F0 N  (fun v0 v1=>self (w34I0 (v0,x.2.1,x.2.2.1,v1))) (fun y0=>K (w34X0_0 y0).1 (w34X0_0 y0).2) x.2.1 x.2.2.1 x.1 x.2.2.2=exec (w34c N) Tryd.f34.ntmps (w34h0 N) w34b0 (w34I0 x) (roundX w34m0 w34w0 self K):=by kernel_rfl
theorem w34S0 (N:w32T) (hc:CxOk (w34c N)):SubOk (w34c N) Tryd.f34.ntmps (.loop w34b0) w34X0_0 (noX 1) (noX 2) (subL w34I0 w34u0 (w34l0 N N.1)):=
 sub_loop hc (w34hk0 N) w34o0 (n:=N.1) (fun x K=>loop_ind (w34l0 N) (fun _ _ _ _=>rfl) (fun n K ih x=>by
  have h:w34F0 N  (fun v0 v1=>w34l0 N n (v0,x.2.1,x.2.2.1,v1) (fun y=>K (w34X0_0 y).1 (w34X0_0 y).2) (fun y=>K ((noX 1) y).1 ((noX 1) y).2) (fun y=>K ((noX 2) y).1 ((noX 2) y).2)) (fun y0=>K (w34X0_0 y0).1 (w34X0_0 y0).2) x.2.1 x.2.2.1 x.1 x.2.2.2=w34F0 N  (fun v0 v1=>loopX (w34c N) Tryd.f34.ntmps (w34h0 N) w34b0 w34m0 w34w0 n (w34I0 (v0,x.2.1,x.2.2.1,v1)) K) (fun y0=>K (w34X0_0 y0).1 (w34X0_0 y0).2) x.2.1 x.2.2.1 x.1 x.2.2.2:=by rw [ show (fun v0 v1=>w34l0 N n (v0,x.2.1,x.2.2.1,v1) (fun y=>K (w34X0_0 y).1 (w34X0_0 y).2) (fun y=>K ((noX 1) y).1 ((noX 1) y).2) (fun y=>K ((noX 2) y).1 ((noX 2) y).2))=(fun v0 v1=>loopX (w34c N) Tryd.f34.ntmps (w34h0 N) w34b0 w34m0 w34w0 n (w34I0 (v0,x.2.1,x.2.2.1,v1)) K) from funext fun _=>funext fun _=>ih _]
  exact h.trans (w34q0 N (fun σ=>loopX (w34c N) Tryd.f34.ntmps (w34h0 N) w34b0 w34m0 w34w0 n σ K) K x)) N.1 x K)
def w34G [Alg] (_:w32T) (in0:Int→(List Ex)→Int→Int→(Int→O)→O) (_e0_0 _e0_1:Int) (C:(List Ex)):O:=
 in0 ((0:Int)) C ((↑C.length:Int)) ((0:Int))
  (fun z4=>
   some (w34r0 (IntKind.i64.wrap (z4+(1:Int)))))
def w34 [Alg] (N:w32T) (A B:Int) (C:(List Ex)):O:=w34G N (w34n0 N) A B C
noncomputable def w34h [Alg] (N:w32T):Hint:=(.seq .d (.seq .d (.seq (.seq .d (.block (.sub w34m0 _ _ _ w34X0_0 (noX 1) (noX 2) (subL w34I0 w34u0 (w34l0 N N.1))))) .d)))
theorem w34hk (N:w32T) (hc:CxOk (w34c N)):HintOk (w34c N) Tryd.f34.ntmps (w34h N) w34b:=hk_of _ _ (And.intro trivial (And.intro trivial (And.intro (And.intro trivial (w34S0 N hc)) trivial)))
theorem w34q [Alg] (N:w32T) (A B:Int) (C:(List Ex)):w34G N (w34s0 N) A B C=exec (w34c N) Tryd.f34.ntmps (w34h N) w34b ⟨argT 0 [.agg [.e (.i .i64) A,.e (.i .i64) B,.e (.sl .ex) C]],[],100⟩ (finX (w34c N) Tryd.f34 false):=by kernel_rfl
theorem w34does {N:w32T} (hc:CxOk (w34c N)) {A B:Int} {C:(List Ex)} {r:Res} (h:w34 N A B C=some r):DoesR Tryd.prog 34 (([.agg [.e (.i .i64) A,.e (.i .i64) B,.e (.sl .ex) C]]:List X).map X.D) (HA []) r:=
 fun_ok hc (f:=34) (fn:=Tryd.f34) (code:=w34b) (by kernel_rfl) (by kernel_rfl) (w34hk N hc) (Nat.le_of_ble_eq_true (by kernel_rfl)) (ow:=false) ((w34q N A B C).symm.trans (by rw [w34e0 N];exact h))
def w34un (r:Res):Option (Int):=match r with
 | (x0,[])=>(match ue (.i .i64) x0 with | some a0=>some a0 | _=>none)
 | _=>none
theorem w34uo {r:Res} {d:Int} (h:w34un r=some d):r=w34r0 (d):=by
 unfold w34un at h
 split at h
 ·split at h
  ·rename_i h0;cases h;rw [ue_some h0];rfl
  ·cases h
 ·cases h
def w34z (N:w32T) (A B:Int) (C:(List Ex)):Option (Int):=(w34 N A B C).bind w34un
theorem w34fin {N:w32T} (hc:CxOk (w34c N)) {A B:Int} {C:(List Ex)} {d:Int} (hd:w34z N A B C=some d):Does Tryd.prog 34 (([.agg [.e (.i .i64) A,.e (.i .i64) B,.e (.sl .ex) C]]:List X).map X.D) (HA []) (w34r0 (d)).1.D (HA (w34r0 (d)).2):=by
 obtain ⟨r,hr,hu⟩:=Option.bind_eq_some_iff.1 hd
 have:=w34does hc hr
 rw [w34uo hu] at this
 exact this
def w34Y (N:Nat):Nat→Int→Int→(List Ex)→Option (Int)
 | 0,_,_,_=>none
 | n+1,A,B,C=>w34z (N,w34Y N n) A B C
theorem w34Yok (N:Nat):∀ n,EOk Tryd.prog 34 (E1 .ex  (fun x0=>((w34Y N n (Ex.op x0) (Ex.num x0) (Ex.kids x0)).isSome,w34r0 (((w34Y N n (Ex.op x0) (Ex.num x0) (Ex.kids x0)).getD 0)))))
 | 0=>EOk.e1 (fun _ h=>by cases h)
 | n+1=>EOk.e1 (fun x0 h=>by
   obtain ⟨d,hd⟩:=Option.isSome_iff_exists.1 h
   have hd':w34Y N (n+1) (Ex.op x0) (Ex.num x0) (Ex.kids x0)=some d:=hd
   have e:w34r0 (((w34Y N (n+1) (Ex.op x0) (Ex.num x0) (Ex.kids x0)).getD 0))=w34r0 (d):=by rw [hd'];rfl
   show Does _ _ _ _ (w34r0 (((w34Y N (n+1) (Ex.op x0) (Ex.num x0) (Ex.kids x0)).getD 0))).1.D (HA (w34r0 (((w34Y N (n+1) (Ex.op x0) (Ex.num x0) (Ex.kids x0)).getD 0))).2)
   rw [e]
   exact w34fin (N:=(N,w34Y N n)) (w34cx (N,w34Y N n) (w34Yok N n)) hd')
def w34p (N:Nat) (A B:Int) (C:(List Ex)):Bool:=(w34Y N N A B C).isSome
def w34y0 (N:Nat) (A B:Int) (C:(List Ex)):Int:=((w34Y N N A B C).getD 0)
def w34e (N:Nat):Ent':=E1 .ex  (fun x0=>(w34p N (Ex.op x0) (Ex.num x0) (Ex.kids x0),w34r0 (w34y0 N (Ex.op x0) (Ex.num x0) (Ex.kids x0))))
theorem w34ok (N:Nat):EOk Tryd.prog 34 (w34e N):=w34Yok N N
def w89r0 (a0:Bool):Res:=(.e .bo a0,[])
def w89in (xs:List X) (H:XH):Option (Int×Int×(List Ex)):=match xs,H with
 | [.agg [x0,x1,x2]],[]=>(match ue (.i .i64) x0,ue (.i .i64) x1,ue (.sl .ex) x2 with | some a0,some a1,some a2=>some (a0,a1,a2) | _,_,_=>none)
 | _,_=>none
theorem w89io {xs:List X} {H:XH} {d:Int×Int×(List Ex)} (h:w89in xs H=some d):xs=[.agg [.e (.i .i64) (d.1),.e (.i .i64) (d.2.1),.e (.sl .ex) (d.2.2)]]∧H=[]:=by
 unfold w89in at h
 split at h
 ·split at h
  ·rename_i h0 h1 h2;cases h;rw [ue_some h0,ue_some h1,ue_some h2];exact ⟨rfl,rfl⟩
  ·cases h
 ·cases h
abbrev w89T:=Nat×((Int→Int→(List Ex)→Option (Bool))×((List Ex)→Option (Int))×((List Ex)→Option (Bool))×(Int→Int→(List Ex)→Bool→Option (Bool)))
def w89E (N:w89T):Ent':=entR w89in (fun d=>(N.2.1 (d.1) (d.2.1) (d.2.2)).isSome) (fun d=>w89r0 (((N.2.1 (d.1) (d.2.1) (d.2.2)).getD false)))
def w108r0 (a0:Int):Res:=(.e (.i .i64) a0,[])
def w108in (xs:List X) (H:XH):Option ((List Ex)):=match xs,H with
 | [x0,.fn 89 []],[]=>(match ue (.sl .ex) x0 with | some a0=>some a0 | _=>none)
 | _,_=>none
theorem w108io {xs:List X} {H:XH} {d:(List Ex)} (h:w108in xs H=some d):xs=[.e (.sl .ex) (d),.fn 89 []]∧H=[]:=by
 unfold w108in at h
 split at h
 ·split at h
  ·rename_i h0;cases h;rw [ue_some h0];exact ⟨rfl,rfl⟩
  ·cases h
 ·cases h
def w108E (N:w89T):Ent':=entR w108in (fun d=>(N.2.2.1 (d)).isSome) (fun d=>w108r0 (((N.2.2.1 (d)).getD 0)))
def w88r0 (a0:Bool):Res:=(.e .bo a0,[])
def w88in (xs:List X) (H:XH):Option ((List Ex)):=match xs,H with
 | [x0,.fn 89 []],[]=>(match ue (.sl .ex) x0 with | some a0=>some a0 | _=>none)
 | _,_=>none
theorem w88io {xs:List X} {H:XH} {d:(List Ex)} (h:w88in xs H=some d):xs=[.e (.sl .ex) (d),.fn 89 []]∧H=[]:=by
 unfold w88in at h
 split at h
 ·split at h
  ·rename_i h0;cases h;rw [ue_some h0];exact ⟨rfl,rfl⟩
  ·cases h
 ·cases h
def w88E (N:w89T):Ent':=entR w88in (fun d=>(N.2.2.2.1 (d)).isSome) (fun d=>w88r0 (((N.2.2.2.1 (d)).getD false)))
def w56r0 (a0:Bool):Res:=(.e .bo a0,[])
def w56in (xs:List X) (H:XH):Option (Int×Int×(List Ex)×Bool):=match xs,H with
 | [.agg [x0,x1,x2],x3],[]=>(match ue (.i .i64) x0,ue (.i .i64) x1,ue (.sl .ex) x2,ue .bo x3 with | some a0,some a1,some a2,some a3=>some (a0,a1,a2,a3) | _,_,_,_=>none)
 | _,_=>none
theorem w56io {xs:List X} {H:XH} {d:Int×Int×(List Ex)×Bool} (h:w56in xs H=some d):xs=[.agg [.e (.i .i64) (d.1),.e (.i .i64) (d.2.1),.e (.sl .ex) (d.2.2.1)],.e .bo (d.2.2.2)]∧H=[]:=by
 unfold w56in at h
 split at h
 ·split at h
  ·rename_i h0 h1 h2 h3;cases h;rw [ue_some h0,ue_some h1,ue_some h2,ue_some h3];exact ⟨rfl,rfl⟩
  ·cases h
 ·cases h
def w56E (N:w89T):Ent':=entR w56in (fun d=>(N.2.2.2.2 (d.1) (d.2.1) (d.2.2.1) (d.2.2.2)).isSome) (fun d=>w56r0 (((N.2.2.2.2 (d.1) (d.2.1) (d.2.2.1) (d.2.2.2)).getD false)))
noncomputable def w89L (N:w89T):List (Nat×Ent'):=[(89,w89E N),(108,w108E N),(88,w88E N),(56,w56E N)]
noncomputable def w89c (N:w89T):Cx:=⟨Tryd.prog,25,w89L N,[]⟩
noncomputable def w89b:Code:=Tryd.f89.body.getD .skip
theorem w89cx (N:w89T) (hw89:EOk Tryd.prog 89 (w89E N)) (hw108:EOk Tryd.prog 108 (w108E N)) (hw88:EOk Tryd.prog 88 (w88E N)) (hw56:EOk Tryd.prog 56 (w56E N)):CxOk (w89c N):=ctx_ok (by kernel_rfl) (.cons (by kernel_rfl) hw89 (.cons (by kernel_rfl) hw108 (.cons (by kernel_rfl) hw88 (.cons (by kernel_rfl) hw56 .nil)))) .nil
def w89G [Alg] (N:w89T)  (k0_0 k0_1:Int) (k0_2:(List Ex)):O:=
 ck ((N.snd.snd.snd.2 k0_0 k0_1 k0_2 false).isSome) <|
 some (w89r0 (!(N.snd.snd.snd.2 k0_0 k0_1 k0_2 false).getD false))
def w89 [Alg] (N:w89T) (k0_0 k0_1:Int) (k0_2:(List Ex)):O:=w89G N  k0_0 k0_1 k0_2
noncomputable def w89h [Alg] (_:w89T):Hint:=.d
theorem w89hk (N:w89T):HintOk (w89c N) Tryd.f89.ntmps (w89h N) w89b:=hk_of _ _ trivial
theorem w89q [Alg] (N:w89T) (k0_0 k0_1:Int) (k0_2:(List Ex)):w89G N  k0_0 k0_1 k0_2=exec (w89c N) Tryd.f89.ntmps (w89h N) w89b ⟨argT 0 [.agg [.e (.i .i64) k0_0,.e (.i .i64) k0_1,.e (.sl .ex) k0_2]],[],100⟩ (finX (w89c N) Tryd.f89 false):=by kernel_rfl
theorem w89does {N:w89T} (hc:CxOk (w89c N)) {k0_0 k0_1:Int} {k0_2:(List Ex)} {r:Res} (h:w89 N k0_0 k0_1 k0_2=some r):DoesR Tryd.prog 89 (([.agg [.e (.i .i64) k0_0,.e (.i .i64) k0_1,.e (.sl .ex) k0_2]]:List X).map X.D) (HA []) r:=
 fun_ok hc (f:=89) (fn:=Tryd.f89) (code:=w89b) (by kernel_rfl) (by kernel_rfl) (w89hk N) (Nat.le_of_ble_eq_true (by kernel_rfl)) (ow:=false) ((w89q N k0_0 k0_1 k0_2).symm.trans (by exact h))
def w89un (r:Res):Option (Bool):=match r with
 | (x0,[])=>(match ue .bo x0 with | some a0=>some a0 | _=>none)
 | _=>none
theorem w89uo {r:Res} {d:Bool} (h:w89un r=some d):r=w89r0 (d):=by
 unfold w89un at h
 split at h
 ·split at h
  ·rename_i h0;cases h;rw [ue_some h0];rfl
  ·cases h
 ·cases h
def w89z (N:w89T) (k0_0 k0_1:Int) (k0_2:(List Ex)):Option (Bool):=(w89 N k0_0 k0_1 k0_2).bind w89un
theorem w89fin {N:w89T} (hc:CxOk (w89c N)) {k0_0 k0_1:Int} {k0_2:(List Ex)} {d:Bool} (hd:w89z N k0_0 k0_1 k0_2=some d):Does Tryd.prog 89 (([.agg [.e (.i .i64) k0_0,.e (.i .i64) k0_1,.e (.sl .ex) k0_2]]:List X).map X.D) (HA []) (w89r0 (d)).1.D (HA (w89r0 (d)).2):=by
 obtain ⟨r,hr,hu⟩:=Option.bind_eq_some_iff.1 hd
 have:=w89does hc hr
 rw [w89uo hu] at this
 exact this
noncomputable def w108L (N:w89T):List (Nat×Ent'):=[(89,w89E N),(108,w108E N),(88,w88E N),(56,w56E N)]
noncomputable def w108c (N:w89T):Cx:=⟨Tryd.prog,25,w108L N,[]⟩
noncomputable def w108b:Code:=Tryd.f108.body.getD .skip
theorem w108cx (N:w89T) (hw89:EOk Tryd.prog 89 (w89E N)) (hw108:EOk Tryd.prog 108 (w108E N)) (hw88:EOk Tryd.prog 88 (w88E N)) (hw56:EOk Tryd.prog 56 (w56E N)):CxOk (w108c N):=ctx_ok (by kernel_rfl) (.cons (by kernel_rfl) hw89 (.cons (by kernel_rfl) hw108 (.cons (by kernel_rfl) hw88 (.cons (by kernel_rfl) hw56 .nil)))) .nil
def w108F0 [Alg] (N:w89T)  (self:Int→O) (k0:Int→O) (k1:Unit→O) (x0_0:(List Ex)) (x0_1 x0_2:Int):O:=
 br (decide (x0_2 < x0_1))
  (gx x0_0 x0_2 fun y3=>
  ck ((N.snd.1 y3.op y3.num y3.kids).isSome) <|
  br ((N.snd.1 y3.op y3.num y3.kids).getD false)
   (k0 x0_2)
   (self (IntKind.i64.wrap (x0_2+(1:Int)))))
  (k1 ())
noncomputable def w108b0:Code:=atC [1,0,1,0,0] w108b
def w108m0:Nm:=⟨[0,1,7,8],[],[]⟩
def w108I0 (x:(List Ex)×Int×Int):Sg:=⟨[(0,.e (.sl .ex) x.1),(1,.fn 89 []),(7,.e (.i .i64) x.2.1),(8,.e (.i .i64) x.2.2)],[],100⟩
def w108u0 (σ:Sg):(List Ex)×Int×Int:=(lvT (.sl .ex) 0 0 σ,lvT (.i .i64) 7 0 σ,lvT (.i .i64) 8 0 σ)
theorem w108ui0:∀ x,w108u0 (w108I0 x)=x:=fun _=>by kernel_rfl
def w108X0_0 (y:Int):Exit×Sg:=(.ret,⟨[(4,.e (.i .i64) y)],[],100⟩)
def w108v0_0 (_:Exit) (σ:Sg):Int:=lvT (.i .i64) 4 0 σ
def w108X0_1 (_:Unit):Exit×Sg:=((.exit 0),⟨[],[],100⟩)
def w108v0_1 (_:Exit) (_:Sg):Unit:=()
def w108w0:List (Exit×Nm):=[(.ret,⟨[4],[],[]⟩),((.exit 0),⟨[],[],[]⟩)]
theorem w108o0:Outs w108v0_0 w108v0_1 (fun _ _=>()) w108X0_0 w108X0_1 (noX 2) (exC .ret) (exC (.exit 0)) (exC (.goto 2)):=⟨fun _=>by kernel_rfl,fun _=>by kernel_rfl,fun _=>by kernel_rfl,fun _=>by kernel_rfl,fun _=>by kernel_rfl,fun _=>by kernel_rfl,exNe_ok (by kernel_rfl),exNe_ok (by kernel_rfl),exNe_ok (by kernel_rfl)⟩
def w108l0 [Alg] (N:w89T):Nat→((List Ex)×Int×Int)→((Int)→O)→((Unit)→O)→((Unit)→O)→O
 | 0,_,_,_,_=>none
 | n+1,x,k0,k1,k2=>w108F0 N  (fun v0=>w108l0 N n (x.1,x.2.1,v0) k0 k1 k2) (fun y0=>k0 y0) (fun (_:Unit)=>k1 ()) x.1 x.2.1 x.2.2
def w108n0 [Alg] (N:w89T) (a0:(List Ex)) (a1 a2:Int) (k0:Int→O) (k1:Unit→O):O:=w108l0 N N.1 (a0,a1,a2) (fun y=>k0 y) (fun y=>k1 y) (fun _=>none)
noncomputable def w108s0 [Alg] (N:w89T) (a0:(List Ex)) (a1 a2:Int) (k0:Int→O) (k1:Unit→O):O:=subL w108I0 w108u0 (w108l0 N N.1) (w108I0 (a0,a1,a2)) (fun y=>k0 y) (fun y=>k1 y) (fun _=>none)
theorem w108e0 [Alg] (N:w89T):w108s0 N=w108n0 N:=funext fun _=>funext fun _=>funext fun _=>funext fun _=>funext fun _=>subL_I w108ui0 _ _ _ _
noncomputable def w108h0 [Alg] (_:w89T):Hint:=.d
theorem w108hk0 (N:w89T):HintOk (w108c N) Tryd.f108.ntmps (w108h0 N) w108b0:=hk_of _ _ trivial
theorem w108q0 [Alg] (N:w89T) (self:Sg→O) (K:Exit→Sg→O) (x:(List Ex)×Int×Int):w108F0 N  (fun v0=>self (w108I0 (x.1,x.2.1,v0))) (fun y0=>K (w108X0_0 y0).1 (w108X0_0 y0).2) (fun (_:Unit)=>K (w108X0_1 ()).1 (w108X0_1 ()).2) x.1 x.2.1 x.2.2=exec (w108c N) Tryd.f108.ntmps (w108h0 N) w108b0 (w108I0 x) (roundX w108m0 w108w0 self K):=by kernel_rfl
theorem w108S0 (N:w89T) (hc:CxOk (w108c N)):SubOk (w108c N) Tryd.f108.ntmps (.loop w108b0) w108X0_0 w108X0_1 (noX 2) (subL w108I0 w108u0 (w108l0 N N.1)):=
 sub_loop hc (w108hk0 N) w108o0 (n:=N.1) (fun x K=>loop_ind (w108l0 N) (fun _ _ _ _=>rfl) (fun n K ih x=>by
  have h:w108F0 N  (fun v0=>w108l0 N n (x.1,x.2.1,v0) (fun y=>K (w108X0_0 y).1 (w108X0_0 y).2) (fun y=>K (w108X0_1 y).1 (w108X0_1 y).2) (fun y=>K ((noX 2) y).1 ((noX 2) y).2)) (fun y0=>K (w108X0_0 y0).1 (w108X0_0 y0).2) (fun (_:Unit)=>K (w108X0_1 ()).1 (w108X0_1 ()).2) x.1 x.2.1 x.2.2=w108F0 N  (fun v0=>loopX (w108c N) Tryd.f108.ntmps (w108h0 N) w108b0 w108m0 w108w0 n (w108I0 (x.1,x.2.1,v0)) K) (fun y0=>K (w108X0_0 y0).1 (w108X0_0 y0).2) (fun (_:Unit)=>K (w108X0_1 ()).1 (w108X0_1 ()).2) x.1 x.2.1 x.2.2:=by rw [ show (fun v0=>w108l0 N n (x.1,x.2.1,v0) (fun y=>K (w108X0_0 y).1 (w108X0_0 y).2) (fun y=>K (w108X0_1 y).1 (w108X0_1 y).2) (fun y=>K ((noX 2) y).1 ((noX 2) y).2))=(fun v0=>loopX (w108c N) Tryd.f108.ntmps (w108h0 N) w108b0 w108m0 w108w0 n (w108I0 (x.1,x.2.1,v0)) K) from funext fun _=>ih _]
  exact h.trans (w108q0 N (fun σ=>loopX (w108c N) Tryd.f108.ntmps (w108h0 N) w108b0 w108m0 w108w0 n σ K) K x)) N.1 x K)
def w108G [Alg] (_:w89T) (in0:(List Ex)→Int→Int→(Int→O)→(Unit→O)→O) (s0:(List Ex)):O:=
 in0 s0 ((↑s0.length:Int)) ((0:Int))
  (fun z4=>
   some (w108r0 z4))
  (fun (_:Unit)=>
   some (w108r0 ((-1:Int))))
def w108 [Alg] (N:w89T) (s0:(List Ex)):O:=w108G N (w108n0 N) s0
noncomputable def w108h [Alg] (N:w89T):Hint:=(.seq .d (.seq (.seq .d (.block (.sub w108m0 _ _ _ w108X0_0 w108X0_1 (noX 2) (subL w108I0 w108u0 (w108l0 N N.1))))) .d))
theorem w108hk (N:w89T) (hc:CxOk (w108c N)):HintOk (w108c N) Tryd.f108.ntmps (w108h N) w108b:=hk_of _ _ (And.intro trivial (And.intro (And.intro trivial (w108S0 N hc)) trivial))
theorem w108q [Alg] (N:w89T) (s0:(List Ex)):w108G N (w108s0 N) s0=exec (w108c N) Tryd.f108.ntmps (w108h N) w108b ⟨argT 0 [.e (.sl .ex) s0,.fn 89 []],[],100⟩ (finX (w108c N) Tryd.f108 false):=by kernel_rfl
theorem w108does {N:w89T} (hc:CxOk (w108c N)) {s0:(List Ex)} {r:Res} (h:w108 N s0=some r):DoesR Tryd.prog 108 (([.e (.sl .ex) s0,.fn 89 []]:List X).map X.D) (HA []) r:=
 fun_ok hc (f:=108) (fn:=Tryd.f108) (code:=w108b) (by kernel_rfl) (by kernel_rfl) (w108hk N hc) (Nat.le_of_ble_eq_true (by kernel_rfl)) (ow:=false) ((w108q N s0).symm.trans (by rw [w108e0 N];exact h))
def w108un (r:Res):Option (Int):=match r with
 | (x0,[])=>(match ue (.i .i64) x0 with | some a0=>some a0 | _=>none)
 | _=>none
theorem w108uo {r:Res} {d:Int} (h:w108un r=some d):r=w108r0 (d):=by
 unfold w108un at h
 split at h
 ·split at h
  ·rename_i h0;cases h;rw [ue_some h0];rfl
  ·cases h
 ·cases h
def w108z (N:w89T) (s0:(List Ex)):Option (Int):=(w108 N s0).bind w108un
theorem w108fin {N:w89T} (hc:CxOk (w108c N)) {s0:(List Ex)} {d:Int} (hd:w108z N s0=some d):Does Tryd.prog 108 (([.e (.sl .ex) s0,.fn 89 []]:List X).map X.D) (HA []) (w108r0 (d)).1.D (HA (w108r0 (d)).2):=by
 obtain ⟨r,hr,hu⟩:=Option.bind_eq_some_iff.1 hd
 have:=w108does hc hr
 rw [w108uo hu] at this
 exact this
noncomputable def w88L (N:w89T):List (Nat×Ent'):=[(89,w89E N),(108,w108E N),(88,w88E N),(56,w56E N)]
noncomputable def w88c (N:w89T):Cx:=⟨Tryd.prog,25,w88L N,[]⟩
noncomputable def w88b:Code:=Tryd.f88.body.getD .skip
theorem w88cx (N:w89T) (hw89:EOk Tryd.prog 89 (w89E N)) (hw108:EOk Tryd.prog 108 (w108E N)) (hw88:EOk Tryd.prog 88 (w88E N)) (hw56:EOk Tryd.prog 56 (w56E N)):CxOk (w88c N):=ctx_ok (by kernel_rfl) (.cons (by kernel_rfl) hw89 (.cons (by kernel_rfl) hw108 (.cons (by kernel_rfl) hw88 (.cons (by kernel_rfl) hw56 .nil)))) .nil
def w88G [Alg] (N:w89T)  (s0:(List Ex)):O:=
 ck ((N.snd.snd.1 s0).isSome) <|
 some (w88r0 (decide ((0:Int)≤(N.snd.snd.1 s0).getD (0:Int))))
def w88 [Alg] (N:w89T) (s0:(List Ex)):O:=w88G N  s0
noncomputable def w88h [Alg] (_:w89T):Hint:=.d
theorem w88hk (N:w89T):HintOk (w88c N) Tryd.f88.ntmps (w88h N) w88b:=hk_of _ _ trivial
theorem w88q [Alg] (N:w89T) (s0:(List Ex)):w88G N  s0=exec (w88c N) Tryd.f88.ntmps (w88h N) w88b ⟨argT 0 [.e (.sl .ex) s0,.fn 89 []],[],100⟩ (finX (w88c N) Tryd.f88 false):=by kernel_rfl
theorem w88does {N:w89T} (hc:CxOk (w88c N)) {s0:(List Ex)} {r:Res} (h:w88 N s0=some r):DoesR Tryd.prog 88 (([.e (.sl .ex) s0,.fn 89 []]:List X).map X.D) (HA []) r:=
 fun_ok hc (f:=88) (fn:=Tryd.f88) (code:=w88b) (by kernel_rfl) (by kernel_rfl) (w88hk N) (Nat.le_of_ble_eq_true (by kernel_rfl)) (ow:=false) ((w88q N s0).symm.trans (by exact h))
def w88un (r:Res):Option (Bool):=match r with
 | (x0,[])=>(match ue .bo x0 with | some a0=>some a0 | _=>none)
 | _=>none
theorem w88uo {r:Res} {d:Bool} (h:w88un r=some d):r=w88r0 (d):=by
 unfold w88un at h
 split at h
 ·split at h
  ·rename_i h0;cases h;rw [ue_some h0];rfl
  ·cases h
 ·cases h
def w88z (N:w89T) (s0:(List Ex)):Option (Bool):=(w88 N s0).bind w88un
theorem w88fin {N:w89T} (hc:CxOk (w88c N)) {s0:(List Ex)} {d:Bool} (hd:w88z N s0=some d):Does Tryd.prog 88 (([.e (.sl .ex) s0,.fn 89 []]:List X).map X.D) (HA []) (w88r0 (d)).1.D (HA (w88r0 (d)).2):=by
 obtain ⟨r,hr,hu⟩:=Option.bind_eq_some_iff.1 hd
 have:=w88does hc hr
 rw [w88uo hu] at this
 exact this
noncomputable def w56L (N:w89T):List (Nat×Ent'):=[(89,w89E N),(108,w108E N),(88,w88E N),(56,w56E N)]
noncomputable def w56c (N:w89T):Cx:=⟨Tryd.prog,25,w56L N,[]⟩
noncomputable def w56b:Code:=Tryd.f56.body.getD .skip
theorem w56cx (N:w89T) (hw89:EOk Tryd.prog 89 (w89E N)) (hw108:EOk Tryd.prog 108 (w108E N)) (hw88:EOk Tryd.prog 88 (w88E N)) (hw56:EOk Tryd.prog 56 (w56E N)):CxOk (w56c N):=ctx_ok (by kernel_rfl) (.cons (by kernel_rfl) hw89 (.cons (by kernel_rfl) hw108 (.cons (by kernel_rfl) hw88 (.cons (by kernel_rfl) hw56 .nil)))) .nil
def w56G [Alg] (N:w89T)  (A B:Int) (C:(List Ex)) (root1:Bool):O:=
 br (decide (A < (0:Int))||decide ((11:Int)≤A))
  (some (w56r0 false))
  (gx [((0:Int),(999999:Int),(4:Int),(0:UInt8)),((0:Int),(25:Int),(4:Int),(0:UInt8)),((1:Int),(0:Int),(3:Int),(45:UInt8)),((2:Int),(0:Int),(1:Int),(43:UInt8)),((2:Int),(0:Int),(1:Int),(45:UInt8)),((2:Int),(0:Int),(2:Int),(42:UInt8)),((2:Int),(0:Int),(2:Int),(47:UInt8)),((2:Int),(0:Int),(3:Int),(94:UInt8)),((1:Int),(0:Int),(4:Int),(82:UInt8)),((2:Int),(0:Int),(0:Int),(61:UInt8)),((2:Int),(0:Int),(0:Int),(60:UInt8))] A fun y0=>
  br (decide ((↑C.length:Int)≠y0.1)||decide (B < (0:Int))||decide (y0.2.1 < B)||decide (y0.2.2.1=(0:Int))&&!root1)
   (some (w56r0 false))
   (ck ((N.snd.snd.snd.1 C).isSome) <|
   some (w56r0 (!(N.snd.snd.snd.1 C).getD false))))
def w56 [Alg] (N:w89T) (A B:Int) (C:(List Ex)) (root1:Bool):O:=w56G N  A B C root1
noncomputable def w56h [Alg] (_:w89T):Hint:=.d
theorem w56hk (N:w89T):HintOk (w56c N) Tryd.f56.ntmps (w56h N) w56b:=hk_of _ _ trivial
theorem w56q [Alg] (N:w89T) (A B:Int) (C:(List Ex)) (root1:Bool):w56G N  A B C root1=exec (w56c N) Tryd.f56.ntmps (w56h N) w56b ⟨argT 0 [.agg [.e (.i .i64) A,.e (.i .i64) B,.e (.sl .ex) C],.e .bo root1],[],100⟩ (finX (w56c N) Tryd.f56 false):=by kernel_rfl
theorem w56does {N:w89T} (hc:CxOk (w56c N)) {A B:Int} {C:(List Ex)} {root1:Bool} {r:Res} (h:w56 N A B C root1=some r):DoesR Tryd.prog 56 (([.agg [.e (.i .i64) A,.e (.i .i64) B,.e (.sl .ex) C],.e .bo root1]:List X).map X.D) (HA []) r:=
 fun_ok hc (f:=56) (fn:=Tryd.f56) (code:=w56b) (by kernel_rfl) (by kernel_rfl) (w56hk N) (Nat.le_of_ble_eq_true (by kernel_rfl)) (ow:=false) ((w56q N A B C root1).symm.trans (by exact h))
def w56un (r:Res):Option (Bool):=match r with
 | (x0,[])=>(match ue .bo x0 with | some a0=>some a0 | _=>none)
 | _=>none
theorem w56uo {r:Res} {d:Bool} (h:w56un r=some d):r=w56r0 (d):=by
 unfold w56un at h
 split at h
 ·split at h
  ·rename_i h0;cases h;rw [ue_some h0];rfl
  ·cases h
 ·cases h
def w56z (N:w89T) (A B:Int) (C:(List Ex)) (root1:Bool):Option (Bool):=(w56 N A B C root1).bind w56un
theorem w56fin {N:w89T} (hc:CxOk (w56c N)) {A B:Int} {C:(List Ex)} {root1 d:Bool} (hd:w56z N A B C root1=some d):Does Tryd.prog 56 (([.agg [.e (.i .i64) A,.e (.i .i64) B,.e (.sl .ex) C],.e .bo root1]:List X).map X.D) (HA []) (w56r0 (d)).1.D (HA (w56r0 (d)).2):=by
 obtain ⟨r,hr,hu⟩:=Option.bind_eq_some_iff.1 hd
 have:=w56does hc hr
 rw [w56uo hu] at this
 exact this
def w89gY (N:Nat):Nat→(Int→Int→(List Ex)→Option (Bool))×((List Ex)→Option (Int))×((List Ex)→Option (Bool))×(Int→Int→(List Ex)→Bool→Option (Bool))
 | 0=>(fun _ _ _=>none,fun _=>none,fun _=>none,fun _ _ _ _=>none)
 | n+1=>(fun k0_0 k0_1 k0_2=>w89z (N,w89gY N n) k0_0 k0_1 k0_2,fun s0=>w108z (N,w89gY N n) s0,fun s0=>w88z (N,w89gY N n) s0,fun A B C root1=>w56z (N,w89gY N n) A B C root1)
theorem w89gYok (N:Nat):∀ n,EOk Tryd.prog 89 (w89E (N,w89gY N n))∧EOk Tryd.prog 108 (w108E (N,w89gY N n))∧EOk Tryd.prog 88 (w88E (N,w89gY N n))∧EOk Tryd.prog 56 (w56E (N,w89gY N n))
 | 0=>⟨entR_ok w89io (fun _ h=>by cases h),entR_ok w108io (fun _ h=>by cases h),entR_ok w88io (fun _ h=>by cases h),entR_ok w56io (fun _ h=>by cases h)⟩
 | n+1=>
   have ih:=w89gYok N n
   ⟨entR_ok w89io (fun d h=>norStep (zz:=w89z (N,w89gY N n) (d.1) (d.2.1) (d.2.2)) (R:=fun y=>w89r0 (y)) (d0:=false) (fun _ hy=>w89fin (w89cx (N,w89gY N n) ih.1 ih.2.1 ih.2.2.1 ih.2.2.2) hy) h),entR_ok w108io (fun d h=>norStep (zz:=w108z (N,w89gY N n) (d)) (R:=fun y=>w108r0 (y)) (d0:=0) (fun _ hy=>w108fin (w108cx (N,w89gY N n) ih.1 ih.2.1 ih.2.2.1 ih.2.2.2) hy) h),entR_ok w88io (fun d h=>norStep (zz:=w88z (N,w89gY N n) (d)) (R:=fun y=>w88r0 (y)) (d0:=false) (fun _ hy=>w88fin (w88cx (N,w89gY N n) ih.1 ih.2.1 ih.2.2.1 ih.2.2.2) hy) h),entR_ok w56io (fun d h=>norStep (zz:=w56z (N,w89gY N n) (d.1) (d.2.1) (d.2.2.1) (d.2.2.2)) (R:=fun y=>w56r0 (y)) (d0:=false) (fun _ hy=>w56fin (w56cx (N,w89gY N n) ih.1 ih.2.1 ih.2.2.1 ih.2.2.2) hy) h)⟩
def w56p (N:Nat) (A B:Int) (C:(List Ex)) (root1:Bool):Bool:=((w89gY N N).2.2.2 A B C root1).isSome
def w56y0 (N:Nat) (A B:Int) (C:(List Ex)) (root1:Bool):Bool:=(((w89gY N N).2.2.2 A B C root1).getD false)
def w56e (N:Nat):Ent':=entR w56in (fun d=>w56p N (d.1) (d.2.1) (d.2.2.1) (d.2.2.2)) (fun d=>w56r0 (w56y0 N (d.1) (d.2.1) (d.2.2.1) (d.2.2.2)))
theorem w56ok (N:Nat):EOk Tryd.prog 56 (w56e N):=(w89gYok N N).2.2.2
def w17r0 (a0:Int):Res:=(.e (.i .i64) a0,[])
noncomputable def w17L (N:Nat):List (Nat×Ent'):=[(32,w32e N),(34,w34e N),(56,w56e N)]
noncomputable def w17c (N:Nat):Cx:=⟨Tryd.prog,25,w17L N,[]⟩
noncomputable def w17b:Code:=Tryd.f17.body.getD .skip
theorem w17cx (N:Nat):CxOk (w17c N):=ctx_ok (by kernel_rfl) (.cons (by kernel_rfl) (w32ok N) (.cons (by kernel_rfl) (w34ok N) (.cons (by kernel_rfl) (w56ok N) .nil))) .nil
def w17G [Alg] (N:Nat)  (A B:Int) (C:(List Ex)):O:=
 ck (w32p N A B C) <|
 ck (!!decide ((256:Int) < w32y0 N A B C)||w34p N A B C) <|
 br (decide ((256:Int) < w32y0 N A B C)||decide ((16:Int) < w34y0 N A B C))
  (some (w17r0 ((4:Int))))
  (ck (w56p N A B C true) <|
  br (!w56y0 N A B C true)
   (some (w17r0 ((1:Int))))
   (some (w17r0 ((0:Int)))))
def w17 [Alg] (N:Nat) (A B:Int) (C:(List Ex)):O:=w17G N  A B C
noncomputable def w17h [Alg] (_:Nat):Hint:=.d
theorem w17hk (N:Nat):HintOk (w17c N) Tryd.f17.ntmps (w17h N) w17b:=hk_of _ _ trivial
theorem w17q [Alg] (N:Nat) (A B:Int) (C:(List Ex)):w17G N  A B C=exec (w17c N) Tryd.f17.ntmps (w17h N) w17b ⟨argT 0 [.agg [.e (.i .i64) A,.e (.i .i64) B,.e (.sl .ex) C]],[],100⟩ (finX (w17c N) Tryd.f17 false):=by kernel_rfl
theorem w17does {N:Nat} (hc:CxOk (w17c N)) {A B:Int} {C:(List Ex)} {r:Res} (h:w17 N A B C=some r):DoesR Tryd.prog 17 (([.agg [.e (.i .i64) A,.e (.i .i64) B,.e (.sl .ex) C]]:List X).map X.D) (HA []) r:=
 fun_ok hc (f:=17) (fn:=Tryd.f17) (code:=w17b) (by kernel_rfl) (by kernel_rfl) (w17hk N) (Nat.le_of_ble_eq_true (by kernel_rfl)) (ow:=false) ((w17q N A B C).symm.trans (by exact h))
def w17un (r:Res):Option (Int):=match r with
 | (x0,[])=>(match ue (.i .i64) x0 with | some a0=>some a0 | _=>none)
 | _=>none
theorem w17uo {r:Res} {d:Int} (h:w17un r=some d):r=w17r0 (d):=by
 unfold w17un at h
 split at h
 ·split at h
  ·rename_i h0;cases h;rw [ue_some h0];rfl
  ·cases h
 ·cases h
def w17z (N:Nat) (A B:Int) (C:(List Ex)):Option (Int):=(w17 N A B C).bind w17un
theorem w17fin {N:Nat} (hc:CxOk (w17c N)) {A B:Int} {C:(List Ex)} {d:Int} (hd:w17z N A B C=some d):Does Tryd.prog 17 (([.agg [.e (.i .i64) A,.e (.i .i64) B,.e (.sl .ex) C]]:List X).map X.D) (HA []) (w17r0 (d)).1.D (HA (w17r0 (d)).2):=by
 obtain ⟨r,hr,hu⟩:=Option.bind_eq_some_iff.1 hd
 have:=w17does hc hr
 rw [w17uo hu] at this
 exact this
def w17p (N:Nat) (A B:Int) (C:(List Ex)):Bool:=(w17z N A B C).isSome
def w17y0 (N:Nat) (A B:Int) (C:(List Ex)):Int:=((w17z N A B C).getD 0)
def w17e (N:Nat):Ent':=E1 .ex  (fun x0=>(w17p N (Ex.op x0) (Ex.num x0) (Ex.kids x0),w17r0 (w17y0 N (Ex.op x0) (Ex.num x0) (Ex.kids x0))))
theorem w17re {N:Nat} {A B:Int} {C:(List Ex)} {d:Int} (hd:w17z N A B C=some d):w17r0 (w17y0 N A B C)=w17r0 (d):=by unfold w17y0;rw [hd];rfl
theorem w17ok (N:Nat):EOk Tryd.prog 17 (w17e N):=EOk.e1 (fun x0 h=>by
 have h:(w17z N (Ex.op x0) (Ex.num x0) (Ex.kids x0)).isSome=true:=h
 obtain ⟨d,hd⟩:=Option.isSome_iff_exists.1 h
 have f:=w17fin (w17cx N) hd
 rw [← w17re hd] at f
 exact f)
def w106r0 (a0:(List UInt8)):Res:=(.own 100,[(100,.row 5 .u8 a0 true)])
noncomputable def w106L (N:Nat):List (Nat×Ent'):=[(116,w116e N)]
noncomputable def w106c (N:Nat):Cx:=⟨Tryd.prog,25,w106L N,[]⟩
noncomputable def w106b:Code:=Tryd.f106.body.getD .skip
theorem w106cx (N:Nat):CxOk (w106c N):=ctx_ok (by kernel_rfl) (.cons (by kernel_rfl) (w116ok N) .nil) .nil
def w106G [Alg] (N:Nat)  (i1 base2:Int) (g0:(List UInt8)):O:=
 br (decide (i1 < (0:Int)))
  (ck (lim (g0++[(45:UInt8)]).length (1:Nat)) <|
  ck (w116p N (IntKind.u64.wrap (-IntKind.u64.wrap i1)) base2 (g0++[(45:UInt8)])) <|
  some (w106r0 (w116y0 N (IntKind.u64.wrap (-IntKind.u64.wrap i1)) base2 (g0++[(45:UInt8)]))))
  (ck (w116p N (IntKind.u64.wrap i1) base2 g0) <|
  some (w106r0 (w116y0 N (IntKind.u64.wrap i1) base2 g0)))
def w106 [Alg] (N:Nat) (i1 base2:Int) (g0:(List UInt8)):O:=w106G N  i1 base2 g0
noncomputable def w106h [Alg] (_:Nat):Hint:=.d
theorem w106hk (N:Nat):HintOk (w106c N) Tryd.f106.ntmps (w106h N) w106b:=hk_of _ _ trivial
theorem w106q [Alg] (N:Nat) (i1 base2:Int) (g0:(List UInt8)):w106G N  i1 base2 g0=exec (w106c N) Tryd.f106.ntmps (w106h N) w106b ⟨argT 0 [.own 50,.e (.i .i64) i1,.e (.i .i64) base2],[(50,.row 5 .u8 g0 true)],100⟩ (finX (w106c N) Tryd.f106 true):=by kernel_rfl
theorem w106does {N:Nat} (hc:CxOk (w106c N)) {i1 base2:Int} {g0:(List UInt8)} {r:Res} (h:w106 N i1 base2 g0=some r):DoesR Tryd.prog 106 (([.own 50,.e (.i .i64) i1,.e (.i .i64) base2]:List X).map X.D) (HA [(50,.row 5 .u8 g0 true)]) r:=
 fun_ok hc (f:=106) (fn:=Tryd.f106) (code:=w106b) (by kernel_rfl) (by kernel_rfl) (w106hk N) (Nat.le_of_ble_eq_true (by kernel_rfl)) (ow:=true) ((w106q N i1 base2 g0).symm.trans (by exact h))
def w106un (r:Res):Option ((List UInt8)):=match r with
 | (.own 100,[(100,x0)])=>(match ur 5 .u8 true x0 with | some a0=>some a0 | _=>none)
 | _=>none
theorem w106uo {r:Res} {d:(List UInt8)} (h:w106un r=some d):r=w106r0 (d):=by
 unfold w106un at h
 split at h
 ·split at h
  ·rename_i h0;cases h;rw [ur_some h0];rfl
  ·cases h
 ·cases h
def w106z (N:Nat) (i1 base2:Int) (g0:(List UInt8)):Option ((List UInt8)):=(w106 N i1 base2 g0).bind w106un
theorem w106fin {N:Nat} (hc:CxOk (w106c N)) {i1 base2:Int} {g0 d:(List UInt8)} (hd:w106z N i1 base2 g0=some d):Does Tryd.prog 106 (([.own 50,.e (.i .i64) i1,.e (.i .i64) base2]:List X).map X.D) (HA [(50,.row 5 .u8 g0 true)]) (w106r0 (d)).1.D (HA (w106r0 (d)).2):=by
 obtain ⟨r,hr,hu⟩:=Option.bind_eq_some_iff.1 hd
 have:=w106does hc hr
 rw [w106uo hu] at this
 exact this
def w106p (N:Nat) (i1 base2:Int) (g0:(List UInt8)):Bool:=(w106z N i1 base2 g0).isSome
def w106y0 (N:Nat) (i1 base2:Int) (g0:(List UInt8)):(List UInt8):=((w106z N i1 base2 g0).getD [])
def w106in (xs:List X) (H:XH):Option (Int×Int×(List UInt8)):=match xs,H with
 | [.own 50,x0,x1],[(50,x2)]=>(match ue (.i .i64) x0,ue (.i .i64) x1,ur 5 .u8 true x2 with | some a0,some a1,some a2=>some (a0,a1,a2) | _,_,_=>none)
 | _,_=>none
theorem w106io {xs:List X} {H:XH} {d:Int×Int×(List UInt8)} (h:w106in xs H=some d):xs=[.own 50,.e (.i .i64) (d.1),.e (.i .i64) (d.2.1)]∧H=[(50,.row 5 .u8 (d.2.2) true)]:=by
 unfold w106in at h
 split at h
 ·split at h
  ·rename_i h0 h1 h2;cases h;rw [ue_some h0,ue_some h1,ur_some h2];exact ⟨rfl,rfl⟩
  ·cases h
 ·cases h
def w106e (N:Nat):Ent':=fun xs H=>match w106in xs H with | some d=>some (w106p N (d.1) (d.2.1) (d.2.2),w106r0 (w106y0 N (d.1) (d.2.1) (d.2.2))) | none=>none
theorem w106re {N:Nat} {i1 base2:Int} {g0 d:(List UInt8)} (hd:w106z N i1 base2 g0=some d):w106r0 (w106y0 N i1 base2 g0)=w106r0 (d):=by unfold w106y0;rw [hd];rfl
theorem w106ok (N:Nat):EOk Tryd.prog 106 (w106e N):=fun xs H pre r he hp=>by
 unfold w106e at he
 split at he
 ·rename_i d hd
  have he:=Option.some.inj he
  have h1:=congrArg Prod.fst he
  have h2:=congrArg Prod.snd he
  simp only at h1 h2
  obtain ⟨e1,e2⟩:=w106io hd
  rw [e1,e2,← h2]
  have h:(w106z N (d.1) (d.2.1) (d.2.2)).isSome=true:=h1.trans hp
  obtain ⟨d',hd'⟩:=Option.isSome_iff_exists.1 h
  have f:=w106fin (w106cx N) hd'
  rw [← w106re hd'] at f
  exact f
 ·cases he
def w80r0 (a0:(List UInt8)):Res:=(.own 100,[(100,.row 5 .u8 a0 true)])
noncomputable def w80L (N:Nat):List (Nat×Ent'):=[(106,w106e N)]
noncomputable def w80c (N:Nat):Cx:=⟨Tryd.prog,25,w80L N,[]⟩
noncomputable def w80b:Code:=Tryd.f80.body.getD .skip
theorem w80cx (N:Nat):CxOk (w80c N):=ctx_ok (by kernel_rfl) (.cons (by kernel_rfl) (w106ok N) .nil) .nil
def w80G [Alg] (N:Nat)  (i1 base2:Int) (g0:(List UInt8)):O:=
 ck (w106p N i1 base2 g0) <|
 some (w80r0 (w106y0 N i1 base2 g0))
def w80 [Alg] (N:Nat) (i1 base2:Int) (g0:(List UInt8)):O:=w80G N  i1 base2 g0
noncomputable def w80h [Alg] (_:Nat):Hint:=.d
theorem w80hk (N:Nat):HintOk (w80c N) Tryd.f80.ntmps (w80h N) w80b:=hk_of _ _ trivial
theorem w80q [Alg] (N:Nat) (i1 base2:Int) (g0:(List UInt8)):w80G N  i1 base2 g0=exec (w80c N) Tryd.f80.ntmps (w80h N) w80b ⟨argT 0 [.own 50,.e (.i .i64) i1,.e (.i .i64) base2],[(50,.row 5 .u8 g0 true)],100⟩ (finX (w80c N) Tryd.f80 true):=by kernel_rfl
theorem w80does {N:Nat} (hc:CxOk (w80c N)) {i1 base2:Int} {g0:(List UInt8)} {r:Res} (h:w80 N i1 base2 g0=some r):DoesR Tryd.prog 80 (([.own 50,.e (.i .i64) i1,.e (.i .i64) base2]:List X).map X.D) (HA [(50,.row 5 .u8 g0 true)]) r:=
 fun_ok hc (f:=80) (fn:=Tryd.f80) (code:=w80b) (by kernel_rfl) (by kernel_rfl) (w80hk N) (Nat.le_of_ble_eq_true (by kernel_rfl)) (ow:=true) ((w80q N i1 base2 g0).symm.trans (by exact h))
def w80un (r:Res):Option ((List UInt8)):=match r with
 | (.own 100,[(100,x0)])=>(match ur 5 .u8 true x0 with | some a0=>some a0 | _=>none)
 | _=>none
theorem w80uo {r:Res} {d:(List UInt8)} (h:w80un r=some d):r=w80r0 (d):=by
 unfold w80un at h
 split at h
 ·split at h
  ·rename_i h0;cases h;rw [ur_some h0];rfl
  ·cases h
 ·cases h
def w80z (N:Nat) (i1 base2:Int) (g0:(List UInt8)):Option ((List UInt8)):=(w80 N i1 base2 g0).bind w80un
theorem w80fin {N:Nat} (hc:CxOk (w80c N)) {i1 base2:Int} {g0 d:(List UInt8)} (hd:w80z N i1 base2 g0=some d):Does Tryd.prog 80 (([.own 50,.e (.i .i64) i1,.e (.i .i64) base2]:List X).map X.D) (HA [(50,.row 5 .u8 g0 true)]) (w80r0 (d)).1.D (HA (w80r0 (d)).2):=by
 obtain ⟨r,hr,hu⟩:=Option.bind_eq_some_iff.1 hd
 have:=w80does hc hr
 rw [w80uo hu] at this
 exact this
def w80p (N:Nat) (i1 base2:Int) (g0:(List UInt8)):Bool:=(w80z N i1 base2 g0).isSome
def w80y0 (N:Nat) (i1 base2:Int) (g0:(List UInt8)):(List UInt8):=((w80z N i1 base2 g0).getD [])
def w80in (xs:List X) (H:XH):Option (Int×Int×(List UInt8)):=match xs,H with
 | [.own 50,x0,x1],[(50,x2)]=>(match ue (.i .i64) x0,ue (.i .i64) x1,ur 5 .u8 true x2 with | some a0,some a1,some a2=>some (a0,a1,a2) | _,_,_=>none)
 | _,_=>none
theorem w80io {xs:List X} {H:XH} {d:Int×Int×(List UInt8)} (h:w80in xs H=some d):xs=[.own 50,.e (.i .i64) (d.1),.e (.i .i64) (d.2.1)]∧H=[(50,.row 5 .u8 (d.2.2) true)]:=by
 unfold w80in at h
 split at h
 ·split at h
  ·rename_i h0 h1 h2;cases h;rw [ue_some h0,ue_some h1,ur_some h2];exact ⟨rfl,rfl⟩
  ·cases h
 ·cases h
def w80e (N:Nat):Ent':=fun xs H=>match w80in xs H with | some d=>some (w80p N (d.1) (d.2.1) (d.2.2),w80r0 (w80y0 N (d.1) (d.2.1) (d.2.2))) | none=>none
theorem w80re {N:Nat} {i1 base2:Int} {g0 d:(List UInt8)} (hd:w80z N i1 base2 g0=some d):w80r0 (w80y0 N i1 base2 g0)=w80r0 (d):=by unfold w80y0;rw [hd];rfl
theorem w80ok (N:Nat):EOk Tryd.prog 80 (w80e N):=fun xs H pre r he hp=>by
 unfold w80e at he
 split at he
 ·rename_i d hd
  have he:=Option.some.inj he
  have h1:=congrArg Prod.fst he
  have h2:=congrArg Prod.snd he
  simp only at h1 h2
  obtain ⟨e1,e2⟩:=w80io hd
  rw [e1,e2,← h2]
  have h:(w80z N (d.1) (d.2.1) (d.2.2)).isSome=true:=h1.trans hp
  obtain ⟨d',hd'⟩:=Option.isSome_iff_exists.1 h
  have f:=w80fin (w80cx N) hd'
  rw [← w80re hd'] at f
  exact f
 ·cases he
end
end Go.Proofs
