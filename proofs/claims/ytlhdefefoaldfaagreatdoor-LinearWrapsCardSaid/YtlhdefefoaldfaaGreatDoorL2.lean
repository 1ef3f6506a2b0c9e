/- What the reference of package linear does. Conditions are in the theorems. -/
import Derived.Test.YtlhdefefoaldfaaGreatDoorE7
import Derived.Test.YtlhdefefoaldfaaGreatDoorProg
import Derived.KernelRfl
import Derived.Test.YtlhdefefoaldfaaGreatDoorF0
import Derived.Test.YtlhdefefoaldfaaGreatDoorL1
import Derived.Test.YtlhdefefoaldfaaGreatDoorF1
import Derived.Test.YtlhdefefoaldfaaGreatDoorF2
import Derived.Test.YtlhdefefoaldfaaGreatDoorF3
import Derived.Test.YtlhdefefoaldfaaGreatDoorF4
import Derived.Test.YtlhdefefoaldfaaGreatDoorF5
/- What functions do. -/
namespace Go.Proofs
noncomputable section
open Go.Ax Go.Ax.Alg Go.RowKit Go.Ab
open Go
def w65r0 (a0:Bool):Res:=(.e .bo a0,[])
noncomputable def w65L (_:Nat):List (Nat×Ent'):=[]
noncomputable def w65c (N:Nat):Cx:=⟨Tryz.prog,25,w65L N,[]⟩
noncomputable def w65b:Code:=Tryz.f65.body.getD .skip
theorem w65cx (N:Nat):CxOk (w65c N):=ctx_ok (by kernel_rfl) .nil .nil
def w65G [Alg] (_:Nat)  (c0:UInt8):O:=
  some (w65r0 (decide ((48:UInt8)≤c0)&&decide (c0≤(57:UInt8))))
def w65 [Alg] (N:Nat) (c0:UInt8):O:=w65G N  c0
noncomputable def w65h [Alg] (_:Nat):Hint:=.d
theorem w65hk (N:Nat):HintOk (w65c N) Tryz.f65.ntmps (w65h N) w65b:=hk_of _ _ trivial
theorem w65q [Alg] (N:Nat) (c0:UInt8):w65G N  c0=exec (w65c N) Tryz.f65.ntmps (w65h N) w65b ⟨argT 0 [.e .u8 c0],[],100⟩ (finX (w65c N) Tryz.f65 false):=by kernel_rfl
theorem w65does {N:Nat} (hc:CxOk (w65c N)) {c0:UInt8} {r:Res} (h:w65 N c0=some r):DoesR Tryz.prog 65 (([.e .u8 c0]:List X).map X.D) (HA []) r:=
  fun_ok hc (f:=65) (fn:=Tryz.f65) (code:=w65b) (by kernel_rfl) (by kernel_rfl) (w65hk N) (Nat.le_of_ble_eq_true (by kernel_rfl)) (ow:=false) ((w65q N c0).symm.trans (by exact h))
def w65un (r:Res):Option (Bool):=match r with
  | (x0,[])=>(match ue .bo x0 with | some a0=>some a0 | _=>none)
  | _=>none
theorem w65uo {r:Res} {d:Bool} (h:w65un r=some d):r=w65r0 (d):=by
  unfold w65un at h
  split at h
  · split at h
    · rename_i h0;cases h;rw [ue_some h0];rfl
    · cases h
  · cases h
def w65z (N:Nat) (c0:UInt8):Option (Bool):=(w65 N c0).bind w65un
theorem w65fin {N:Nat} (hc:CxOk (w65c N)) {c0:UInt8} {d:Bool} (hd:w65z N c0=some d):Does Tryz.prog 65 (([.e .u8 c0]:List X).map X.D) (HA []) (w65r0 (d)).1.D (HA (w65r0 (d)).2):=by
  obtain ⟨r,hr,hu⟩:=Option.bind_eq_some_iff.1 hd
  have:=w65does hc hr
  rw [w65uo hu] at this
  exact this
def w65p (N:Nat) (c0:UInt8):Bool:=(w65z N c0).isSome
def w65y0 (N:Nat) (c0:UInt8):Bool:=((w65z N c0).getD false)
def w65e (N:Nat):Ent':=E1 .u8  (fun x0=>(w65p N x0,w65r0 (w65y0 N x0)))
theorem w65re {N:Nat} {c0:UInt8} {d:Bool} (hd:w65z N c0=some d):w65r0 (w65y0 N c0)=w65r0 (d):=by unfold w65y0;rw [hd];rfl
theorem w65ok (N:Nat):EOk Tryz.prog 65 (w65e N):=EOk.e1 (fun x0 h=>by
  have h:(w65z N x0).isSome=true:=h
  obtain ⟨d,hd⟩:=Option.isSome_iff_exists.1 h
  have f:=w65fin (w65cx N) hd
  rw [← w65re hd] at f
  exact f)
def w66r0 (a0:(List UInt8)):Res:=(.e (.sl .u8) a0,[])
noncomputable def w66L (_:Nat):List (Nat×Ent'):=[]
noncomputable def w66c (N:Nat):Cx:=⟨Tryz.prog,25,w66L N,[]⟩
noncomputable def w66b:Code:=Tryz.f66.body.getD .skip
theorem w66cx (N:Nat):CxOk (w66c N):=ctx_ok (by kernel_rfl) .nil .nil
def w66G [Alg] (_:Nat)   : O:=
  some (w66r0 [(26:UInt8),(1:UInt8),(3:UInt8),(9:UInt8),(25:UInt8),(17:UInt8),(11:UInt8),(27:UInt8),(19:UInt8),(10:UInt8)])
def w66 [Alg] (N:Nat)  : O:=w66G N  
noncomputable def w66h [Alg] (_:Nat):Hint:=.d
theorem w66hk (N:Nat):HintOk (w66c N) Tryz.f66.ntmps (w66h N) w66b:=hk_of _ _ trivial
theorem w66q [Alg] (N:Nat)  : w66G N   = exec (w66c N) Tryz.f66.ntmps (w66h N) w66b ⟨argT 0 [],[],100⟩ (finX (w66c N) Tryz.f66 false):=by kernel_rfl
theorem w66does {N:Nat} (hc:CxOk (w66c N))  {r:Res} (h:w66 N  = some r):DoesR Tryz.prog 66 (([]:List X).map X.D) (HA []) r:=
  fun_ok hc (f:=66) (fn:=Tryz.f66) (code:=w66b) (by kernel_rfl) (by kernel_rfl) (w66hk N) (Nat.le_of_ble_eq_true (by kernel_rfl)) (ow:=false) ((w66q N ).symm.trans (by exact h))
def w66un (r:Res):Option ((List UInt8)):=match r with
  | (x0,[])=>(match ue (.sl .u8) x0 with | some a0=>some a0 | _=>none)
  | _=>none
theorem w66uo {r:Res} {d:(List UInt8)} (h:w66un r=some d):r=w66r0 (d):=by
  unfold w66un at h
  split at h
  · split at h
    · rename_i h0;cases h;rw [ue_some h0];rfl
    · cases h
  · cases h
def w66z (N:Nat)  : Option ((List UInt8)):=(w66 N ).bind w66un
theorem w66fin {N:Nat} (hc:CxOk (w66c N))  {d:(List UInt8)} (hd:w66z N  = some d):Does Tryz.prog 66 (([]:List X).map X.D) (HA []) (w66r0 (d)).1.D (HA (w66r0 (d)).2):=by
  obtain ⟨r,hr,hu⟩:=Option.bind_eq_some_iff.1 hd
  have:=w66does hc hr
  rw [w66uo hu] at this
  exact this
def w66p (N:Nat)  : Bool:=(w66z N ).isSome
def w66y0 (N:Nat)  : (List UInt8):=((w66z N ).getD [])
def w66e (N:Nat):Ent':=E0   (w66p N ,w66r0 (w66y0 N ))
theorem w66re {N:Nat}  {d:(List UInt8)} (hd:w66z N  = some d):w66r0 (w66y0 N )=w66r0 (d):=by unfold w66y0;rw [hd];rfl
theorem w66ok (N:Nat):EOk Tryz.prog 66 (w66e N):=EOk.e0 (fun h=>by
  have h:(w66z N ).isSome=true:=h
  obtain ⟨d,hd⟩:=Option.isSome_iff_exists.1 h
  have f:=w66fin (w66cx N) hd
  rw [← w66re hd] at f
  exact f)
def w67r0 (a0:Bool):Res:=(.e .bo a0,[])
noncomputable def w67L (_:Nat):List (Nat×Ent'):=[]
noncomputable def w67c (N:Nat):Cx:=⟨Tryz.prog,25,w67L N,[]⟩
noncomputable def w67b:Code:=Tryz.f67.body.getD .skip
theorem w67cx (N:Nat):CxOk (w67c N):=ctx_ok (by kernel_rfl) .nil .nil
def w67G [Alg] (_:Nat)  (c0:UInt8):O:=
  some (w67r0 (decide ((97:UInt8)≤c0)&&decide (c0≤(122:UInt8))))
def w67 [Alg] (N:Nat) (c0:UInt8):O:=w67G N  c0
noncomputable def w67h [Alg] (_:Nat):Hint:=.d
theorem w67hk (N:Nat):HintOk (w67c N) Tryz.f67.ntmps (w67h N) w67b:=hk_of _ _ trivial
theorem w67q [Alg] (N:Nat) (c0:UInt8):w67G N  c0=exec (w67c N) Tryz.f67.ntmps (w67h N) w67b ⟨argT 0 [.e .u8 c0],[],100⟩ (finX (w67c N) Tryz.f67 false):=by kernel_rfl
theorem w67does {N:Nat} (hc:CxOk (w67c N)) {c0:UInt8} {r:Res} (h:w67 N c0=some r):DoesR Tryz.prog 67 (([.e .u8 c0]:List X).map X.D) (HA []) r:=
  fun_ok hc (f:=67) (fn:=Tryz.f67) (code:=w67b) (by kernel_rfl) (by kernel_rfl) (w67hk N) (Nat.le_of_ble_eq_true (by kernel_rfl)) (ow:=false) ((w67q N c0).symm.trans (by exact h))
def w67un (r:Res):Option (Bool):=match r with
  | (x0,[])=>(match ue .bo x0 with | some a0=>some a0 | _=>none)
  | _=>none
theorem w67uo {r:Res} {d:Bool} (h:w67un r=some d):r=w67r0 (d):=by
  unfold w67un at h
  split at h
  · split at h
    · rename_i h0;cases h;rw [ue_some h0];rfl
    · cases h
  · cases h
def w67z (N:Nat) (c0:UInt8):Option (Bool):=(w67 N c0).bind w67un
theorem w67fin {N:Nat} (hc:CxOk (w67c N)) {c0:UInt8} {d:Bool} (hd:w67z N c0=some d):Does Tryz.prog 67 (([.e .u8 c0]:List X).map X.D) (HA []) (w67r0 (d)).1.D (HA (w67r0 (d)).2):=by
  obtain ⟨r,hr,hu⟩:=Option.bind_eq_some_iff.1 hd
  have:=w67does hc hr
  rw [w67uo hu] at this
  exact this
def w67p (N:Nat) (c0:UInt8):Bool:=(w67z N c0).isSome
def w67y0 (N:Nat) (c0:UInt8):Bool:=((w67z N c0).getD false)
def w67e (N:Nat):Ent':=E1 .u8  (fun x0=>(w67p N x0,w67r0 (w67y0 N x0)))
theorem w67re {N:Nat} {c0:UInt8} {d:Bool} (hd:w67z N c0=some d):w67r0 (w67y0 N c0)=w67r0 (d):=by unfold w67y0;rw [hd];rfl
theorem w67ok (N:Nat):EOk Tryz.prog 67 (w67e N):=EOk.e1 (fun x0 h=>by
  have h:(w67z N x0).isSome=true:=h
  obtain ⟨d,hd⟩:=Option.isSome_iff_exists.1 h
  have f:=w67fin (w67cx N) hd
  rw [← w67re hd] at f
  exact f)
def w68r0 (a0:(List UInt8)):Res:=(.e (.sl .u8) a0,[])
noncomputable def w68L (_:Nat):List (Nat×Ent'):=[]
noncomputable def w68c (N:Nat):Cx:=⟨Tryz.prog,25,w68L N,[]⟩
noncomputable def w68b:Code:=Tryz.f68.body.getD .skip
theorem w68cx (N:Nat):CxOk (w68c N):=ctx_ok (by kernel_rfl) .nil .nil
def w68G [Alg] (_:Nat)   : O:=
  some (w68r0 [(1:UInt8),(3:UInt8),(9:UInt8),(25:UInt8),(17:UInt8),(11:UInt8),(27:UInt8),(19:UInt8),(10:UInt8),(26:UInt8),(5:UInt8),(7:UInt8),(13:UInt8),(29:UInt8),(21:UInt8),(15:UInt8),(31:UInt8),(23:UInt8),(14:UInt8),(30:UInt8),(37:UInt8),(39:UInt8),(58:UInt8),(45:UInt8),(61:UInt8),(53:UInt8)])
def w68 [Alg] (N:Nat)  : O:=w68G N  
noncomputable def w68h [Alg] (_:Nat):Hint:=.d
theorem w68hk (N:Nat):HintOk (w68c N) Tryz.f68.ntmps (w68h N) w68b:=hk_of _ _ trivial
theorem w68q [Alg] (N:Nat)  : w68G N   = exec (w68c N) Tryz.f68.ntmps (w68h N) w68b ⟨argT 0 [],[],100⟩ (finX (w68c N) Tryz.f68 false):=by kernel_rfl
theorem w68does {N:Nat} (hc:CxOk (w68c N))  {r:Res} (h:w68 N  = some r):DoesR Tryz.prog 68 (([]:List X).map X.D) (HA []) r:=
  fun_ok hc (f:=68) (fn:=Tryz.f68) (code:=w68b) (by kernel_rfl) (by kernel_rfl) (w68hk N) (Nat.le_of_ble_eq_true (by kernel_rfl)) (ow:=false) ((w68q N ).symm.trans (by exact h))
def w68un (r:Res):Option ((List UInt8)):=match r with
  | (x0,[])=>(match ue (.sl .u8) x0 with | some a0=>some a0 | _=>none)
  | _=>none
theorem w68uo {r:Res} {d:(List UInt8)} (h:w68un r=some d):r=w68r0 (d):=by
  unfold w68un at h
  split at h
  · split at h
    · rename_i h0;cases h;rw [ue_some h0];rfl
    · cases h
  · cases h
def w68z (N:Nat)  : Option ((List UInt8)):=(w68 N ).bind w68un
theorem w68fin {N:Nat} (hc:CxOk (w68c N))  {d:(List UInt8)} (hd:w68z N  = some d):Does Tryz.prog 68 (([]:List X).map X.D) (HA []) (w68r0 (d)).1.D (HA (w68r0 (d)).2):=by
  obtain ⟨r,hr,hu⟩:=Option.bind_eq_some_iff.1 hd
  have:=w68does hc hr
  rw [w68uo hu] at this
  exact this
def w68p (N:Nat)  : Bool:=(w68z N ).isSome
def w68y0 (N:Nat)  : (List UInt8):=((w68z N ).getD [])
def w68e (N:Nat):Ent':=E0   (w68p N ,w68r0 (w68y0 N ))
theorem w68re {N:Nat}  {d:(List UInt8)} (hd:w68z N  = some d):w68r0 (w68y0 N )=w68r0 (d):=by unfold w68y0;rw [hd];rfl
theorem w68ok (N:Nat):EOk Tryz.prog 68 (w68e N):=EOk.e0 (fun h=>by
  have h:(w68z N ).isSome=true:=h
  obtain ⟨d,hd⟩:=Option.isSome_iff_exists.1 h
  have f:=w68fin (w68cx N) hd
  rw [← w68re hd] at f
  exact f)
def w69r0 (a0:UInt8):Res:=(.e .u8 a0,[])
noncomputable def w69L (_:Nat):List (Nat×Ent'):=[]
noncomputable def w69c (N:Nat):Cx:=⟨Tryz.prog,25,w69L N,[]⟩
noncomputable def w69b:Code:=Tryz.f69.body.getD .skip
theorem w69cx (N:Nat):CxOk (w69c N):=ctx_ok (by kernel_rfl) .nil .nil
def w69F0 [Alg] (_:Nat)  (self:Int→O) (k0:UInt8→O) (k1:Unit→O) (x0_0:UInt8) (x0_1:(List UInt8)) (x0_2:Int):O:=
  br (decide (x0_2 < (↑x0_1.length:Int)))
    (gx x0_1 x0_2 fun y5=>
    br (decide (y5=x0_0))
      (gx [(22:UInt8),(36:UInt8),(33:UInt8),(12:UInt8),(24:UInt8),(54:UInt8),(42:UInt8),(28:UInt8),(55:UInt8),(62:UInt8)] x0_2 fun y6=>
      k0 y6)
      (self (IntKind.i64.wrap (x0_2+(1:Int)))))
    (k1 ())
noncomputable def w69b0:Code:=atC [1,1,0,1,0,0] w69b
def w69m0:Nm:=⟨[0,3,4],[],[]⟩
def w69I0 (x:UInt8×(List UInt8)×Int):Sg:=⟨[(0,.e .u8 x.1),(3,.e .tx x.2.1),(4,.e (.i .i64) x.2.2)],[],100⟩
def w69u0 (σ:Sg):UInt8×(List UInt8)×Int:=(lvT .u8 0 0 σ,lvT .tx 3 0 σ,lvT (.i .i64) 4 0 σ)
theorem w69ui0:∀ x,w69u0 (w69I0 x)=x:=fun _=>by kernel_rfl
def w69X0_0 (y:UInt8):Exit×Sg:=(.ret,⟨[(2,.e .u8 y)],[],100⟩)
def w69v0_0 (_:Exit) (σ:Sg):UInt8:=lvT .u8 2 0 σ
def w69X0_1 (_:Unit):Exit×Sg:=((.exit 0),⟨[],[],100⟩)
def w69v0_1 (_:Exit) (_:Sg):Unit:=()
def w69w0:List (Exit×Nm):=[(.ret,⟨[2],[],[]⟩),((.exit 0),⟨[],[],[]⟩)]
theorem w69o0:Outs w69v0_0 w69v0_1 (fun _ _=>()) w69X0_0 w69X0_1 (noX 2) (exC .ret) (exC (.exit 0)) (exC (.goto 2)):=⟨fun _=>by kernel_rfl,fun _=>by kernel_rfl,fun _=>by kernel_rfl,fun _=>by kernel_rfl,fun _=>by kernel_rfl,fun _=>by kernel_rfl,exNe_ok (by kernel_rfl),exNe_ok (by kernel_rfl),exNe_ok (by kernel_rfl)⟩
def w69l0 [Alg] (N:Nat):Nat→(UInt8×(List UInt8)×Int)→((UInt8)→O)→((Unit)→O)→((Unit)→O)→O
  | 0,_,_,_,_=>none
  | n+1,x,k0,k1,k2=>w69F0 N  (fun v0=>w69l0 N n (x.1,x.2.1,v0) k0 k1 k2) (fun y0=>k0 y0) (fun (_:Unit)=>k1 ()) x.1 x.2.1 x.2.2
def w69n0 [Alg] (N:Nat) (a0:UInt8) (a1:(List UInt8)) (a2:Int) (k0:UInt8→O) (k1:Unit→O):O:=w69l0 N N (a0,a1,a2) (fun y=>k0 y) (fun y=>k1 y) (fun _=>none)
noncomputable def w69s0 [Alg] (N:Nat) (a0:UInt8) (a1:(List UInt8)) (a2:Int) (k0:UInt8→O) (k1:Unit→O):O:=subL w69I0 w69u0 (w69l0 N N) (w69I0 (a0,a1,a2)) (fun y=>k0 y) (fun y=>k1 y) (fun _=>none)
theorem w69e0 [Alg] (N:Nat):w69s0 N=w69n0 N:=funext fun _=>funext fun _=>funext fun _=>funext fun _=>funext fun _=>subL_I w69ui0 _ _ _ _
noncomputable def w69h0 [Alg] (_:Nat):Hint:=.d
theorem w69hk0 (N:Nat):HintOk (w69c N) Tryz.f69.ntmps (w69h0 N) w69b0:=hk_of _ _ trivial
theorem w69q0 [Alg] (N:Nat) (self:Sg→O) (K:Exit→Sg→O) (x:UInt8×(List UInt8)×Int):w69F0 N  (fun v0=>self (w69I0 (x.1,x.2.1,v0))) (fun y0=>K (w69X0_0 y0).1 (w69X0_0 y0).2) (fun (_:Unit)=>K (w69X0_1 ()).1 (w69X0_1 ()).2) x.1 x.2.1 x.2.2=exec (w69c N) Tryz.f69.ntmps (w69h0 N) w69b0 (w69I0 x) (roundX w69m0 w69w0 self K):=by kernel_rfl
theorem w69S0 (N:Nat) (hc:CxOk (w69c N)):SubOk (w69c N) Tryz.f69.ntmps (.loop w69b0) w69X0_0 w69X0_1 (noX 2) (subL w69I0 w69u0 (w69l0 N N)):=
  sub_loop hc (w69hk0 N) w69o0 (n:=N) (fun x K=>loop_ind (w69l0 N) (fun _ _ _ _=>rfl) (fun n K ih x=>by
    have h:w69F0 N  (fun v0=>w69l0 N n (x.1,x.2.1,v0) (fun y=>K (w69X0_0 y).1 (w69X0_0 y).2) (fun y=>K (w69X0_1 y).1 (w69X0_1 y).2) (fun y=>K ((noX 2) y).1 ((noX 2) y).2)) (fun y0=>K (w69X0_0 y0).1 (w69X0_0 y0).2) (fun (_:Unit)=>K (w69X0_1 ()).1 (w69X0_1 ()).2) x.1 x.2.1 x.2.2=w69F0 N  (fun v0=>loopX (w69c N) Tryz.f69.ntmps (w69h0 N) w69b0 w69m0 w69w0 n (w69I0 (x.1,x.2.1,v0)) K) (fun y0=>K (w69X0_0 y0).1 (w69X0_0 y0).2) (fun (_:Unit)=>K (w69X0_1 ()).1 (w69X0_1 ()).2) x.1 x.2.1 x.2.2:=by rw [ show (fun v0=>w69l0 N n (x.1,x.2.1,v0) (fun y=>K (w69X0_0 y).1 (w69X0_0 y).2) (fun y=>K (w69X0_1 y).1 (w69X0_1 y).2) (fun y=>K ((noX 2) y).1 ((noX 2) y).2))=(fun v0=>loopX (w69c N) Tryz.f69.ntmps (w69h0 N) w69b0 w69m0 w69w0 n (w69I0 (x.1,x.2.1,v0)) K) from funext fun _=>ih _]
    exact h.trans (w69q0 N (fun σ=>loopX (w69c N) Tryz.f69.ntmps (w69h0 N) w69b0 w69m0 w69w0 n σ K) K x)) N x K)
def w69G [Alg] (_:Nat) (in0:UInt8→(List UInt8)→Int→(UInt8→O)→(Unit→O)→O) (c0:UInt8):O:=
  in0 c0 [(43:UInt8),(45:UInt8),(42:UInt8),(47:UInt8),(94:UInt8),(61:UInt8),(60:UInt8),(82:UInt8),(40:UInt8),(41:UInt8)] ((0:Int))
    (fun z7=>
      some (w69r0 z7))
    (fun (_:Unit)=>
      some (w69r0 ((0:UInt8))))
def w69 [Alg] (N:Nat) (c0:UInt8):O:=w69G N (w69n0 N) c0
noncomputable def w69h [Alg] (N:Nat):Hint:=(.seq .d (.seq .d (.seq (.seq .d (.block (.sub w69m0 _ _ _ w69X0_0 w69X0_1 (noX 2) (subL w69I0 w69u0 (w69l0 N N))))) .d)))
theorem w69hk (N:Nat) (hc:CxOk (w69c N)):HintOk (w69c N) Tryz.f69.ntmps (w69h N) w69b:=hk_of _ _ (And.intro trivial (And.intro trivial (And.intro (And.intro trivial (w69S0 N hc)) trivial)))
theorem w69q [Alg] (N:Nat) (c0:UInt8):w69G N (w69s0 N) c0=exec (w69c N) Tryz.f69.ntmps (w69h N) w69b ⟨argT 0 [.e .u8 c0],[],100⟩ (finX (w69c N) Tryz.f69 false):=by kernel_rfl
theorem w69does {N:Nat} (hc:CxOk (w69c N)) {c0:UInt8} {r:Res} (h:w69 N c0=some r):DoesR Tryz.prog 69 (([.e .u8 c0]:List X).map X.D) (HA []) r:=
  fun_ok hc (f:=69) (fn:=Tryz.f69) (code:=w69b) (by kernel_rfl) (by kernel_rfl) (w69hk N hc) (Nat.le_of_ble_eq_true (by kernel_rfl)) (ow:=false) ((w69q N c0).symm.trans (by rw [w69e0 N];exact h))
def w69un (r:Res):Option (UInt8):=match r with
  | (x0,[])=>(match ue .u8 x0 with | some a0=>some a0 | _=>none)
  | _=>none
theorem w69uo {r:Res} {d:UInt8} (h:w69un r=some d):r=w69r0 (d):=by
  unfold w69un at h
  split at h
  · split at h
    · rename_i h0;cases h;rw [ue_some h0];rfl
    · cases h
  · cases h
def w69z (N:Nat) (c0:UInt8):Option (UInt8):=(w69 N c0).bind w69un
theorem w69fin {N:Nat} (hc:CxOk (w69c N)) {c0:UInt8} {d:UInt8} (hd:w69z N c0=some d):Does Tryz.prog 69 (([.e .u8 c0]:List X).map X.D) (HA []) (w69r0 (d)).1.D (HA (w69r0 (d)).2):=by
  obtain ⟨r,hr,hu⟩:=Option.bind_eq_some_iff.1 hd
  have:=w69does hc hr
  rw [w69uo hu] at this
  exact this
def w69p (N:Nat) (c0:UInt8):Bool:=(w69z N c0).isSome
def w69y0 (N:Nat) (c0:UInt8):UInt8:=((w69z N c0).getD 0)
def w69e (N:Nat):Ent':=E1 .u8  (fun x0=>(w69p N x0,w69r0 (w69y0 N x0)))
theorem w69re {N:Nat} {c0:UInt8} {d:UInt8} (hd:w69z N c0=some d):w69r0 (w69y0 N c0)=w69r0 (d):=by unfold w69y0;rw [hd];rfl
theorem w69ok (N:Nat):EOk Tryz.prog 69 (w69e N):=EOk.e1 (fun x0 h=>by
  have h:(w69z N x0).isSome=true:=h
  obtain ⟨d,hd⟩:=Option.isSome_iff_exists.1 h
  have f:=w69fin (w69cx N) hd
  rw [← w69re hd] at f
  exact f)
def w70r0 (a0:Bool):Res:=(.e .bo a0,[])
noncomputable def w70L (N:Nat):List (Nat×Ent'):=[(65,w65e N),(67,w67e N)]
noncomputable def w70c (N:Nat):Cx:=⟨Tryz.prog,25,w70L N,[]⟩
noncomputable def w70b:Code:=Tryz.f70.body.getD .skip
theorem w70cx (N:Nat):CxOk (w70c N):=ctx_ok (by kernel_rfl) (.cons (by kernel_rfl) (w65ok N) (.cons (by kernel_rfl) (w67ok N) .nil)) .nil
def w70G [Alg] (N:Nat)  (s0:(List UInt8)) (i1:Int):O:=
  let b0:=i1=(0:Int)
  let b1:=IntKind.i64.wrap (i1 - (1:Int))
  gc (!decide b0) ((0:UInt8)) s0 i1 fun y0=>
  gc (!decide b0&&decide (y0≠(43:UInt8))) ((0:UInt8)) s0 i1 fun y1=>
  gc (!decide b0&&(decide (y0≠(43:UInt8))&&decide (y1≠(45:UInt8)))) ((0:UInt8)) s0 i1 fun y2=>
  gc (!decide b0&&(decide (y0≠(43:UInt8))&&decide (y1≠(45:UInt8))&&decide (y2≠(42:UInt8)))) ((0:UInt8)) s0 i1 fun y3=>
  gc (!decide b0&&(decide (y0≠(43:UInt8))&&decide (y1≠(45:UInt8))&&decide (y2≠(42:UInt8))&&decide (y3≠(47:UInt8)))) ((0:UInt8)) s0 i1 fun y4=>
  gc (!decide b0&&(decide (y0≠(43:UInt8))&&decide (y1≠(45:UInt8))&&decide (y2≠(42:UInt8))&&decide (y3≠(47:UInt8))&&decide (y4≠(61:UInt8)))) ((0:UInt8)) s0 i1 fun y5=>
  br (decide b0||decide (y0≠(43:UInt8))&&decide (y1≠(45:UInt8))&&decide (y2≠(42:UInt8))&&decide (y3≠(47:UInt8))&&decide (y4≠(61:UInt8))&&decide (y5≠(60:UInt8)))
    (some (w70r0 false))
    (gx s0 b1 fun y6=>
    ck (w65p N y6) <|
    gc (!w65y0 N y6) ((0:UInt8)) s0 b1 fun y7=>
    ck (!!w65y0 N y6||w67p N y7) <|
    gc (!(w65y0 N y6||w67y0 N y7)) ((0:UInt8)) s0 b1 fun y8=>
    some (w70r0 (w65y0 N y6||w67y0 N y7||decide (y8=(41:UInt8)))))
def w70 [Alg] (N:Nat) (s0:(List UInt8)) (i1:Int):O:=w70G N  s0 i1
noncomputable def w70h [Alg] (_:Nat):Hint:=.d
theorem w70hk (N:Nat):HintOk (w70c N) Tryz.f70.ntmps (w70h N) w70b:=hk_of _ _ trivial
theorem w70q [Alg] (N:Nat) (s0:(List UInt8)) (i1:Int):w70G N  s0 i1=exec (w70c N) Tryz.f70.ntmps (w70h N) w70b ⟨argT 0 [.e .tx s0,.e (.i .i64) i1],[],100⟩ (finX (w70c N) Tryz.f70 false):=by kernel_rfl
theorem w70does {N:Nat} (hc:CxOk (w70c N)) {s0:(List UInt8)} {i1:Int} {r:Res} (h:w70 N s0 i1=some r):DoesR Tryz.prog 70 (([.e .tx s0,.e (.i .i64) i1]:List X).map X.D) (HA []) r:=
  fun_ok hc (f:=70) (fn:=Tryz.f70) (code:=w70b) (by kernel_rfl) (by kernel_rfl) (w70hk N) (Nat.le_of_ble_eq_true (by kernel_rfl)) (ow:=false) ((w70q N s0 i1).symm.trans (by exact h))
def w70un (r:Res):Option (Bool):=match r with
  | (x0,[])=>(match ue .bo x0 with | some a0=>some a0 | _=>none)
  | _=>none
theorem w70uo {r:Res} {d:Bool} (h:w70un r=some d):r=w70r0 (d):=by
  unfold w70un at h
  split at h
  · split at h
    · rename_i h0;cases h;rw [ue_some h0];rfl
    · cases h
  · cases h
def w70z (N:Nat) (s0:(List UInt8)) (i1:Int):Option (Bool):=(w70 N s0 i1).bind w70un
theorem w70fin {N:Nat} (hc:CxOk (w70c N)) {s0:(List UInt8)} {i1:Int} {d:Bool} (hd:w70z N s0 i1=some d):Does Tryz.prog 70 (([.e .tx s0,.e (.i .i64) i1]:List X).map X.D) (HA []) (w70r0 (d)).1.D (HA (w70r0 (d)).2):=by
  obtain ⟨r,hr,hu⟩:=Option.bind_eq_some_iff.1 hd
  have:=w70does hc hr
  rw [w70uo hu] at this
  exact this
def w70p (N:Nat) (s0:(List UInt8)) (i1:Int):Bool:=(w70z N s0 i1).isSome
def w70y0 (N:Nat) (s0:(List UInt8)) (i1:Int):Bool:=((w70z N s0 i1).getD false)
def w70e (N:Nat):Ent':=E2 .tx (.i .i64)  (fun x0 x1=>(w70p N x0 x1,w70r0 (w70y0 N x0 x1)))
theorem w70re {N:Nat} {s0:(List UInt8)} {i1:Int} {d:Bool} (hd:w70z N s0 i1=some d):w70r0 (w70y0 N s0 i1)=w70r0 (d):=by unfold w70y0;rw [hd];rfl
theorem w70ok (N:Nat):EOk Tryz.prog 70 (w70e N):=EOk.e2 (fun x0 x1 h=>by
  have h:(w70z N x0 x1).isSome=true:=h
  obtain ⟨d,hd⟩:=Option.isSome_iff_exists.1 h
  have f:=w70fin (w70cx N) hd
  rw [← w70re hd] at f
  exact f)
def w37r0 (a0:(List UInt8)) (a1:(List Int)):Res:=(.tup [.own 100,.own 101],[(100,.row 5 .u8 a0 true),(101,.row 3 (.i .i64) a1 true)])
noncomputable def w37L (N:Nat):List (Nat×Ent'):=[(65,w65e N),(66,w66e N),(67,w67e N),(68,w68e N),(69,w69e N),(70,w70e N)]
noncomputable def w37c (N:Nat):Cx:=⟨Tryz.prog,25,w37L N,[]⟩
noncomputable def w37b:Code:=Tryz.f37.body.getD .skip
theorem w37cx (N:Nat):CxOk (w37c N):=ctx_ok (by kernel_rfl) (.cons (by kernel_rfl) (w65ok N) (.cons (by kernel_rfl) (w66ok N) (.cons (by kernel_rfl) (w67ok N) (.cons (by kernel_rfl) (w68ok N) (.cons (by kernel_rfl) (w69ok N) (.cons (by kernel_rfl) (w70ok N) .nil)))))) .nil
def w37F0 [Alg] (N:Nat)   (k0:(List UInt8)→Int→(List UInt8)→(List Int)→O) (x230_0:(List UInt8)) (x230_1:Int) (x230_2:UInt8) (x230_3:(List UInt8)) (x230_4:(List Int)):O:=
  ck (w65p N x230_2) <|
  br (w65y0 N x230_2)
    (gc (!decide (x230_1=(0:Int))) ((0:UInt8)) x230_0 (IntKind.i64.wrap (x230_1 - (1:Int))) fun y239=>
    ck (!!decide (x230_1=(0:Int))||w65p N y239) <|
    br (decide (x230_1=(0:Int))||!w65y0 N y239)
      (ck (lim (x230_3++[(60:UInt8)]).length (1:Nat)) <|
      ck (w66p N) <|
      gx (w66y0 N) ((↑(x230_2 - (48:UInt8)).toNat:Int)) fun y240=>
      ck (lim (x230_3++[(60:UInt8)]++[y240]).length (1:Nat)) <|
      k0 x230_0 x230_1 (x230_3++[(60:UInt8)]++[y240]) x230_4)
      (ck (w66p N) <|
      gx (w66y0 N) ((↑(x230_2 - (48:UInt8)).toNat:Int)) fun y241=>
      ck (lim (x230_3++[y241]).length (1:Nat)) <|
      k0 x230_0 x230_1 (x230_3++[y241]) x230_4))
    (ck (w67p N x230_2) <|
    br (w67y0 N x230_2)
      (ck (w68p N) <|
      gx (w68y0 N) ((↑(x230_2 - (97:UInt8)).toNat:Int)) fun y242=>
      ck (lim (x230_3++[(48:UInt8),y242]).length (1:Nat)) <|
      k0 x230_0 x230_1 (x230_3++[(48:UInt8),y242]) x230_4)
      (ck (w69p N x230_2) <|
      ck (lim (x230_3++[w69y0 N x230_2]).length (1:Nat)) <|
      k0 x230_0 x230_1 (x230_3++[w69y0 N x230_2]) x230_4))
noncomputable def w37b0:Code:=atC [1,1,1,0,1,0,0,1,0,0,1,0] w37b
def w37m0:Nm:=⟨[0,2,4,5,6,7],[],[]⟩
def w37I0 (x:(List UInt8)×Int×UInt8×(List UInt8)×(List Int)):Sg:=⟨[(0,.e .tx x.1),(2,.nilS),(4,.own 0),(5,.own 1),(6,.e (.i .i64) x.2.1),(7,.e .u8 x.2.2.1)],[(0,.row 5 .u8 x.2.2.2.1 true),(1,.row 3 (.i .i64) x.2.2.2.2 true)],100⟩
def w37u0 (σ:Sg):(List UInt8)×Int×UInt8×(List UInt8)×(List Int):=(lvT .tx 0 0 σ,lvT (.i .i64) 6 0 σ,lvT .u8 7 0 σ,lvR .u8 0 σ,lvR (.i .i64) 1 σ)
theorem w37ui0:∀ x,w37u0 (w37I0 x)=x:=fun _=>by kernel_rfl
def w37X0_0 (y:(List UInt8)×Int×(List UInt8)×(List Int)):Exit×Sg:=(.normal,⟨[(0,.e .tx y.1),(2,.nilS),(4,.own 0),(5,.own 1),(6,.e (.i .i64) y.2.1)],[(0,.row 5 .u8 y.2.2.1 true),(1,.row 3 (.i .i64) y.2.2.2 true)],100⟩)
def w37v0_0 (_:Exit) (σ:Sg):(List UInt8)×Int×(List UInt8)×(List Int):=(lvT .tx 0 0 σ,lvT (.i .i64) 6 0 σ,lvR .u8 0 σ,lvR (.i .i64) 1 σ)
def w37w0:List (Exit×Nm):=[(.normal,⟨[0,2,4,5,6],[],[]⟩)]
theorem w37o0:Outs w37v0_0 (fun _ _=>()) (fun _ _=>()) w37X0_0 (noX 1) (noX 2) (exC .normal) (exC (.goto 1)) (exC (.goto 2)):=⟨fun _=>by kernel_rfl,fun _=>by kernel_rfl,fun _=>by kernel_rfl,fun _=>by kernel_rfl,fun _=>by kernel_rfl,fun _=>by kernel_rfl,exNe_ok (by kernel_rfl),exNe_ok (by kernel_rfl),exNe_ok (by kernel_rfl)⟩
def w37l0 [Alg] (N:Nat) (_:Nat) (x:(List UInt8)×Int×UInt8×(List UInt8)×(List Int)) (k0:((List UInt8)×Int×(List UInt8)×(List Int))→O) (_:(Unit)→O) (_:(Unit)→O):O:=w37F0 N   (fun y0 y1 y2 y3=>k0 (y0,y1,y2,y3)) x.1 x.2.1 x.2.2.1 x.2.2.2.1 x.2.2.2.2
def w37n0 [Alg] (N:Nat) (a0:(List UInt8)) (a1:Int) (a2:UInt8) (a3:(List UInt8)) (a4:(List Int)) (k0:(List UInt8)→Int→(List UInt8)→(List Int)→O):O:=w37l0 N N (a0,a1,a2,a3,a4) (fun y=>k0 y.1 y.2.1 y.2.2.1 y.2.2.2) (fun _=>none) (fun _=>none)
noncomputable def w37s0 [Alg] (N:Nat) (a0:(List UInt8)) (a1:Int) (a2:UInt8) (a3:(List UInt8)) (a4:(List Int)) (k0:(List UInt8)→Int→(List UInt8)→(List Int)→O):O:=subL w37I0 w37u0 (w37l0 N N) (w37I0 (a0,a1,a2,a3,a4)) (fun y=>k0 y.1 y.2.1 y.2.2.1 y.2.2.2) (fun _=>none) (fun _=>none)
theorem w37e0 [Alg] (N:Nat):w37s0 N=w37n0 N:=funext fun _=>funext fun _=>funext fun _=>funext fun _=>funext fun _=>funext fun _=>subL_I w37ui0 _ _ _ _
noncomputable def w37h0 [Alg] (_:Nat):Hint:=.d
theorem w37hk0 (N:Nat):HintOk (w37c N) Tryz.f37.ntmps (w37h0 N) w37b0:=hk_of _ _ trivial
theorem w37q0 [Alg] (N:Nat) (K:Exit→Sg→O) (x:(List UInt8)×Int×UInt8×(List UInt8)×(List Int)):w37F0 N   (fun y0 y1 y2 y3=>K (w37X0_0 (y0,y1,y2,y3)).1 (w37X0_0 (y0,y1,y2,y3)).2) x.1 x.2.1 x.2.2.1 x.2.2.2.1 x.2.2.2.2=exec (w37c N) Tryz.f37.ntmps (w37h0 N) w37b0 (w37I0 x) (partX w37w0 K):=by kernel_rfl
theorem w37S0 (N:Nat) (hc:CxOk (w37c N)):SubOk (w37c N) Tryz.f37.ntmps w37b0 w37X0_0 (noX 1) (noX 2) (subL w37I0 w37u0 (w37l0 N N)):=
  sub_part hc (w37hk0 N) w37o0 (fun x K=>by
    have h:w37F0 N   (fun y0 y1 y2 y3=>K (w37X0_0 (y0,y1,y2,y3)).1 (w37X0_0 (y0,y1,y2,y3)).2) x.1 x.2.1 x.2.2.1 x.2.2.2.1 x.2.2.2.2=w37F0 N   (fun y0 y1 y2 y3=>K (w37X0_0 (y0,y1,y2,y3)).1 (w37X0_0 (y0,y1,y2,y3)).2) x.1 x.2.1 x.2.2.1 x.2.2.2.1 x.2.2.2.2:=by rfl
    exact h.trans (w37q0 N K x))
def w37F1 [Alg] (N:Nat) (in0:(List UInt8)→Int→UInt8→(List UInt8)→(List Int)→((List UInt8)→Int→(List UInt8)→(List Int)→O)→O)  (k0:(List UInt8)→Int→(List UInt8)→(List Int)→O) (x192_0:(List UInt8)) (x192_1:Int) (x192_2:(List UInt8)) (x192_3:(List Int)):O:=
  gx x192_0 x192_1 fun y229=>
  in0 x192_0 x192_1 y229 x192_2 x192_3
    (fun z243 z244 z245 z246=>
      ck (w70p N z243 z244) <|
      br (w70y0 N z243 z244)
        (ck (lim (z246++[(↑z245.length:Int)]).length (8:Nat)) <|
        k0 z243 z244 z245 (z246++[(↑z245.length:Int)]))
        (k0 z243 z244 z245 z246))
noncomputable def w37b1:Code:=atC [1,1,1,0,1,0,0,1,0] w37b
def w37m1:Nm:=⟨[0,2,4,5,6],[],[]⟩
def w37I1 (x:(List UInt8)×Int×(List UInt8)×(List Int)):Sg:=⟨[(0,.e .tx x.1),(2,.nilS),(4,.own 0),(5,.own 1),(6,.e (.i .i64) x.2.1)],[(0,.row 5 .u8 x.2.2.1 true),(1,.row 3 (.i .i64) x.2.2.2 true)],100⟩
def w37u1 (σ:Sg):(List UInt8)×Int×(List UInt8)×(List Int):=(lvT .tx 0 0 σ,lvT (.i .i64) 6 0 σ,lvR .u8 0 σ,lvR (.i .i64) 1 σ)
theorem w37ui1:∀ x,w37u1 (w37I1 x)=x:=fun _=>by kernel_rfl
def w37X1_0 (y:(List UInt8)×Int×(List UInt8)×(List Int)):Exit×Sg:=(.normal,⟨[(0,.e .tx y.1),(2,.nilS),(4,.own 0),(5,.own 1),(6,.e (.i .i64) y.2.1)],[(0,.row 5 .u8 y.2.2.1 true),(1,.row 3 (.i .i64) y.2.2.2 true)],100⟩)
def w37v1_0 (_:Exit) (σ:Sg):(List UInt8)×Int×(List UInt8)×(List Int):=(lvT .tx 0 0 σ,lvT (.i .i64) 6 0 σ,lvR .u8 0 σ,lvR (.i .i64) 1 σ)
def w37w1:List (Exit×Nm):=[(.normal,⟨[0,2,4,5,6],[],[]⟩)]
theorem w37o1:Outs w37v1_0 (fun _ _=>()) (fun _ _=>()) w37X1_0 (noX 1) (noX 2) (exC .normal) (exC (.goto 1)) (exC (.goto 2)):=⟨fun _=>by kernel_rfl,fun _=>by kernel_rfl,fun _=>by kernel_rfl,fun _=>by kernel_rfl,fun _=>by kernel_rfl,fun _=>by kernel_rfl,exNe_ok (by kernel_rfl),exNe_ok (by kernel_rfl),exNe_ok (by kernel_rfl)⟩
def w37l1 [Alg] (N:Nat) (_:Nat) (x:(List UInt8)×Int×(List UInt8)×(List Int)) (k0:((List UInt8)×Int×(List UInt8)×(List Int))→O) (_:(Unit)→O) (_:(Unit)→O):O:=w37F1 N (w37n0 N)  (fun y0 y1 y2 y3=>k0 (y0,y1,y2,y3)) x.1 x.2.1 x.2.2.1 x.2.2.2
def w37n1 [Alg] (N:Nat) (a0:(List UInt8)) (a1:Int) (a2:(List UInt8)) (a3:(List Int)) (k0:(List UInt8)→Int→(List UInt8)→(List Int)→O):O:=w37l1 N N (a0,a1,a2,a3) (fun y=>k0 y.1 y.2.1 y.2.2.1 y.2.2.2) (fun _=>none) (fun _=>none)
noncomputable def w37s1 [Alg] (N:Nat) (a0:(List UInt8)) (a1:Int) (a2:(List UInt8)) (a3:(List Int)) (k0:(List UInt8)→Int→(List UInt8)→(List Int)→O):O:=subL w37I1 w37u1 (w37l1 N N) (w37I1 (a0,a1,a2,a3)) (fun y=>k0 y.1 y.2.1 y.2.2.1 y.2.2.2) (fun _=>none) (fun _=>none)
theorem w37e1 [Alg] (N:Nat):w37s1 N=w37n1 N:=funext fun _=>funext fun _=>funext fun _=>funext fun _=>funext fun _=>subL_I w37ui1 _ _ _ _
noncomputable def w37h1 [Alg] (N:Nat):Hint:=(.block (.seq .d (.seq (.sub w37m0 _ _ _ w37X0_0 (noX 1) (noX 2) (subL w37I0 w37u0 (w37l0 N N))) .d)))
theorem w37hk1 (N:Nat) (hc:CxOk (w37c N)):HintOk (w37c N) Tryz.f37.ntmps (w37h1 N) w37b1:=hk_of _ _ (And.intro trivial (And.intro (w37S0 N hc) trivial))
theorem w37q1 [Alg] (N:Nat) (K:Exit→Sg→O) (x:(List UInt8)×Int×(List UInt8)×(List Int)):w37F1 N (w37s0 N)  (fun y0 y1 y2 y3=>K (w37X1_0 (y0,y1,y2,y3)).1 (w37X1_0 (y0,y1,y2,y3)).2) x.1 x.2.1 x.2.2.1 x.2.2.2=exec (w37c N) Tryz.f37.ntmps (w37h1 N) w37b1 (w37I1 x) (partX w37w1 K):=by kernel_rfl
theorem w37S1 (N:Nat) (hc:CxOk (w37c N)):SubOk (w37c N) Tryz.f37.ntmps w37b1 w37X1_0 (noX 1) (noX 2) (subL w37I1 w37u1 (w37l1 N N)):=
  sub_part hc (w37hk1 N hc) w37o1 (fun x K=>by
    have h:w37F1 N (w37n0 N)  (fun y0 y1 y2 y3=>K (w37X1_0 (y0,y1,y2,y3)).1 (w37X1_0 (y0,y1,y2,y3)).2) x.1 x.2.1 x.2.2.1 x.2.2.2=w37F1 N (w37s0 N)  (fun y0 y1 y2 y3=>K (w37X1_0 (y0,y1,y2,y3)).1 (w37X1_0 (y0,y1,y2,y3)).2) x.1 x.2.1 x.2.2.1 x.2.2.2:=by rw [w37e0 N]
    exact h.trans (w37q1 N K x))
def w37F2 [Alg] (_:Nat) (_in0:(List UInt8)→Int→UInt8→(List UInt8)→(List Int)→((List UInt8)→Int→(List UInt8)→(List Int)→O)→O) (in1:(List UInt8)→Int→(List UInt8)→(List Int)→((List UInt8)→Int→(List UInt8)→(List Int)→O)→O) (self:(List UInt8)→Int→(List UInt8)→(List Int)→O) (k0:(List UInt8)→(List Int)→O) (x0_0:(List UInt8)) (x0_1:Int) (x0_2:(List UInt8)) (x0_3:(List Int)):O:=
  br (decide (x0_1 < (↑x0_0.length:Int)))
    (in1 x0_0 x0_1 x0_2 x0_3
      (fun z247 z248 z249 z250=>
        self z247 (IntKind.i64.wrap (z248+(1:Int))) z249 z250))
    (k0 x0_2 x0_3)
noncomputable def w37b2:Code:=atC [1,1,1,0,1,0,0] w37b
def w37m2:Nm:=⟨[0,2,4,5,6],[],[.nilR 4 (.row 5 .u8 [] true),.nilR 5 (.row 3 (.i .i64) [] true)]⟩
def w37I2 (x:(List UInt8)×Int×(List UInt8)×(List Int)):Sg:=⟨[(0,.e .tx x.1),(2,.nilS),(4,.own 0),(5,.own 1),(6,.e (.i .i64) x.2.1)],[(0,.row 5 .u8 x.2.2.1 true),(1,.row 3 (.i .i64) x.2.2.2 true)],100⟩
def w37u2 (σ:Sg):(List UInt8)×Int×(List UInt8)×(List Int):=(lvT .tx 0 0 σ,lvT (.i .i64) 6 0 σ,lvR .u8 0 σ,lvR (.i .i64) 1 σ)
theorem w37ui2:∀ x,w37u2 (w37I2 x)=x:=fun _=>by kernel_rfl
def w37X2_0 (y:(List UInt8)×(List Int)):Exit×Sg:=((.exit 0),⟨[(4,.own 0),(5,.own 1)],[(0,.row 5 .u8 y.1 true),(1,.row 3 (.i .i64) y.2 true)],100⟩)
def w37v2_0 (_:Exit) (σ:Sg):(List UInt8)×(List Int):=(lvR .u8 0 σ,lvR (.i .i64) 1 σ)
def w37w2:List (Exit×Nm):=[((.exit 0),⟨[4,5],[],[]⟩)]
theorem w37o2:Outs w37v2_0 (fun _ _=>()) (fun _ _=>()) w37X2_0 (noX 1) (noX 2) (exC (.exit 0)) (exC (.goto 1)) (exC (.goto 2)):=⟨fun _=>by kernel_rfl,fun _=>by kernel_rfl,fun _=>by kernel_rfl,fun _=>by kernel_rfl,fun _=>by kernel_rfl,fun _=>by kernel_rfl,exNe_ok (by kernel_rfl),exNe_ok (by kernel_rfl),exNe_ok (by kernel_rfl)⟩
def w37l2 [Alg] (N:Nat):Nat→((List UInt8)×Int×(List UInt8)×(List Int))→(((List UInt8)×(List Int))→O)→((Unit)→O)→((Unit)→O)→O
  | 0,_,_,_,_=>none
  | n+1,x,k0,k1,k2=>w37F2 N (w37n0 N) (w37n1 N) (fun v0 v1 v2 v3=>w37l2 N n (v0,v1,v2,v3) k0 k1 k2) (fun y0 y1=>k0 (y0,y1)) x.1 x.2.1 x.2.2.1 x.2.2.2
def w37n2 [Alg] (N:Nat) (a0:(List UInt8)) (a1:Int) (a2:(List UInt8)) (a3:(List Int)) (k0:(List UInt8)→(List Int)→O):O:=w37l2 N N (a0,a1,a2,a3) (fun y=>k0 y.1 y.2) (fun _=>none) (fun _=>none)
noncomputable def w37s2 [Alg] (N:Nat) (a0:(List UInt8)) (a1:Int) (a2:(List UInt8)) (a3:(List Int)) (k0:(List UInt8)→(List Int)→O):O:=subL w37I2 w37u2 (w37l2 N N) (w37I2 (a0,a1,a2,a3)) (fun y=>k0 y.1 y.2) (fun _=>none) (fun _=>none)
theorem w37e2 [Alg] (N:Nat):w37s2 N=w37n2 N:=funext fun _=>funext fun _=>funext fun _=>funext fun _=>funext fun _=>subL_I w37ui2 _ _ _ _
noncomputable def w37h2 [Alg] (N:Nat):Hint:=(.seq .d (.seq (.sub w37m1 _ _ _ w37X1_0 (noX 1) (noX 2) (subL w37I1 w37u1 (w37l1 N N))) .d))
theorem w37hk2 (N:Nat) (hc:CxOk (w37c N)):HintOk (w37c N) Tryz.f37.ntmps (w37h2 N) w37b2:=hk_of _ _ (And.intro trivial (And.intro (w37S1 N hc) trivial))
theorem w37q2 [Alg] (N:Nat) (self:Sg→O) (K:Exit→Sg→O) (x:(List UInt8)×Int×(List UInt8)×(List Int)):w37F2 N (w37s0 N) (w37s1 N) (fun v0 v1 v2 v3=>self (w37I2 (v0,v1,v2,v3))) (fun y0 y1=>K (w37X2_0 (y0,y1)).1 (w37X2_0 (y0,y1)).2) x.1 x.2.1 x.2.2.1 x.2.2.2=exec (w37c N) Tryz.f37.ntmps (w37h2 N) w37b2 (w37I2 x) (roundX w37m2 w37w2 self K):=by kernel_rfl
theorem w37S2 (N:Nat) (hc:CxOk (w37c N)):SubOk (w37c N) Tryz.f37.ntmps (.loop w37b2) w37X2_0 (noX 1) (noX 2) (subL w37I2 w37u2 (w37l2 N N)):=
  sub_loop hc (w37hk2 N hc) w37o2 (n:=N) (fun x K=>loop_ind (w37l2 N) (fun _ _ _ _=>rfl) (fun n K ih x=>by
    have h:w37F2 N (w37n0 N) (w37n1 N) (fun v0 v1 v2 v3=>w37l2 N n (v0,v1,v2,v3) (fun y=>K (w37X2_0 y).1 (w37X2_0 y).2) (fun y=>K ((noX 1) y).1 ((noX 1) y).2) (fun y=>K ((noX 2) y).1 ((noX 2) y).2)) (fun y0 y1=>K (w37X2_0 (y0,y1)).1 (w37X2_0 (y0,y1)).2) x.1 x.2.1 x.2.2.1 x.2.2.2=w37F2 N (w37s0 N) (w37s1 N) (fun v0 v1 v2 v3=>loopX (w37c N) Tryz.f37.ntmps (w37h2 N) w37b2 w37m2 w37w2 n (w37I2 (v0,v1,v2,v3)) K) (fun y0 y1=>K (w37X2_0 (y0,y1)).1 (w37X2_0 (y0,y1)).2) x.1 x.2.1 x.2.2.1 x.2.2.2:=by rw [w37e0 N,w37e1 N,show (fun v0 v1 v2 v3=>w37l2 N n (v0,v1,v2,v3) (fun y=>K (w37X2_0 y).1 (w37X2_0 y).2) (fun y=>K ((noX 1) y).1 ((noX 1) y).2) (fun y=>K ((noX 2) y).1 ((noX 2) y).2))=(fun v0 v1 v2 v3=>loopX (w37c N) Tryz.f37.ntmps (w37h2 N) w37b2 w37m2 w37w2 n (w37I2 (v0,v1,v2,v3)) K) from funext fun _=>funext fun _=>funext fun _=>funext fun _=>ih _]
    exact h.trans (w37q2 N (fun σ=>loopX (w37c N) Tryz.f37.ntmps (w37h2 N) w37b2 w37m2 w37w2 n σ K) K x)) N x K)
def w37G [Alg] (_:Nat) (_in0:(List UInt8)→Int→UInt8→(List UInt8)→(List Int)→((List UInt8)→Int→(List UInt8)→(List Int)→O)→O) (_in1:(List UInt8)→Int→(List UInt8)→(List Int)→((List UInt8)→Int→(List UInt8)→(List Int)→O)→O) (in2:(List UInt8)→Int→(List UInt8)→(List Int)→((List UInt8)→(List Int)→O)→O) (s0:(List UInt8)):O:=
  in2 s0 ((0:Int)) [] []
    (fun z251 z252=>
      ck (lim (z251++[(63:UInt8)]).length (1:Nat)) <|
      some (w37r0 (z251++[(63:UInt8)]) z252))
def w37 [Alg] (N:Nat) (s0:(List UInt8)):O:=w37G N (w37n0 N) (w37n1 N) (w37n2 N) s0
noncomputable def w37h [Alg] (N:Nat):Hint:=(.seq .d (.seq .d (.seq .d (.seq (.seq .d (.block (.sub w37m2 _ _ _ w37X2_0 (noX 1) (noX 2) (subL w37I2 w37u2 (w37l2 N N))))) .d))))
theorem w37hk (N:Nat) (hc:CxOk (w37c N)):HintOk (w37c N) Tryz.f37.ntmps (w37h N) w37b:=hk_of _ _ (And.intro trivial (And.intro trivial (And.intro trivial (And.intro (And.intro trivial (w37S2 N hc)) trivial))))
theorem w37q [Alg] (N:Nat) (s0:(List UInt8)):w37G N (w37s0 N) (w37s1 N) (w37s2 N) s0=exec (w37c N) Tryz.f37.ntmps (w37h N) w37b ⟨argT 0 [.e .tx s0],[],100⟩ (finX (w37c N) Tryz.f37 true):=by kernel_rfl
theorem w37does {N:Nat} (hc:CxOk (w37c N)) {s0:(List UInt8)} {r:Res} (h:w37 N s0=some r):DoesR Tryz.prog 37 (([.e .tx s0]:List X).map X.D) (HA []) r:=
  fun_ok hc (f:=37) (fn:=Tryz.f37) (code:=w37b) (by kernel_rfl) (by kernel_rfl) (w37hk N hc) (Nat.le_of_ble_eq_true (by kernel_rfl)) (ow:=true) ((w37q N s0).symm.trans (by rw [w37e0 N,w37e1 N,w37e2 N];exact h))
def w37un (r:Res):Option ((List UInt8)×(List Int)):=match r with
  | (.tup [.own 100,.own 101],[(100,x0),(101,x1)])=>(match ur 5 .u8 true x0,ur 3 (.i .i64) true x1 with | some a0,some a1=>some (a0,a1) | _,_=>none)
  | _=>none
theorem w37uo {r:Res} {d:(List UInt8)×(List Int)} (h:w37un r=some d):r=w37r0 (d.1) (d.2):=by
  unfold w37un at h
  split at h
  · split at h
    · rename_i h0 h1;cases h;rw [ur_some h0,ur_some h1];rfl
    · cases h
  · cases h
def w37z (N:Nat) (s0:(List UInt8)):Option ((List UInt8)×(List Int)):=(w37 N s0).bind w37un
theorem w37fin {N:Nat} (hc:CxOk (w37c N)) {s0:(List UInt8)} {d:(List UInt8)×(List Int)} (hd:w37z N s0=some d):Does Tryz.prog 37 (([.e .tx s0]:List X).map X.D) (HA []) (w37r0 (d.1) (d.2)).1.D (HA (w37r0 (d.1) (d.2)).2):=by
  obtain ⟨r,hr,hu⟩:=Option.bind_eq_some_iff.1 hd
  have:=w37does hc hr
  rw [w37uo hu] at this
  exact this
def w37p (N:Nat) (s0:(List UInt8)):Bool:=(w37z N s0).isSome
def w37y0 (N:Nat) (s0:(List UInt8)):(List UInt8):=((w37z N s0).getD ([],[])).1
def w37y1 (N:Nat) (s0:(List UInt8)):(List Int):=((w37z N s0).getD ([],[])).2
def w37e (N:Nat):Ent':=E1 .tx  (fun x0=>(w37p N x0,w37r0 (w37y0 N x0) (w37y1 N x0)))
theorem w37re {N:Nat} {s0:(List UInt8)} {d:(List UInt8)×(List Int)} (hd:w37z N s0=some d):w37r0 (w37y0 N s0) (w37y1 N s0)=w37r0 (d.1) (d.2):=by unfold w37y0 w37y1;rw [hd];rfl
theorem w37ok (N:Nat):EOk Tryz.prog 37 (w37e N):=EOk.e1 (fun x0 h=>by
  have h:(w37z N x0).isSome=true:=h
  obtain ⟨d,hd⟩:=Option.isSome_iff_exists.1 h
  have f:=w37fin (w37cx N) hd
  rw [← w37re hd] at f
  exact f)
def w11r0 (a0:(List UInt8)) (a1:Int):Res:=(.tup [.e (.sl .u8) a0,.e (.i .i64) a1],[])
noncomputable def w11L (N:Nat):List (Nat×Ent'):=[(36,w36e N),(38,w38e N),(37,w37e N)]
noncomputable def w11c (N:Nat):Cx:=⟨Tryz.prog,25,w11L N,[]⟩
noncomputable def w11b:Code:=Tryz.f11.body.getD .skip
theorem w11cx (N:Nat):CxOk (w11c N):=ctx_ok (by kernel_rfl) (.cons (by kernel_rfl) (w36ok N) (.cons (by kernel_rfl) (w38ok N) (.cons (by kernel_rfl) (w37ok N) .nil))) .nil
def w11G [Alg] (N:Nat)  (e0_0:Int) (e0_1:Int) (e0_2:(List Ex)):O:=
  let b0:=Ex.mk (Ex.mk e0_0 e0_1 e0_2).op (Ex.mk e0_0 e0_1 e0_2).num (Ex.mk e0_0 e0_1 e0_2).kids
  ck (w36p N b0.op b0.num b0.kids) <|
  br (decide (w36y0 N b0.op b0.num b0.kids≠(0:Int)))
    (some (w11r0 [] (w36y0 N b0.op b0.num b0.kids)))
    (ck (w38p N b0.op b0.num b0.kids) <|
    ck (w37p N (w38y0 N b0.op b0.num b0.kids)) <|
    some (w11r0 (w37y0 N (w38y0 N b0.op b0.num b0.kids)) ((0:Int))))
def w11 [Alg] (N:Nat) (e0_0:Int) (e0_1:Int) (e0_2:(List Ex)):O:=w11G N  e0_0 e0_1 e0_2
noncomputable def w11h [Alg] (_:Nat):Hint:=.d
theorem w11hk (N:Nat):HintOk (w11c N) Tryz.f11.ntmps (w11h N) w11b:=hk_of _ _ trivial
theorem w11q [Alg] (N:Nat) (e0_0:Int) (e0_1:Int) (e0_2:(List Ex)):w11G N  e0_0 e0_1 e0_2=exec (w11c N) Tryz.f11.ntmps (w11h N) w11b ⟨argT 0 [.agg [.e (.i .i64) e0_0,.e (.i .i64) e0_1,.e (.sl .ex) e0_2]],[],100⟩ (finX (w11c N) Tryz.f11 false):=by kernel_rfl
theorem w11does {N:Nat} (hc:CxOk (w11c N)) {e0_0:Int} {e0_1:Int} {e0_2:(List Ex)} {r:Res} (h:w11 N e0_0 e0_1 e0_2=some r):DoesR Tryz.prog 11 (([.agg [.e (.i .i64) e0_0,.e (.i .i64) e0_1,.e (.sl .ex) e0_2]]:List X).map X.D) (HA []) r:=
  fun_ok hc (f:=11) (fn:=Tryz.f11) (code:=w11b) (by kernel_rfl) (by kernel_rfl) (w11hk N) (Nat.le_of_ble_eq_true (by kernel_rfl)) (ow:=false) ((w11q N e0_0 e0_1 e0_2).symm.trans (by exact h))
def w11un (r:Res):Option ((List UInt8)×Int):=match r with
  | (.tup [x0,x1],[])=>(match ue (.sl .u8) x0,ue (.i .i64) x1 with | some a0,some a1=>some (a0,a1) | _,_=>none)
  | _=>none
theorem w11uo {r:Res} {d:(List UInt8)×Int} (h:w11un r=some d):r=w11r0 (d.1) (d.2):=by
  unfold w11un at h
  split at h
  · split at h
    · rename_i h0 h1;cases h;rw [ue_some h0,ue_some h1];rfl
    · cases h
  · cases h
def w11z (N:Nat) (e0_0:Int) (e0_1:Int) (e0_2:(List Ex)):Option ((List UInt8)×Int):=(w11 N e0_0 e0_1 e0_2).bind w11un
theorem w11fin {N:Nat} (hc:CxOk (w11c N)) {e0_0:Int} {e0_1:Int} {e0_2:(List Ex)} {d:(List UInt8)×Int} (hd:w11z N e0_0 e0_1 e0_2=some d):Does Tryz.prog 11 (([.agg [.e (.i .i64) e0_0,.e (.i .i64) e0_1,.e (.sl .ex) e0_2]]:List X).map X.D) (HA []) (w11r0 (d.1) (d.2)).1.D (HA (w11r0 (d.1) (d.2)).2):=by
  obtain ⟨r,hr,hu⟩:=Option.bind_eq_some_iff.1 hd
  have:=w11does hc hr
  rw [w11uo hu] at this
  exact this
def w11p (N:Nat) (e0_0:Int) (e0_1:Int) (e0_2:(List Ex)):Bool:=(w11z N e0_0 e0_1 e0_2).isSome
def w11y0 (N:Nat) (e0_0:Int) (e0_1:Int) (e0_2:(List Ex)):(List UInt8):=((w11z N e0_0 e0_1 e0_2).getD ([],0)).1
def w11y1 (N:Nat) (e0_0:Int) (e0_1:Int) (e0_2:(List Ex)):Int:=((w11z N e0_0 e0_1 e0_2).getD ([],0)).2
def w11e (N:Nat):Ent':=E1 .ex  (fun x0=>(w11p N (Ex.op x0) (Ex.num x0) (Ex.kids x0),w11r0 (w11y0 N (Ex.op x0) (Ex.num x0) (Ex.kids x0)) (w11y1 N (Ex.op x0) (Ex.num x0) (Ex.kids x0))))
theorem w11re {N:Nat} {e0_0:Int} {e0_1:Int} {e0_2:(List Ex)} {d:(List UInt8)×Int} (hd:w11z N e0_0 e0_1 e0_2=some d):w11r0 (w11y0 N e0_0 e0_1 e0_2) (w11y1 N e0_0 e0_1 e0_2)=w11r0 (d.1) (d.2):=by unfold w11y0 w11y1;rw [hd];rfl
theorem w11ok (N:Nat):EOk Tryz.prog 11 (w11e N):=EOk.e1 (fun x0 h=>by
  have h:(w11z N (Ex.op x0) (Ex.num x0) (Ex.kids x0)).isSome=true:=h
  obtain ⟨d,hd⟩:=Option.isSome_iff_exists.1 h
  have f:=w11fin (w11cx N) hd
  rw [← w11re hd] at f
  exact f)
def w13r0 (a0:Int) (a1:(List Int)):Res:=(.tup [.own 100,.e (.i .i64) a0],[(100,.row 3 (.i .i64) a1 true)])
def w13r1 (a0:Int):Res:=(.tup [.nilS,.e (.i .i64) a0],[])
noncomputable def w13L (N:Nat):List (Nat×Ent'):=[(36,w36e N),(38,w38e N),(37,w37e N)]
noncomputable def w13c (N:Nat):Cx:=⟨Tryz.prog,25,w13L N,[]⟩
noncomputable def w13b:Code:=Tryz.f13.body.getD .skip
theorem w13cx (N:Nat):CxOk (w13c N):=ctx_ok (by kernel_rfl) (.cons (by kernel_rfl) (w36ok N) (.cons (by kernel_rfl) (w38ok N) (.cons (by kernel_rfl) (w37ok N) .nil))) .nil
def w13G [Alg] (N:Nat)  (e0_0:Int) (e0_1:Int) (e0_2:(List Ex)):O:=
  let b0:=Ex.mk (Ex.mk e0_0 e0_1 e0_2).op (Ex.mk e0_0 e0_1 e0_2).num (Ex.mk e0_0 e0_1 e0_2).kids
  ck (w36p N b0.op b0.num b0.kids) <|
  br (decide (w36y0 N b0.op b0.num b0.kids≠(0:Int)))
    (some (w13r1 (w36y0 N b0.op b0.num b0.kids)))
    (ck (w38p N b0.op b0.num b0.kids) <|
    ck (w37p N (w38y0 N b0.op b0.num b0.kids)) <|
    some (w13r0 ((0:Int)) (w37y1 N (w38y0 N b0.op b0.num b0.kids))))
def w13 [Alg] (N:Nat) (e0_0:Int) (e0_1:Int) (e0_2:(List Ex)):O:=w13G N  e0_0 e0_1 e0_2
noncomputable def w13h [Alg] (_:Nat):Hint:=.d
theorem w13hk (N:Nat):HintOk (w13c N) Tryz.f13.ntmps (w13h N) w13b:=hk_of _ _ trivial
theorem w13q [Alg] (N:Nat) (e0_0:Int) (e0_1:Int) (e0_2:(List Ex)):w13G N  e0_0 e0_1 e0_2=exec (w13c N) Tryz.f13.ntmps (w13h N) w13b ⟨argT 0 [.agg [.e (.i .i64) e0_0,.e (.i .i64) e0_1,.e (.sl .ex) e0_2]],[],100⟩ (finX (w13c N) Tryz.f13 true):=by kernel_rfl
theorem w13does {N:Nat} (hc:CxOk (w13c N)) {e0_0:Int} {e0_1:Int} {e0_2:(List Ex)} {r:Res} (h:w13 N e0_0 e0_1 e0_2=some r):DoesR Tryz.prog 13 (([.agg [.e (.i .i64) e0_0,.e (.i .i64) e0_1,.e (.sl .ex) e0_2]]:List X).map X.D) (HA []) r:=
  fun_ok hc (f:=13) (fn:=Tryz.f13) (code:=w13b) (by kernel_rfl) (by kernel_rfl) (w13hk N) (Nat.le_of_ble_eq_true (by kernel_rfl)) (ow:=true) ((w13q N e0_0 e0_1 e0_2).symm.trans (by exact h))
def w13un (r:Res):Option (Int×(List Int)):=match r with
  | (.tup [.own 100,x0],[(100,x1)])=>(match ue (.i .i64) x0,ur 3 (.i .i64) true x1 with | some a0,some a1=>some (a0,a1) | _,_=>none)
  | _=>none
theorem w13uo {r:Res} {d:Int×(List Int)} (h:w13un r=some d):r=w13r0 (d.1) (d.2):=by
  unfold w13un at h
  split at h
  · split at h
    · rename_i h0 h1;cases h;rw [ue_some h0,ur_some h1];rfl
    · cases h
  · cases h
def w13z (N:Nat) (e0_0:Int) (e0_1:Int) (e0_2:(List Ex)):Option (Int×(List Int)):=(w13 N e0_0 e0_1 e0_2).bind w13un
theorem w13fin {N:Nat} (hc:CxOk (w13c N)) {e0_0:Int} {e0_1:Int} {e0_2:(List Ex)} {d:Int×(List Int)} (hd:w13z N e0_0 e0_1 e0_2=some d):Does Tryz.prog 13 (([.agg [.e (.i .i64) e0_0,.e (.i .i64) e0_1,.e (.sl .ex) e0_2]]:List X).map X.D) (HA []) (w13r0 (d.1) (d.2)).1.D (HA (w13r0 (d.1) (d.2)).2):=by
  obtain ⟨r,hr,hu⟩:=Option.bind_eq_some_iff.1 hd
  have:=w13does hc hr
  rw [w13uo hu] at this
  exact this
def w13p (N:Nat) (e0_0:Int) (e0_1:Int) (e0_2:(List Ex)):Bool:=(w13z N e0_0 e0_1 e0_2).isSome
def w13y0 (N:Nat) (e0_0:Int) (e0_1:Int) (e0_2:(List Ex)):Int:=((w13z N e0_0 e0_1 e0_2).getD (0,[])).1
def w13y1 (N:Nat) (e0_0:Int) (e0_1:Int) (e0_2:(List Ex)):(List Int):=((w13z N e0_0 e0_1 e0_2).getD (0,[])).2
def w13e (N:Nat):Ent':=E1 .ex  (fun x0=>(w13p N (Ex.op x0) (Ex.num x0) (Ex.kids x0),w13r0 (w13y0 N (Ex.op x0) (Ex.num x0) (Ex.kids x0)) (w13y1 N (Ex.op x0) (Ex.num x0) (Ex.kids x0))))
theorem w13re {N:Nat} {e0_0:Int} {e0_1:Int} {e0_2:(List Ex)} {d:Int×(List Int)} (hd:w13z N e0_0 e0_1 e0_2=some d):w13r0 (w13y0 N e0_0 e0_1 e0_2) (w13y1 N e0_0 e0_1 e0_2)=w13r0 (d.1) (d.2):=by unfold w13y0 w13y1;rw [hd];rfl
theorem w13ok (N:Nat):EOk Tryz.prog 13 (w13e N):=EOk.e1 (fun x0 h=>by
  have h:(w13z N (Ex.op x0) (Ex.num x0) (Ex.kids x0)).isSome=true:=h
  obtain ⟨d,hd⟩:=Option.isSome_iff_exists.1 h
  have f:=w13fin (w13cx N) hd
  rw [← w13re hd] at f
  exact f)
def w25r0 (a0:(List (List UInt8))) (a1:Int):Res:=(.tup [.e (.sl (.sl .u8)) a0,.e (.i .i64) a1],[])
noncomputable def w25L (N:Nat):List (Nat×Ent'):=[(11,w11e N),(13,w13e N)]
noncomputable def w25c (N:Nat):Cx:=⟨Tryz.prog,25,w25L N,[]⟩
noncomputable def w25b:Code:=Tryz.f25.body.getD .skip
theorem w25cx (N:Nat):CxOk (w25c N):=ctx_ok (by kernel_rfl) (.cons (by kernel_rfl) (w11ok N) (.cons (by kernel_rfl) (w13ok N) .nil)) .nil
def w25F0 [Alg] (_:Nat)   (k0:Int→(List UInt8)→Int→(List Int)→(List (List UInt8))→(List UInt8)→O) (x71_0:Int) (x71_1:(List UInt8)) (x71_2:Int) (x71_3:(List Int)) (x71_4:(List (List UInt8))):O:=
  br (decide ((0:Int) < x71_2))
    (k0 x71_0 x71_1 x71_2 x71_3 x71_4 [(0:UInt8),(0:UInt8)])
    (k0 x71_0 x71_1 x71_2 x71_3 x71_4 [])
noncomputable def w25b0:Code:=atC [1,1,1,1,1,1,1,1,0,0,0,1,0,1,0] w25b
def w25m0:Nm:=⟨[1,6,8,10,11,12],[],[]⟩
def w25I0 (x:Int×(List UInt8)×Int×(List Int)×(List (List UInt8))):Sg:=⟨[(1,.e (.i .i64) x.1),(6,.e (.sl .u8) x.2.1),(8,.own 0),(10,.own 1),(11,.e (.i .i64) x.2.2.1),(12,.nilS)],[(0,.row 3 (.i .i64) x.2.2.2.1 true),(1,.row 28 (.sl .u8) x.2.2.2.2 true)],100⟩
def w25u0 (σ:Sg):Int×(List UInt8)×Int×(List Int)×(List (List UInt8)):=(lvT (.i .i64) 1 0 σ,lvT (.sl .u8) 6 0 σ,lvT (.i .i64) 11 0 σ,lvR (.i .i64) 0 σ,lvR (.sl .u8) 1 σ)
theorem w25ui0:∀ x,w25u0 (w25I0 x)=x:=fun _=>by kernel_rfl
def w25X0_0 (y:Int×(List UInt8)×Int×(List Int)×(List (List UInt8))×(List UInt8)):Exit×Sg:=(.normal,⟨[(1,.e (.i .i64) y.1),(6,.e (.sl .u8) y.2.1),(8,.own 0),(10,.own 1),(11,.e (.i .i64) y.2.2.1),(12,.own 2)],[(0,.row 3 (.i .i64) y.2.2.2.1 true),(1,.row 28 (.sl .u8) y.2.2.2.2.1 true),(2,.row 5 .u8 y.2.2.2.2.2 true)],100⟩)
def w25v0_0 (_:Exit) (σ:Sg):Int×(List UInt8)×Int×(List Int)×(List (List UInt8))×(List UInt8):=(lvT (.i .i64) 1 0 σ,lvT (.sl .u8) 6 0 σ,lvT (.i .i64) 11 0 σ,lvR (.i .i64) 0 σ,lvR (.sl .u8) 1 σ,lvR .u8 2 σ)
def w25w0:List (Exit×Nm):=[(.normal,⟨[1,6,8,10,11,12],[],[.nilR 12 (.row 5 .u8 [] true)]⟩)]
theorem w25o0:Outs w25v0_0 (fun _ _=>()) (fun _ _=>()) w25X0_0 (noX 1) (noX 2) (exC .normal) (exC (.goto 1)) (exC (.goto 2)):=⟨fun _=>by kernel_rfl,fun _=>by kernel_rfl,fun _=>by kernel_rfl,fun _=>by kernel_rfl,fun _=>by kernel_rfl,fun _=>by kernel_rfl,exNe_ok (by kernel_rfl),exNe_ok (by kernel_rfl),exNe_ok (by kernel_rfl)⟩
def w25l0 [Alg] (N:Nat) (_:Nat) (x:Int×(List UInt8)×Int×(List Int)×(List (List UInt8))) (k0:(Int×(List UInt8)×Int×(List Int)×(List (List UInt8))×(List UInt8))→O) (_:(Unit)→O) (_:(Unit)→O):O:=w25F0 N   (fun y0 y1 y2 y3 y4 y5=>k0 (y0,y1,y2,y3,y4,y5)) x.1 x.2.1 x.2.2.1 x.2.2.2.1 x.2.2.2.2
def w25n0 [Alg] (N:Nat) (a0:Int) (a1:(List UInt8)) (a2:Int) (a3:(List Int)) (a4:(List (List UInt8))) (k0:Int→(List UInt8)→Int→(List Int)→(List (List UInt8))→(List UInt8)→O):O:=w25l0 N N (a0,a1,a2,a3,a4) (fun y=>k0 y.1 y.2.1 y.2.2.1 y.2.2.2.1 y.2.2.2.2.1 y.2.2.2.2.2) (fun _=>none) (fun _=>none)
noncomputable def w25s0 [Alg] (N:Nat) (a0:Int) (a1:(List UInt8)) (a2:Int) (a3:(List Int)) (a4:(List (List UInt8))) (k0:Int→(List UInt8)→Int→(List Int)→(List (List UInt8))→(List UInt8)→O):O:=subL w25I0 w25u0 (w25l0 N N) (w25I0 (a0,a1,a2,a3,a4)) (fun y=>k0 y.1 y.2.1 y.2.2.1 y.2.2.2.1 y.2.2.2.2.1 y.2.2.2.2.2) (fun _=>none) (fun _=>none)
theorem w25e0 [Alg] (N:Nat):w25s0 N=w25n0 N:=funext fun _=>funext fun _=>funext fun _=>funext fun _=>funext fun _=>funext fun _=>subL_I w25ui0 _ _ _ _
noncomputable def w25h0 [Alg] (_:Nat):Hint:=.d
theorem w25hk0 (N:Nat):HintOk (w25c N) Tryz.f25.ntmps (w25h0 N) w25b0:=hk_of _ _ trivial
theorem w25q0 [Alg] (N:Nat) (K:Exit→Sg→O) (x:Int×(List UInt8)×Int×(List Int)×(List (List UInt8))):w25F0 N   (fun y0 y1 y2 y3 y4 y5=>K (w25X0_0 (y0,y1,y2,y3,y4,y5)).1 (w25X0_0 (y0,y1,y2,y3,y4,y5)).2) x.1 x.2.1 x.2.2.1 x.2.2.2.1 x.2.2.2.2=exec (w25c N) Tryz.f25.ntmps (w25h0 N) w25b0 (w25I0 x) (partX w25w0 K):=by kernel_rfl
theorem w25S0 (N:Nat) (hc:CxOk (w25c N)):SubOk (w25c N) Tryz.f25.ntmps w25b0 w25X0_0 (noX 1) (noX 2) (subL w25I0 w25u0 (w25l0 N N)):=
  sub_part hc (w25hk0 N) w25o0 (fun x K=>by
    have h:w25F0 N   (fun y0 y1 y2 y3 y4 y5=>K (w25X0_0 (y0,y1,y2,y3,y4,y5)).1 (w25X0_0 (y0,y1,y2,y3,y4,y5)).2) x.1 x.2.1 x.2.2.1 x.2.2.2.1 x.2.2.2.2=w25F0 N   (fun y0 y1 y2 y3 y4 y5=>K (w25X0_0 (y0,y1,y2,y3,y4,y5)).1 (w25X0_0 (y0,y1,y2,y3,y4,y5)).2) x.1 x.2.1 x.2.2.1 x.2.2.2.1 x.2.2.2.2:=by rfl
    exact h.trans (w25q0 N K x))
def w25F1 [Alg] (_:Nat)  (self:Int→Int→O) (k0:Int→(List UInt8)→Int→Int→(List Int)→(List (List UInt8))→(List UInt8)→O) (x78_0:Int) (x78_1:(List UInt8)) (x78_2:Int) (x78_5:(List Int)) (x78_6:(List (List UInt8))) (x78_7:(List UInt8)) (x78_3:Int) (x78_4:Int):O:=
  br (decide (x78_4 < (↑x78_5.length:Int)))
    (gx x78_5 x78_4 fun y85=>
    gc (decide (x78_2 < y85)) ((0:Int)) x78_5 x78_4 fun y86=>
    br (decide (x78_2 < y85)&&decide (IntKind.i64.wrap (IntKind.i64.wrap ((↑x78_7.length:Int)+y86) - x78_2)≤x78_0))
      (gx x78_5 x78_4 fun y87=>
      self y87 (IntKind.i64.wrap (x78_4+(1:Int))))
      (self x78_3 (IntKind.i64.wrap (x78_4+(1:Int)))))
    (k0 x78_0 x78_1 x78_2 x78_3 x78_5 x78_6 x78_7)
noncomputable def w25b1:Code:=atC [1,1,1,1,1,1,1,1,0,0,0,1,0,1,1,1,0,1,0,0] w25b
def w25m1:Nm:=⟨[1,6,8,10,11,12,13,14],[],[]⟩
def w25I1 (x:Int×(List UInt8)×Int×Int×Int×(List Int)×(List (List UInt8))×(List UInt8)):Sg:=⟨[(1,.e (.i .i64) x.1),(6,.e (.sl .u8) x.2.1),(8,.own 0),(10,.own 1),(11,.e (.i .i64) x.2.2.1),(12,.own 2),(13,.e (.i .i64) x.2.2.2.1),(14,.e (.i .i64) x.2.2.2.2.1)],[(0,.row 3 (.i .i64) x.2.2.2.2.2.1 true),(1,.row 28 (.sl .u8) x.2.2.2.2.2.2.1 true),(2,.row 5 .u8 x.2.2.2.2.2.2.2 true)],100⟩
def w25u1 (σ:Sg):Int×(List UInt8)×Int×Int×Int×(List Int)×(List (List UInt8))×(List UInt8):=(lvT (.i .i64) 1 0 σ,lvT (.sl .u8) 6 0 σ,lvT (.i .i64) 11 0 σ,lvT (.i .i64) 13 0 σ,lvT (.i .i64) 14 0 σ,lvR (.i .i64) 0 σ,lvR (.sl .u8) 1 σ,lvR .u8 2 σ)
theorem w25ui1:∀ x,w25u1 (w25I1 x)=x:=fun _=>by kernel_rfl
def w25X1_0 (y:Int×(List UInt8)×Int×Int×(List Int)×(List (List UInt8))×(List UInt8)):Exit×Sg:=((.exit 2),⟨[(1,.e (.i .i64) y.1),(6,.e (.sl .u8) y.2.1),(8,.own 0),(10,.own 1),(11,.e (.i .i64) y.2.2.1),(12,.own 2),(13,.e (.i .i64) y.2.2.2.1)],[(0,.row 3 (.i .i64) y.2.2.2.2.1 true),(1,.row 28 (.sl .u8) y.2.2.2.2.2.1 true),(2,.row 5 .u8 y.2.2.2.2.2.2 true)],100⟩)
def w25v1_0 (_:Exit) (σ:Sg):Int×(List UInt8)×Int×Int×(List Int)×(List (List UInt8))×(List UInt8):=(lvT (.i .i64) 1 0 σ,lvT (.sl .u8) 6 0 σ,lvT (.i .i64) 11 0 σ,lvT (.i .i64) 13 0 σ,lvR (.i .i64) 0 σ,lvR (.sl .u8) 1 σ,lvR .u8 2 σ)
def w25w1:List (Exit×Nm):=[((.exit 2),⟨[1,6,8,10,11,12,13],[],[]⟩)]
theorem w25o1:Outs w25v1_0 (fun _ _=>()) (fun _ _=>()) w25X1_0 (noX 1) (noX 2) (exC (.exit 2)) (exC (.goto 1)) (exC (.goto 2)):=⟨fun _=>by kernel_rfl,fun _=>by kernel_rfl,fun _=>by kernel_rfl,fun _=>by kernel_rfl,fun _=>by kernel_rfl,fun _=>by kernel_rfl,exNe_ok (by kernel_rfl),exNe_ok (by kernel_rfl),exNe_ok (by kernel_rfl)⟩
def w25l1 [Alg] (N:Nat):Nat→(Int×(List UInt8)×Int×Int×Int×(List Int)×(List (List UInt8))×(List UInt8))→((Int×(List UInt8)×Int×Int×(List Int)×(List (List UInt8))×(List UInt8))→O)→((Unit)→O)→((Unit)→O)→O
  | 0,_,_,_,_=>none
  | n+1,x,k0,k1,k2=>w25F1 N  (fun v0 v1=>w25l1 N n (x.1,x.2.1,x.2.2.1,v0,v1,x.2.2.2.2.2.1,x.2.2.2.2.2.2.1,x.2.2.2.2.2.2.2) k0 k1 k2) (fun y0 y1 y2 y3 y4 y5 y6=>k0 (y0,y1,y2,y3,y4,y5,y6)) x.1 x.2.1 x.2.2.1 x.2.2.2.2.2.1 x.2.2.2.2.2.2.1 x.2.2.2.2.2.2.2 x.2.2.2.1 x.2.2.2.2.1
def w25n1 [Alg] (N:Nat) (a0:Int) (a1:(List UInt8)) (a2:Int) (a3:Int) (a4:Int) (a5:(List Int)) (a6:(List (List UInt8))) (a7:(List UInt8)) (k0:Int→(List UInt8)→Int→Int→(List Int)→(List (List UInt8))→(List UInt8)→O):O:=w25l1 N N (a0,a1,a2,a3,a4,a5,a6,a7) (fun y=>k0 y.1 y.2.1 y.2.2.1 y.2.2.2.1 y.2.2.2.2.1 y.2.2.2.2.2.1 y.2.2.2.2.2.2) (fun _=>none) (fun _=>none)
noncomputable def w25s1 [Alg] (N:Nat) (a0:Int) (a1:(List UInt8)) (a2:Int) (a3:Int) (a4:Int) (a5:(List Int)) (a6:(List (List UInt8))) (a7:(List UInt8)) (k0:Int→(List UInt8)→Int→Int→(List Int)→(List (List UInt8))→(List UInt8)→O):O:=subL w25I1 w25u1 (w25l1 N N) (w25I1 (a0,a1,a2,a3,a4,a5,a6,a7)) (fun y=>k0 y.1 y.2.1 y.2.2.1 y.2.2.2.1 y.2.2.2.2.1 y.2.2.2.2.2.1 y.2.2.2.2.2.2) (fun _=>none) (fun _=>none)
theorem w25e1 [Alg] (N:Nat):w25s1 N=w25n1 N:=funext fun _=>funext fun _=>funext fun _=>funext fun _=>funext fun _=>funext fun _=>funext fun _=>funext fun _=>funext fun _=>subL_I w25ui1 _ _ _ _
noncomputable def w25h1 [Alg] (_:Nat):Hint:=.d
theorem w25hk1 (N:Nat):HintOk (w25c N) Tryz.f25.ntmps (w25h1 N) w25b1:=hk_of _ _ trivial
theorem w25q1 [Alg] (N:Nat) (self:Sg→O) (K:Exit→Sg→O) (x:Int×(List UInt8)×Int×Int×Int×(List Int)×(List (List UInt8))×(List UInt8)):w25F1 N  (fun v0 v1=>self (w25I1 (x.1,x.2.1,x.2.2.1,v0,v1,x.2.2.2.2.2.1,x.2.2.2.2.2.2.1,x.2.2.2.2.2.2.2))) (fun y0 y1 y2 y3 y4 y5 y6=>K (w25X1_0 (y0,y1,y2,y3,y4,y5,y6)).1 (w25X1_0 (y0,y1,y2,y3,y4,y5,y6)).2) x.1 x.2.1 x.2.2.1 x.2.2.2.2.2.1 x.2.2.2.2.2.2.1 x.2.2.2.2.2.2.2 x.2.2.2.1 x.2.2.2.2.1=exec (w25c N) Tryz.f25.ntmps (w25h1 N) w25b1 (w25I1 x) (roundX w25m1 w25w1 self K):=by kernel_rfl
theorem w25S1 (N:Nat) (hc:CxOk (w25c N)):SubOk (w25c N) Tryz.f25.ntmps (.loop w25b1) w25X1_0 (noX 1) (noX 2) (subL w25I1 w25u1 (w25l1 N N)):=
  sub_loop hc (w25hk1 N) w25o1 (n:=N) (fun x K=>loop_ind (w25l1 N) (fun _ _ _ _=>rfl) (fun n K ih x=>by
    have h:w25F1 N  (fun v0 v1=>w25l1 N n (x.1,x.2.1,x.2.2.1,v0,v1,x.2.2.2.2.2.1,x.2.2.2.2.2.2.1,x.2.2.2.2.2.2.2) (fun y=>K (w25X1_0 y).1 (w25X1_0 y).2) (fun y=>K ((noX 1) y).1 ((noX 1) y).2) (fun y=>K ((noX 2) y).1 ((noX 2) y).2)) (fun y0 y1 y2 y3 y4 y5 y6=>K (w25X1_0 (y0,y1,y2,y3,y4,y5,y6)).1 (w25X1_0 (y0,y1,y2,y3,y4,y5,y6)).2) x.1 x.2.1 x.2.2.1 x.2.2.2.2.2.1 x.2.2.2.2.2.2.1 x.2.2.2.2.2.2.2 x.2.2.2.1 x.2.2.2.2.1=w25F1 N  (fun v0 v1=>loopX (w25c N) Tryz.f25.ntmps (w25h1 N) w25b1 w25m1 w25w1 n (w25I1 (x.1,x.2.1,x.2.2.1,v0,v1,x.2.2.2.2.2.1,x.2.2.2.2.2.2.1,x.2.2.2.2.2.2.2)) K) (fun y0 y1 y2 y3 y4 y5 y6=>K (w25X1_0 (y0,y1,y2,y3,y4,y5,y6)).1 (w25X1_0 (y0,y1,y2,y3,y4,y5,y6)).2) x.1 x.2.1 x.2.2.1 x.2.2.2.2.2.1 x.2.2.2.2.2.2.1 x.2.2.2.2.2.2.2 x.2.2.2.1 x.2.2.2.2.1:=by rw [ show (fun v0 v1=>w25l1 N n (x.1,x.2.1,x.2.2.1,v0,v1,x.2.2.2.2.2.1,x.2.2.2.2.2.2.1,x.2.2.2.2.2.2.2) (fun y=>K (w25X1_0 y).1 (w25X1_0 y).2) (fun y=>K ((noX 1) y).1 ((noX 1) y).2) (fun y=>K ((noX 2) y).1 ((noX 2) y).2))=(fun v0 v1=>loopX (w25c N) Tryz.f25.ntmps (w25h1 N) w25b1 w25m1 w25w1 n (w25I1 (x.1,x.2.1,x.2.2.1,v0,v1,x.2.2.2.2.2.1,x.2.2.2.2.2.2.1,x.2.2.2.2.2.2.2)) K) from funext fun _=>funext fun _=>ih _]
    exact h.trans (w25q1 N (fun σ=>loopX (w25c N) Tryz.f25.ntmps (w25h1 N) w25b1 w25m1 w25w1 n σ K) K x)) N x K)
def w25F2 [Alg] (_:Nat) (in0:Int→(List UInt8)→Int→(List Int)→(List (List UInt8))→(Int→(List UInt8)→Int→(List Int)→(List (List UInt8))→(List UInt8)→O)→O) (in1:Int→(List UInt8)→Int→Int→Int→(List Int)→(List (List UInt8))→(List UInt8)→(Int→(List UInt8)→Int→Int→(List Int)→(List (List UInt8))→(List UInt8)→O)→O) (self:Int→(List UInt8)→Int→(List Int)→(List (List UInt8))→O) (k0:Int→O) (k1:(List (List UInt8))→O) (x0_0:Int) (x0_1:(List UInt8)) (x0_2:Int) (x0_3:(List Int)) (x0_4:(List (List UInt8))):O:=
  br (decide (x0_2 < (↑x0_1.length:Int)))
    (in0 x0_0 x0_1 x0_2 x0_3 x0_4
      (fun z72 z73 z74 z75 z76 z77=>
        in1 z72 z73 z74 z74 ((0:Int)) z75 z76 z77
          (fun z88 z89 z90 z91 z92 z93 z94=>
            br (decide (z91=z90))
              (k0 ((14:Int)))
              (ck (slcOk z89.length (some z90) (some z91)) <|
              ck (lim (z94++slc z89 (some z90) (some z91)).length (1:Nat)) <|
              ck (lim (z93++[z94++slc z89 (some z90) (some z91)]).length (24:Nat)) <|
              self z88 z89 z91 z92 (z93++[z94++slc z89 (some z90) (some z91)])))))
    (k1 x0_4)
noncomputable def w25b2:Code:=atC [1,1,1,1,1,1,1,1,0,0,0] w25b
def w25m2:Nm:=⟨[1,6,8,10,11],[],[.nilR 10 (.row 28 (.sl .u8) [] true)]⟩
def w25I2 (x:Int×(List UInt8)×Int×(List Int)×(List (List UInt8))):Sg:=⟨[(1,.e (.i .i64) x.1),(6,.e (.sl .u8) x.2.1),(8,.own 0),(10,.own 1),(11,.e (.i .i64) x.2.2.1)],[(0,.row 3 (.i .i64) x.2.2.2.1 true),(1,.row 28 (.sl .u8) x.2.2.2.2 true)],100⟩
def w25u2 (σ:Sg):Int×(List UInt8)×Int×(List Int)×(List (List UInt8)):=(lvT (.i .i64) 1 0 σ,lvT (.sl .u8) 6 0 σ,lvT (.i .i64) 11 0 σ,lvR (.i .i64) 0 σ,lvR (.sl .u8) 1 σ)
theorem w25ui2:∀ x,w25u2 (w25I2 x)=x:=fun _=>by kernel_rfl
def w25X2_0 (y:Int):Exit×Sg:=(.ret,⟨[(4,.nilS),(5,.e (.i .i64) y)],[],100⟩)
def w25v2_0 (_:Exit) (σ:Sg):Int:=lvT (.i .i64) 5 0 σ
def w25X2_1 (y:(List (List UInt8))):Exit×Sg:=((.exit 0),⟨[(10,.own 0)],[(0,.row 28 (.sl .u8) y true)],100⟩)
def w25v2_1 (_:Exit) (σ:Sg):(List (List UInt8)):=lvR (.sl .u8) 0 σ
def w25w2:List (Exit×Nm):=[(.ret,⟨[4,5],[],[]⟩),((.exit 0),⟨[10],[],[]⟩)]
theorem w25o2:Outs w25v2_0 w25v2_1 (fun _ _=>()) w25X2_0 w25X2_1 (noX 2) (exC .ret) (exC (.exit 0)) (exC (.goto 2)):=⟨fun _=>by kernel_rfl,fun _=>by kernel_rfl,fun _=>by kernel_rfl,fun _=>by kernel_rfl,fun _=>by kernel_rfl,fun _=>by kernel_rfl,exNe_ok (by kernel_rfl),exNe_ok (by kernel_rfl),exNe_ok (by kernel_rfl)⟩
def w25l2 [Alg] (N:Nat):Nat→(Int×(List UInt8)×Int×(List Int)×(List (List UInt8)))→((Int)→O)→(((List (List UInt8)))→O)→((Unit)→O)→O
  | 0,_,_,_,_=>none
  | n+1,x,k0,k1,k2=>w25F2 N (w25n0 N) (w25n1 N) (fun v0 v1 v2 v3 v4=>w25l2 N n (v0,v1,v2,v3,v4) k0 k1 k2) (fun y0=>k0 y0) (fun y0=>k1 y0) x.1 x.2.1 x.2.2.1 x.2.2.2.1 x.2.2.2.2
def w25n2 [Alg] (N:Nat) (a0:Int) (a1:(List UInt8)) (a2:Int) (a3:(List Int)) (a4:(List (List UInt8))) (k0:Int→O) (k1:(List (List UInt8))→O):O:=w25l2 N N (a0,a1,a2,a3,a4) (fun y=>k0 y) (fun y=>k1 y) (fun _=>none)
noncomputable def w25s2 [Alg] (N:Nat) (a0:Int) (a1:(List UInt8)) (a2:Int) (a3:(List Int)) (a4:(List (List UInt8))) (k0:Int→O) (k1:(List (List UInt8))→O):O:=subL w25I2 w25u2 (w25l2 N N) (w25I2 (a0,a1,a2,a3,a4)) (fun y=>k0 y) (fun y=>k1 y) (fun _=>none)
theorem w25e2 [Alg] (N:Nat):w25s2 N=w25n2 N:=funext fun _=>funext fun _=>funext fun _=>funext fun _=>funext fun _=>funext fun _=>funext fun _=>subL_I w25ui2 _ _ _ _
noncomputable def w25h2 [Alg] (N:Nat):Hint:=(.seq .d (.block (.seq .d (.seq (.sub w25m0 _ _ _ w25X0_0 (noX 1) (noX 2) (subL w25I0 w25u0 (w25l0 N N))) (.seq .d (.seq (.seq .d (.block (.sub w25m1 _ _ _ w25X1_0 (noX 1) (noX 2) (subL w25I1 w25u1 (w25l1 N N))))) .d))))))
theorem w25hk2 (N:Nat) (hc:CxOk (w25c N)):HintOk (w25c N) Tryz.f25.ntmps (w25h2 N) w25b2:=hk_of _ _ (And.intro trivial (And.intro trivial (And.intro (w25S0 N hc) (And.intro trivial (And.intro (And.intro trivial (w25S1 N hc)) trivial)))))
theorem w25q2 [Alg] (N:Nat) (self:Sg→O) (K:Exit→Sg→O) (x:Int×(List UInt8)×Int×(List Int)×(List (List UInt8))):w25F2 N (w25s0 N) (w25s1 N) (fun v0 v1 v2 v3 v4=>self (w25I2 (v0,v1,v2,v3,v4))) (fun y0=>K (w25X2_0 y0).1 (w25X2_0 y0).2) (fun y0=>K (w25X2_1 y0).1 (w25X2_1 y0).2) x.1 x.2.1 x.2.2.1 x.2.2.2.1 x.2.2.2.2=exec (w25c N) Tryz.f25.ntmps (w25h2 N) w25b2 (w25I2 x) (roundX w25m2 w25w2 self K):=by kernel_rfl
theorem w25S2 (N:Nat) (hc:CxOk (w25c N)):SubOk (w25c N) Tryz.f25.ntmps (.loop w25b2) w25X2_0 w25X2_1 (noX 2) (subL w25I2 w25u2 (w25l2 N N)):=
  sub_loop hc (w25hk2 N hc) w25o2 (n:=N) (fun x K=>loop_ind (w25l2 N) (fun _ _ _ _=>rfl) (fun n K ih x=>by
    have h:w25F2 N (w25n0 N) (w25n1 N) (fun v0 v1 v2 v3 v4=>w25l2 N n (v0,v1,v2,v3,v4) (fun y=>K (w25X2_0 y).1 (w25X2_0 y).2) (fun y=>K (w25X2_1 y).1 (w25X2_1 y).2) (fun y=>K ((noX 2) y).1 ((noX 2) y).2)) (fun y0=>K (w25X2_0 y0).1 (w25X2_0 y0).2) (fun y0=>K (w25X2_1 y0).1 (w25X2_1 y0).2) x.1 x.2.1 x.2.2.1 x.2.2.2.1 x.2.2.2.2=w25F2 N (w25s0 N) (w25s1 N) (fun v0 v1 v2 v3 v4=>loopX (w25c N) Tryz.f25.ntmps (w25h2 N) w25b2 w25m2 w25w2 n (w25I2 (v0,v1,v2,v3,v4)) K) (fun y0=>K (w25X2_0 y0).1 (w25X2_0 y0).2) (fun y0=>K (w25X2_1 y0).1 (w25X2_1 y0).2) x.1 x.2.1 x.2.2.1 x.2.2.2.1 x.2.2.2.2:=by rw [w25e0 N,w25e1 N,show (fun v0 v1 v2 v3 v4=>w25l2 N n (v0,v1,v2,v3,v4) (fun y=>K (w25X2_0 y).1 (w25X2_0 y).2) (fun y=>K (w25X2_1 y).1 (w25X2_1 y).2) (fun y=>K ((noX 2) y).1 ((noX 2) y).2))=(fun v0 v1 v2 v3 v4=>loopX (w25c N) Tryz.f25.ntmps (w25h2 N) w25b2 w25m2 w25w2 n (w25I2 (v0,v1,v2,v3,v4)) K) from funext fun _=>funext fun _=>funext fun _=>funext fun _=>funext fun _=>ih _]
    exact h.trans (w25q2 N (fun σ=>loopX (w25c N) Tryz.f25.ntmps (w25h2 N) w25b2 w25m2 w25w2 n σ K) K x)) N x K)
def w25G [Alg] (N:Nat) (_in0:Int→(List UInt8)→Int→(List Int)→(List (List UInt8))→(Int→(List UInt8)→Int→(List Int)→(List (List UInt8))→(List UInt8)→O)→O) (_in1:Int→(List UInt8)→Int→Int→Int→(List Int)→(List (List UInt8))→(List UInt8)→(Int→(List UInt8)→Int→Int→(List Int)→(List (List UInt8))→(List UInt8)→O)→O) (in2:Int→(List UInt8)→Int→(List Int)→(List (List UInt8))→(Int→O)→((List (List UInt8))→O)→O) (e0_0:Int) (e0_1:Int) (e0_2:(List Ex)) (width1:Int):O:=
  let b0:=Ex.mk (Ex.mk e0_0 e0_1 e0_2).op (Ex.mk e0_0 e0_1 e0_2).num (Ex.mk e0_0 e0_1 e0_2).kids
  let b1:=w13y1 N b0.op b0.num b0.kids++[(↑(w11y0 N b0.op b0.num b0.kids).length:Int)]
  ck (w11p N b0.op b0.num b0.kids) <|
  br (decide (w11y1 N b0.op b0.num b0.kids≠(0:Int)))
    (some (w25r0 [] (w11y1 N b0.op b0.num b0.kids)))
    (br (decide (width1 < (4:Int))||decide ((40:Int) < width1))
      (some (w25r0 [] ((5:Int))))
      (ck (w13p N b0.op b0.num b0.kids) <|
      ck (lim b1.length (8:Nat)) <|
      in2 width1 (w11y0 N b0.op b0.num b0.kids) ((0:Int)) b1 []
        (fun z95=>
          some (w25r0 [] z95))
        (fun z96=>
          some (w25r0 z96 ((0:Int))))))
def w25 [Alg] (N:Nat) (e0_0:Int) (e0_1:Int) (e0_2:(List Ex)) (width1:Int):O:=w25G N (w25n0 N) (w25n1 N) (w25n2 N) e0_0 e0_1 e0_2 width1
noncomputable def w25h [Alg] (N:Nat):Hint:=(.seq .d (.seq .d (.seq .d (.seq .d (.seq .d (.seq .d (.seq .d (.seq .d (.seq (.block (.sub w25m2 _ _ _ w25X2_0 w25X2_1 (noX 2) (subL w25I2 w25u2 (w25l2 N N)))) .d)))))))))
theorem w25hk (N:Nat) (hc:CxOk (w25c N)):HintOk (w25c N) Tryz.f25.ntmps (w25h N) w25b:=hk_of _ _ (And.intro trivial (And.intro trivial (And.intro trivial (And.intro trivial (And.intro trivial (And.intro trivial (And.intro trivial (And.intro trivial (And.intro (w25S2 N hc) trivial)))))))))
theorem w25q [Alg] (N:Nat) (e0_0:Int) (e0_1:Int) (e0_2:(List Ex)) (width1:Int):w25G N (w25s0 N) (w25s1 N) (w25s2 N) e0_0 e0_1 e0_2 width1=exec (w25c N) Tryz.f25.ntmps (w25h N) w25b ⟨argT 0 [.agg [.e (.i .i64) e0_0,.e (.i .i64) e0_1,.e (.sl .ex) e0_2],.e (.i .i64) width1],[],100⟩ (finX (w25c N) Tryz.f25 false):=by kernel_rfl
theorem w25does {N:Nat} (hc:CxOk (w25c N)) {e0_0:Int} {e0_1:Int} {e0_2:(List Ex)} {width1:Int} {r:Res} (h:w25 N e0_0 e0_1 e0_2 width1=some r):DoesR Tryz.prog 25 (([.agg [.e (.i .i64) e0_0,.e (.i .i64) e0_1,.e (.sl .ex) e0_2],.e (.i .i64) width1]:List X).map X.D) (HA []) r:=
  fun_ok hc (f:=25) (fn:=Tryz.f25) (code:=w25b) (by kernel_rfl) (by kernel_rfl) (w25hk N hc) (Nat.le_of_ble_eq_true (by kernel_rfl)) (ow:=false) ((w25q N e0_0 e0_1 e0_2 width1).symm.trans (by rw [w25e0 N,w25e1 N,w25e2 N];exact h))
def w25un (r:Res):Option ((List (List UInt8))×Int):=match r with
  | (.tup [x0,x1],[])=>(match ue (.sl (.sl .u8)) x0,ue (.i .i64) x1 with | some a0,some a1=>some (a0,a1) | _,_=>none)
  | _=>none
theorem w25uo {r:Res} {d:(List (List UInt8))×Int} (h:w25un r=some d):r=w25r0 (d.1) (d.2):=by
  unfold w25un at h
  split at h
  · split at h
    · rename_i h0 h1;cases h;rw [ue_some h0,ue_some h1];rfl
    · cases h
  · cases h
def w25z (N:Nat) (e0_0:Int) (e0_1:Int) (e0_2:(List Ex)) (width1:Int):Option ((List (List UInt8))×Int):=(w25 N e0_0 e0_1 e0_2 width1).bind w25un
theorem w25fin {N:Nat} (hc:CxOk (w25c N)) {e0_0:Int} {e0_1:Int} {e0_2:(List Ex)} {width1:Int} {d:(List (List UInt8))×Int} (hd:w25z N e0_0 e0_1 e0_2 width1=some d):Does Tryz.prog 25 (([.agg [.e (.i .i64) e0_0,.e (.i .i64) e0_1,.e (.sl .ex) e0_2],.e (.i .i64) width1]:List X).map X.D) (HA []) (w25r0 (d.1) (d.2)).1.D (HA (w25r0 (d.1) (d.2)).2):=by
  obtain ⟨r,hr,hu⟩:=Option.bind_eq_some_iff.1 hd
  have:=w25does hc hr
  rw [w25uo hu] at this
  exact this
def w25p (N:Nat) (e0_0:Int) (e0_1:Int) (e0_2:(List Ex)) (width1:Int):Bool:=(w25z N e0_0 e0_1 e0_2 width1).isSome
def w25y0 (N:Nat) (e0_0:Int) (e0_1:Int) (e0_2:(List Ex)) (width1:Int):(List (List UInt8)):=((w25z N e0_0 e0_1 e0_2 width1).getD ([],0)).1
def w25y1 (N:Nat) (e0_0:Int) (e0_1:Int) (e0_2:(List Ex)) (width1:Int):Int:=((w25z N e0_0 e0_1 e0_2 width1).getD ([],0)).2
def w25e (N:Nat):Ent':=E2 .ex (.i .i64)  (fun x0 x1=>(w25p N (Ex.op x0) (Ex.num x0) (Ex.kids x0) x1,w25r0 (w25y0 N (Ex.op x0) (Ex.num x0) (Ex.kids x0) x1) (w25y1 N (Ex.op x0) (Ex.num x0) (Ex.kids x0) x1)))
theorem w25re {N:Nat} {e0_0:Int} {e0_1:Int} {e0_2:(List Ex)} {width1:Int} {d:(List (List UInt8))×Int} (hd:w25z N e0_0 e0_1 e0_2 width1=some d):w25r0 (w25y0 N e0_0 e0_1 e0_2 width1) (w25y1 N e0_0 e0_1 e0_2 width1)=w25r0 (d.1) (d.2):=by unfold w25y0 w25y1;rw [hd];rfl
theorem w25ok (N:Nat):EOk Tryz.prog 25 (w25e N):=EOk.e2 (fun x0 x1 h=>by
  have h:(w25z N (Ex.op x0) (Ex.num x0) (Ex.kids x0) x1).isSome=true:=h
  obtain ⟨d,hd⟩:=Option.isSome_iff_exists.1 h
  have f:=w25fin (w25cx N) hd
  rw [← w25re hd] at f
  exact f)
end
end Go.Proofs
