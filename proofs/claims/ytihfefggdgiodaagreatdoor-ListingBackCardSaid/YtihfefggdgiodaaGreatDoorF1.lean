/- The code that library code runs: slices that grow, pieces of text, columns. Conditions are in the theorems. -/
import Derived.Test.YtihfefggdgiodaaGreatDoorE7
import Derived.Test.YtihfefggdgiodaaGreatDoorProg
import Derived.KernelRfl
import Derived.RangeFuncNested
import Derived.RangeFuncCalls
import Derived.RangeFuncLeaves
import Derived.Test.YtihfefggdgiodaaGreatDoorF0
import Derived.Test.YtihfefggdgiodaaGreatDoorG0
import Derived.Laws.Strings
/- What functions do. -/
namespace Go.Proofs
noncomputable section
open Go.Ax Go.Ax.Alg Go.RowKit Go.Ab
open Go
def w40r0 (a0:(List UInt8)):Res:=(.e (.sl .u8) a0,[])
def w40L (_:Nat):List (Nat×Ent'):=[]
def w40c (N:Nat):Cx:=⟨Tryz.prog,99999,w40L N,[]⟩
def w40b:Code:=Tryz.f40.body.getD .skip
theorem w40cx (N:Nat):CxOk (w40c N):=ctx_ok (by kernel_rfl) .nil .nil
def w40G [Alg] (_:Nat)  (c0:UInt8) (last1:Bool):O:=
 br last1
  (some (w40r0 [(32:UInt8),(2:UInt8)]))
  (br (decide ((97:UInt8)<=c0)&&decide (c0<=(122:UInt8)))
   (some (w40r0 [c0 - (64:UInt8)]))
   (br (decide (c0=(95:UInt8)))
    (some (w40r0 [(32:UInt8),(1:UInt8)]))
    (br (decide (c0=(96:UInt8)))
     (some (w40r0 [(32:UInt8),(3:UInt8)]))
     (br (decide ((123:UInt8)<=c0))
      (some (w40r0 [(32:UInt8),c0 - (64:UInt8)]))
      (br (decide ((64:UInt8)<=c0)&&decide (c0<=(90:UInt8)))
       (some (w40r0 [(32:UInt8),c0 - (32:UInt8)]))
       (some (w40r0 [c0 - (32:UInt8)])))))))
def w40 [Alg] (N:Nat) (c0:UInt8) (last1:Bool):O:=w40G N  c0 last1
def w40h [Alg] (_:Nat):Hint:=.d
theorem w40hk (N:Nat):HintOk (w40c N) Tryz.f40.ntmps (w40h N) w40b:=hk_of _ _ trivial
theorem w40q [Alg] (N:Nat) (c0:UInt8) (last1:Bool):w40G N  c0 last1=exec (w40c N) Tryz.f40.ntmps (w40h N) w40b ⟨argT 0 [.e .u8 c0,.e .bo last1],[],100⟩ (finX (w40c N) Tryz.f40 false):=by kernel_rfl
theorem w40does {N:Nat} (hc:CxOk (w40c N)) {c0:UInt8} {last1:Bool} {r:Res} (h:w40 N c0 last1=some r):DoesR Tryz.prog 40 (([.e .u8 c0,.e .bo last1]:List X).map X.D) (HA []) r:=
 fun_ok hc (f:=40) (fn:=Tryz.f40) (code:=w40b) (by kernel_rfl) (by kernel_rfl) (w40hk N) (Nat.le_of_ble_eq_true (by kernel_rfl)) (ow:=false) ((w40q N c0 last1).symm.trans (by exact h))
def w40un (r:Res):Option ((List UInt8)):=match r with
 | (x0,[])=>(match ue (.sl .u8) x0 with | some a0=>some a0 | _=>none)
 | _=>none
theorem w40uo {r:Res} {d:(List UInt8)} (h:w40un r=some d):r=w40r0 (d):=by
 unfold w40un at h;split at h
 ·split at h
  ·rename_i h0;cases h;rw [ue_some h0];rfl
  ·cases h
 ·cases h
def w40z (N:Nat) (c0:UInt8) (last1:Bool):Option ((List UInt8)):=(w40 N c0 last1).bind w40un
theorem w40fin {N:Nat} (hc:CxOk (w40c N)) {c0:UInt8} {last1:Bool} {d:(List UInt8)} (hd:w40z N c0 last1=some d):Does Tryz.prog 40 (([.e .u8 c0,.e .bo last1]:List X).map X.D) (HA []) (w40r0 (d)).1.D (HA (w40r0 (d)).2):=by
 obtain ⟨r,hr,hu⟩:=Option.bind_eq_some_iff.1 hd;have:=w40does hc hr;rw [w40uo hu] at this;exact this
def w40p (N:Nat) (c0:UInt8) (last1:Bool):Bool:=(w40z N c0 last1).isSome
def w40y0 (N:Nat) (c0:UInt8) (last1:Bool):(List UInt8):=((w40z N c0 last1).getD [])
def w40e (N:Nat):Ent':=E2 .u8 .bo  (fun x0 x1=>(w40p N x0 x1,w40r0 (w40y0 N x0 x1)))
theorem w40re {N:Nat} {c0:UInt8} {last1:Bool} {d:(List UInt8)} (hd:w40z N c0 last1=some d):w40r0 (w40y0 N c0 last1)=w40r0 (d):=by unfold w40y0;rw [hd];rfl
theorem w40ok (N:Nat):EOk Tryz.prog 40 (w40e N):=EOk.e2 (fun x0 x1 h=>by
 have h:(w40z N x0 x1).isSome=true:=h;obtain ⟨d,hd⟩:=Option.isSome_iff_exists.1 h;have f:=w40fin (w40cx N) hd;rw [← w40re hd] at f;exact f)
def w73r0 (a0:(List UInt8)):Res:=(.e .tx a0,[])
def w73L (_:Nat):List (Nat×Ent'):=[]
def w73c (N:Nat):Cx:=⟨Tryz.prog,99999,w73L N,[]⟩
def w73b:Code:=Tryz.f73.body.getD .skip
theorem w73cx (N:Nat):CxOk (w73c N):=ctx_ok (by kernel_rfl) .nil .nil
def w73F0 [Alg] (_:Nat)  (self:(List UInt8)->O) (k0:(List UInt8)->O) (x0_1:UInt8) (x0_0:(List UInt8)):O:=
 gc (decide ((0:Int) < (↑x0_0.length:Int))) ((0:UInt8)) x0_0 (IntKind.i64.wrap ((↑x0_0.length:Int) - (1:Int))) fun y3=>
 br (decide ((0:Int) < (↑x0_0.length:Int))&&decide (y3=x0_1))
  (ck (slcOk x0_0.length none (some (IntKind.i64.wrap ((↑x0_0.length:Int) - (1:Int))))) <|
  self (slc x0_0 none (some (IntKind.i64.wrap ((↑x0_0.length:Int) - (1:Int))))))
  (k0 x0_0)
def w73b0:Code:=atC [1,0,0,0] w73b
def w73m0:Nm:=⟨[0,1],[],[]⟩
def w73I0 (x:(List UInt8)×UInt8):Sg:=⟨[(0,.e .tx x.1),(1,.e .u8 x.2)],[],100⟩
def w73u0 (σ:Sg):(List UInt8)×UInt8:=(lvT .tx 0 0 σ,lvT .u8 1 0 σ)
theorem w73ui0:∀ x,w73u0 (w73I0 x)=x:=fun _=>by kernel_rfl
def w73X0_0 (y:(List UInt8)):Exit×Sg:=((.exit 0),⟨[(0,.e .tx y)],[],100⟩)
def w73v0_0 (_:Exit) (σ:Sg):(List UInt8):=lvT .tx 0 0 σ
def w73w0:List (Exit×Nm):=[((.exit 0),⟨[0],[],[]⟩)]
theorem w73o0:Outs w73v0_0 (fun _ _=>()) (fun _ _=>()) w73X0_0 (noX 1) (noX 2) (exC (.exit 0)) (exC (.goto 1)) (exC (.goto 2)):=⟨fun _=>by kernel_rfl,fun _=>by kernel_rfl,fun _=>by kernel_rfl,fun _=>by kernel_rfl,fun _=>by kernel_rfl,fun _=>by kernel_rfl,exNe_ok (by kernel_rfl),exNe_ok (by kernel_rfl),exNe_ok (by kernel_rfl)⟩
def w73l0 [Alg] (N:Nat):Nat->((List UInt8)×UInt8)->(((List UInt8))->O)->((Unit)->O)->((Unit)->O)->O
 | 0,_,_,_,_=>none
 | n+1,x,k0,k1,k2=>w73F0 N  (fun v0=>w73l0 N n (v0,x.2) k0 k1 k2) (fun y0=>k0 y0) x.2 x.1
def w73n0 [Alg] (N:Nat) (a0:(List UInt8)) (a1:UInt8) (k0:(List UInt8)->O):O:=w73l0 N N (a0,a1) (fun y=>k0 y) (fun _=>none) (fun _=>none)
def w73s0 [Alg] (N:Nat) (a0:(List UInt8)) (a1:UInt8) (k0:(List UInt8)->O):O:=subL w73I0 w73u0 (w73l0 N N) (w73I0 (a0,a1)) (fun y=>k0 y) (fun _=>none) (fun _=>none)
theorem w73e0 [Alg] (N:Nat):w73s0 N=w73n0 N:=funext fun _=>funext fun _=>funext fun _=>subL_I w73ui0 _ _ _ _
def w73h0 [Alg] (_:Nat):Hint:=.d
theorem w73hk0 (N:Nat):HintOk (w73c N) Tryz.f73.ntmps (w73h0 N) w73b0:=hk_of _ _ trivial
theorem w73q0 [Alg] (N:Nat) (self:Sg->O) (K:Exit->Sg->O) (x:(List UInt8)×UInt8):w73F0 N  (fun v0=>self (w73I0 (v0,x.2))) (fun y0=>K (w73X0_0 y0).1 (w73X0_0 y0).2) x.2 x.1=exec (w73c N) Tryz.f73.ntmps (w73h0 N) w73b0 (w73I0 x) (roundX w73m0 w73w0 self K):=by kernel_rfl
theorem w73S0 (N:Nat) (hc:CxOk (w73c N)):SubOk (w73c N) Tryz.f73.ntmps (.loop w73b0) w73X0_0 (noX 1) (noX 2) (subL w73I0 w73u0 (w73l0 N N)):=
 sub_loop hc (w73hk0 N) w73o0 (n:=N) (fun x K=>loop_ind (w73l0 N) (fun _ _ _ _=>rfl) (fun n K ih x=>by
  have h:w73F0 N  (fun v0=>w73l0 N n (v0,x.2) (fun y=>K (w73X0_0 y).1 (w73X0_0 y).2) (fun y=>K ((noX 1) y).1 ((noX 1) y).2) (fun y=>K ((noX 2) y).1 ((noX 2) y).2)) (fun y0=>K (w73X0_0 y0).1 (w73X0_0 y0).2) x.2 x.1=w73F0 N  (fun v0=>loopX (w73c N) Tryz.f73.ntmps (w73h0 N) w73b0 w73m0 w73w0 n (w73I0 (v0,x.2)) K) (fun y0=>K (w73X0_0 y0).1 (w73X0_0 y0).2) x.2 x.1:=by rw [ show (fun v0=>w73l0 N n (v0,x.2) (fun y=>K (w73X0_0 y).1 (w73X0_0 y).2) (fun y=>K ((noX 1) y).1 ((noX 1) y).2) (fun y=>K ((noX 2) y).1 ((noX 2) y).2))=(fun v0=>loopX (w73c N) Tryz.f73.ntmps (w73h0 N) w73b0 w73m0 w73w0 n (w73I0 (v0,x.2)) K) from funext fun _=>ih _]
  exact h.trans (w73q0 N (fun σ=>loopX (w73c N) Tryz.f73.ntmps (w73h0 N) w73b0 w73m0 w73w0 n σ K) K x)) N x K)
def w73G [Alg] (_:Nat) (in0:(List UInt8)->UInt8->((List UInt8)->O)->O) (s0:(List UInt8)) (c1:UInt8):O:=
 in0 s0 c1
  (fun z4=>
   some (w73r0 z4))
def w73 [Alg] (N:Nat) (s0:(List UInt8)) (c1:UInt8):O:=w73G N (w73n0 N) s0 c1
def w73h [Alg] (N:Nat):Hint:=(.seq .d (.seq (.block (.sub w73m0 _ _ _ w73X0_0 (noX 1) (noX 2) (subL w73I0 w73u0 (w73l0 N N)))) .d))
theorem w73hk (N:Nat) (hc:CxOk (w73c N)):HintOk (w73c N) Tryz.f73.ntmps (w73h N) w73b:=hk_of _ _ (And.intro trivial (And.intro (w73S0 N hc) trivial))
theorem w73q [Alg] (N:Nat) (s0:(List UInt8)) (c1:UInt8):w73G N (w73s0 N) s0 c1=exec (w73c N) Tryz.f73.ntmps (w73h N) w73b ⟨argT 0 [.e .tx s0,.e .u8 c1],[],100⟩ (finX (w73c N) Tryz.f73 false):=by kernel_rfl
theorem w73does {N:Nat} (hc:CxOk (w73c N)) {s0:(List UInt8)} {c1:UInt8} {r:Res} (h:w73 N s0 c1=some r):DoesR Tryz.prog 73 (([.e .tx s0,.e .u8 c1]:List X).map X.D) (HA []) r:=
 fun_ok hc (f:=73) (fn:=Tryz.f73) (code:=w73b) (by kernel_rfl) (by kernel_rfl) (w73hk N hc) (Nat.le_of_ble_eq_true (by kernel_rfl)) (ow:=false) ((w73q N s0 c1).symm.trans (by rw [w73e0 N];exact h))
def w73un (r:Res):Option ((List UInt8)):=match r with
 | (x0,[])=>(match ue .tx x0 with | some a0=>some a0 | _=>none)
 | _=>none
theorem w73uo {r:Res} {d:(List UInt8)} (h:w73un r=some d):r=w73r0 (d):=by
 unfold w73un at h;split at h
 ·split at h
  ·rename_i h0;cases h;rw [ue_some h0];rfl
  ·cases h
 ·cases h
def w73z (N:Nat) (s0:(List UInt8)) (c1:UInt8):Option ((List UInt8)):=(w73 N s0 c1).bind w73un
theorem w73fin {N:Nat} (hc:CxOk (w73c N)) {s0:(List UInt8)} {c1:UInt8} {d:(List UInt8)} (hd:w73z N s0 c1=some d):Does Tryz.prog 73 (([.e .tx s0,.e .u8 c1]:List X).map X.D) (HA []) (w73r0 (d)).1.D (HA (w73r0 (d)).2):=by
 obtain ⟨r,hr,hu⟩:=Option.bind_eq_some_iff.1 hd;have:=w73does hc hr;rw [w73uo hu] at this;exact this
def w73p (N:Nat) (s0:(List UInt8)) (c1:UInt8):Bool:=(w73z N s0 c1).isSome
def w73y0 (N:Nat) (s0:(List UInt8)) (c1:UInt8):(List UInt8):=((w73z N s0 c1).getD [])
def w73e (N:Nat):Ent':=E2 .tx .u8  (fun x0 x1=>(w73p N x0 x1,w73r0 (w73y0 N x0 x1)))
theorem w73re {N:Nat} {s0:(List UInt8)} {c1:UInt8} {d:(List UInt8)} (hd:w73z N s0 c1=some d):w73r0 (w73y0 N s0 c1)=w73r0 (d):=by unfold w73y0;rw [hd];rfl
theorem w73ok (N:Nat):EOk Tryz.prog 73 (w73e N):=EOk.e2 (fun x0 x1 h=>by
 have h:(w73z N x0 x1).isSome=true:=h;obtain ⟨d,hd⟩:=Option.isSome_iff_exists.1 h;have f:=w73fin (w73cx N) hd;rw [← w73re hd] at f;exact f)
def w59r0 (a0:(List UInt8)):Res:=(.e .tx a0,[])
def w59L (N:Nat):List (Nat×Ent'):=[(73,w73e N)]
def w59c (N:Nat):Cx:=⟨Tryz.prog,99999,w59L N,[]⟩
def w59b:Code:=Tryz.f59.body.getD .skip
theorem w59cx (N:Nat):CxOk (w59c N):=ctx_ok (by kernel_rfl) (.cons (by kernel_rfl) (w73ok N) .nil) .nil
def w59G [Alg] (N:Nat)  (s0:(List UInt8)) (cutset1:(List UInt8)):O:=
 br (decide (s0=[])||decide (cutset1=[]))
  (some (w59r0 s0))
  (gc (decide ((↑cutset1.length:Int)=(1:Int))) ((0:UInt8)) cutset1 ((0:Int)) fun y0=>
  br (decide ((↑cutset1.length:Int)=(1:Int))&&decide (y0 < (128:UInt8)))
   (gx cutset1 ((0:Int)) fun y1=>
   ck (w73p N s0 y1) <|
   some (w59r0 (w73y0 N s0 y1)))
   (none))
def w59 [Alg] (N:Nat) (s0:(List UInt8)) (cutset1:(List UInt8)):O:=w59G N  s0 cutset1
def w59h [Alg] (_:Nat):Hint:=.d
theorem w59hk (N:Nat):HintOk (w59c N) Tryz.f59.ntmps (w59h N) w59b:=hk_of _ _ trivial
theorem w59q [Alg] (N:Nat) (s0:(List UInt8)) (cutset1:(List UInt8)):w59G N  s0 cutset1=exec (w59c N) Tryz.f59.ntmps (w59h N) w59b ⟨argT 0 [.e .tx s0,.e .tx cutset1],[],100⟩ (finX (w59c N) Tryz.f59 false):=by kernel_rfl
theorem w59does {N:Nat} (hc:CxOk (w59c N)) {s0:(List UInt8)} {cutset1:(List UInt8)} {r:Res} (h:w59 N s0 cutset1=some r):DoesR Tryz.prog 59 (([.e .tx s0,.e .tx cutset1]:List X).map X.D) (HA []) r:=
 fun_ok hc (f:=59) (fn:=Tryz.f59) (code:=w59b) (by kernel_rfl) (by kernel_rfl) (w59hk N) (Nat.le_of_ble_eq_true (by kernel_rfl)) (ow:=false) ((w59q N s0 cutset1).symm.trans (by exact h))
def w59un (r:Res):Option ((List UInt8)):=match r with
 | (x0,[])=>(match ue .tx x0 with | some a0=>some a0 | _=>none)
 | _=>none
theorem w59uo {r:Res} {d:(List UInt8)} (h:w59un r=some d):r=w59r0 (d):=by
 unfold w59un at h;split at h
 ·split at h
  ·rename_i h0;cases h;rw [ue_some h0];rfl
  ·cases h
 ·cases h
def w59z (N:Nat) (s0:(List UInt8)) (cutset1:(List UInt8)):Option ((List UInt8)):=(w59 N s0 cutset1).bind w59un
theorem w59fin {N:Nat} (hc:CxOk (w59c N)) {s0:(List UInt8)} {cutset1:(List UInt8)} {d:(List UInt8)} (hd:w59z N s0 cutset1=some d):Does Tryz.prog 59 (([.e .tx s0,.e .tx cutset1]:List X).map X.D) (HA []) (w59r0 (d)).1.D (HA (w59r0 (d)).2):=by
 obtain ⟨r,hr,hu⟩:=Option.bind_eq_some_iff.1 hd;have:=w59does hc hr;rw [w59uo hu] at this;exact this
def w93r0 (a0:(List UInt8)):Res:=(.e .tx a0,[])
def w93L (_:Nat):List (Nat×Ent'):=[]
def w93c (N:Nat):Cx:=⟨Tryz.prog,99999,w93L N,[]⟩
def w93b:Code:=Tryz.f93.body.getD .skip
theorem w93cx (N:Nat):CxOk (w93c N):=ctx_ok (by kernel_rfl) .nil .nil
def w93F0 [Alg] (_:Nat)  (self:(List UInt8)->O) (k0:(List UInt8)->O) (x0_1:UInt8) (x0_0:(List UInt8)):O:=
 gc (decide ((0:Int) < (↑x0_0.length:Int))) ((0:UInt8)) x0_0 ((0:Int)) fun y3=>
 br (decide ((0:Int) < (↑x0_0.length:Int))&&decide (y3=x0_1))
  (ck (slcOk x0_0.length (some (1:Int)) none) <|
  self (slc x0_0 (some (1:Int)) none))
  (k0 x0_0)
def w93b0:Code:=atC [1,0,0,0] w93b
def w93m0:Nm:=⟨[0,1],[],[]⟩
def w93I0 (x:(List UInt8)×UInt8):Sg:=⟨[(0,.e .tx x.1),(1,.e .u8 x.2)],[],100⟩
def w93u0 (σ:Sg):(List UInt8)×UInt8:=(lvT .tx 0 0 σ,lvT .u8 1 0 σ)
theorem w93ui0:∀ x,w93u0 (w93I0 x)=x:=fun _=>by kernel_rfl
def w93X0_0 (y:(List UInt8)):Exit×Sg:=((.exit 0),⟨[(0,.e .tx y)],[],100⟩)
def w93v0_0 (_:Exit) (σ:Sg):(List UInt8):=lvT .tx 0 0 σ
def w93w0:List (Exit×Nm):=[((.exit 0),⟨[0],[],[]⟩)]
theorem w93o0:Outs w93v0_0 (fun _ _=>()) (fun _ _=>()) w93X0_0 (noX 1) (noX 2) (exC (.exit 0)) (exC (.goto 1)) (exC (.goto 2)):=⟨fun _=>by kernel_rfl,fun _=>by kernel_rfl,fun _=>by kernel_rfl,fun _=>by kernel_rfl,fun _=>by kernel_rfl,fun _=>by kernel_rfl,exNe_ok (by kernel_rfl),exNe_ok (by kernel_rfl),exNe_ok (by kernel_rfl)⟩
def w93l0 [Alg] (N:Nat):Nat->((List UInt8)×UInt8)->(((List UInt8))->O)->((Unit)->O)->((Unit)->O)->O
 | 0,_,_,_,_=>none
 | n+1,x,k0,k1,k2=>w93F0 N  (fun v0=>w93l0 N n (v0,x.2) k0 k1 k2) (fun y0=>k0 y0) x.2 x.1
def w93n0 [Alg] (N:Nat) (a0:(List UInt8)) (a1:UInt8) (k0:(List UInt8)->O):O:=w93l0 N N (a0,a1) (fun y=>k0 y) (fun _=>none) (fun _=>none)
def w93s0 [Alg] (N:Nat) (a0:(List UInt8)) (a1:UInt8) (k0:(List UInt8)->O):O:=subL w93I0 w93u0 (w93l0 N N) (w93I0 (a0,a1)) (fun y=>k0 y) (fun _=>none) (fun _=>none)
theorem w93e0 [Alg] (N:Nat):w93s0 N=w93n0 N:=funext fun _=>funext fun _=>funext fun _=>subL_I w93ui0 _ _ _ _
def w93h0 [Alg] (_:Nat):Hint:=.d
theorem w93hk0 (N:Nat):HintOk (w93c N) Tryz.f93.ntmps (w93h0 N) w93b0:=hk_of _ _ trivial
theorem w93q0 [Alg] (N:Nat) (self:Sg->O) (K:Exit->Sg->O) (x:(List UInt8)×UInt8):w93F0 N  (fun v0=>self (w93I0 (v0,x.2))) (fun y0=>K (w93X0_0 y0).1 (w93X0_0 y0).2) x.2 x.1=exec (w93c N) Tryz.f93.ntmps (w93h0 N) w93b0 (w93I0 x) (roundX w93m0 w93w0 self K):=by kernel_rfl
theorem w93S0 (N:Nat) (hc:CxOk (w93c N)):SubOk (w93c N) Tryz.f93.ntmps (.loop w93b0) w93X0_0 (noX 1) (noX 2) (subL w93I0 w93u0 (w93l0 N N)):=
 sub_loop hc (w93hk0 N) w93o0 (n:=N) (fun x K=>loop_ind (w93l0 N) (fun _ _ _ _=>rfl) (fun n K ih x=>by
  have h:w93F0 N  (fun v0=>w93l0 N n (v0,x.2) (fun y=>K (w93X0_0 y).1 (w93X0_0 y).2) (fun y=>K ((noX 1) y).1 ((noX 1) y).2) (fun y=>K ((noX 2) y).1 ((noX 2) y).2)) (fun y0=>K (w93X0_0 y0).1 (w93X0_0 y0).2) x.2 x.1=w93F0 N  (fun v0=>loopX (w93c N) Tryz.f93.ntmps (w93h0 N) w93b0 w93m0 w93w0 n (w93I0 (v0,x.2)) K) (fun y0=>K (w93X0_0 y0).1 (w93X0_0 y0).2) x.2 x.1:=by rw [ show (fun v0=>w93l0 N n (v0,x.2) (fun y=>K (w93X0_0 y).1 (w93X0_0 y).2) (fun y=>K ((noX 1) y).1 ((noX 1) y).2) (fun y=>K ((noX 2) y).1 ((noX 2) y).2))=(fun v0=>loopX (w93c N) Tryz.f93.ntmps (w93h0 N) w93b0 w93m0 w93w0 n (w93I0 (v0,x.2)) K) from funext fun _=>ih _]
  exact h.trans (w93q0 N (fun σ=>loopX (w93c N) Tryz.f93.ntmps (w93h0 N) w93b0 w93m0 w93w0 n σ K) K x)) N x K)
def w93G [Alg] (_:Nat) (in0:(List UInt8)->UInt8->((List UInt8)->O)->O) (s0:(List UInt8)) (c1:UInt8):O:=
 in0 s0 c1
  (fun z4=>
   some (w93r0 z4))
def w93 [Alg] (N:Nat) (s0:(List UInt8)) (c1:UInt8):O:=w93G N (w93n0 N) s0 c1
def w93h [Alg] (N:Nat):Hint:=(.seq .d (.seq (.block (.sub w93m0 _ _ _ w93X0_0 (noX 1) (noX 2) (subL w93I0 w93u0 (w93l0 N N)))) .d))
theorem w93hk (N:Nat) (hc:CxOk (w93c N)):HintOk (w93c N) Tryz.f93.ntmps (w93h N) w93b:=hk_of _ _ (And.intro trivial (And.intro (w93S0 N hc) trivial))
theorem w93q [Alg] (N:Nat) (s0:(List UInt8)) (c1:UInt8):w93G N (w93s0 N) s0 c1=exec (w93c N) Tryz.f93.ntmps (w93h N) w93b ⟨argT 0 [.e .tx s0,.e .u8 c1],[],100⟩ (finX (w93c N) Tryz.f93 false):=by kernel_rfl
theorem w93does {N:Nat} (hc:CxOk (w93c N)) {s0:(List UInt8)} {c1:UInt8} {r:Res} (h:w93 N s0 c1=some r):DoesR Tryz.prog 93 (([.e .tx s0,.e .u8 c1]:List X).map X.D) (HA []) r:=
 fun_ok hc (f:=93) (fn:=Tryz.f93) (code:=w93b) (by kernel_rfl) (by kernel_rfl) (w93hk N hc) (Nat.le_of_ble_eq_true (by kernel_rfl)) (ow:=false) ((w93q N s0 c1).symm.trans (by rw [w93e0 N];exact h))
def w93un (r:Res):Option ((List UInt8)):=match r with
 | (x0,[])=>(match ue .tx x0 with | some a0=>some a0 | _=>none)
 | _=>none
theorem w93uo {r:Res} {d:(List UInt8)} (h:w93un r=some d):r=w93r0 (d):=by
 unfold w93un at h;split at h
 ·split at h
  ·rename_i h0;cases h;rw [ue_some h0];rfl
  ·cases h
 ·cases h
def w93z (N:Nat) (s0:(List UInt8)) (c1:UInt8):Option ((List UInt8)):=(w93 N s0 c1).bind w93un
theorem w93fin {N:Nat} (hc:CxOk (w93c N)) {s0:(List UInt8)} {c1:UInt8} {d:(List UInt8)} (hd:w93z N s0 c1=some d):Does Tryz.prog 93 (([.e .tx s0,.e .u8 c1]:List X).map X.D) (HA []) (w93r0 (d)).1.D (HA (w93r0 (d)).2):=by
 obtain ⟨r,hr,hu⟩:=Option.bind_eq_some_iff.1 hd;have:=w93does hc hr;rw [w93uo hu] at this;exact this
def w93p (N:Nat) (s0:(List UInt8)) (c1:UInt8):Bool:=(w93z N s0 c1).isSome
def w93y0 (N:Nat) (s0:(List UInt8)) (c1:UInt8):(List UInt8):=((w93z N s0 c1).getD [])
def w93e (N:Nat):Ent':=E2 .tx .u8  (fun x0 x1=>(w93p N x0 x1,w93r0 (w93y0 N x0 x1)))
theorem w93re {N:Nat} {s0:(List UInt8)} {c1:UInt8} {d:(List UInt8)} (hd:w93z N s0 c1=some d):w93r0 (w93y0 N s0 c1)=w93r0 (d):=by unfold w93y0;rw [hd];rfl
theorem w93ok (N:Nat):EOk Tryz.prog 93 (w93e N):=EOk.e2 (fun x0 x1 h=>by
 have h:(w93z N x0 x1).isSome=true:=h;obtain ⟨d,hd⟩:=Option.isSome_iff_exists.1 h;have f:=w93fin (w93cx N) hd;rw [← w93re hd] at f;exact f)
def w79r0 (a0:(List UInt8)):Res:=(.e .tx a0,[])
def w79L (N:Nat):List (Nat×Ent'):=[(93,w93e N)]
def w79c (N:Nat):Cx:=⟨Tryz.prog,99999,w79L N,[]⟩
def w79b:Code:=Tryz.f79.body.getD .skip
theorem w79cx (N:Nat):CxOk (w79c N):=ctx_ok (by kernel_rfl) (.cons (by kernel_rfl) (w93ok N) .nil) .nil
def w79G [Alg] (N:Nat)  (s0:(List UInt8)) (cutset1:(List UInt8)):O:=
 br (decide (s0=[])||decide (cutset1=[]))
  (some (w79r0 s0))
  (gc (decide ((↑cutset1.length:Int)=(1:Int))) ((0:UInt8)) cutset1 ((0:Int)) fun y0=>
  br (decide ((↑cutset1.length:Int)=(1:Int))&&decide (y0 < (128:UInt8)))
   (gx cutset1 ((0:Int)) fun y1=>
   ck (w93p N s0 y1) <|
   some (w79r0 (w93y0 N s0 y1)))
   (none))
def w79 [Alg] (N:Nat) (s0:(List UInt8)) (cutset1:(List UInt8)):O:=w79G N  s0 cutset1
def w79h [Alg] (_:Nat):Hint:=.d
theorem w79hk (N:Nat):HintOk (w79c N) Tryz.f79.ntmps (w79h N) w79b:=hk_of _ _ trivial
theorem w79q [Alg] (N:Nat) (s0:(List UInt8)) (cutset1:(List UInt8)):w79G N  s0 cutset1=exec (w79c N) Tryz.f79.ntmps (w79h N) w79b ⟨argT 0 [.e .tx s0,.e .tx cutset1],[],100⟩ (finX (w79c N) Tryz.f79 false):=by kernel_rfl
theorem w79does {N:Nat} (hc:CxOk (w79c N)) {s0:(List UInt8)} {cutset1:(List UInt8)} {r:Res} (h:w79 N s0 cutset1=some r):DoesR Tryz.prog 79 (([.e .tx s0,.e .tx cutset1]:List X).map X.D) (HA []) r:=
 fun_ok hc (f:=79) (fn:=Tryz.f79) (code:=w79b) (by kernel_rfl) (by kernel_rfl) (w79hk N) (Nat.le_of_ble_eq_true (by kernel_rfl)) (ow:=false) ((w79q N s0 cutset1).symm.trans (by exact h))
def w79un (r:Res):Option ((List UInt8)):=match r with
 | (x0,[])=>(match ue .tx x0 with | some a0=>some a0 | _=>none)
 | _=>none
theorem w79uo {r:Res} {d:(List UInt8)} (h:w79un r=some d):r=w79r0 (d):=by
 unfold w79un at h;split at h
 ·split at h
  ·rename_i h0;cases h;rw [ue_some h0];rfl
  ·cases h
 ·cases h
def w79z (N:Nat) (s0:(List UInt8)) (cutset1:(List UInt8)):Option ((List UInt8)):=(w79 N s0 cutset1).bind w79un
theorem w79fin {N:Nat} (hc:CxOk (w79c N)) {s0:(List UInt8)} {cutset1:(List UInt8)} {d:(List UInt8)} (hd:w79z N s0 cutset1=some d):Does Tryz.prog 79 (([.e .tx s0,.e .tx cutset1]:List X).map X.D) (HA []) (w79r0 (d)).1.D (HA (w79r0 (d)).2):=by
 obtain ⟨r,hr,hu⟩:=Option.bind_eq_some_iff.1 hd;have:=w79does hc hr;rw [w79uo hu] at this;exact this
def w55r0 (a0:Bool):Res:=(.e .bo a0,[])
def w55L (_:Nat):List (Nat×Ent'):=[]
def w55c (N:Nat):Cx:=⟨Tryz.prog,99999,w55L N,[]⟩
def w55b:Code:=Tryz.f55.body.getD .skip
theorem w55cx (N:Nat):CxOk (w55c N):=ctx_ok (by kernel_rfl) .nil .nil
def w55G [Alg] (_:Nat)  (c0:UInt8):O:=
 some (w55r0 (decide (c0 < (32:UInt8))||decide ((126:UInt8) < c0)))
def w55 [Alg] (N:Nat) (c0:UInt8):O:=w55G N  c0
def w55h [Alg] (_:Nat):Hint:=.d
theorem w55hk (N:Nat):HintOk (w55c N) Tryz.f55.ntmps (w55h N) w55b:=hk_of _ _ trivial
theorem w55q [Alg] (N:Nat) (c0:UInt8):w55G N  c0=exec (w55c N) Tryz.f55.ntmps (w55h N) w55b ⟨argT 0 [.e .u8 c0],[],100⟩ (finX (w55c N) Tryz.f55 false):=by kernel_rfl
theorem w55does {N:Nat} (hc:CxOk (w55c N)) {c0:UInt8} {r:Res} (h:w55 N c0=some r):DoesR Tryz.prog 55 (([.e .u8 c0]:List X).map X.D) (HA []) r:=
 fun_ok hc (f:=55) (fn:=Tryz.f55) (code:=w55b) (by kernel_rfl) (by kernel_rfl) (w55hk N) (Nat.le_of_ble_eq_true (by kernel_rfl)) (ow:=false) ((w55q N c0).symm.trans (by exact h))
def w55un (r:Res):Option (Bool):=match r with
 | (x0,[])=>(match ue .bo x0 with | some a0=>some a0 | _=>none)
 | _=>none
theorem w55uo {r:Res} {d:Bool} (h:w55un r=some d):r=w55r0 (d):=by
 unfold w55un at h;split at h
 ·split at h
  ·rename_i h0;cases h;rw [ue_some h0];rfl
  ·cases h
 ·cases h
def w55z (N:Nat) (c0:UInt8):Option (Bool):=(w55 N c0).bind w55un
theorem w55fin {N:Nat} (hc:CxOk (w55c N)) {c0:UInt8} {d:Bool} (hd:w55z N c0=some d):Does Tryz.prog 55 (([.e .u8 c0]:List X).map X.D) (HA []) (w55r0 (d)).1.D (HA (w55r0 (d)).2):=by
 obtain ⟨r,hr,hu⟩:=Option.bind_eq_some_iff.1 hd;have:=w55does hc hr;rw [w55uo hu] at this;exact this
def w55p (N:Nat) (c0:UInt8):Bool:=(w55z N c0).isSome
def w55y0 (N:Nat) (c0:UInt8):Bool:=((w55z N c0).getD false)
def w55e (N:Nat):Ent':=E1 .u8  (fun x0=>(w55p N x0,w55r0 (w55y0 N x0)))
theorem w55re {N:Nat} {c0:UInt8} {d:Bool} (hd:w55z N c0=some d):w55r0 (w55y0 N c0)=w55r0 (d):=by unfold w55y0;rw [hd];rfl
theorem w55ok (N:Nat):EOk Tryz.prog 55 (w55e N):=EOk.e1 (fun x0 h=>by
 have h:(w55z N x0).isSome=true:=h;obtain ⟨d,hd⟩:=Option.isSome_iff_exists.1 h;have f:=w55fin (w55cx N) hd;rw [← w55re hd] at f;exact f)
end
end Go.Proofs
/- Iterators and their rounds: what each promises the other; a range over a function. -/
namespace Go.It
open Go Go.RowKit Go.Ab Go.Ax
def By (A:World) (u:Value) (x:List UInt8):Prop:=TR A (blkSize A) u (.sl x.length (x.flatMap (encs .u8)))
structure Kz (X:World->Nat->Prop) (A B:World):Prop where
 os:B.os=A.os
 tape:B.tape=A.tape
 output:B.output=A.output
 size:A.heap.size<=B.heap.size
 block:∀ j,j < A.heap.size->¬ X A j->B.heap[j]?=A.heap[j]?
 x:∀ j,X B j->X A j\/A.heap.size<=j
theorem Kz.refl (X:World->Nat->Prop) (A:World):Kz X A A:=⟨rfl,rfl,rfl,Nat.le_refl _,fun _ _ _=>rfl,fun _ h=>.inl h⟩
theorem Kz.trans {X:World->Nat->Prop} {A B C:World} (h:Kz X A B) (k:Kz X B C):Kz X A C:=
 ⟨k.os.trans h.os,k.tape.trans h.tape,k.output.trans h.output,Nat.le_trans h.size k.size,fun j hj hx=>
  (k.block j (Nat.lt_of_lt_of_le hj h.size) (fun hb=>by rcases h.x j hb with h1 | h1 <;> first | exact hx h1 | omega)).trans (h.block j hj hx),
  fun j hj=>by
   rcases k.x j hj with h1 | h1
   ·exact h.x j h1
   ·exact .inr (Nat.le_trans h.size h1)⟩
theorem Kz.aft {X:World->Nat->Prop} {A B:World} (h:Aft A B) (hx:∀ j,X B j->X A j):Kz X A B:=
 ⟨h.os,h.tape,h.output,h.size,fun j hj _=>h.block j hj,fun j hj=>.inl (hx j hj)⟩
theorem Kz.old {X:World->Nat->Prop} {w A B:World} (h:Aft w A) (k:Kz X A B) (hX:∀ j,X A j->w.heap.size<=j):Aft w B:=
 ⟨k.os.trans h.os,k.tape.trans h.tape,k.output.trans h.output,Nat.le_trans h.size k.size,fun j hj=>(k.block j (Nat.lt_of_lt_of_le hj h.size) (fun hx=>by have:=hX j hx;omega)).trans (h.block j hj)⟩
def Ab (Bd:Nat) (J:Nat->World->Prop) (X:World->Nat->Prop):Prop:=
 ∀ k A B row,J k A->A.grownBy B row->(∀ r,row=some r->Bd<=r/\∃ o:Obj,A.heap[r]?=some o/\o.isCells=false)->J k B/\∀ j,X B j->X A j
theorem grown_of_aft {A B:World} (h:Aft A B):A.grownBy B none:=⟨h.os,h.tape,h.output,h.size,fun k hk _=>h.block k hk⟩
theorem Ab.aft {Bd:Nat} {J:Nat->World->Prop} {X:World->Nat->Prop} (h:Ab Bd J X) {k:Nat} {A B:World} (hJ:J k A) (hA:Aft A B):J k B/\∀ j,X B j->X A j:=
 h k A B none hJ (grown_of_aft hA) (fun r e=>by cases e)
structure Rc (P:Program) (Bd l:Nat) (L:List (List UInt8)) (J:Nat->World->Prop) (X:World->Nat->Prop):Prop where
 ab:Ab Bd J X
 lt:∀ k A j,J k A->X A j->j < A.heap.size
 y:∀ k x u A,J k A->L[k]?=some x->By A u x->(∀ g,blk u=some g->Bd<=g/\¬ X A g)->YieldAt Fence.wide 7 P l #[u] A fun e B=>e = .returned (.bool true)/\J (k+1) B/\Kz X A B
def It (P:Program) (gf:Nat) (lb:Array Value) (L:List (List UInt8)) (W:World) (pr:Nat->Prop):Prop:=
 ∀ (l:Nat) (J:Nat->World->Prop) (X:World->Nat->Prop),Rc P W.heap.size l L J X->J 0 W->(∀ j,pr j->¬ X W j)->
  Calls P gf (#[.func (.yield l) #[] #[]]++lb) W fun e W'=>(∃ v,e = .returned v)/\J L.length W'/\Kz X W W'
theorem By.kept {A B:World} {u:Value} {x:List UInt8} (h:By A u x) (hb:∀ g,blk u=some g->B.heap[g]?=A.heap[g]?):By B u x:=by
 unfold By at *
 have hts:∀ t ∈ x.flatMap (encs .u8),∃ c0:UInt8,t = .v (.int .u8 (UInt8.toNat c0)):=fun t ht'=>by
  obtain ⟨c0,_,hc0⟩:=List.mem_flatMap.1 ht';exact ⟨c0,List.mem_singleton.1 hc0⟩
 generalize x.flatMap (encs .u8)=ts0 at h hts ⊢;generalize x.length=n0 at h ⊢;cases h with
 | nil h=>exact .nil h
 | sl b o n c us ts hl hc hn h=>
   refine .sl b o _ c us _ hl (fun i v hv=>?_) hn (fun i v t hv ht=>?_)
   ·obtain ⟨h1,h2⟩:=hc i v hv
    have e:=hb b rfl;refine ⟨(World.cell?_of_block (a:=⟨b,o+i,none⟩) e).trans h1,?_⟩;unfold blkSize at h2 ⊢;rw [e];exact h2
   ·have q:=h i v t hv ht
    obtain ⟨c0,rfl⟩:=hts t (List.mem_of_getElem? ht);cases q with
    | v _ h1=>exact .v _ h1
def lrec (fn:FuncId) (tm:Array Value) (p:Tmp) (assign body:Code) (D:Nat) (st:LoopState):Loop:={ state:=st,pending:=none,fn,tmps:=tm,params:=#[p],assign,body,defers:=D }
theorem wp_rangeG {P:Program} {g:Operand} {p:Tmp} {assign body:Code} {Q:Exit->Act->World->Prop} {a:Act} {w:World} {gf:Nat} {lb:Array Value} {L:List (List UInt8)} {pr:Nat->Prop}
    (hg:a.eval g = .func (.func gf) #[] lb) (eg:∀ args w,(callFunc gf args).run P w = .ok (.enter gf args) w)
    (I:Nat->World->Prop) (X:World->Nat->Prop) (hab:Ab w.heap.size I X) (hlt:∀ k A j,I k A->X A j->j < A.heap.size) (h0:I 0 w) (hpr:∀ j,pr j->j < w.heap.size/\¬ X w j)
    (hit:∀ W,Aft w W->It P gf lb L W pr)
    (hbody:∀ (l k:Nat) (x:List UInt8) (u:Value) (A:World),w.heap.size<=l->Kz X w A->I k A->L[k]?=some x->By A u x->(∀ g,blk u=some g->w.heap.size<=g/\¬ X A g)->
     assign.wpIn (Fence.wide.inRound l) 7 P (Exit.then (fun a₁ A₁=>A₁=A/\∀ A₂,I k A₂->By A₂ u x->(∀ g,blk u=some g->w.heap.size<=g/\¬ X A₂ g)->Kz X w A₂->body.wpIn (Fence.wide.inRound l) 7 P (fun e _ A₃=>e = .normal/\I (k+1) A₃/\Kz X A₂ A₃) a₁ A₂) (fun _ _ _=>False))
      { tmps:=a.tmps.setIfInBounds p u,defers:=[] } A)
    (hdone:∀ (D:Nat) (A:World),w.heap.size<=D->¬ X A D->Kz X w A->I L.length A->A.heap[D]?=some (.deferred (some []))->Q .normal { a with defers:={ target:=.collected D,args:=#[] }::a.defers } A):
    (Code.rangeFunc g #[p] assign body).wp P Q a w:=by
 refine (wpIn_wide (n:=9)).1 (wpIn_rangeFunc fun fn _=>?_);obtain ⟨W1,hW1⟩:∃ W1,(w.alloc (.deferred (some []))).alloc (.loop (lrec fn a.tmps p assign body w.heap.size .ready))=W1:=⟨_,rfl⟩
 have hA1:Aft w W1:=hW1 ▸ ((Aft.refl w).alloc _).alloc _;have hL1:W1.heap[w.heap.size+1]?=some (.loop (lrec fn a.tmps p assign body w.heap.size .ready)):=by
  rw [← hW1];have:=World.alloc_heap_new (w.alloc (.deferred (some []))) (.loop (lrec fn a.tmps p assign body w.heap.size .ready));rwa [World.size_alloc] at this
 have hK1:W1.heap[w.heap.size]?=some (.deferred (some [])):=by
  rw [← hW1];exact (Below.heap_alloc _ _ _ (by simp)).trans (World.alloc_heap_new w _)
 have hsz:W1.heap.size=w.heap.size+2:=by rw [← hW1];simp
 have hI1:=hab.aft h0 hA1;have hnx:∀ j,w.heap.size<=j->¬ X w j:=fun j hj hx=>by have:=hlt 0 w j h0 hx;omega
 let l:=w.heap.size+1
 let D:=w.heap.size
 let rc:LoopState->Loop:=lrec fn a.tmps p assign body w.heap.size
 refine ⟨l,[{ target:=.collected D,args:=#[] }],W1,{ target:=.fn (.func gf) lb,args:=#[.func (.yield l) #[] #[]] },W1,gf,
  #[.func (.yield l) #[] #[]]++lb,W1,?_,?_,fun f' _=>trivial,?_,fun _=>by omega,?_⟩
 ·rw [← hW1];exact run_enterLoop_outer _ _ _ _ _
 ·simp only [resolve,hg]
  simp [go_sem,l]
 ·simp [invoke,go_sem,eg]
 ·refine callsIn_wide.2 ((hit W1 hA1 l (fun k A=>I k A/\A.heap[l]?=some (.loop (rc .ready))/\A.heap[D]?=some (.deferred (some []))/\Kz X w A/\¬ X A l/\¬ X A D) (fun A j=>X A j\/j=l) ⟨?_,?_,?_⟩ ?_ ?_).mono ?_)
  ·rintro k A B row ⟨q1,q2,q3,q4,q5,q6⟩ hgr hrow
   have hr1:∀ r,row=some r->w.heap.size+2<=r:=fun r e=>by have:=(hrow r e).1;omega
   obtain ⟨i1,i2⟩:=hab k A B row q1 hgr (fun r e=>⟨by have:=hr1 r e;omega,(hrow r e).2⟩);have hla:=(Array.getElem?_eq_some_iff.1 q2).1;have hda:=(Array.getElem?_eq_some_iff.1 q3).1;refine ⟨⟨i1,(hgr.block l hla (fun e=>by have:=hr1 l e.symm;omega)).trans q2,(hgr.block D hda (fun e=>by have:=hr1 D e.symm;omega)).trans q3,?_,fun h=>q5 (i2 _ h),fun h=>q6 (i2 _ h)⟩,fun j hj=>hj.imp (i2 j) id⟩;exact ⟨hgr.os.trans q4.os,hgr.tape.trans q4.tape,hgr.output.trans q4.output,Nat.le_trans q4.size hgr.size,fun j hj hx=>(hgr.block j (by have:=q4.size;omega) (fun e=>by have:=hr1 j e.symm;omega)).trans (q4.block j hj hx),fun j hj=>q4.x j (i2 j hj)⟩
  ·rintro k A j ⟨q1,q2,_⟩ (h | rfl)
   ·exact hlt k A j q1 h
   ·exact (Array.getElem?_eq_some_iff.1 q2).1
  ·rintro k x u A ⟨q1,q2,q3,q4,q5,q6⟩ hx hby hux
   have hla:=(Array.getElem?_eq_some_iff.1 q2).1;have hy:=run_yield (P:=P) (args:=#[u]) q2 rfl;refine ⟨fn,a.tmps.setIfInBounds p u,assign,body,?_,roundIn_of_wpIn trivial (wpIn_mono (hbody l k x u A (by show w.heap.size<=w.heap.size+1;omega) q4 q1 hx hby (fun g hg=>⟨by have:=(hux g hg).1;omega,fun h=>(hux g hg).2 (.inl h)⟩)) ?_)⟩
   ·rw [hy]
    simp [rc,lrec]
   ·rintro e a1 A1 h
    cases e with
    | normal=>
      obtain ⟨rfl,hb⟩:=h;refine ⟨_,run_beginRound q2 rfl,?_⟩;have hgr:A1.grownBy (A1.putObj l (.loop { rc .ready with state:=.busy })) (some l):=grownBy_putObj' A1 l _;obtain ⟨i1,i2⟩:=hab k A1 _ (some l) q1 hgr (fun r e=>by cases e;exact ⟨by show w.heap.size<=w.heap.size+1;omega,_,q2,rfl⟩);have hul:∀ g,blk u=some g->g≠l:=fun g hg e=>(hux g hg).2 (.inr e)
      have hby2:By (A1.putObj l (.loop { rc .ready with state:=.busy })) u x:=hby.kept fun g hg=>World.putObj_heap_other (hul g hg)
      have hkz2:Kz X w (A1.putObj l (.loop { rc .ready with state:=.busy })):=⟨q4.os,q4.tape,q4.output,by simp;exact q4.size,fun j hj hx=>(World.putObj_heap_other (by show j≠w.heap.size+1;omega)).trans (q4.block j hj hx),fun j hj=>q4.x j (i2 j hj)⟩;have hl2:(A1.putObj l (.loop { rc .ready with state:=.busy })).heap[l]?=some (.loop { rc .ready with state:=.busy }):=World.putObj_heap_same hla;have hd2:(A1.putObj l (.loop { rc .ready with state:=.busy })).heap[D]?=some (.deferred (some [])):=(World.putObj_heap_other (by show w.heap.size≠w.heap.size+1;omega)).trans q3;refine wpIn_mono (hb _ i1 hby2 (fun g hg=>⟨by have:=(hux g hg).1;omega,fun h=>(hux g hg).2 (.inl (i2 g h))⟩) hkz2) ?_;rintro e a3 A3 ⟨rfl,hi3,hk3⟩;have hl3:A3.heap[l]?=some (.loop { rc .ready with state:=.busy }):=(hk3.block l (by simp;exact hla) (fun h=>q5 (i2 _ h))).trans hl2;have hd3:A3.heap[D]?=some (.deferred (some [])):=(hk3.block D (by have:=(Array.getElem?_eq_some_iff.1 hd2).1;exact this) (fun h=>q6 (i2 _ h))).trans hd2;have hla3:=(Array.getElem?_eq_some_iff.1 hl3).1;have hend:=run_endRound (P:=P) none hl3;refine ⟨_,_,hend,rfl,?_⟩;have hgr3:A3.grownBy (A3.putObj l (.loop (rc .ready))) (some l):=grownBy_putObj' A3 l _;obtain ⟨j1,j2⟩:=hab (k+1) A3 _ (some l) hi3 hgr3 (fun r e=>by cases e;exact ⟨by show w.heap.size<=w.heap.size+1;omega,_,hl3,rfl⟩);have hkf:Kz X w (A3.putObj l (.loop (rc .ready))):=by
       have:=hkz2.trans hk3;exact ⟨this.os,this.tape,this.output,by simp;exact this.size,fun j hj hx=>(World.putObj_heap_other (by show j≠w.heap.size+1;omega)).trans (this.block j hj hx),fun j hj=>this.x j (j2 j hj)⟩
      have hn3:¬ X A3 l:=fun h=>by
       rcases hk3.x l h with h1 | h1
       ·exact q5 (i2 _ h1)
       ·simp at h1;omega
      have hn4:¬ X A3 D:=fun h=>by
       have hda:=(Array.getElem?_eq_some_iff.1 q3).1;rcases hk3.x D h with h1 | h1
       ·exact q6 (i2 _ h1)
       ·simp at h1;omega
      refine ⟨⟨j1,World.putObj_heap_same hla3,(World.putObj_heap_other (by show w.heap.size≠w.heap.size+1;omega)).trans hd3,hkf,fun h=>hn3 (j2 _ h),fun h=>hn4 (j2 _ h)⟩,?_⟩;refine ⟨hk3.os,hk3.tape,hk3.output,by have:=hk3.size;simp at this ⊢;exact this,fun j hj hx=>?_,fun j hj=>?_⟩
      ·have hjl:j≠l:=fun e=>hx (.inr e)
       rw [World.putObj_heap_other hjl,hk3.block j (by simp;exact hj) (fun h=>hx (.inl (i2 j h))),World.putObj_heap_other hjl]
      ·rcases hj with hj | hj
       ·rcases hk3.x j (j2 j hj) with h1 | h1
        ·exact .inl (.inl (i2 j h1))
        ·exact .inr (by simp at h1;exact h1)
       ·exact .inl (.inr hj)
    | _=>exact h.elim
  ·exact ⟨hI1.1,hL1,hK1,Kz.aft hA1 hI1.2,fun h=>hnx _ (by show w.heap.size<=w.heap.size+1;omega) (hI1.2 _ h),fun h=>hnx _ (Nat.le_refl _) (hI1.2 _ h)⟩
  ·intro j hj
   obtain ⟨p1,p2⟩:=hpr j hj;rintro (h | rfl)
   ·exact p2 (hI1.2 j h)
   ·have:w.heap.size+1 < w.heap.size:=p1
    omega
  ·rintro e W2 ⟨⟨v,rfl⟩,⟨q1,q2,q3,q4,q5,q6⟩,_⟩
   have hend:=run_endLoop (P:=P) q2 (by simp [rc,lrec]);have hgr:W2.grownBy (W2.putObj l (.loop { rc .ready with state:=.exhausted })) (some l):=grownBy_putObj' W2 l _;obtain ⟨j1,j2⟩:=hab L.length W2 _ (some l) q1 hgr (fun r e=>by cases e;exact ⟨by show w.heap.size<=w.heap.size+1;omega,_,q2,rfl⟩);refine ⟨none,_,hend,hdone D _ (Nat.le_refl _) (fun h=>q6 (j2 _ h)) ?_ j1 ((World.putObj_heap_other (by show w.heap.size≠w.heap.size+1;omega)).trans q3)⟩;exact ⟨q4.os,q4.tape,q4.output,by simp;exact q4.size,fun j hj hx=>(World.putObj_heap_other (by show j≠w.heap.size+1;omega)).trans (q4.block j hj hx),fun j hj=>q4.x j (j2 j hj)⟩
end Go.It
/- Codes of characters, blanks at ends: what the functions give, in plain words and as calls. -/
namespace Go.It
open Go Go.RowKit Go.Ab Go.Ax
theorem calls_s {P:Program} {f:FuncId} {ds:List Value} {d:D} (h:Does P f (ds.map fun x=>.t (.v x)) [] d []) {w:World} (ht:Tab w fun _=>False) (h1:∀ x ∈ ds,x.oneCell'=true):
    Calls P f ds.toArray w fun e w'=>∃ v ν nm G,e = .returned v/\Aft w w'/\DR ν nm w' G v d/\∀ b,b < w.heap.size->G b=0:=by
 refine (h ⟨ds.toArray.size,w,fun _=>0,fun _=>False,fun _=>.nilFunc,ht,(fun g vs hg=>by cases hg),[]⟩ w ds.toArray rfl rfl (by simp) ⟨fun _=>.nilFunc,fun _=>0,⟨rfl,rfl,rfl,Nat.le_refl _,fun _ _ _=>rfl⟩,fun _ _ _ h=>h,fun _ _ _=>rfl,fun _ _ _=>rfl,rfl,fun t d ht=>?_,fun k o h=>by simp [Ab.look] at h,fun k o k' o' h=>by simp [Ab.look] at h⟩).mono ?_
 ·have ht:(ds.map fun x=>D.t (.v x))[t]?=some d:=ht
  rw [List.getElem?_map] at ht;obtain ⟨x,hx,rfl⟩:=Option.map_eq_some_iff.1 ht;exact ⟨x,by simpa using hx,.t (.v x (h1 x (List.mem_of_getElem? hx)))⟩
 ·rintro e w' ⟨v,rfl,ν,G,I⟩
  obtain ⟨u,hu,hd⟩:=I.T 0 d (by simp);simp at hu;subst hu;exact ⟨v,_,_,_,rfl,⟨I.kept.os,I.kept.tape,I.kept.output,I.kept.size,fun k hk=>I.kept.block k hk (fun h=>h)⟩,hd,fun b hb=>I.g0 b hb (fun h=>h)⟩
theorem by_of {A:World} {G:Lim} {u:Value} {x:List UInt8} (h:TR A G u (.sl x.length (x.flatMap (encs .u8)))):By A u x:=h.mono fun _ _ _ ⟨h1,_⟩=>cell_blk h1
theorem tr_new {A:World} {G:Lim} {n:Nat} {u:Value} {x:List UInt8} (h:TR A G u (.sl x.length (x.flatMap (encs .u8)))) (hx:x≠[]) (hG:∀ b,b < n->G b=0):∀ g,blk u=some g->n<=g:=by
 have hx':0 < x.length:=List.length_pos_iff.2 hx;have hl:(x.flatMap (encs .u8)).length=x.length:=(encs_flat_len (τ:=.u8) x).trans (Nat.mul_one _);generalize x.flatMap (encs .u8)=ts at h hl;generalize x.length=m at h hx' hl;cases h with
 | nil h=>omega
 | sl b o n' c us ts hl' hc hn h=>
   intro g hg;cases hg;rcases Nat.lt_or_ge b n with hb | hb
   ·have h0:=(hc 0 _ (List.getElem?_eq_getElem (by omega))).2
    rw [hG b hb] at h0;omega
   ·exact hb
end Go.It
namespace Go.Proofs
open Go Go.Ax Go.Ax.Alg
theorem w40_eq (N:Nat) (c:UInt8) (last:Bool):w40z N c last=some (codeZ c last):=by
 have key:∀ (b:Bool) (x y:O),(br b x y).bind w40un=if b=true then x.bind w40un else y.bind w40un:=fun b x y=>by cases b <;> rfl
 unfold w40z w40 w40G codeZ;have ur:∀ x:List UInt8,(some (w40r0 x):O).bind w40un=some x:=fun _=>rfl
 simp only [key,ur,decide_eq_true_eq];split
 ·rfl
 split
 ·rfl
 split
 ·rfl
 split
 ·rfl
 split
 ·rfl
 split <;> rfl
theorem codeZ_ne (c:UInt8) (last:Bool):codeZ c last≠[]:=by
 unfold codeZ
 repeat' split
 all_goals simp
theorem endN_app (s:List UInt8) (c:UInt8):endN (s++[c])=if c=32 then endN s else s.length+1:=by
 unfold endN;rw [List.reverse_append];show (List.dropWhile (· == 32) (c::s.reverse)).length=_;rw [List.dropWhile_cons];by_cases h:c=32
 ·rw [if_pos h,if_pos (by simpa using h)]
 ·rw [if_neg h,if_neg (by simpa using h)]
  simp
theorem endN_le (s:List UInt8):endN s<=s.length:=by
 unfold endN;have:=(List.dropWhile_sublist (l:=s.reverse) (· == 32)).length_le;simpa using this
def trimR (s:List UInt8):List UInt8:=s.take (endN s)
theorem w73_loop (N:Nat) (k0:List UInt8->O) (k1 k2:Unit->O):∀ (f:Nat) (s:List UInt8),s.length < f->s.length<=100000->w73l0 N f (s,32) k0 k1 k2=k0 (trimR s)
 | 0,s,h,_=>by omega
 | f+1,s,h,hl=>by
   show w73F0 N _ _ 32 s=_;unfold w73F0;rcases List.eq_nil_or_concat s with rfl | ⟨t,c,rfl⟩
   ·rfl
   ·rw [List.concat_eq_append] at *
    rw [List.length_append] at h hl;have h1:([c]:List UInt8).length=1:=rfl;have hlen:((t++[c]).length:Int)=(t.length:Int)+1:=by simp
    have e:IntKind.i64.wrap ((t.length:Int)+1 - 1)=((t.length:Nat):Int):=by rw [wr (by omega) (by omega)];omega
    have hg:(t++[c])[t.length]?=some c:=by simp
    rw [hlen,decide_eq_true (show (0:Int) < (t.length:Int)+1 by omega),gc_t,e,gx_at hg,Bool.true_and];unfold trimR;rw [endN_app];by_cases hc:c=32
    ·have hsl:slc (t++[c]) none (some ((t.length:Nat):Int))=t:=by
      show (t++[c]).take ((t.length:Nat):Int).toNat=t;rw [Int.toNat_natCast,List.take_left]
     rw [decide_eq_true hc,br_t,ck_of (show slcOk (t++[c]).length none (some ((t.length:Nat):Int))=true from decide_eq_true ⟨by omega,by omega⟩),hsl,if_pos hc,List.take_append_of_le_length (endN_le t)];exact w73_loop N k0 k1 k2 f t (by omega) (by omega)
    ·rw [decide_eq_false hc,br_f,if_neg hc,List.take_of_length_le (by simp)]
theorem w59_eq {N:Nat} {s:List UInt8} (h:s.length < N) (hl:s.length<=100000):w59z N s [32]=some (trimR s):=by
 unfold w59z w59 w59G;by_cases h0:s=[]
 ·subst h0
  rfl
 ·have h73:w73z N s 32=some (trimR s):=by
   unfold w73z w73 w73G w73n0;exact congrArg (fun z:O=>z.bind w73un) (w73_loop N (fun y=>some (w73r0 y)) (fun _=>none) (fun _=>none) N s h hl)
  have hp:w73p N s 32=true:=by unfold w73p;rw [h73];rfl
  have hy:w73y0 N s 32=trimR s:=by unfold w73y0;rw [h73];rfl
  rw [decide_eq_false h0];show (gx [32] 0 fun y1=>ck (w73p N s y1) <| some (w59r0 (w73y0 N s y1))).bind w59un=_;rw [gx_0,ck_of hp,hy];rfl
end Go.Proofs
/- Operations one by one, within a round or without; the codes of a string, given one by one. -/
namespace Go.It
open Go Go.RowKit Go.Ab Go.Ax Go.Proofs
abbrev Fr (ro:Option Nat):Fence:={ Fence.wide with round:=ro }
section
variable {ro:Option Nat} {n:Nat} {P:Program} {ops:Array Oper} {rest:List Oper} {o:Oper} {a:Act} {w w':World} {Q:Exit->Act->World->Prop}
theorem inl_val {v:Value} (hg:o.guard=none) (hd:∀ c,o.op ≠ .defer c) (hr:(execOp a.eval o).run P w = .ok (.value v) w') (h:wpListIn (Fr ro) n P ops Q rest (a.put o.dst v) w'):wpListIn (Fr ro) n P ops Q (o::rest) a w:=by
 refine wpListIn_plain hg fun K hK=>⟨fun _ _=>trivial,?_⟩
 rw [Oper.semAt_eq _ _ _ hd,hr,Oper.uponIn_value];exact hK _ _ h
theorem inl_skip (hg:o.guard=none) (hd:∀ c,o.op ≠ .defer c) (hr:(execOp a.eval o).run P w = .ok .skip w') (h:wpListIn (Fr ro) n P ops Q rest (a.put o.dst undef) w'):wpListIn (Fr ro) n P ops Q (o::rest) a w:=by
 refine wpListIn_plain hg fun K hK=>⟨fun _ _=>trivial,?_⟩
 rw [Oper.semAt_eq _ _ _ hd,hr,Oper.uponIn_skip];exact hK _ _ h
theorem inl_call {f:FuncId} {args:Array Value} {R:Ending->World->Prop} (hg:o.guard=none) (hd:∀ c,o.op ≠ .defer c) (hr:(execOp a.eval o).run P w = .ok (.enter f args) w') (hc:Calls P f args w' R) (h:∀ e w'',R e w''->∃ v,e = .returned v/\wpListIn (Fr ro) n P ops Q rest (a.put o.dst v) w''):wpListIn (Fr ro) n P ops Q (o::rest) a w:=by
 refine wpListIn_plain hg fun K hK=>⟨fun _ _=>trivial,?_⟩
 rw [Oper.semAt_eq _ _ _ hd,hr,Oper.uponIn_enter];refine ⟨fun h=>(by simp:¬ (none:Option Nat).isSome=true).elim h,?_⟩;have:CallsIn Fence.wide (n - 1) P f args w' R:=callsIn_wide.2 hc;exact CallsIn.mono (F:=Fr ro) this fun e w'' hR=>by
  obtain ⟨v,rfl,hv⟩:=h e w'' hR;exact hK _ _ hv
theorem round_wide {m m':Nat} {l:Nat} {f:FuncId} {tm:Array Value} {cs bd:Code} {R:Ending->World->Prop} (h:RoundIn Fence.wide m P l f tm cs bd w R):RoundIn Fence.wide m' P l f tm cs bd w R:=
 ⟨h.1,fun c fs _=>h.2 c fs (room_wide _)⟩
theorem inl_yield {m l:Nat} {args:Array Value} {R:Ending->World->Prop} (hg:o.guard=none) (hd:∀ c,o.op ≠ .defer c) (hr:(execOp a.eval o).run P w=(do let x ← Instr.yield l args;pure x:Sem Next).run P w) (hy:YieldAt Fence.wide m P l args w R) (h:∀ e w'',R e w''->∃ v,e = .returned v/\wpListIn (Fr ro) n P ops Q rest (a.put o.dst v) w''):wpListIn (Fr ro) n P ops Q (o::rest) a w:=by
 refine wpListIn_plain hg fun K hK=>⟨fun _ _=>trivial,?_⟩
 obtain ⟨fn,tmps,cs,bd,e1,hR⟩:=hy;rw [Oper.semAt_eq _ _ _ hd,hr];simp only [e1];show Oper.uponIn (Fr ro) n P o a K Q (.ok (.round l fn tmps cs bd) w);rw [Oper.uponIn_round];refine ⟨fun h=>(by simp:¬ (none:Option Nat).isSome=true).elim h,?_⟩;have:RoundIn Fence.wide (n - 1) P l fn tmps cs bd w R:=round_wide hR;exact RoundIn.mono (F:=Fr ro) this fun e w'' hR=>by
  obtain ⟨v,rfl,hv⟩:=h e w'' hR;exact hK _ _ hv
end
theorem put_size (a:Act) (d:Option Tmp) (v:Value):(a.put d v).tmps.size=a.tmps.size:=by cases d <;> simp [Act.put]
theorem ev_put {a:Act} {t t':Nat} {v:Value} (h:t < a.tmps.size):(a.put (some t) v).eval (.tmp t')=if t=t' then v else a.eval (.tmp t'):=by
 by_cases e:t=t'
 ·subst e;simp [Act.eval,Act.put,Array.getD_eq_getD_getElem?,h]
 ·rw [if_neg e];simp [Act.eval,Act.put,Array.getD_eq_getD_getElem?,Array.getElem?_setIfInBounds_ne e]
theorem ev_const (a:Act) (v:Value):a.eval (.const v)=v:=rfl
theorem args_sz {vs:Array Value} {n m:Nat} {ds:List Deferred} (hn:n=m) (h:vs.size<=m):({ tmps:=vs++Array.replicate (n - vs.size) undef,defers:=ds }:Act).tmps.size=m:=by subst hn;simp;omega
theorem args_ev {vs:Array Value} {n:Nat} {ds:List Deferred} {t:Nat} {v:Value} (h:vs[t]?=some v):({ tmps:=vs++Array.replicate (n - vs.size) undef,defers:=ds }:Act).eval (.tmp t)=v:=by
 have ht:=(Array.getElem?_eq_some_iff.1 h).1;have e:(vs++Array.replicate (n - vs.size) undef)[t]?=some v:=by rw [Array.getElem?_append_left ht];exact h
 simp [Act.eval,Array.getD_eq_getD_getElem?,e]
section
variable {ρ:Operand->Value} {P:Program} {W:World} {d:Option Tmp} {t:TypeId} {ps:String} {af:Array Edge} {g:Option (Nat×Bool)}
theorem op_move {x:Operand} {v:Value} (h:ρ x=v):(execOp ρ ⟨d,.move x,t,ps,af,g⟩).run P W = .ok (.value v) W:=by subst h;rfl
theorem op_assign {x:Operand} {v:Value} (h:ρ x=v):(execOp ρ ⟨d,.assign x,t,ps,af,g⟩).run P W = .ok (.value v) W:=by subst h;rfl
theorem op_load {x:Operand} {ty:TypeId} {dsc:TypeDesc} {b i:Nat} {v:Value} (hu:P.underlying ty=some dsc) (hdsc:dsc.isRow=false) (h:ρ x = .pointer (some ⟨b,i,none⟩)) (hc:W.cell? ⟨b,i,none⟩=some v):(execOp ρ ⟨d,.load ty x,t,ps,af,g⟩).run P W = .ok (.value v) W:=by
 unfold execOp;simp [h,run_load1 hu hdsc hc]
theorem op_lens {x:Operand} {ty:TypeId} {s:List UInt8} (hu:P.underlying ty=some .string) (h:ρ x = .string ⟨⟨s⟩⟩):(execOp ρ ⟨d,.call { callee:=.builtin .len,args:=#[x],argTypes:=#[ty] },t,ps,af,g⟩).run P W = .ok (.value (.int .i64 (s.length:Int))) W:=by
 unfold execOp;simp [resolve,invoke,builtin,h,Builtin.len_,run_underlying hu,goInt];rfl
theorem op_lss {x y:Operand} {ty ty':TypeId} {k:IntKind} {m n:Int} (h:ρ x = .int k m) (h':ρ y = .int k n):(execOp ρ ⟨d,.binOp .lss ty x y ty',t,ps,af,g⟩).run P W = .ok (.value (.bool (decide (m < n)))) W:=by
 unfold execOp;simp [h,h',eqGuard,binOp,Op.intCmp]
theorem op_geq {x y:Operand} {ty ty':TypeId} {k:IntKind} {m n:Int} (h:ρ x = .int k m) (h':ρ y = .int k n):(execOp ρ ⟨d,.binOp .geq ty x y ty',t,ps,af,g⟩).run P W = .ok (.value (.bool (decide (n<=m)))) W:=by
 unfold execOp;simp [h,h',eqGuard,binOp,Op.intCmp]
theorem op_add {x y:Operand} {ty ty':TypeId} {m n:Int} (h:ρ x = .int .i64 m) (h':ρ y = .int .i64 n) (hb:-9223372036854775808<=m+n/\m+n<=9223372036854775807):(execOp ρ ⟨d,.binOp .add ty x y ty',t,ps,af,g⟩).run P W = .ok (.value (.int .i64 (m+n))) W:=by
 unfold execOp;simp [h,h',eqGuard,binOp,Op.intArith,IntWalk.i64_in _ hb]
theorem op_sub {x y:Operand} {ty ty':TypeId} {m n:Int} (h:ρ x = .int .i64 m) (h':ρ y = .int .i64 n) (hb:-9223372036854775808<=m - n/\m - n<=9223372036854775807):(execOp ρ ⟨d,.binOp .sub ty x y ty',t,ps,af,g⟩).run P W = .ok (.value (.int .i64 (m - n))) W:=by
 unfold execOp;simp [h,h',eqGuard,binOp,Op.intArith,IntWalk.i64_in _ hb]
theorem op_not {x:Operand} {ty:TypeId} {b:Bool} (h:ρ x = .bool b):(execOp ρ ⟨d,.unOp .not ty x,t,ps,af,g⟩).run P W = .ok (.value (.bool (!b))) W:=by
 unfold execOp;simp [h,Op.unary]
theorem op_index {x y:Operand} {ty:TypeId} {s:List UInt8} {i:Nat} {c:UInt8} (hu:P.underlying ty=some .string) (h:ρ x = .string ⟨⟨s⟩⟩) (h':ρ y = .int .i64 (i:Int)) (hc:s[i]?=some c):(execOp ρ ⟨d,.index ty x y,t,ps,af,g⟩).run P W = .ok (.value (.int .u8 (c.toNat:Int))) W:=by
 obtain ⟨hi,hc⟩:=List.getElem?_eq_some_iff.1 hc;have:=run_index_string (P:=P) W ty ⟨⟨s⟩⟩ .i64 (i:Int) hu;rw [dif_pos ⟨by omega,by show (i:Int) < (s.length:Int);omega⟩] at this;have e:((⟨⟨s⟩⟩:ByteArray)[((i:Int)).toNat]'(by show ((i:Int)).toNat < s.length;omega))=c:=by
  show s[((i:Int)).toNat]=c;simpa using hc
 rw [e] at this;unfold execOp;simp [h,h',this]
theorem op_call1 {f:Nat} {x:Operand} {u:Value} {tys:Array TypeId} (ef:∀ args w,(callFunc f args).run P w = .ok (.enter f args) w) (h:ρ x=u) (hf:ρ (.func f) = .func (.func f) #[] #[]):(execOp ρ ⟨d,.call { callee:=.value (.func f),args:=#[x],argTypes:=tys },t,ps,af,g⟩).run P W = .ok (.enter f #[u]) W:=by
 unfold execOp;simp [resolve,invoke,h,hf,Deferred.ofValue,ef]
theorem op_call2 {f:Nat} {x y:Operand} {u v:Value} {tys:Array TypeId} (ef:∀ args w,(callFunc f args).run P w = .ok (.enter f args) w) (h:ρ x=u) (h':ρ y=v) (hf:ρ (.func f) = .func (.func f) #[] #[]):(execOp ρ ⟨d,.call { callee:=.value (.func f),args:=#[x,y],argTypes:=tys },t,ps,af,g⟩).run P W = .ok (.enter f #[u,v]) W:=by
 unfold execOp;simp [resolve,invoke,h,h',hf,Deferred.ofValue,ef]
theorem op_yield {x y:Operand} {l:Nat} {u:Value} {tys:Array TypeId} (h:ρ x = .func (.yield l) #[] #[]) (h':ρ y=u):(execOp ρ ⟨d,.call { callee:=.value x,args:=#[y],argTypes:=tys },t,ps,af,g⟩).run P W=(do let x ← Instr.yield l #[u];pure x:Sem Next).run P W:=by
 unfold execOp;simp [resolve,invoke,h,h',Deferred.ofValue]
end
end Go.It
/- The codes of a string, given one by one. -/
namespace Go.It
open Go Go.RowKit Go.Ab Go.Ax Go.Proofs
abbrev o58_0_0 : Oper := { dst := some 5, op := Op.load 9 (Operand.tmp 1), type := 9, pos := "listing.go:43", after := #[], guard := none }
abbrev o58_0_1 : Oper := { dst := some 6, op := Op.call { callee := Callee.value (Operand.func 59), args := #[Operand.tmp 5, Operand.const (Value.string { data := #[32] })], argTypes := #[9, 9] }, type := 9, pos := "listing.go:43", after := #[{ on := 0, ground := Ground.data }], guard := none }
abbrev o58_0_2 : Oper := { dst := some 7, op := Op.call { callee := Callee.builtin Builtin.len, args := #[Operand.tmp 6], argTypes := #[9] }, type := 3, pos := "listing.go:43", after := #[{ on := 1, ground := Ground.data }], guard := none }
abbrev o58_0_3 : Oper := { dst := some 3, op := Op.assign (Operand.tmp 7), type := 3, pos := "listing.go:43", after := #[{ on := 2, ground := Ground.data }, { on := 1, ground := Ground.chain }, { on := 0, ground := Ground.phase }, { on := 1, ground := Ground.phase }, { on := 2, ground := Ground.phase }], guard := none }
abbrev o58_1_0 : Oper := { dst := some 8, op := Op.load 9 (Operand.tmp 1), type := 9, pos := "listing.go:44", after := #[], guard := none }
abbrev o58_1_1 : Oper := { dst := some 9, op := Op.call { callee := Callee.builtin Builtin.len, args := #[Operand.tmp 8], argTypes := #[9] }, type := 3, pos := "listing.go:44", after := #[{ on := 0, ground := Ground.data }], guard := none }
abbrev o58_1_2 : Oper := { dst := some 10, op := Op.move (Operand.const (Value.int IntKind.i64 0)), type := 3, pos := "listing.go:44", after := #[], guard := none }
abbrev o58_2_0 : Oper := { dst := some 11, op := Op.binOp BinOp.lss 3 (Operand.tmp 10) (Operand.tmp 9) 3, type := 4, pos := "listing.go:44", after := #[], guard := none }
abbrev o58_3_0 : Oper := { dst := some 12, op := Op.move (Operand.tmp 10), type := 3, pos := "listing.go:44", after := #[], guard := none }
abbrev o58_3_1 : Oper := { dst := some 4, op := Op.assign (Operand.tmp 12), type := 3, pos := "listing.go:44", after := #[{ on := 0, ground := Ground.data }, { on := 0, ground := Ground.phase }], guard := none }
abbrev o58_4_0 : Oper := { dst := some 13, op := Op.move (Operand.tmp 0), type := 57, pos := "listing.go:45", after := #[], guard := none }
abbrev o58_4_1 : Oper := { dst := some 14, op := Op.load 9 (Operand.tmp 1), type := 9, pos := "listing.go:45", after := #[], guard := none }
abbrev o58_4_2 : Oper := { dst := some 15, op := Op.move (Operand.tmp 4), type := 3, pos := "listing.go:45", after := #[], guard := none }
abbrev o58_4_3 : Oper := { dst := some 16, op := Op.index 9 (Operand.tmp 14) (Operand.tmp 15), type := 5, pos := "listing.go:45", after := #[{ on := 1, ground := Ground.data }, { on := 2, ground := Ground.data }], guard := none }
abbrev o58_4_4 : Oper := { dst := some 17, op := Op.move (Operand.tmp 4), type := 3, pos := "listing.go:45", after := #[], guard := none }
abbrev o58_4_5 : Oper := { dst := some 18, op := Op.move (Operand.tmp 3), type := 3, pos := "listing.go:45", after := #[], guard := none }
abbrev o58_4_6 : Oper := { dst := some 19, op := Op.binOp BinOp.geq 3 (Operand.tmp 17) (Operand.tmp 18) 3, type := 4, pos := "listing.go:45", after := #[{ on := 4, ground := Ground.data }, { on := 5, ground := Ground.data }], guard := none }
abbrev o58_4_7 : Oper := { dst := some 20, op := Op.call { callee := Callee.value (Operand.func 40), args := #[Operand.tmp 16, Operand.tmp 19], argTypes := #[5, 4] }, type := 23, pos := "listing.go:45", after := #[{ on := 3, ground := Ground.data }, { on := 6, ground := Ground.data }], guard := none }
abbrev o58_4_8 : Oper := { dst := some 21, op := Op.call { callee := Callee.value (Operand.tmp 13), args := #[Operand.tmp 20], argTypes := #[23] }, type := 4, pos := "listing.go:45", after := #[{ on := 0, ground := Ground.data }, { on := 7, ground := Ground.data }, { on := 7, ground := Ground.chain }], guard := none }
abbrev o58_4_9 : Oper := { dst := some 22, op := Op.unOp UnOp.not 4 (Operand.tmp 21), type := 4, pos := "listing.go:45", after := #[{ on := 8, ground := Ground.data }], guard := none }
abbrev o58_5_0 : Oper := { dst := some 23, op := Op.binOp BinOp.add 3 (Operand.tmp 10) (Operand.const (Value.int IntKind.i64 1)) 3, type := 3, pos := "listing.go:44", after := #[], guard := none }
abbrev o58_5_1 : Oper := { dst := some 10, op := Op.move (Operand.tmp 23), type := 3, pos := "listing.go:44", after := #[{ on := 0, ground := Ground.data }], guard := none }
theorem b58_eq:Tryz.f58.body=some (Code.seq (Code.region 0 [o58_0_0,o58_0_1,o58_0_2,o58_0_3].toArray false) (Code.seq (Code.region 1 [o58_1_0,o58_1_1,o58_1_2].toArray false) (Code.block 0 (Code.loop (Code.seq (Code.region 2 [o58_2_0].toArray false) (Code.seq (Code.cond (Operand.tmp 11) Code.skip (Code.exit 0)) (Code.seq (Code.block 1 (Code.seq (Code.region 3 [o58_3_0,o58_3_1].toArray false) (Code.seq (Code.region 4 [o58_4_0,o58_4_1,o58_4_2,o58_4_3,o58_4_4,o58_4_5,o58_4_6,o58_4_7,o58_4_8,o58_4_9].toArray false) (Code.cond (Operand.tmp 22) Code.ret Code.skip)))) (Code.region 5 [o58_5_0,o58_5_1].toArray false)))))))):=by kernel_rfl
theorem code_w {W:World} (hT:Tab W fun _=>False) (c:UInt8) (last:Bool):
    Calls Tryz.prog 40 #[.int .u8 (c.toNat:Int),.bool last] W fun e W'=>∃ v,e = .returned v/\Aft W W'/\By W' v (codeZ c last)/\∀ g,blk v=some g->W.heap.size<=g:=by
 refine (calls_s (ds:=[.int .u8 (c.toNat:Int),.bool last]) (w40fin (w40cx 10) (w40_eq 10 c last)) hT (by simp [Value.oneCell'])).mono ?_;rintro e W' ⟨v,ν,nm,G,rfl,hA,hd,hG⟩;cases hd with
 | t h=>exact ⟨v,rfl,hA,by_of h,tr_new h (codeZ_ne c last) hG⟩
theorem trim_w {W:World} (hT:Tab W fun _=>False) {s:List UInt8} (hs:s.length<=20000):
    Calls Tryz.prog 59 #[.string ⟨⟨s⟩⟩,.string ⟨⟨[32]⟩⟩] W fun e W'=>e = .returned (.string ⟨⟨trimR s⟩⟩)/\Aft W W':=by
 refine (calls_s (ds:=[.string ⟨⟨s⟩⟩,.string ⟨⟨[32]⟩⟩]) (w59fin (w59cx 40000) (w59_eq (by omega) (by omega))) hT (by simp [Value.oneCell'])).mono ?_;rintro e W' ⟨v,ν,nm,G,rfl,hA,hd,hG⟩;have:=bool_of hd;subst this;exact ⟨rfl,hA⟩
theorem codesZ_at {s:List UInt8} {i:Nat} {c:UInt8} (h:s[i]?=some c):(codesZ s)[i]?=some (codeZ c (decide (endN s<=i))):=by
 unfold codesZ;rw [List.getElem?_map,List.getElem?_range (List.getElem?_eq_some_iff.1 h).1];simp [List.getD,h]
theorem codesZ_len (s:List UInt8):(codesZ s).length=s.length:=by unfold codesZ;simp
theorem trimR_len (s:List UInt8):(trimR s).length=endN s:=by
 unfold trimR;rw [List.length_take];have:=endN_le s;omega
def ndB:Op->Bool
 | .defer _=>false
 | _=>true
theorem nd {o:Op} (h:ndB o=true):∀ c,o ≠ .defer c:=fun c e=>by subst e;cases h
theorem en59 (vs : Array Value) (w : World) : (callFunc 59 vs).run Tryz.prog w = .ok (.enter 59 vs) w := run_enter Tryz.func59 (by rw [show Tryz.f59.name = "strings.TrimRight" from rfl]; decide) (fun h => by cases h) vs w
theorem en40 (vs : Array Value) (w : World) : (callFunc 40 vs).run Tryz.prog w = .ok (.enter 40 vs) w := run_enter Tryz.func40 (by rw [show Tryz.f40.name = "dactyl/listing.code" from rfl]; decide) (fun h => by cases h) vs w
def fin58 (a:Act) (l c n m i:Nat):Prop:=a.tmps.size=24/\a.defers=[]/\a.eval (.tmp 0) = .func (.yield l) #[] #[]/\a.eval (.tmp 1) = .pointer (some ⟨c,0,none⟩)/\a.eval (.tmp 3) = .int .i64 (m:Int)/\a.eval (.tmp 9) = .int .i64 (n:Int)/\a.eval (.tmp 10) = .int .i64 (i:Int)
theorem codes_it {w0:World} (hT:Tab w0 fun _=>False) {c:Nat} {s:List UInt8} (hs:s.length<=20000) {W:World} (hA:Aft w0 W) (hc:W.cell? ⟨c,0,none⟩=some (.string ⟨⟨s⟩⟩)):
    It Tryz.prog 58 #[.pointer (some ⟨c,0,none⟩)] (codesZ s) W (fun j=>j < w0.heap.size\/j=c):=by
 intro l J X R h0 hpr;have hX:∀ j,X W j->w0.heap.size<=j:=fun j hj=>by
  rcases Nat.lt_or_ge j w0.heap.size with h | h
  ·exact absurd hj (hpr j (.inl h))
  ·exact h
 have hcX:¬ X W c:=hpr c (.inr rfl);have hTA:∀ {A:World},Aft w0 A->Tab A fun _=>False:=fun {A} h=>hT.keep h.size (fun b hb _=>h.block b hb) (fun _ h=>h.elim)
 have hcl:=World.block_lt_of_cell? _ _ hc;have hcK:∀ {A:World},Kz X W A->A.cell? ⟨c,0,none⟩=some (.string ⟨⟨s⟩⟩):=fun {A} h=>(World.cell?_of_block (a:=⟨c,0,none⟩) (h.block c hcl hcX)).trans hc
 have u9:Tryz.prog.underlying 9=some .string:=by kernel_rfl
 have hm:Tryz.f58.ntmps=24:=by kernel_rfl
 refine callsIn_wide.1 (callsIn_of_wp_marks (F:=Fence.wide) (n:=9) Tryz.func58 b58_eq trivial ?_);have hsz:=args_sz (vs:=#[Value.func (.yield l) #[] #[]] ++ #[.pointer (some ⟨c,0,none⟩)]) (ds:=[]) hm (by simp);have e0:=args_ev (vs:=#[Value.func (.yield l) #[] #[]] ++ #[.pointer (some ⟨c,0,none⟩)]) (n:=Tryz.f58.ntmps) (ds:=[]) (t:=0) (v:=.func (.yield l) #[] #[]) (by simp);have e1:=args_ev (vs:=#[Value.func (.yield l) #[] #[]] ++ #[.pointer (some ⟨c,0,none⟩)]) (n:=Tryz.f58.ntmps) (ds:=[]) (t:=1) (v:=.pointer (some ⟨c,0,none⟩)) (by simp);generalize ha:({ tmps:=(#[Value.func (.yield l) #[] #[]] ++ #[Value.pointer (some ⟨c,0,none⟩)])++Array.replicate (Tryz.f58.ntmps - (#[Value.func (.yield l) #[] #[]] ++ #[Value.pointer (some ⟨c,0,none⟩)]).size) undef,defers:=[] }:Act)=a at hsz e0 e1 ⊢;have hd0:a.defers=[]:=by rw [← ha]
 clear ha;refine wpIn_seq (wpIn_region_lit ?_);refine inl_val rfl (nd rfl) (op_load u9 rfl e1 hc) ?_;refine inl_call rfl (nd rfl) (op_call2 en59 (show _=Value.string ⟨⟨s⟩⟩ by simp [ev_put,hsz]) (ev_const _ _) rfl) (trim_w (hTA hA) hs) ?_;rintro e W1 ⟨rfl,hA1⟩;refine ⟨_,rfl,?_⟩;refine inl_val rfl (nd rfl) (op_lens (s:=trimR s) u9 (by simp [ev_put,put_size,hsz])) ?_;refine inl_val rfl (nd rfl) (op_assign (v:=.int .i64 (endN s:Int)) (by simp [ev_put,put_size,hsz,trimR_len])) (wpListIn_nil ?_);obtain ⟨i1,i2⟩:=R.ab.aft h0 hA1;have hk1:Kz X W W1:=Kz.aft hA1 i2;refine wpIn_seq (wpIn_region_lit ?_);refine inl_val rfl (nd rfl) (op_load u9 rfl (by simp [ev_put,put_size,hsz,e1]) (hcK hk1)) ?_;refine inl_val rfl (nd rfl) (op_lens (s:=s) u9 (by simp [ev_put,put_size,hsz])) ?_;refine inl_val rfl (nd rfl) (op_move (v:=.int .i64 0) (ev_const _ _)) (wpListIn_nil ?_);refine wpIn_block (wpIn_loop (fun b B=>∃ i:Nat,fin58 b l c s.length (endN s) i/\i<=s.length/\J i B/\Kz X W B) (fun b _=>s.length - (match b.eval (.tmp 10) with | .int _ z=>z.toNat | _=>0)) ⟨0,⟨by simp [put_size,hsz],by simp [put_defers,hd0],by simp [ev_put,put_size,hsz,e0],by simp [ev_put,put_size,hsz,e1],by simp [ev_put,put_size,hsz],by simp [ev_put,put_size,hsz],by simp [ev_put,put_size,hsz]⟩,Nat.zero_le _,i1,hk1⟩ ?_);clear hsz hd0 e0 e1;rintro b B ⟨i,⟨hsz,hd0,e0,e1,e3,e9,e10⟩,hi,hJ,hK⟩;refine wpIn_seq (wpIn_region_lit ?_);refine inl_val rfl (nd rfl) (op_lss e10 e9) (wpListIn_nil ?_);by_cases hlt:i < s.length
 ·have hg:s[i]?=some s[i]:=List.getElem?_eq_getElem hlt
  have hAB:=Kz.old hA hK hX;have hcB:=hcK hK;refine wpIn_seq (wpIn_cond (t:=true) (by simp [ev_put,hsz];omega) (wpIn_skip ?_));refine wpIn_seq (wpIn_block (wpIn_seq (wpIn_region_lit ?_)));refine inl_val rfl (nd rfl) (op_move (v:=.int .i64 (i:Int)) (by simp [ev_put,hsz,e10])) ?_;refine inl_val rfl (nd rfl) (op_assign (v:=.int .i64 (i:Int)) (by simp [ev_put,put_size,hsz])) (wpListIn_nil ?_);refine wpIn_seq (wpIn_region_lit ?_);refine inl_val rfl (nd rfl) (op_move (v:=.func (.yield l) #[] #[]) (by simp [ev_put,put_size,hsz,e0])) ?_;refine inl_val rfl (nd rfl) (op_load u9 rfl (by simp [ev_put,put_size,hsz,e1]) hcB) ?_;refine inl_val rfl (nd rfl) (op_move (v:=.int .i64 (i:Int)) (by simp [ev_put,put_size,hsz])) ?_;refine inl_val rfl (nd rfl) (op_index (s:=s) (i:=i) u9 (by simp [ev_put,put_size,hsz]) (by simp [ev_put,put_size,hsz]) hg) ?_;refine inl_val rfl (nd rfl) (op_move (v:=.int .i64 (i:Int)) (by simp [ev_put,put_size,hsz])) ?_;refine inl_val rfl (nd rfl) (op_move (v:=.int .i64 (endN s:Int)) (by simp [ev_put,put_size,hsz,e3])) ?_;refine inl_val rfl (nd rfl) (op_geq (k:=.i64) (m:=(i:Int)) (n:=(endN s:Int)) (by simp [ev_put,put_size,hsz]) (by simp [ev_put,put_size,hsz])) ?_;refine inl_call rfl (nd rfl) (op_call2 en40 (show _=Value.int .u8 (s[i].toNat:Int) by simp [ev_put,put_size,hsz]) (show _=Value.bool (decide (endN s<=i)) by simp [ev_put,put_size,hsz]) rfl) (code_w (hTA hAB) s[i] (decide (endN s<=i))) ?_;rintro e B1 ⟨u,rfl,hB1,hby,hnew⟩;refine ⟨_,rfl,?_⟩;obtain ⟨j1,j2⟩:=R.ab.aft hJ hB1;have hk1:Kz X B B1:=Kz.aft hB1 j2;refine inl_yield rfl (nd rfl) (op_yield (l:=l) (u:=u) (by simp [ev_put,put_size,hsz]) (by simp [ev_put,put_size,hsz])) (R.y i _ u B1 j1 (codesZ_at hg) hby (fun g hg'=>⟨by have:=hnew g hg';have:=hK.size;omega,fun hx=>by have:=hnew g hg';have:=R.lt i B g hJ (j2 g hx);omega⟩)) ?_;rintro e B2 ⟨rfl,hJ2,hk2⟩;refine ⟨_,rfl,?_⟩;refine inl_val rfl (nd rfl) (op_not (b:=true) (by simp [ev_put,put_size,hsz])) (wpListIn_nil ?_);refine wpIn_cond (t:=false) (by simp [ev_put,put_size,hsz]) (wpIn_skip ?_);refine wpIn_region_lit ?_;refine inl_val rfl (nd rfl) (op_add (m:=(i:Int)) (n:=1) (by simp [ev_put,put_size,hsz,e10]) (ev_const _ _) ⟨by omega,by omega⟩) ?_;refine inl_val rfl (nd rfl) (op_move (v:=.int .i64 ((i+1:Nat):Int)) (by simp [ev_put,put_size,hsz])) (wpListIn_nil ?_);refine ⟨⟨i+1,⟨by simp [put_size,hsz],by simp [put_defers,hd0],by simp [ev_put,put_size,hsz,e0],by simp [ev_put,put_size,hsz,e1],by simp [ev_put,put_size,hsz,e3],by simp [ev_put,put_size,hsz,e9],by simp [ev_put,put_size,hsz]⟩,hlt,hJ2,hK.trans (hk1.trans hk2)⟩,?_⟩;have q1:∀ (x:Act) (z:Nat),x.eval (.tmp 10) = .int .i64 (z:Int)->(s.length - (match x.eval (.tmp 10) with | .int _ z=>z.toNat | _=>0))=s.length - z:=fun x z h=>by rw [h];simp
  rw [q1 b i e10,q1 _ (i+1) (by simp [ev_put,put_size,hsz])];omega
 ·have hi':i=s.length:=by omega
  subst hi';refine wpIn_seq (wpIn_cond (t:=false) (by simp [ev_put,hsz]) (wpIn_exit ?_));show bodyPostM Fence.wide 9 Tryz.prog Tryz.f58 _ .normal _ B;show LeavesInM Fence.wide 9 Tryz.prog Tryz.f58 _ _ (b.put (some 11) _).defers .returning B;rw [put_defers,hd0];refine ⟨_,results_none (by kernel_rfl) _ _ _,⟨_,rfl⟩,?_,hK⟩;rw [codesZ_len];exact hJ
end Go.It
/- Elements gathered into a slice: slices.AppendSeq over any iterator; slices.Collect. -/
namespace Go.It
open Go Go.RowKit Go.Ab Go.Ax Go.Proofs
abbrev o57_0_0 : Oper := { dst := some 2, op := Op.box 25 (Operand.tmp 0), type := 0, pos := "iter.go:50", after := #[], guard := none }
abbrev o57_0_1 : Oper := { dst := some 4, op := Op.assign (Operand.const (Value.slice none 0 0)), type := 25, pos := "iter.go:50", after := #[], guard := none }
abbrev o57_1_0 : Oper := { dst := some 6, op := Op.move (Operand.tmp 1), type := 63, pos := "iter.go:51", after := #[], guard := none }
abbrev o57_2_0 : Oper := { dst := some 5, op := Op.assign (Operand.tmp 7), type := 23, pos := "iter.go:51", after := #[], guard := none }
abbrev o57_3_0 : Oper := { dst := some 8, op := Op.load 25 (Operand.tmp 2), type := 25, pos := "iter.go:52", after := #[], guard := none }
abbrev o57_3_1 : Oper := { dst := some 9, op := Op.move (Operand.tmp 5), type := 23, pos := "iter.go:52", after := #[], guard := none }
abbrev o57_3_2 : Oper := { dst := some 10, op := Op.buildSlice 25 1 #[(0, Operand.tmp 9)], type := 25, pos := "iter.go:52", after := #[{ on := 1, ground := Ground.data }], guard := none }
abbrev o57_3_3 : Oper := { dst := some 11, op := Op.call { callee := Callee.builtin Builtin.append, args := #[Operand.tmp 8, Operand.tmp 10], argTypes := #[25, 25] }, type := 25, pos := "iter.go:52", after := #[{ on := 0, ground := Ground.data }, { on := 2, ground := Ground.data }], guard := none }
abbrev o57_3_4 : Oper := { dst := none, op := Op.store 25 (Operand.tmp 2) (Operand.tmp 11), type := 0, pos := "iter.go:52", after := #[{ on := 3, ground := Ground.data }, { on := 3, ground := Ground.chain }, { on := 0, ground := Ground.phase }, { on := 1, ground := Ground.phase }, { on := 2, ground := Ground.phase }, { on := 3, ground := Ground.phase }], guard := none }
abbrev o57_4_0 : Oper := { dst := some 12, op := Op.load 25 (Operand.tmp 2), type := 25, pos := "iter.go:54", after := #[], guard := none }
abbrev o57_4_1 : Oper := { dst := some 4, op := Op.assign (Operand.tmp 12), type := 25, pos := "iter.go:54", after := #[{ on := 0, ground := Ground.data }, { on := 0, ground := Ground.phase }], guard := none }
theorem b57_eq:Tryz.f57.body=some (Code.seq (Code.region 0 [o57_0_0,o57_0_1].toArray false) (Code.seq (Code.seq (Code.region 1 [o57_1_0].toArray false) (Code.block 0 (Code.rangeFunc (Operand.tmp 6) #[7] (Code.region 2 [o57_2_0].toArray false) (Code.block 1 (Code.region 3 [o57_3_0,o57_3_1,o57_3_2,o57_3_3,o57_3_4].toArray false))))) (Code.seq (Code.region 4 [o57_4_0,o57_4_1].toArray false) Code.ret))):=by kernel_rfl
abbrev o35_0_0 : Oper := { dst := some 2, op := Op.assign (Operand.const (Value.slice none 0 0)), type := 25, pos := "iter.go:59", after := #[], guard := none }
abbrev o35_1_0 : Oper := { dst := some 3, op := Op.move (Operand.tmp 0), type := 63, pos := "iter.go:60", after := #[], guard := none }
abbrev o35_1_1 : Oper := { dst := some 4, op := Op.call { callee := Callee.value (Operand.func 57), args := #[Operand.const (Value.slice none 0 0), Operand.tmp 3], argTypes := #[25, 63] }, type := 25, pos := "iter.go:60", after := #[{ on := 0, ground := Ground.data }], guard := none }
abbrev o35_1_2 : Oper := { dst := some 2, op := Op.assign (Operand.tmp 4), type := 25, pos := "iter.go:60", after := #[{ on := 1, ground := Ground.data }, { on := 1, ground := Ground.chain }, { on := 0, ground := Ground.phase }, { on := 1, ground := Ground.phase }], guard := none }
theorem b35_eq:Tryz.f35.body=some (Code.seq (Code.region 0 [o35_0_0].toArray false) (Code.seq (Code.region 1 [o35_1_0,o35_1_1,o35_1_2].toArray false) Code.ret)):=by kernel_rfl
theorem By.cells {A:World} {u:Value} {x:List UInt8} (h:By A u x) (hx:x≠[]):∀ g,blk u=some g->∃ o,A.heap[g]?=some o/\o.isCells=true:=by
 unfold By at h;have hx':0 < x.length:=List.length_pos_iff.2 hx;have hl:(x.flatMap (encs .u8)).length=x.length:=(encs_flat_len (τ:=.u8) x).trans (Nat.mul_one _);generalize x.flatMap (encs .u8)=ts at h hl;generalize x.length=m at h hx' hl;cases h with
 | nil h=>omega
 | sl b o n' c us ts hl' hc hn h=>
   intro g hg;cases hg;have h1:=(hc 0 _ (List.getElem?_eq_getElem (by omega))).1;unfold World.cell? at h1;split at h1
   ·rename_i cs e fz hh
    exact ⟨_,hh,rfl⟩
   all_goals cases h1
theorem By.one {A:World} {u:Value} {x:List UInt8} (h:By A u x):u.oneCell'=true:=by
 unfold By at h;generalize x.flatMap (encs .u8)=ts at h;generalize x.length=m at h;cases h <;> rfl
structure Bag (A:World) (n:Nat) (L:List (List UInt8)) (k:Nat) (v:Value) (us:List Value):Prop where
 row:A.ownsRow n 23 1 v k us
 el:∀ (i:Nat) (u:Value),us[i]?=some u->∃ x:List UInt8,L[i]?=some x/\By A u x/\∀ g,blk u=some g->n<=g/\v.ownBlock≠some g
theorem Bag.keep {A B:World} {n:Nat} {L:List (List UInt8)} {k:Nat} {v:Value} {us:List Value} (h:Bag A n L k v us) (hne:∀ x ∈ L,x≠[]) (hk:∀ g o,n<=g->A.heap[g]?=some o->o.isCells=true->B.heap[g]?=A.heap[g]?):Bag B n L k v us:=by
 refine ⟨⟨h.row.1,?_⟩,fun i u hu=>?_⟩
 ·rcases h.row.2 with h2 | ⟨g,cap,cur,hv,hg,hh,r⟩
  ·exact .inl h2
  ·exact .inr ⟨g,cap,cur,hv,hg,(hk g _ hg hh rfl).trans hh,r⟩
 ·obtain ⟨x,hx,hb,hg⟩:=h.el i u hu
  refine ⟨x,hx,hb.kept fun g hg'=>?_,hg⟩;obtain ⟨o,ho,hc⟩:=hb.cells (hne x (List.mem_of_getElem? hx)) g hg';exact hk g o (hg g hg').1 ho hc
theorem row_down {A:World} {n m:Nat} {e:TypeId} {s:Nat} {v:Value} {k:Nat} {xs:List Value} (h:A.ownsRow n e s v k xs) (hm:m<=n):A.ownsRow m e s v k xs:=
 ⟨h.1,h.2.imp id fun ⟨g,cap,cur,hv,hb,r⟩=>⟨g,cap,cur,hv,Nat.le_trans hm hb,r⟩⟩
theorem Bag.down {A:World} {n m:Nat} {L:List (List UInt8)} {k:Nat} {v:Value} {us:List Value} (h:Bag A n L k v us) (hm:m<=n):Bag A m L k v us:=
 ⟨row_down h.row hm,fun i u hu=>by
  obtain ⟨x,hx,hb,hg⟩:=h.el i u hu;exact ⟨x,hx,hb,fun g hg'=>⟨Nat.le_trans hm (hg g hg').1,(hg g hg').2⟩⟩⟩
theorem rebase {A:World} {n:Nat} {e:TypeId} {s:Nat} {v:Value} {k:Nat} {xs:List Value} (h:A.ownsRow 0 e s v k xs) (hg:∀ g,v.ownBlock=some g->n<=g):A.ownsRow n e s v k xs:=
 ⟨h.1,h.2.imp id fun ⟨g,cap,cur,hv,_,r⟩=>⟨g,cap,cur,hv,hg g (by rw [hv];rfl),r⟩⟩
def gI (Bx:Nat) (L:List (List UInt8)) (k:Nat) (A:World):Prop:=∃ v us,A.heap[Bx]?=some (.cells #[v] 25 (0,0))/\Bag A (Bx+1) L k v us
def gX (Bx:Nat) (A:World) (j:Nat):Prop:=j=Bx\/∃ v e f,A.heap[Bx]?=some (.cells #[v] e f)/\v.ownBlock=some j
theorem gX_same {Bx:Nat} {A B:World} (h:B.heap[Bx]?=A.heap[Bx]?) {j:Nat} (hj:gX Bx B j):gX Bx A j:=
 hj.imp id fun ⟨v,e,f,h1,h2⟩=>⟨v,e,f,h ▸ h1,h2⟩
theorem gI_ab {Bx Bd:Nat} {L:List (List UInt8)} (hne:∀ x ∈ L,x≠[]) (hB:Bx < Bd):Ab Bd (gI Bx L) (gX Bx):=by
 rintro k A B row ⟨v,us,h1,h2⟩ hgr hrow;have hlt:=(Array.getElem?_eq_some_iff.1 h1).1;have hs:B.heap[Bx]?=A.heap[Bx]?:=hgr.block Bx hlt (fun e=>by have:=(hrow Bx e.symm).1;omega);refine ⟨⟨v,us,hs.trans h1,h2.keep hne fun g o hg ho hc=>hgr.block g (Array.getElem?_eq_some_iff.1 ho).1 (fun e=>?_)⟩,fun j hj=>gX_same hs hj⟩;obtain ⟨_,o',ho',hc'⟩:=hrow g e.symm;rw [ho] at ho';cases ho';rw [hc] at hc';cases hc'
theorem appT:AppT Tryz.prog 25 23 (.slice none 0 0) 1 24:=⟨by kernel_rfl,by kernel_rfl,rfl,by decide⟩
theorem litT:LitT Tryz.prog 25 23 1 1 (List.replicate 1 (Value.slice none 0 0).cells.toList).flatten:=LitT.of appT (by simp [Value.cells,Value.oneCell']) 1 (by decide)
section
variable {ρ:Operand->Value} {P:Program} {W:World} {d:Option Tmp} {t:TypeId} {ps:String} {af:Array Edge} {g:Option (Nat×Bool)}
theorem op_box {x:Operand} {ty:TypeId} {v:Value} (h:ρ x=v):(execOp ρ ⟨d,.box ty x,t,ps,af,g⟩).run P W = .ok (.value (.pointer (some ⟨W.heap.size,0,none⟩))) (W.alloc (.cells v.cells ty)):=by
 subst h;unfold execOp;simp [Instr.box,newVar,newRow]
theorem op_lit1 {x:Operand} {ty e:TypeId} {z v:Value} (hL:LitT P ty e 1 1 [z]) (h:ρ x=v) (h1:v.oneCell'=true):(execOp ρ ⟨d,.buildSlice ty 1 #[(0,x)],t,ps,af,g⟩).run P W = .ok (.value (.slice (some ⟨W.heap.size,0,none⟩) 1 1)) (W.alloc (.cells #[v] e)):=by
 have hc:v.cells = #[v]:=cells_one h1;have:=hL.run W #[(0,v)] #[v] (by simp [Instr.fill,hc]);unfold execOp;simp [h,this]
theorem op_app {x y:Operand} {ty:TypeId} {v u v':Value} {W':World} (h:ρ x=v) (h':ρ y=u) (hr:(Builtin.append_ #[ty,ty] ty #[v,u]).run P W = .ok v' W'):(execOp ρ ⟨d,.call { callee:=.builtin .append,args:=#[x,y],argTypes:=#[ty,ty] },ty,ps,af,g⟩).run P W = .ok (.value v') W':=by
 unfold execOp;simp [resolve,invoke,builtin,h,h',hr]
theorem op_store1 {x y:Operand} {ty:TypeId} {b i:Nat} {v:Value} (hi:(P.info? ty).map (·.size)=some 1) (h:ρ x = .pointer (some ⟨b,i,none⟩)) (h':ρ y=v) (h1:v.oneCell'=true) (ht:W.there b i 1):(execOp ρ ⟨d,.store ty x y,t,ps,af,g⟩).run P W = .ok .skip (W.setCell ⟨b,i,none⟩ v):=by
 have hc:v.cells = #[v]:=cells_one h1;have:=run_storeCells (P:=P) (w:=W) (b:=b) (o:=i) (ty:=ty) (v:=v) (by rw [hc];exact ht) (by rw [hc];exact hi) (by rw [hc];simpa using h1);rw [hc] at this;unfold execOp;simp [h,h',this,World.setCells]
end
theorem box_set {A:World} {Bx:Nat} {u v:Value} {e:TypeId} (h:A.heap[Bx]?=some (.cells #[u] e (0,0))):(A.setCell ⟨Bx,0,none⟩ v).heap[Bx]?=some (.cells #[v] e (0,0)):=by
 rw [setCell_heap h];rfl
theorem box_there {A:World} {Bx:Nat} {u:Value} {e:TypeId} (h:A.heap[Bx]?=some (.cells #[u] e (0,0))):A.there Bx 0 1:=by
 intro j hj;have:j=0:=by omega
 subst this;exact ⟨by simp [World.cell?,h],by simp [World.frozen?,h]⟩
theorem box_cell {A:World} {Bx:Nat} {u:Value} {e:TypeId} {f:Nat×Nat} (h:A.heap[Bx]?=some (.cells #[u] e f)):A.cell? ⟨Bx,0,none⟩=some u:=by simp [World.cell?,h]
theorem set_other {A:World} {Bx j:Nat} {v:Value} (h:j≠Bx):(A.setCell ⟨Bx,0,none⟩ v).heap[j]?=A.heap[j]?:=by
 simp [World.setCell,Array.getElem?_modify,Ne.symm h]
theorem gI_step {Bx:Nat} {L:List (List UInt8)} (hne:∀ x ∈ L,x≠[]) (hL:L.length<=100000) {k:Nat} {x:List UInt8} {u:Value} {A:World} (hI:gI Bx L k A) (hx:L[k]?=some x) (hby:By A u x) (hu:∀ g,blk u=some g->Bx+1<=g/\¬ gX Bx A g):
    ∃ v v' B,A.heap[Bx]?=some (.cells #[v] 25 (0,0))/\(Builtin.append_ #[25,25] 25 #[v,.slice (some ⟨A.heap.size,0,none⟩) 1 1]).run Tryz.prog (A.alloc (.cells #[u] 23)) = .ok v' B/\B.heap[Bx]?=some (.cells #[v] 25 (0,0))/\v'.oneCell'=true /\
     gI Bx L (k+1) (B.setCell ⟨Bx,0,none⟩ v')/\Kz (gX Bx) A (B.setCell ⟨Bx,0,none⟩ v'):=by
 obtain ⟨v,us,h1,h2⟩:=hI;have hBx:=(Array.getElem?_eq_some_iff.1 h1).1;have hA3:Aft A (A.alloc (.cells #[u] 23)):=(Aft.refl A).alloc _;have hk:k < L.length:=(List.getElem?_eq_some_iff.1 hx).1;obtain ⟨v',B,q1,q2,q3,q4,q5,q6,q7,_,q9⟩:=run_app (ty:=25) (w:=A.alloc (.cells #[u] 23)) (v:=v) (ax:=some ⟨A.heap.size,0,none⟩) (m:=1) (c:=1) (news:=[u]) appT (ownsRow_aft (row_down h2.row (Nat.zero_le _)) hA3) (by simp)
  (fun j z hz=>by
   have:j=0:=by have:=(List.getElem?_eq_some_iff.1 hz).1;simp at this;omega
   subst this;cases hz;exact ⟨_,rfl,by show World.cell? _ ⟨A.heap.size,0,none⟩=_;simp only [World.cell?];rw [heap_alloc_new];rfl⟩) (by simp) (by simpa using hby.one) (by show k+1<=9223372036854775807;omega) (by omega)
 have hvlt:∀ g,v.ownBlock=some g->Bx+1<=g/\g < A.heap.size:=fun g hg=>h2.row.lt g hg
 have hux:∀ g,blk u=some g->v.ownBlock≠some g/\g < A.heap.size:=fun g hg=>by
  obtain ⟨o,ho,_⟩:=hby.cells (hne x (List.mem_of_getElem? hx)) g hg;exact ⟨fun e=>(hu g hg).2 (.inr ⟨v,_,_,h1,e⟩),(Array.getElem?_eq_some_iff.1 ho).1⟩
 have hsz:(A.alloc (.cells #[u] 23)).heap.size=A.heap.size+1:=World.size_alloc _ _;have hold:∀ b,b < A.heap.size->v.ownBlock≠some b->B.heap[b]?=A.heap[b]?:=fun b hb hv=>(q7 b (by omega) hv).trans (hA3.block b hb)
 have hBB:B.heap[Bx]?=some (.cells #[v] 25 (0,0)):=(hold Bx hBx (fun e=>by have:=(hvlt Bx e).1;omega)).trans h1;have hv':∀ g,v'.ownBlock=some g->A.heap.size < g\/v.ownBlock=some g:=fun g hg=>(q9 g hg).imp (fun h=>by omega) id
 have hbag:Bag B (Bx+1) L (k+1) v' (us++[u]):=by
  refine ⟨rebase q2 fun g hg=>?_,fun i z hz=>?_⟩
  ·rcases hv' g hg with h | h
   ·omega
   ·exact (hvlt g h).1
  ·have hlen:us.length=k:=by simpa using h2.row.1
   have nb:∀ g,g < A.heap.size->v.ownBlock≠some g->v'.ownBlock≠some g:=fun g hg hv e=>by
    rcases hv' g e with h | h
    ·omega
    ·exact hv h
   rcases Nat.lt_or_ge i us.length with hi | hi
   ·rw [List.getElem?_append_left hi] at hz
    obtain ⟨y,hy,hb,hg⟩:=h2.el i z hz;have hlt:∀ g,blk z=some g->g < A.heap.size:=fun g hg'=>by
     obtain ⟨o,ho,_⟩:=hb.cells (hne y (List.mem_of_getElem? hy)) g hg';exact (Array.getElem?_eq_some_iff.1 ho).1
    exact ⟨y,hy,hb.kept fun g hg'=>hold g (hlt g hg') (hg g hg').2,fun g hg'=>⟨(hg g hg').1,nb g (hlt g hg') (hg g hg').2⟩⟩
   ·have:i=us.length:=by have:=(List.getElem?_eq_some_iff.1 hz).1;simp at this;omega
    subst this;rw [List.getElem?_concat_length] at hz;cases hz;exact ⟨x,hlen ▸ hx,hby.kept fun g hg'=>hold g (hux g hg').2 (hux g hg').1,fun g hg'=>⟨(hu g hg').1,nb g (hux g hg').2 (hux g hg').1⟩⟩
 refine ⟨v,v',B,h1,q1,hBB,ownsRow_one q2,⟨v',us++[u],box_set hBB,hbag.keep hne fun g o hg _ _=>set_other (by omega)⟩,⟨q3,q4,q5,?_,fun j hj hx'=>?_,fun j hj=>?_⟩⟩
 ·show A.heap.size<=(B.heap.modify _ _).size
  rw [Array.size_modify];omega
 ·have hjB:j≠Bx:=fun e=>hx' (.inl e)
  exact (set_other hjB).trans (hold j hj fun e=>hx' (.inr ⟨v,_,_,h1,e⟩))
 ·rcases hj with rfl | ⟨z,e,f,hz,hz'⟩
  ·exact .inl (.inl rfl)
  ·rw [box_set hBB] at hz
   cases hz;rcases hv' j hz' with h | h
   ·exact .inr (Nat.le_of_lt h)
   ·exact .inl (.inr ⟨v,_,_,h1,h⟩)
theorem ev_set {tm:Array Value} {p t':Nat} {u:Value} {ds:List Deferred} (h:p < tm.size):({ tmps:=tm.setIfInBounds p u,defers:=ds }:Act).eval (.tmp t')=if p=t' then u else ({ tmps:=tm,defers:=[] }:Act).eval (.tmp t'):=by
 by_cases e:p=t'
 ·subst e;simp [Act.eval,Array.getD_eq_getD_getElem?,h]
 ·rw [if_neg e];simp [Act.eval,Array.getD_eq_getD_getElem?,Array.getElem?_setIfInBounds_ne e]
theorem ev_defers (a:Act) (ds:List Deferred) (x:Operand):({ tmps:=a.tmps,defers:=ds }:Act).eval x=a.eval x:=by cases x <;> rfl
theorem app_w {w0:World} {gf:Nat} {lb:Array Value} {L:List (List UInt8)} {pr:Nat->Prop} (hpr:∀ j,pr j->j < w0.heap.size) (hne:∀ x ∈ L,x≠[]) (hL:L.length<=100000)
    (hit:∀ W,Aft w0 W->It Tryz.prog gf lb L W pr) (eg:∀ args w,(callFunc gf args).run Tryz.prog w = .ok (.enter gf args) w):
    Calls Tryz.prog 57 #[.slice none 0 0,.func (.func gf) #[] lb] w0 fun e W'=>∃ v us,e = .returned v/\Bag W' w0.heap.size L L.length v us/\Aft w0 W':=by
 have u25:Tryz.prog.underlying 25=some (.slice 23):=by kernel_rfl
 have i25:(Tryz.prog.info? 25).map (·.size)=some 1:=by kernel_rfl
 have hm:Tryz.f57.ntmps=13:=by kernel_rfl
 refine callsIn_wide.1 (callsIn_of_wp_marks (F:=Fence.wide) (n:=9) Tryz.func57 b57_eq trivial ?_);have hsz:=args_sz (vs:=#[Value.slice none 0 0,.func (.func gf) #[] lb]) (ds:=[]) hm (by simp);have e0:=args_ev (vs:=#[Value.slice none 0 0,.func (.func gf) #[] lb]) (n:=Tryz.f57.ntmps) (ds:=[]) (t:=0) (v:=.slice none 0 0) (by simp);have e1:=args_ev (vs:=#[Value.slice none 0 0,.func (.func gf) #[] lb]) (n:=Tryz.f57.ntmps) (ds:=[]) (t:=1) (v:=.func (.func gf) #[] lb) (by simp);generalize ha:({ tmps:=#[Value.slice none 0 0,.func (.func gf) #[] lb]++Array.replicate (Tryz.f57.ntmps - #[Value.slice none 0 0,.func (.func gf) #[] lb].size) undef,defers:=[] }:Act)=a at hsz e0 e1 ⊢;have hd0:a.defers=[]:=by rw [← ha]
 clear ha;refine wpIn_seq (wpIn_region_lit ?_);refine inl_val rfl (nd rfl) (op_box e0) ?_;refine inl_val rfl (nd rfl) (op_assign (v:=.slice none 0 0) (ev_const _ _)) (wpListIn_nil ?_);refine wpIn_seq (wpIn_seq (wpIn_region_lit ?_));refine inl_val rfl (nd rfl) (op_move (v:=.func (.func gf) #[] lb) (by simp [ev_put,put_size,hsz,e1])) (wpListIn_nil ?_);have hA1:Aft w0 (w0.alloc (.cells #[.slice none 0 0] 25)):=(Aft.refl w0).alloc _;have hbx:(w0.alloc (.cells #[.slice none 0 0] 25)).heap[w0.heap.size]?=some (.cells #[.slice none 0 0] 25 (0,0)):=heap_alloc_new _ _;have hs1:(w0.alloc (.cells #[.slice none 0 0] 25)).heap.size=w0.heap.size+1:=World.size_alloc _ _;show Code.wpIn Fence.wide 9 Tryz.prog _ _ _ (w0.alloc (.cells #[.slice none 0 0] 25));generalize w0.alloc (.cells #[.slice none 0 0] 25)=w1 at hA1 hbx hs1 ⊢;have hX0:∀ j,gX w0.heap.size w1 j->j=w0.heap.size:=fun j hj=>by
  rcases hj with h | ⟨v,e,f,h,h'⟩
  ·exact h
  ·rw [hbx] at h
   cases h;cases h'
 refine wpIn_block (wpIn_wide.2 (wp_rangeG (gf:=gf) (lb:=lb) (L:=L) (pr:=pr) (by simp [ev_put,put_size,hsz]) eg (gI w0.heap.size L) (gX w0.heap.size) (gI_ab hne (by omega)) ?_ ⟨_,[],hbx,World.ownsRow_nil _ _ _ _,fun i u hu=>by cases hu⟩ ?_ (fun W hW=>hit W (hA1.trans hW)) ?_ ?_))
 ·rintro k A j ⟨v,us,h1,h2⟩ (rfl | ⟨z,e,f,hz,hz'⟩)
  ·exact (Array.getElem?_eq_some_iff.1 h1).1
  ·rw [h1] at hz
   cases hz;exact (h2.row.lt j hz').2
 ·intro j hj
  have:=hpr j hj;exact ⟨by omega,fun h=>by have:=hX0 j h;omega⟩
 ·intro l k x u A hl hk hI hx hby hu
  have g7:=ev_set (tm:=((a.put (some 2) (Value.pointer (some ⟨w0.heap.size,0,none⟩))).put (some 4) (.slice none 0 0) |>.put (some 6) (.func (.func gf) #[] lb)).tmps) (p:=7) (t':=7) (u:=u) (ds:=[]) (by simp [put_size,hsz]);have g2:=ev_set (tm:=((a.put (some 2) (Value.pointer (some ⟨w0.heap.size,0,none⟩))).put (some 4) (.slice none 0 0) |>.put (some 6) (.func (.func gf) #[] lb)).tmps) (p:=7) (t':=2) (u:=u) (ds:=[]) (by simp [put_size,hsz]);rw [ev_defers] at g2;simp [ev_put,put_size,hsz] at g2 g7;have gs:(((a.put (some 2) (Value.pointer (some ⟨w0.heap.size,0,none⟩))).put (some 4) (.slice none 0 0) |>.put (some 6) (.func (.func gf) #[] lb)).tmps.setIfInBounds 7 u).size=13:=by simp [put_size,hsz]
  generalize hb:({ tmps:=((a.put (some 2) (Value.pointer (some ⟨w0.heap.size,0,none⟩))).put (some 4) (.slice none 0 0) |>.put (some 6) (.func (.func gf) #[] lb)).tmps.setIfInBounds 7 u,defers:=[] }:Act)=b at g2 g7 ⊢;have gs':b.tmps.size=13:=by rw [← hb];exact gs
  clear hb gs;refine wpIn_region_lit ?_;refine inl_val (ro:=some l) rfl (nd rfl) (op_assign (v:=u) g7) (wpListIn_nil ?_);refine ⟨rfl,fun A₂ hI2 hby2 hu2 hk2=>?_⟩;obtain ⟨v,v',B,b1,b2,b3,b4,b5,b6⟩:=gI_step hne hL hI2 hx hby2 (fun g hg=>⟨by have:=(hu2 g hg).1;omega,(hu2 g hg).2⟩);refine wpIn_block (wpIn_region_lit ?_);refine inl_val (ro:=some l) rfl (nd rfl) (op_load u25 rfl (by simp [ev_put,gs',g2]) (box_cell b1)) ?_;refine inl_val (ro:=some l) rfl (nd rfl) (op_move (v:=u) (by simp [ev_put,put_size,gs'])) ?_;refine inl_val (ro:=some l) rfl (nd rfl) (op_lit1 litT (by simp [ev_put,put_size,gs']) hby2.one) ?_;refine inl_val (ro:=some l) rfl (nd rfl) (op_app (v:=v) (u:=.slice (some ⟨A₂.heap.size,0,none⟩) 1 1) (by simp [ev_put,put_size,gs']) (by simp [ev_put,put_size,gs']) b2) ?_;refine inl_skip (ro:=some l) rfl (nd rfl) (op_store1 (b:=w0.heap.size) (i:=0) (v:=v') i25 (by simp [ev_put,put_size,gs',g2]) (by simp [ev_put,put_size,gs']) b4 (box_there b3)) (wpListIn_nil ?_);exact ⟨rfl,b5,b6⟩
 ·intro D A hD hDX hk hI hda
  obtain ⟨v,us,h1,h2⟩:=hI;have hA:Aft w0 A:=Kz.old hA1 hk fun j hj=>by have:=hX0 j hj;omega
  refine wpIn_seq (wpIn_region_lit ?_);refine inl_val rfl (nd rfl) (op_load u25 rfl (by rw [ev_defers];simp [ev_put,put_size,hsz]) (box_cell h1)) ?_;refine inl_val rfl (nd rfl) (op_assign (v:=v) (by rw [ev_put (by simp [put_size,hsz])];simp)) (wpListIn_nil ?_);refine wpIn_ret ?_;show LeavesInM Fence.wide 9 Tryz.prog Tryz.f57 _ _ ({ target:=.collected D,args:=#[] }::_) .returning A;refine ⟨(by intro h;cases h),.inl ⟨D,_,rfl,run_takeDeferred hda,?_⟩⟩;rw [put_defers,put_defers,put_defers,hd0];refine ⟨_,results_tmp (t:=4) (show Tryz.f57.results = #[.tmp 4] by kernel_rfl) _ _ _,v,us,congrArg Ending.returned ?_,(h2.down (by omega)).keep hne fun g o hg ho hc=>?_,?_⟩
  ·have:=ev_put (a:=({ tmps:=(((a.put (some 2) (Value.pointer (some ⟨w0.heap.size,0,none⟩))).put (some 4) (.slice none 0 0)).put (some 6) (.func (.func gf) #[] lb)).tmps,defers:=[] }:Act).put (some 12) v) (t:=4) (t':=4) (v:=v) (by simp [put_size,hsz])
   simpa [Act.eval,Act.put] using this
  ·refine World.putObj_heap_other fun e=>?_
   subst e;rw [hda] at ho;cases ho;cases hc
  ·exact ⟨hA.os,hA.tape,hA.output,by rw [World.putObj_size];exact hA.size,fun j hj=>(World.putObj_heap_other (by omega)).trans (hA.block j hj)⟩
end Go.It
/- The codes of a line, given one by one: the parts. -/
namespace Go.Proofs
open Go Go.Ax Go.Ax.Alg
theorem trimL_le (s:List UInt8):(trimL s).length<=s.length:=(List.dropWhile_sublist _).length_le
theorem w93_loop (N:Nat) (k0:List UInt8->O) (k1 k2:Unit->O):∀ (f:Nat) (s:List UInt8),s.length < f->s.length<=100000->w93l0 N f (s,32) k0 k1 k2=k0 (trimL s)
 | 0,s,h,_=>by omega
 | f+1,s,h,hl=>by
   show w93F0 N _ _ 32 s=_;unfold w93F0
   match s with
   | []=>rfl
   | c::t=>
     have hlen:((c::t).length:Int)=(t.length:Int)+1:=by simp
     have h1:(c::t).length=t.length+1:=rfl;rw [hlen,decide_eq_true (show (0:Int) < (t.length:Int)+1 by omega),gc_t,gx_0,Bool.true_and];unfold trimL;rw [List.dropWhile_cons];by_cases hc:c=32
     ·have hsl:slc (c::t) (some (1:Int)) none=t:=rfl
      rw [decide_eq_true hc,br_t,ck_of (show slcOk (c::t).length (some (1:Int)) none=true from decide_eq_true ⟨by omega,by rw [h1];omega⟩),hsl,if_pos (by simpa using hc)];exact w93_loop N k0 k1 k2 f t (by omega) (by omega)
     ·rw [decide_eq_false hc,br_f,if_neg (by simpa using hc)]
theorem w79_eq {N:Nat} {s:List UInt8} (h:s.length < N) (hl:s.length<=100000):w79z N s [32]=some (trimL s):=by
 unfold w79z w79 w79G;by_cases h0:s=[]
 ·subst h0
  rfl
 ·have h93:w93z N s 32=some (trimL s):=by
   unfold w93z w93 w93G w93n0;exact congrArg (fun z:O=>z.bind w93un) (w93_loop N (fun y=>some (w93r0 y)) (fun _=>none) (fun _=>none) N s h hl)
  have hp:w93p N s 32=true:=by unfold w93p;rw [h93];rfl
  have hy:w93y0 N s 32=trimL s:=by unfold w93y0;rw [h93];rfl
  rw [decide_eq_false h0];show (gx [32] 0 fun y1=>ck (w93p N s y1) <| some (w79r0 (w93y0 N s y1))).bind w79un=_;rw [gx_0,ck_of hp,hy];rfl
end Go.Proofs
namespace Go.It
open Go Go.RowKit Go.Ab Go.Ax Go.Proofs
theorem en79 (vs : Array Value) (w : World) : (callFunc 79 vs).run Tryz.prog w = .ok (.enter 79 vs) w := run_enter Tryz.func79 (by rw [show Tryz.f79.name = "strings.TrimLeft" from rfl]; decide) (fun h => by cases h) vs w
theorem en80 (vs : Array Value) (w : World) : (callFunc 80 vs).run Tryz.prog w = .ok (.enter 80 vs) w := run_enter Tryz.func80 (by rw [show Tryz.f80.name = "strconv.Itoa" from rfl]; decide) (fun h => by cases h) vs w
theorem en36 (vs : Array Value) (w : World) : (callFunc 36 vs).run Tryz.prog w = .ok (.enter 36 vs) w := run_enter Tryz.func36 (by rw [show Tryz.f36.name = "dactyl/listing.codes" from rfl]; decide) (fun h => by cases h) vs w
theorem en58 (vs : Array Value) (w : World) : (callFunc 58 vs).run Tryz.prog w = .ok (.enter 58 vs) w := run_enter Tryz.func58 (by rw [show Tryz.f58.name = "dactyl/listing.codes$1" from rfl]; decide) (fun h => by cases h) vs w
theorem trimL_w {W:World} (hT:Tab W fun _=>False) {s:List UInt8} (hs:s.length<=20000):
    Calls Tryz.prog 79 #[.string ⟨⟨s⟩⟩,.string ⟨⟨[32]⟩⟩] W fun e W'=>e = .returned (.string ⟨⟨trimL s⟩⟩)/\Aft W W':=by
 refine (calls_s (ds:=[.string ⟨⟨s⟩⟩,.string ⟨⟨[32]⟩⟩]) (w79fin (w79cx 40000) (w79_eq (by omega) (by omega))) hT (by simp [Value.oneCell'])).mono ?_;rintro e W' ⟨v,ν,nm,G,rfl,hA,hd,hG⟩;have:=bool_of hd;subst this;exact ⟨rfl,hA⟩
section
variable {ro:Option Nat} {n:Nat} {P:Program} {ops:Array Oper} {rest:List Oper} {o:Oper} {a:Act} {w w':World} {Q:Exit->Act->World->Prop}
theorem inl_off (hw:Region.wanted o (yielded ops a.tmps)=false) (h:wpListIn (Fr ro) n P ops Q rest (a.put o.dst undef) w):wpListIn (Fr ro) n P ops Q (o::rest) a w:=by
 simp only [wpListIn,hw];exact ⟨fun _ _=>trivial,h⟩
theorem inl_on (hw:Region.wanted o (yielded ops a.tmps)=true) (h:wpListIn (Fr ro) n P ops Q ({ o with guard:=none }::rest) a w):wpListIn (Fr ro) n P ops Q (o::rest) a w:=by
 have hw2:Region.wanted { o with guard:=none } (yielded ops a.tmps)=true:=rfl;simp only [wpListIn,hw2,if_true] at h;simp only [wpListIn,hw,if_true];exact h
end
theorem wanted_f {o:Oper} {ops:Array Oper} {a:Act} {j t:Nat} {b c:Bool} (hg:o.guard=some (j,c)) (h1:(ops[j]?).bind (·.dst)=some t) (h2:a.eval (.tmp t) = .bool b) (h3:t < a.tmps.size):Region.wanted o (yielded ops a.tmps)=(b == c):=by
 have h4:a.tmps[t]?=some (.bool b):=by
  have h2:a.tmps.getD t undef = .bool b:=h2;rw [Array.getD_eq_getD_getElem?,Array.getElem?_eq_getElem h3] at h2;rw [Array.getElem?_eq_getElem h3];exact congrArg some h2
 unfold Region.wanted;rw [hg];show (yielded ops a.tmps j == some c)=_;unfold yielded;rw [h1];show ((match (a.tmps[t]?:Option Value) with | some (.bool b)=>some b | _=>none) == some c)=_;rw [h4];cases b <;> cases c <;> rfl
section
variable {ρ:Operand->Value} {P:Program} {W:World} {d:Option Tmp} {t:TypeId} {ps:String} {af:Array Edge} {g:Option (Nat×Bool)}
theorem op_mkfn {f:FuncId} {x:Operand} {v:Value} (h:ρ x=v):(execOp ρ ⟨d,.makeFunc (.func f) #[] #[x],t,ps,af,g⟩).run P W = .ok (.value (.func (.func f) #[] #[v])) W:=by
 subst h;unfold execOp;simp [Instr.makeFunc]
theorem op_eqls {x y:Operand} {ty ty':TypeId} {a b:List UInt8} (_hu:P.underlying ty=some .string) (h:ρ x = .string ⟨⟨a⟩⟩) (h':ρ y = .string ⟨⟨b⟩⟩):(execOp ρ ⟨d,.binOp .eql ty x y ty',t,ps,af,g⟩).run P W = .ok (.value (.bool (decide (a=b)))) W:=by
 unfold execOp;simp [h,h',eqGuard,binOp,Op.stringOp];by_cases e:a=b <;> simp [e]
theorem op_pick {x y z:Operand} {b:Bool} {u v:Value} (h:ρ x = .bool b) (h':ρ y=u) (h'':ρ z=v):(execOp ρ ⟨d,.pick x y z,t,ps,af,g⟩).run P W = .ok (.value (if b then u else v)) W:=by
 subst h' h'';unfold execOp;simp [h];cases b <;> rfl
end
abbrev o36_0_0 : Oper := { dst := some 1, op := Op.box 9 (Operand.tmp 0), type := 0, pos := "listing.go:41", after := #[], guard := none }
abbrev o36_0_1 : Oper := { dst := some 2, op := Op.assign (Operand.const Value.nilFunc), type := 63, pos := "listing.go:41", after := #[], guard := none }
abbrev o36_1_0 : Oper := { dst := some 3, op := Op.makeFunc (Fn.func 58) #[] #[Operand.tmp 1], type := 62, pos := "listing.go:42", after := #[], guard := none }
abbrev o36_1_1 : Oper := { dst := some 2, op := Op.assign (Operand.tmp 3), type := 63, pos := "listing.go:42", after := #[{ on := 0, ground := Ground.data }, { on := 0, ground := Ground.phase }], guard := none }
theorem b36_eq:Tryz.f36.body=some (Code.seq (Code.region 0 [o36_0_0,o36_0_1].toArray false) (Code.seq (Code.region 1 [o36_1_0,o36_1_1].toArray false) Code.ret)):=by kernel_rfl
abbrev o78_0_0 : Oper := { dst := some 2, op := Op.box 57 (Operand.tmp 0), type := 0, pos := "listing.go:110", after := #[], guard := none }
abbrev o78_1_0 : Oper := { dst := some 7, op := Op.load 9 (Operand.tmp 1), type := 9, pos := "listing.go:111", after := #[], guard := none }
abbrev o78_1_1 : Oper := { dst := some 8, op := Op.call { callee := Callee.value (Operand.func 79), args := #[Operand.tmp 7, Operand.const (Value.string { data := #[32] })], argTypes := #[9, 9] }, type := 9, pos := "listing.go:111", after := #[{ on := 0, ground := Ground.data }], guard := none }
abbrev o78_1_2 : Oper := { dst := some 3, op := Op.assign (Operand.tmp 8), type := 9, pos := "listing.go:111", after := #[{ on := 1, ground := Ground.data }, { on := 1, ground := Ground.chain }, { on := 0, ground := Ground.phase }, { on := 1, ground := Ground.phase }], guard := none }
abbrev o78_2_0 : Oper := { dst := some 9, op := Op.load 9 (Operand.tmp 1), type := 9, pos := "listing.go:112", after := #[], guard := none }
abbrev o78_2_1 : Oper := { dst := some 10, op := Op.call { callee := Callee.builtin Builtin.len, args := #[Operand.tmp 9], argTypes := #[9] }, type := 3, pos := "listing.go:112", after := #[{ on := 0, ground := Ground.data }], guard := none }
abbrev o78_2_2 : Oper := { dst := some 11, op := Op.move (Operand.tmp 3), type := 9, pos := "listing.go:112", after := #[], guard := none }
abbrev o78_2_3 : Oper := { dst := some 12, op := Op.call { callee := Callee.builtin Builtin.len, args := #[Operand.tmp 11], argTypes := #[9] }, type := 3, pos := "listing.go:112", after := #[{ on := 2, ground := Ground.data }], guard := none }
abbrev o78_2_4 : Oper := { dst := some 13, op := Op.binOp BinOp.sub 3 (Operand.tmp 10) (Operand.tmp 12) 3, type := 3, pos := "listing.go:112", after := #[{ on := 1, ground := Ground.data }, { on := 3, ground := Ground.data }], guard := none }
abbrev o78_2_5 : Oper := { dst := some 14, op := Op.call { callee := Callee.value (Operand.func 80), args := #[Operand.tmp 13], argTypes := #[3] }, type := 9, pos := "listing.go:112", after := #[{ on := 4, ground := Ground.data }], guard := none }
abbrev o78_2_6 : Oper := { dst := some 15, op := Op.call { callee := Callee.value (Operand.func 36), args := #[Operand.tmp 14], argTypes := #[9] }, type := 63, pos := "listing.go:112", after := #[{ on := 5, ground := Ground.data }, { on := 5, ground := Ground.chain }], guard := none }
abbrev o78_2_7 : Oper := { dst := some 4, op := Op.assign (Operand.tmp 15), type := 63, pos := "listing.go:112", after := #[{ on := 6, ground := Ground.data }, { on := 6, ground := Ground.chain }, { on := 0, ground := Ground.phase }, { on := 1, ground := Ground.phase }, { on := 2, ground := Ground.phase }, { on := 3, ground := Ground.phase }, { on := 4, ground := Ground.phase }, { on := 5, ground := Ground.phase }, { on := 6, ground := Ground.phase }], guard := none }
abbrev o78_3_0 : Oper := { dst := some 16, op := Op.move (Operand.tmp 4), type := 63, pos := "listing.go:113", after := #[], guard := none }
abbrev o78_4_0 : Oper := { dst := some 5, op := Op.assign (Operand.tmp 17), type := 23, pos := "listing.go:113", after := #[], guard := none }
abbrev o78_5_0 : Oper := { dst := some 18, op := Op.load 57 (Operand.tmp 2), type := 57, pos := "listing.go:114", after := #[], guard := none }
abbrev o78_5_1 : Oper := { dst := some 19, op := Op.move (Operand.tmp 5), type := 23, pos := "listing.go:114", after := #[], guard := none }
abbrev o78_5_2 : Oper := { dst := some 20, op := Op.call { callee := Callee.value (Operand.tmp 18), args := #[Operand.tmp 19], argTypes := #[23] }, type := 4, pos := "listing.go:114", after := #[{ on := 0, ground := Ground.data }, { on := 1, ground := Ground.data }], guard := none }
abbrev o78_5_3 : Oper := { dst := some 21, op := Op.unOp UnOp.not 4 (Operand.tmp 20), type := 4, pos := "listing.go:114", after := #[{ on := 2, ground := Ground.data }], guard := none }
abbrev o78_6_0 : Oper := { dst := some 22, op := Op.move (Operand.tmp 3), type := 9, pos := "listing.go:118", after := #[], guard := none }
abbrev o78_6_1 : Oper := { dst := some 23, op := Op.binOp BinOp.eql 9 (Operand.tmp 22) (Operand.const (Value.string { data := #[] })) 9, type := 4, pos := "listing.go:118", after := #[{ on := 0, ground := Ground.data }], guard := none }
abbrev o78_6_2 : Oper := { dst := some 24, op := Op.move (Operand.tmp 23), type := 4, pos := "listing.go:118", after := #[{ on := 1, ground := Ground.data }], guard := none }
abbrev o78_6_3 : Oper := { dst := some 25, op := Op.load 57 (Operand.tmp 2), type := 57, pos := "listing.go:118", after := #[{ on := 2, ground := Ground.guard }], guard := some (2, false) }
abbrev o78_6_4 : Oper := { dst := some 26, op := Op.buildSlice 23 1 #[(0, Operand.const (Value.int IntKind.u8 0))], type := 23, pos := "listing.go:118", after := #[{ on := 2, ground := Ground.guard }], guard := some (2, false) }
abbrev o78_6_5 : Oper := { dst := some 27, op := Op.call { callee := Callee.value (Operand.tmp 25), args := #[Operand.tmp 26], argTypes := #[23] }, type := 4, pos := "listing.go:118", after := #[{ on := 3, ground := Ground.data }, { on := 4, ground := Ground.data }, { on := 2, ground := Ground.chain }, { on := 2, ground := Ground.guard }], guard := some (2, false) }
abbrev o78_6_6 : Oper := { dst := some 28, op := Op.unOp UnOp.not 4 (Operand.tmp 27), type := 4, pos := "listing.go:118", after := #[{ on := 5, ground := Ground.data }, { on := 2, ground := Ground.guard }], guard := some (2, false) }
abbrev o78_6_7 : Oper := { dst := some 29, op := Op.pick (Operand.tmp 24) (Operand.const (Value.bool true)) (Operand.tmp 28), type := 4, pos := "listing.go:118", after := #[{ on := 2, ground := Ground.data }, { on := 6, ground := Ground.data }], guard := none }
abbrev o78_7_0 : Oper := { dst := some 30, op := Op.move (Operand.tmp 3), type := 9, pos := "listing.go:121", after := #[], guard := none }
abbrev o78_7_1 : Oper := { dst := some 31, op := Op.call { callee := Callee.value (Operand.func 36), args := #[Operand.tmp 30], argTypes := #[9] }, type := 63, pos := "listing.go:121", after := #[{ on := 0, ground := Ground.data }], guard := none }
abbrev o78_8_0 : Oper := { dst := some 6, op := Op.assign (Operand.tmp 32), type := 23, pos := "listing.go:121", after := #[], guard := none }
abbrev o78_9_0 : Oper := { dst := some 33, op := Op.load 57 (Operand.tmp 2), type := 57, pos := "listing.go:122", after := #[], guard := none }
abbrev o78_9_1 : Oper := { dst := some 34, op := Op.move (Operand.tmp 6), type := 23, pos := "listing.go:122", after := #[], guard := none }
abbrev o78_9_2 : Oper := { dst := some 35, op := Op.call { callee := Callee.value (Operand.tmp 33), args := #[Operand.tmp 34], argTypes := #[23] }, type := 4, pos := "listing.go:122", after := #[{ on := 0, ground := Ground.data }, { on := 1, ground := Ground.data }], guard := none }
abbrev o78_9_3 : Oper := { dst := some 36, op := Op.unOp UnOp.not 4 (Operand.tmp 35), type := 4, pos := "listing.go:122", after := #[{ on := 2, ground := Ground.data }], guard := none }
theorem b78_eq:Tryz.f78.body=some (Code.seq (Code.region 0 [o78_0_0].toArray false) (Code.seq (Code.region 1 [o78_1_0,o78_1_1,o78_1_2].toArray false) (Code.seq (Code.region 2 [o78_2_0,o78_2_1,o78_2_2,o78_2_3,o78_2_4,o78_2_5,o78_2_6,o78_2_7].toArray false) (Code.seq (Code.seq (Code.region 3 [o78_3_0].toArray false) (Code.block 0 (Code.rangeFunc (Operand.tmp 16) #[17] (Code.region 4 [o78_4_0].toArray false) (Code.block 1 (Code.seq (Code.region 5 [o78_5_0,o78_5_1,o78_5_2,o78_5_3].toArray false) (Code.cond (Operand.tmp 21) Code.ret Code.skip)))))) (Code.seq (Code.seq (Code.region 6 [o78_6_0,o78_6_1,o78_6_2,o78_6_3,o78_6_4,o78_6_5,o78_6_6,o78_6_7].toArray false) (Code.cond (Operand.tmp 29) Code.ret Code.skip)) (Code.seq (Code.region 7 [o78_7_0,o78_7_1].toArray false) (Code.block 2 (Code.rangeFunc (Operand.tmp 31) #[32] (Code.region 8 [o78_8_0].toArray false) (Code.block 3 (Code.seq (Code.region 9 [o78_9_0,o78_9_1,o78_9_2,o78_9_3].toArray false) (Code.cond (Operand.tmp 36) Code.ret Code.skip))))))))))):=by kernel_rfl
theorem codes_w {W:World} (s:List UInt8):Calls Tryz.prog 36 #[.string ⟨⟨s⟩⟩] W fun e W'=>e = .returned (.func (.func 58) #[] #[.pointer (some ⟨W.heap.size,0,none⟩)])/\W'=W.alloc (.cells #[.string ⟨⟨s⟩⟩] 9):=by
 have hm:Tryz.f36.ntmps=4:=by kernel_rfl
 refine callsIn_wide.1 (callsIn_of_wp_marks (F:=Fence.wide) (n:=9) Tryz.func36 b36_eq trivial ?_);have hsz:=args_sz (vs:=#[Value.string ⟨⟨s⟩⟩]) (ds:=[]) hm (by simp);have e0:=args_ev (vs:=#[Value.string ⟨⟨s⟩⟩]) (n:=Tryz.f36.ntmps) (ds:=[]) (t:=0) (v:=.string ⟨⟨s⟩⟩) (by simp);generalize ha:({ tmps:=#[Value.string ⟨⟨s⟩⟩]++Array.replicate (Tryz.f36.ntmps - #[Value.string ⟨⟨s⟩⟩].size) undef,defers:=[] }:Act)=a at hsz e0 ⊢;have hd0:a.defers=[]:=by rw [← ha]
 clear ha;refine wpIn_seq (wpIn_region_lit ?_);refine inl_val rfl (nd rfl) (op_box e0) ?_;refine inl_val rfl (nd rfl) (op_assign (v:=.nilFunc) (ev_const _ _)) (wpListIn_nil ?_);refine wpIn_seq (wpIn_region_lit ?_);refine inl_val rfl (nd rfl) (op_mkfn (v:=.pointer (some ⟨W.heap.size,0,none⟩)) (by simp [ev_put,put_size,hsz])) ?_;refine inl_val rfl (nd rfl) (op_assign (v:=.func (.func 58) #[] #[.pointer (some ⟨W.heap.size,0,none⟩)]) (by simp [ev_put,put_size,hsz])) (wpListIn_nil ?_);refine wpIn_ret ?_;show LeavesInM Fence.wide 9 Tryz.prog Tryz.f36 _ _ (Act.put _ _ _).defers .returning _;rw [put_defers,put_defers,put_defers,put_defers,hd0];refine ⟨_,results_tmp (t:=2) (show Tryz.f36.results = #[.tmp 2] by kernel_rfl) _ _ _,congrArg Ending.returned ?_,rfl⟩;have:=ev_put (a:=((a.put (some 1) (Value.pointer (some ⟨W.heap.size,0,none⟩))).put (some 2) .nilFunc).put (some 3) (.func (.func 58) #[] #[.pointer (some ⟨W.heap.size,0,none⟩)])) (t:=2) (t':=2) (v:=.func (.func 58) #[] #[.pointer (some ⟨W.heap.size,0,none⟩)]) (by simp [put_size,hsz]);simpa [Act.eval,Act.put] using this
end Go.It
