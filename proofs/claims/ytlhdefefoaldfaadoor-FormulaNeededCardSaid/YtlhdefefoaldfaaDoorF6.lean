/- What the law does. Conditions are in the theorems. -/
import Derived.Test.YtlhdefefoaldfaaDoorE7
import Derived.Test.YtlhdefefoaldfaaDoorProg
import Derived.KernelRfl
import Derived.Test.YtlhdefefoaldfaaDoorF0
import Derived.Test.YtlhdefefoaldfaaDoorF5
import Derived.Test.YtlhdefefoaldfaaDoorF2
import Derived.Test.YtlhdefefoaldfaaDoorF3
import Derived.Test.YtlhdefefoaldfaaDoorF4
/- What functions do. -/
namespace Go.Proofs
noncomputable section
open Go.Ax Go.Ax.Alg Go.RowKit Go.Ab
open Go
def w6r0 (a0:Bool):Res:=(.e .bo a0,[])
noncomputable def w6L (N:Nat):List (Nat×Ent'):=[(19,l19e N),(12,w12e N),(14,w14e N),(24,w24e N),(16,w16e N),(18,w18e N)]
noncomputable def w6c (N:Nat):Cx:=⟨Tryd.prog,25,w6L N,[]⟩
noncomputable def w6b:Code:=Tryd.f6.body.getD .skip
theorem w6cx (N:Nat):CxOk (w6c N):=ctx_ok (by kernel_rfl) (.cons (by kernel_rfl) (l19ok N) (.cons (by kernel_rfl) (w12ok N) (.cons (by kernel_rfl) (w14ok N) (.cons (by kernel_rfl) (w24ok N) (.cons (by kernel_rfl) (w16ok N) (.cons (by kernel_rfl) (w18ok N) .nil)))))) .nil
def w6F0 [Alg] (N:Nat)  (self:Int→O) (k0:Bool→O) (k1:Unit→O) (x0_0:(List UInt8)) (x0_1:(List (Int×Int))) (x0_3 x0_4:Int) (x0_5:(List Ex)) (x0_2:Int):O:=
 br (decide (x0_2 < (↑x0_1.length:Int)))
  (gx x0_1 x0_2 fun y9=>
  gx [y9.1,y9.2] ((0:Int)) fun y10=>
  gx x0_1 x0_2 fun y11=>
  gx [y11.1,y11.2] ((1:Int)) fun y12=>
  ck (slcOk x0_0.length none (some y10)) <|
  ck (slcOk x0_0.length (some (IntKind.i64.wrap (y10+(1:Int)))) (some y12)) <|
  ck (decide ((↑(slc x0_0 none (some y10)).length:Int)+(↑(slc x0_0 (some (IntKind.i64.wrap (y10+(1:Int)))) (some y12)).length:Int)≤(9223372036854775807:Int))) <|
  ck (slcOk x0_0.length (some (IntKind.i64.wrap (y12+(1:Int)))) none) <|
  ck (decide ((↑(slc x0_0 none (some y10)++slc x0_0 (some (IntKind.i64.wrap (y10+(1:Int)))) (some y12)).length:Int)+(↑(slc x0_0 (some (IntKind.i64.wrap (y12+(1:Int)))) none).length:Int)≤(9223372036854775807:Int))) <|
  ck (w16p N (slc x0_0 none (some y10)++slc x0_0 (some (IntKind.i64.wrap (y10+(1:Int)))) (some y12)++slc x0_0 (some (IntKind.i64.wrap (y12+(1:Int)))) none)) <|
  ck (!decide (w16y4 N (slc x0_0 none (some y10)++slc x0_0 (some (IntKind.i64.wrap (y10+(1:Int)))) (some y12)++slc x0_0 (some (IntKind.i64.wrap (y12+(1:Int)))) none)=(0:Int))||w18p N (w16y0 N (slc x0_0 none (some y10)++slc x0_0 (some (IntKind.i64.wrap (y10+(1:Int)))) (some y12)++slc x0_0 (some (IntKind.i64.wrap (y12+(1:Int)))) none)) (w16y1 N (slc x0_0 none (some y10)++slc x0_0 (some (IntKind.i64.wrap (y10+(1:Int)))) (some y12)++slc x0_0 (some (IntKind.i64.wrap (y12+(1:Int)))) none)) (w16y2 N (slc x0_0 none (some y10)++slc x0_0 (some (IntKind.i64.wrap (y10+(1:Int)))) (some y12)++slc x0_0 (some (IntKind.i64.wrap (y12+(1:Int)))) none)) x0_3 x0_4 x0_5) <|
  br (decide (w16y4 N (slc x0_0 none (some y10)++slc x0_0 (some (IntKind.i64.wrap (y10+(1:Int)))) (some y12)++slc x0_0 (some (IntKind.i64.wrap (y12+(1:Int)))) none)=(0:Int))&&w18y0 N (w16y0 N (slc x0_0 none (some y10)++slc x0_0 (some (IntKind.i64.wrap (y10+(1:Int)))) (some y12)++slc x0_0 (some (IntKind.i64.wrap (y12+(1:Int)))) none)) (w16y1 N (slc x0_0 none (some y10)++slc x0_0 (some (IntKind.i64.wrap (y10+(1:Int)))) (some y12)++slc x0_0 (some (IntKind.i64.wrap (y12+(1:Int)))) none)) (w16y2 N (slc x0_0 none (some y10)++slc x0_0 (some (IntKind.i64.wrap (y10+(1:Int)))) (some y12)++slc x0_0 (some (IntKind.i64.wrap (y12+(1:Int)))) none)) x0_3 x0_4 x0_5)
   (k0 false)
   (self (IntKind.i64.wrap (x0_2+(1:Int)))))
  (k1 ())
noncomputable def w6b0:Code:=atC [1,1,1,1,0,1,0,0] w6b
def w6m0:Nm:=⟨[5,6,7,8],[],[]⟩
def w6I0 (x:(List UInt8)×(List (Int×Int))×Int×Int×Int×(List Ex)):Sg:=⟨[(5,.ref 0 0),(6,.e .tx x.1),(7,.e (.sl (.pr (.i .i64) (.i .i64))) x.2.1),(8,.e (.i .i64) x.2.2.1)],[(0,.box 25 [.e (.i .i64) x.2.2.2.1,.e (.i .i64) x.2.2.2.2.1,.e (.sl .ex) x.2.2.2.2.2])],100⟩
def w6u0 (σ:Sg):(List UInt8)×(List (Int×Int))×Int×Int×Int×(List Ex):=(lvT .tx 6 0 σ,lvT (.sl (.pr (.i .i64) (.i .i64))) 7 0 σ,lvT (.i .i64) 8 0 σ,lvH (.i .i64) 0 0 σ,lvH (.i .i64) 0 1 σ,lvH (.sl .ex) 0 2 σ)
theorem w6ui0:∀ x,w6u0 (w6I0 x)=x:=fun _=>by kernel_rfl
def w6X0_0 (y:Bool):Exit×Sg:=(.ret,⟨[(4,.e .bo y)],[],100⟩)
def w6v0_0 (_:Exit) (σ:Sg):Bool:=lvT .bo 4 0 σ
def w6X0_1 (_:Unit):Exit×Sg:=((.exit 0),⟨[],[],100⟩)
def w6v0_1 (_:Exit) (_:Sg):Unit:=()
def w6w0:List (Exit×Nm):=[(.ret,⟨[4],[],[]⟩),((.exit 0),⟨[],[],[]⟩)]
theorem w6o0:Outs w6v0_0 w6v0_1 (fun _ _=>()) w6X0_0 w6X0_1 (noX 2) (exC .ret) (exC (.exit 0)) (exC (.goto 2)):=⟨fun _=>by kernel_rfl,fun _=>by kernel_rfl,fun _=>by kernel_rfl,fun _=>by kernel_rfl,fun _=>by kernel_rfl,fun _=>by kernel_rfl,exNe_ok (by kernel_rfl),exNe_ok (by kernel_rfl),exNe_ok (by kernel_rfl)⟩
def w6l0 [Alg] (N:Nat):Nat→((List UInt8)×(List (Int×Int))×Int×Int×Int×(List Ex))→((Bool)→O)→((Unit)→O)→((Unit)→O)→O
 | 0,_,_,_,_=>none
 | n+1,x,k0,k1,k2=>w6F0 N  (fun v0=>w6l0 N n (x.1,x.2.1,v0,x.2.2.2.1,x.2.2.2.2.1,x.2.2.2.2.2) k0 k1 k2) (fun y0=>k0 y0) (fun (_:Unit)=>k1 ()) x.1 x.2.1 x.2.2.2.1 x.2.2.2.2.1 x.2.2.2.2.2 x.2.2.1
def w6n0 [Alg] (N:Nat) (a0:(List UInt8)) (a1:(List (Int×Int))) (a2 a3 a4:Int) (a5:(List Ex)) (k0:Bool→O) (k1:Unit→O):O:=w6l0 N N (a0,a1,a2,a3,a4,a5) (fun y=>k0 y) (fun y=>k1 y) (fun _=>none)
noncomputable def w6s0 [Alg] (N:Nat) (a0:(List UInt8)) (a1:(List (Int×Int))) (a2 a3 a4:Int) (a5:(List Ex)) (k0:Bool→O) (k1:Unit→O):O:=subL w6I0 w6u0 (w6l0 N N) (w6I0 (a0,a1,a2,a3,a4,a5)) (fun y=>k0 y) (fun y=>k1 y) (fun _=>none)
theorem w6e0 [Alg] (N:Nat):w6s0 N=w6n0 N:=funext fun _=>funext fun _=>funext fun _=>funext fun _=>funext fun _=>funext fun _=>funext fun _=>funext fun _=>subL_I w6ui0 _ _ _ _
noncomputable def w6h0 [Alg] (_:Nat):Hint:=(.seq .d (.seq (.block (.seq .d (.seq .d (.seq (.reg [] [] [[],[],[],[],[],[],[],[],[],[],[],[],[],[],[],[],[],[],[],[],[380],[],[]]) .d)))) .d))
theorem w6hk0 (N:Nat):HintOk (w6c N) Tryd.f6.ntmps (w6h0 N) w6b0:=hk_of _ _ (And.intro trivial (And.intro (And.intro trivial (And.intro trivial (And.intro trivial trivial))) trivial))
theorem w6q0 [Alg] (N:Nat) (self:Sg→O) (K:Exit→Sg→O) (x:(List UInt8)×(List (Int×Int))×Int×Int×Int×(List Ex)):w6F0 N  (fun v0=>self (w6I0 (x.1,x.2.1,v0,x.2.2.2.1,x.2.2.2.2.1,x.2.2.2.2.2))) (fun y0=>K (w6X0_0 y0).1 (w6X0_0 y0).2) (fun (_:Unit)=>K (w6X0_1 ()).1 (w6X0_1 ()).2) x.1 x.2.1 x.2.2.2.1 x.2.2.2.2.1 x.2.2.2.2.2 x.2.2.1=exec (w6c N) Tryd.f6.ntmps (w6h0 N) w6b0 (w6I0 x) (roundX w6m0 w6w0 self K):=by kernel_rfl
theorem w6S0 (N:Nat) (hc:CxOk (w6c N)):SubOk (w6c N) Tryd.f6.ntmps (.loop w6b0) w6X0_0 w6X0_1 (noX 2) (subL w6I0 w6u0 (w6l0 N N)):=
 sub_loop hc (w6hk0 N) w6o0 (n:=N) (fun x K=>loop_ind (w6l0 N) (fun _ _ _ _=>rfl) (fun n K ih x=>by
  have h:w6F0 N  (fun v0=>w6l0 N n (x.1,x.2.1,v0,x.2.2.2.1,x.2.2.2.2.1,x.2.2.2.2.2) (fun y=>K (w6X0_0 y).1 (w6X0_0 y).2) (fun y=>K (w6X0_1 y).1 (w6X0_1 y).2) (fun y=>K ((noX 2) y).1 ((noX 2) y).2)) (fun y0=>K (w6X0_0 y0).1 (w6X0_0 y0).2) (fun (_:Unit)=>K (w6X0_1 ()).1 (w6X0_1 ()).2) x.1 x.2.1 x.2.2.2.1 x.2.2.2.2.1 x.2.2.2.2.2 x.2.2.1=w6F0 N  (fun v0=>loopX (w6c N) Tryd.f6.ntmps (w6h0 N) w6b0 w6m0 w6w0 n (w6I0 (x.1,x.2.1,v0,x.2.2.2.1,x.2.2.2.2.1,x.2.2.2.2.2)) K) (fun y0=>K (w6X0_0 y0).1 (w6X0_0 y0).2) (fun (_:Unit)=>K (w6X0_1 ()).1 (w6X0_1 ()).2) x.1 x.2.1 x.2.2.2.1 x.2.2.2.2.1 x.2.2.2.2.2 x.2.2.1:=by rw [ show (fun v0=>w6l0 N n (x.1,x.2.1,v0,x.2.2.2.1,x.2.2.2.2.1,x.2.2.2.2.2) (fun y=>K (w6X0_0 y).1 (w6X0_0 y).2) (fun y=>K (w6X0_1 y).1 (w6X0_1 y).2) (fun y=>K ((noX 2) y).1 ((noX 2) y).2))=(fun v0=>loopX (w6c N) Tryd.f6.ntmps (w6h0 N) w6b0 w6m0 w6w0 n (w6I0 (x.1,x.2.1,v0,x.2.2.2.1,x.2.2.2.2.1,x.2.2.2.2.2)) K) from funext fun _=>ih _]
  exact h.trans (w6q0 N (fun σ=>loopX (w6c N) Tryd.f6.ntmps (w6h0 N) w6b0 w6m0 w6w0 n σ K) K x)) N x K)
def w6G [Alg] (N:Nat) (in0:(List UInt8)→(List (Int×Int))→Int→Int→Int→(List Ex)→(Bool→O)→(Unit→O)→O) (l0:(List Int)) (depth1:Int):O:=
 ck (w12p N l0 depth1) <|
 ck (w14p N (w12y0 N l0 depth1) (w12y1 N l0 depth1) (w12y2 N l0 depth1)) <|
 ck (w24p N (w14y0 N (w12y0 N l0 depth1) (w12y1 N l0 depth1) (w12y2 N l0 depth1))) <|
 in0 (w14y0 N (w12y0 N l0 depth1) (w12y1 N l0 depth1) (w12y2 N l0 depth1)) (w24y0 N (w14y0 N (w12y0 N l0 depth1) (w12y1 N l0 depth1) (w12y2 N l0 depth1))) ((0:Int)) (w12y0 N l0 depth1) (w12y1 N l0 depth1) (w12y2 N l0 depth1)
  (fun z13=>
   some (w6r0 z13))
  (fun (_:Unit)=>
   ck true <|
   some (w6r0 true))
def w6 [Alg] (N:Nat) (l0:(List Int)) (depth1:Int):O:=w6G N (w6n0 N) l0 depth1
noncomputable def w6h [Alg] (N:Nat):Hint:=(.seq .d (.seq .d (.seq .d (.seq .d (.seq (.seq .d (.block (.sub w6m0 _ _ _ w6X0_0 w6X0_1 (noX 2) (subL w6I0 w6u0 (w6l0 N N))))) .d)))))
theorem w6hk (N:Nat) (hc:CxOk (w6c N)):HintOk (w6c N) Tryd.f6.ntmps (w6h N) w6b:=hk_of _ _ (And.intro trivial (And.intro trivial (And.intro trivial (And.intro trivial (And.intro (And.intro trivial (w6S0 N hc)) trivial)))))
theorem w6q [Alg] (N:Nat) (l0:(List Int)) (depth1:Int):w6G N (w6s0 N) l0 depth1=exec (w6c N) Tryd.f6.ntmps (w6h N) w6b ⟨argT 0 [.e (.sl (.i .i64)) l0,.e (.i .i64) depth1],[],100⟩ (finX (w6c N) Tryd.f6 false):=by kernel_rfl
theorem w6does {N:Nat} (hc:CxOk (w6c N)) {l0:(List Int)} {depth1:Int} {r:Res} (h:w6 N l0 depth1=some r):DoesR Tryd.prog 6 (([.e (.sl (.i .i64)) l0,.e (.i .i64) depth1]:List X).map X.D) (HA []) r:=
 fun_ok hc (f:=6) (fn:=Tryd.f6) (code:=w6b) (by kernel_rfl) (by kernel_rfl) (w6hk N hc) (Nat.le_of_ble_eq_true (by kernel_rfl)) (ow:=false) ((w6q N l0 depth1).symm.trans (by rw [w6e0 N];exact h))
def w6un (r:Res):Option (Bool):=match r with
 | (x0,[])=>(match ue .bo x0 with | some a0=>some a0 | _=>none)
 | _=>none
theorem w6uo {r:Res} {d:Bool} (h:w6un r=some d):r=w6r0 (d):=by
 unfold w6un at h
 split at h
 ·split at h
  ·rename_i h0;cases h;rw [ue_some h0];rfl
  ·cases h
 ·cases h
def w6z (N:Nat) (l0:(List Int)) (depth1:Int):Option (Bool):=(w6 N l0 depth1).bind w6un
theorem w6fin {N:Nat} (hc:CxOk (w6c N)) {l0:(List Int)} {depth1:Int} {d:Bool} (hd:w6z N l0 depth1=some d):Does Tryd.prog 6 (([.e (.sl (.i .i64)) l0,.e (.i .i64) depth1]:List X).map X.D) (HA []) (w6r0 (d)).1.D (HA (w6r0 (d)).2):=by
 obtain ⟨r,hr,hu⟩:=Option.bind_eq_some_iff.1 hd
 have:=w6does hc hr
 rw [w6uo hu] at this
 exact this
end
end Go.Proofs
