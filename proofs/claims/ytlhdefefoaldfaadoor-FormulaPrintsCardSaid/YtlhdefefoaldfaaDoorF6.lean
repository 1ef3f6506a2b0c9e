/- What the law does. Conditions are in the theorems. -/
import Derived.Test.YtlhdefefoaldfaaDoorE7
import Derived.Test.YtlhdefefoaldfaaDoorProg
import Derived.KernelRfl
import Derived.Test.YtlhdefefoaldfaaDoorF0
import Derived.Test.YtlhdefefoaldfaaDoorF5
import Derived.Test.YtlhdefefoaldfaaDoorF2
import Derived.Test.YtlhdefefoaldfaaDoorF3
/- What functions do. -/
namespace Go.Proofs
noncomputable section
open Go.Ax Go.Ax.Alg Go.RowKit Go.Ab
open Go
def w3r0 (a0:Bool):Res:=(.e .bo a0,[])
noncomputable def w3L (N:Nat):List (Nat×Ent'):=[(19,l19e N),(12,w12e N),(13,w13e N),(14,w14e N),(15,w15e N),(16,w16e N),(17,w17e N),(18,w18e N)]
noncomputable def w3c (N:Nat):Cx:=⟨Tryd.prog,25,w3L N,[]⟩
noncomputable def w3b:Code:=Tryd.f3.body.getD .skip
theorem w3cx (N:Nat):CxOk (w3c N):=ctx_ok (by kernel_rfl) (.cons (by kernel_rfl) (l19ok N) (.cons (by kernel_rfl) (w12ok N) (.cons (by kernel_rfl) (w13ok N) (.cons (by kernel_rfl) (w14ok N) (.cons (by kernel_rfl) (w15ok N) (.cons (by kernel_rfl) (w16ok N) (.cons (by kernel_rfl) (w17ok N) (.cons (by kernel_rfl) (w18ok N) .nil)))))))) .nil
def w3F0 [Alg] (N:Nat)  (self:Int→O) (k0:Bool→O) (k1:Unit→O) (x0_1:(List Ex)) (x0_0:Int):O:=
 br (decide (x0_0 < (2:Int)))
  (gx x0_1 x0_0 fun y9=>
  ck (w14p N y9.op y9.num y9.kids) <|
  gx x0_1 x0_0 fun y10=>
  ck (w15p N y10.op y10.num y10.kids) <|
  br (decide (w14y0 N y9.op y9.num y9.kids≠w15y0 N y10.op y10.num y10.kids))
   (k0 false)
   (ck (w16p N (w14y0 N y9.op y9.num y9.kids)) <|
   gx x0_1 x0_0 fun y11=>
   ck (w17p N y11.op y11.num y11.kids) <|
   gc (decide (w17y0 N y11.op y11.num y11.kids=(0:Int))&&!(decide (w16y4 N (w14y0 N y9.op y9.num y9.kids)≠(0:Int))||decide (w16y3 N (w14y0 N y9.op y9.num y9.kids)≠(0:Int)))) (Ex.mk (0:Int) (0:Int) []) x0_1 x0_0 fun y12=>
   ck (!(decide (w17y0 N y11.op y11.num y11.kids=(0:Int))&&!(decide (w16y4 N (w14y0 N y9.op y9.num y9.kids)≠(0:Int))||decide (w16y3 N (w14y0 N y9.op y9.num y9.kids)≠(0:Int))))||w18p N (w16y0 N (w14y0 N y9.op y9.num y9.kids)) (w16y1 N (w14y0 N y9.op y9.num y9.kids)) (w16y2 N (w14y0 N y9.op y9.num y9.kids)) y12.op y12.num y12.kids) <|
   br (decide (w17y0 N y11.op y11.num y11.kids=(0:Int))&&(decide (w16y4 N (w14y0 N y9.op y9.num y9.kids)≠(0:Int))||decide (w16y3 N (w14y0 N y9.op y9.num y9.kids)≠(0:Int))||!w18y0 N (w16y0 N (w14y0 N y9.op y9.num y9.kids)) (w16y1 N (w14y0 N y9.op y9.num y9.kids)) (w16y2 N (w14y0 N y9.op y9.num y9.kids)) y12.op y12.num y12.kids))
    (k0 false)
    (self (IntKind.i64.wrap (x0_0+(1:Int))))))
  (k1 ())
noncomputable def w3b0:Code:=atC [1,1,1,0,1,0,0] w3b
def w3m0:Nm:=⟨[12,13],[],[]⟩
def w3I0 (x:Int×(List Ex)):Sg:=⟨[(12,.own 0),(13,.e (.i .i64) x.1)],[(0,.row 25 .ex x.2 true)],100⟩
def w3u0 (σ:Sg):Int×(List Ex):=(lvT (.i .i64) 13 0 σ,lvR .ex 0 σ)
theorem w3ui0:∀ x,w3u0 (w3I0 x)=x:=fun _=>by kernel_rfl
def w3X0_0 (y:Bool):Exit×Sg:=(.ret,⟨[(10,.e .bo y)],[],100⟩)
def w3v0_0 (_:Exit) (σ:Sg):Bool:=lvT .bo 10 0 σ
def w3X0_1 (_:Unit):Exit×Sg:=((.exit 0),⟨[],[],100⟩)
def w3v0_1 (_:Exit) (_:Sg):Unit:=()
def w3w0:List (Exit×Nm):=[(.ret,⟨[10],[],[]⟩),((.exit 0),⟨[],[],[]⟩)]
theorem w3o0:Outs w3v0_0 w3v0_1 (fun _ _=>()) w3X0_0 w3X0_1 (noX 2) (exC .ret) (exC (.exit 0)) (exC (.goto 2)):=⟨fun _=>by kernel_rfl,fun _=>by kernel_rfl,fun _=>by kernel_rfl,fun _=>by kernel_rfl,fun _=>by kernel_rfl,fun _=>by kernel_rfl,exNe_ok (by kernel_rfl),exNe_ok (by kernel_rfl),exNe_ok (by kernel_rfl)⟩
def w3l0 [Alg] (N:Nat):Nat→(Int×(List Ex))→((Bool)→O)→((Unit)→O)→((Unit)→O)→O
 | 0,_,_,_,_=>none
 | n+1,x,k0,k1,k2=>w3F0 N  (fun v0=>w3l0 N n (v0,x.2) k0 k1 k2) (fun y0=>k0 y0) (fun (_:Unit)=>k1 ()) x.2 x.1
def w3n0 [Alg] (N:Nat) (a0:Int) (a1:(List Ex)) (k0:Bool→O) (k1:Unit→O):O:=w3l0 N N (a0,a1) (fun y=>k0 y) (fun y=>k1 y) (fun _=>none)
noncomputable def w3s0 [Alg] (N:Nat) (a0:Int) (a1:(List Ex)) (k0:Bool→O) (k1:Unit→O):O:=subL w3I0 w3u0 (w3l0 N N) (w3I0 (a0,a1)) (fun y=>k0 y) (fun y=>k1 y) (fun _=>none)
theorem w3e0 [Alg] (N:Nat):w3s0 N=w3n0 N:=funext fun _=>funext fun _=>funext fun _=>funext fun _=>subL_I w3ui0 _ _ _ _
noncomputable def w3h0 [Alg] (_:Nat):Hint:=.d
theorem w3hk0 (N:Nat):HintOk (w3c N) Tryd.f3.ntmps (w3h0 N) w3b0:=hk_of _ _ trivial
theorem w3q0 [Alg] (N:Nat) (self:Sg→O) (K:Exit→Sg→O) (x:Int×(List Ex)):w3F0 N  (fun v0=>self (w3I0 (v0,x.2))) (fun y0=>K (w3X0_0 y0).1 (w3X0_0 y0).2) (fun (_:Unit)=>K (w3X0_1 ()).1 (w3X0_1 ()).2) x.2 x.1=exec (w3c N) Tryd.f3.ntmps (w3h0 N) w3b0 (w3I0 x) (roundX w3m0 w3w0 self K):=by kernel_rfl
theorem w3S0 (N:Nat) (hc:CxOk (w3c N)):SubOk (w3c N) Tryd.f3.ntmps (.loop w3b0) w3X0_0 w3X0_1 (noX 2) (subL w3I0 w3u0 (w3l0 N N)):=
 sub_loop hc (w3hk0 N) w3o0 (n:=N) (fun x K=>loop_ind (w3l0 N) (fun _ _ _ _=>rfl) (fun n K ih x=>by
  have h:w3F0 N  (fun v0=>w3l0 N n (v0,x.2) (fun y=>K (w3X0_0 y).1 (w3X0_0 y).2) (fun y=>K (w3X0_1 y).1 (w3X0_1 y).2) (fun y=>K ((noX 2) y).1 ((noX 2) y).2)) (fun y0=>K (w3X0_0 y0).1 (w3X0_0 y0).2) (fun (_:Unit)=>K (w3X0_1 ()).1 (w3X0_1 ()).2) x.2 x.1=w3F0 N  (fun v0=>loopX (w3c N) Tryd.f3.ntmps (w3h0 N) w3b0 w3m0 w3w0 n (w3I0 (v0,x.2)) K) (fun y0=>K (w3X0_0 y0).1 (w3X0_0 y0).2) (fun (_:Unit)=>K (w3X0_1 ()).1 (w3X0_1 ()).2) x.2 x.1:=by rw [ show (fun v0=>w3l0 N n (v0,x.2) (fun y=>K (w3X0_0 y).1 (w3X0_0 y).2) (fun y=>K (w3X0_1 y).1 (w3X0_1 y).2) (fun y=>K ((noX 2) y).1 ((noX 2) y).2))=(fun v0=>loopX (w3c N) Tryd.f3.ntmps (w3h0 N) w3b0 w3m0 w3w0 n (w3I0 (v0,x.2)) K) from funext fun _=>ih _]
  exact h.trans (w3q0 N (fun σ=>loopX (w3c N) Tryd.f3.ntmps (w3h0 N) w3b0 w3m0 w3w0 n σ K) K x)) N x K)
def w3G [Alg] (N:Nat) (in0:Int→(List Ex)→(Bool→O)→(Unit→O)→O) (l0:(List Int)) (depth1 at2 how3 by4:Int):O:=
 ck (w12p N l0 depth1) <|
 ck (w13p N (w12y0 N l0 depth1) (w12y1 N l0 depth1) (w12y2 N l0 depth1) at2 how3 by4) <|
 in0 ((0:Int)) [Ex.mk (w12y0 N l0 depth1) (w12y1 N l0 depth1) (w12y2 N l0 depth1),Ex.mk (w13y0 N (w12y0 N l0 depth1) (w12y1 N l0 depth1) (w12y2 N l0 depth1) at2 how3 by4) (w13y1 N (w12y0 N l0 depth1) (w12y1 N l0 depth1) (w12y2 N l0 depth1) at2 how3 by4) (w13y2 N (w12y0 N l0 depth1) (w12y1 N l0 depth1) (w12y2 N l0 depth1) at2 how3 by4)]
  (fun z13=>
   some (w3r0 z13))
  (fun (_:Unit)=>
   ck true <|
   some (w3r0 true))
def w3 [Alg] (N:Nat) (l0:(List Int)) (depth1 at2 how3 by4:Int):O:=w3G N (w3n0 N) l0 depth1 at2 how3 by4
noncomputable def w3h [Alg] (N:Nat):Hint:=(.seq .d (.seq .d (.seq .d (.seq (.seq .d (.block (.sub w3m0 _ _ _ w3X0_0 w3X0_1 (noX 2) (subL w3I0 w3u0 (w3l0 N N))))) .d))))
theorem w3hk (N:Nat) (hc:CxOk (w3c N)):HintOk (w3c N) Tryd.f3.ntmps (w3h N) w3b:=hk_of _ _ (And.intro trivial (And.intro trivial (And.intro trivial (And.intro (And.intro trivial (w3S0 N hc)) trivial))))
theorem w3q [Alg] (N:Nat) (l0:(List Int)) (depth1 at2 how3 by4:Int):w3G N (w3s0 N) l0 depth1 at2 how3 by4=exec (w3c N) Tryd.f3.ntmps (w3h N) w3b ⟨argT 0 [.e (.sl (.i .i64)) l0,.e (.i .i64) depth1,.e (.i .i64) at2,.e (.i .i64) how3,.e (.i .i64) by4],[],100⟩ (finX (w3c N) Tryd.f3 false):=by kernel_rfl
theorem w3does {N:Nat} (hc:CxOk (w3c N)) {l0:(List Int)} {depth1 at2 how3 by4:Int} {r:Res} (h:w3 N l0 depth1 at2 how3 by4=some r):DoesR Tryd.prog 3 (([.e (.sl (.i .i64)) l0,.e (.i .i64) depth1,.e (.i .i64) at2,.e (.i .i64) how3,.e (.i .i64) by4]:List X).map X.D) (HA []) r:=
 fun_ok hc (f:=3) (fn:=Tryd.f3) (code:=w3b) (by kernel_rfl) (by kernel_rfl) (w3hk N hc) (Nat.le_of_ble_eq_true (by kernel_rfl)) (ow:=false) ((w3q N l0 depth1 at2 how3 by4).symm.trans (by rw [w3e0 N];exact h))
def w3un (r:Res):Option (Bool):=match r with
 | (x0,[])=>(match ue .bo x0 with | some a0=>some a0 | _=>none)
 | _=>none
theorem w3uo {r:Res} {d:Bool} (h:w3un r=some d):r=w3r0 (d):=by
 unfold w3un at h
 split at h
 ·split at h
  ·rename_i h0;cases h;rw [ue_some h0];rfl
  ·cases h
 ·cases h
def w3z (N:Nat) (l0:(List Int)) (depth1 at2 how3 by4:Int):Option (Bool):=(w3 N l0 depth1 at2 how3 by4).bind w3un
theorem w3fin {N:Nat} (hc:CxOk (w3c N)) {l0:(List Int)} {depth1 at2 how3 by4:Int} {d:Bool} (hd:w3z N l0 depth1 at2 how3 by4=some d):Does Tryd.prog 3 (([.e (.sl (.i .i64)) l0,.e (.i .i64) depth1,.e (.i .i64) at2,.e (.i .i64) how3,.e (.i .i64) by4]:List X).map X.D) (HA []) (w3r0 (d)).1.D (HA (w3r0 (d)).2):=by
 obtain ⟨r,hr,hu⟩:=Option.bind_eq_some_iff.1 hd
 have:=w3does hc hr
 rw [w3uo hu] at this
 exact this
end
end Go.Proofs
