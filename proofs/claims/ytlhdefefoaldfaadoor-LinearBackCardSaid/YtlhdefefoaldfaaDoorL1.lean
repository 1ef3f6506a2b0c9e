/- What the functions of package linear do; the examples hold. Conditions are in the theorems. -/
import Derived.Test.YtlhdefefoaldfaaDoorE7
import Derived.Test.YtlhdefefoaldfaaDoorProg
import Derived.KernelRfl
import Derived.Test.YtlhdefefoaldfaaDoorF0
import Derived.Test.YtlhdefefoaldfaaDoorF5
import Derived.Test.YtlhdefefoaldfaaDoorF1
import Derived.Test.YtlhdefefoaldfaaDoorF2
import Derived.Test.YtlhdefefoaldfaaDoorF3
/- What functions do. -/
namespace Go.Proofs
noncomputable section
open Go.Ax Go.Ax.Alg Go.RowKit Go.Ab
open Go
def w97r0 (a0:Bool):Res:=(.e .bo a0,[])
noncomputable def w97L (_:Nat):List (Nat×Ent'):=[]
noncomputable def w97c (N:Nat):Cx:=⟨Tryd.prog,25,w97L N,[]⟩
noncomputable def w97b:Code:=Tryd.f97.body.getD .skip
theorem w97cx (N:Nat):CxOk (w97c N):=ctx_ok (by kernel_rfl) .nil .nil
def w97G [Alg] (_:Nat)  (c0:Int):O:=
  some (w97r0 (decide ((48:Int)≤c0)&&decide (c0≤(57:Int))))
def w97 [Alg] (N:Nat) (c0:Int):O:=w97G N  c0
noncomputable def w97h [Alg] (_:Nat):Hint:=.d
theorem w97hk (N:Nat):HintOk (w97c N) Tryd.f97.ntmps (w97h N) w97b:=hk_of _ _ trivial
theorem w97q [Alg] (N:Nat) (c0:Int):w97G N  c0=exec (w97c N) Tryd.f97.ntmps (w97h N) w97b ⟨argT 0 [.e (.i .i32) c0],[],100⟩ (finX (w97c N) Tryd.f97 false):=by kernel_rfl
theorem w97does {N:Nat} (hc:CxOk (w97c N)) {c0:Int} {r:Res} (h:w97 N c0=some r):DoesR Tryd.prog 97 (([.e (.i .i32) c0]:List X).map X.D) (HA []) r:=
  fun_ok hc (f:=97) (fn:=Tryd.f97) (code:=w97b) (by kernel_rfl) (by kernel_rfl) (w97hk N) (Nat.le_of_ble_eq_true (by kernel_rfl)) (ow:=false) ((w97q N c0).symm.trans (by exact h))
def w97un (r:Res):Option (Bool):=match r with
  | (x0,[])=>(match ue .bo x0 with | some a0=>some a0 | _=>none)
  | _=>none
theorem w97uo {r:Res} {d:Bool} (h:w97un r=some d):r=w97r0 (d):=by
  unfold w97un at h
  split at h
  · split at h
    · rename_i h0;cases h;rw [ue_some h0];rfl
    · cases h
  · cases h
def w97z (N:Nat) (c0:Int):Option (Bool):=(w97 N c0).bind w97un
theorem w97fin {N:Nat} (hc:CxOk (w97c N)) {c0:Int} {d:Bool} (hd:w97z N c0=some d):Does Tryd.prog 97 (([.e (.i .i32) c0]:List X).map X.D) (HA []) (w97r0 (d)).1.D (HA (w97r0 (d)).2):=by
  obtain ⟨r,hr,hu⟩:=Option.bind_eq_some_iff.1 hd
  have:=w97does hc hr
  rw [w97uo hu] at this
  exact this
def w97p (N:Nat) (c0:Int):Bool:=(w97z N c0).isSome
def w97y0 (N:Nat) (c0:Int):Bool:=((w97z N c0).getD false)
def w97e (N:Nat):Ent':=E1 (.i .i32)  (fun x0=>(w97p N x0,w97r0 (w97y0 N x0)))
theorem w97re {N:Nat} {c0:Int} {d:Bool} (hd:w97z N c0=some d):w97r0 (w97y0 N c0)=w97r0 (d):=by unfold w97y0;rw [hd];rfl
theorem w97ok (N:Nat):EOk Tryd.prog 97 (w97e N):=EOk.e1 (fun x0 h=>by
  have h:(w97z N x0).isSome=true:=h
  obtain ⟨d,hd⟩:=Option.isSome_iff_exists.1 h
  have f:=w97fin (w97cx N) hd
  rw [← w97re hd] at f
  exact f)
def w98r0 (a0:Bool):Res:=(.e .bo a0,[])
noncomputable def w98L (_:Nat):List (Nat×Ent'):=[]
noncomputable def w98c (N:Nat):Cx:=⟨Tryd.prog,25,w98L N,[]⟩
noncomputable def w98b:Code:=Tryd.f98.body.getD .skip
theorem w98cx (N:Nat):CxOk (w98c N):=ctx_ok (by kernel_rfl) .nil .nil
def w98G [Alg] (_:Nat)  (c0:Int):O:=
  some (w98r0 (decide ((97:Int)≤c0)&&decide (c0≤(122:Int))))
def w98 [Alg] (N:Nat) (c0:Int):O:=w98G N  c0
noncomputable def w98h [Alg] (_:Nat):Hint:=.d
theorem w98hk (N:Nat):HintOk (w98c N) Tryd.f98.ntmps (w98h N) w98b:=hk_of _ _ trivial
theorem w98q [Alg] (N:Nat) (c0:Int):w98G N  c0=exec (w98c N) Tryd.f98.ntmps (w98h N) w98b ⟨argT 0 [.e (.i .i32) c0],[],100⟩ (finX (w98c N) Tryd.f98 false):=by kernel_rfl
theorem w98does {N:Nat} (hc:CxOk (w98c N)) {c0:Int} {r:Res} (h:w98 N c0=some r):DoesR Tryd.prog 98 (([.e (.i .i32) c0]:List X).map X.D) (HA []) r:=
  fun_ok hc (f:=98) (fn:=Tryd.f98) (code:=w98b) (by kernel_rfl) (by kernel_rfl) (w98hk N) (Nat.le_of_ble_eq_true (by kernel_rfl)) (ow:=false) ((w98q N c0).symm.trans (by exact h))
def w98un (r:Res):Option (Bool):=match r with
  | (x0,[])=>(match ue .bo x0 with | some a0=>some a0 | _=>none)
  | _=>none
theorem w98uo {r:Res} {d:Bool} (h:w98un r=some d):r=w98r0 (d):=by
  unfold w98un at h
  split at h
  · split at h
    · rename_i h0;cases h;rw [ue_some h0];rfl
    · cases h
  · cases h
def w98z (N:Nat) (c0:Int):Option (Bool):=(w98 N c0).bind w98un
theorem w98fin {N:Nat} (hc:CxOk (w98c N)) {c0:Int} {d:Bool} (hd:w98z N c0=some d):Does Tryd.prog 98 (([.e (.i .i32) c0]:List X).map X.D) (HA []) (w98r0 (d)).1.D (HA (w98r0 (d)).2):=by
  obtain ⟨r,hr,hu⟩:=Option.bind_eq_some_iff.1 hd
  have:=w98does hc hr
  rw [w98uo hu] at this
  exact this
def w98p (N:Nat) (c0:Int):Bool:=(w98z N c0).isSome
def w98y0 (N:Nat) (c0:Int):Bool:=((w98z N c0).getD false)
def w98e (N:Nat):Ent':=E1 (.i .i32)  (fun x0=>(w98p N x0,w98r0 (w98y0 N x0)))
theorem w98re {N:Nat} {c0:Int} {d:Bool} (hd:w98z N c0=some d):w98r0 (w98y0 N c0)=w98r0 (d):=by unfold w98y0;rw [hd];rfl
theorem w98ok (N:Nat):EOk Tryd.prog 98 (w98e N):=EOk.e1 (fun x0 h=>by
  have h:(w98z N x0).isSome=true:=h
  obtain ⟨d,hd⟩:=Option.isSome_iff_exists.1 h
  have f:=w98fin (w98cx N) hd
  rw [← w98re hd] at f
  exact f)
def w70r0 (a0:(List UInt8)) (a1:(List Int)):Res:=(.tup [.own 100,.own 101],[(100,.row 5 .u8 a0 true),(101,.row 3 (.i .i64) a1 true)])
noncomputable def w70L (N:Nat):List (Nat×Ent'):=[(97,w97e N),(98,w98e N),(99,w99e N),(100,w100e N)]
noncomputable def w70c (N:Nat):Cx:=⟨Tryd.prog,25,w70L N,[]⟩
noncomputable def w70b:Code:=Tryd.f70.body.getD .skip
theorem w70cx (N:Nat):CxOk (w70c N):=ctx_ok (by kernel_rfl) (.cons (by kernel_rfl) (w97ok N) (.cons (by kernel_rfl) (w98ok N) (.cons (by kernel_rfl) (w99ok N) (.cons (by kernel_rfl) (w100ok N) .nil)))) .nil
def w70F0 [Alg] (N:Nat)  (self:Int→(List UInt8)→(List Int)→Int→O) (k0:(List UInt8)→(List Int)→O) (_x0_1:(List UInt8)) (x0_4:(List UInt8)) (x0_0:Int) (x0_2:(List UInt8)) (x0_3:(List Int)) (x0_5:Int):O:=
  let b0:=x0_5+(1:Int)
  br (decide (x0_5 < (↑x0_4.length:Int)))
    (gx x0_4 x0_5 fun y21=>
    ck (decide (y21.toNat < (128:Nat))) <|
    br true
      (ck (w97p N (↑y21.toNat:Int)) <|
      br (w97y0 N (↑y21.toNat:Int))
        (ck (w97p N x0_0) <|
        br (!w97y0 N x0_0)
          (ck (lim (x0_2++[(60:UInt8)]).length (1:Nat)) <|
          gx [(26:UInt8),(1:UInt8),(3:UInt8),(9:UInt8),(25:UInt8),(17:UInt8),(11:UInt8),(27:UInt8),(19:UInt8),(10:UInt8)] (IntKind.i32.wrap ((↑y21.toNat:Int) - (48:Int))) fun y22=>
          ck (lim (x0_2++[(60:UInt8)]++[y22]).length (1:Nat)) <|
          self ((↑y21.toNat:Int)) (x0_2++[(60:UInt8)]++[y22]) x0_3 b0)
          (gx [(26:UInt8),(1:UInt8),(3:UInt8),(9:UInt8),(25:UInt8),(17:UInt8),(11:UInt8),(27:UInt8),(19:UInt8),(10:UInt8)] (IntKind.i32.wrap ((↑y21.toNat:Int) - (48:Int))) fun y23=>
          ck (lim (x0_2++[y23]).length (1:Nat)) <|
          self ((↑y21.toNat:Int)) (x0_2++[y23]) x0_3 b0))
        (ck (w98p N (↑y21.toNat:Int)) <|
        br (w98y0 N (↑y21.toNat:Int))
          (gx [(1:UInt8),(3:UInt8),(9:UInt8),(25:UInt8),(17:UInt8),(11:UInt8),(27:UInt8),(19:UInt8),(10:UInt8),(26:UInt8),(5:UInt8),(7:UInt8),(13:UInt8),(29:UInt8),(21:UInt8),(15:UInt8),(31:UInt8),(23:UInt8),(14:UInt8),(30:UInt8),(37:UInt8),(39:UInt8),(58:UInt8),(45:UInt8),(61:UInt8),(53:UInt8)] (IntKind.i32.wrap ((↑y21.toNat:Int) - (97:Int))) fun y24=>
          ck (lim (x0_2++[(48:UInt8),y24]).length (1:Nat)) <|
          self ((↑y21.toNat:Int)) (x0_2++[(48:UInt8),y24]) x0_3 b0)
          (ck (w99p N [(43:UInt8),(45:UInt8),(42:UInt8),(47:UInt8),(94:UInt8),(61:UInt8),(60:UInt8),(82:UInt8),(40:UInt8),(41:UInt8)] (↑y21.toNat:Int)) <|
          gx [(22:UInt8),(36:UInt8),(33:UInt8),(12:UInt8),(24:UInt8),(54:UInt8),(42:UInt8),(28:UInt8),(55:UInt8),(62:UInt8)] (w99y0 N [(43:UInt8),(45:UInt8),(42:UInt8),(47:UInt8),(94:UInt8),(61:UInt8),(60:UInt8),(82:UInt8),(40:UInt8),(41:UInt8)] (↑y21.toNat:Int)) fun y25=>
          ck (lim (x0_2++[y25]).length (1:Nat)) <|
          ck (w100p N [(43:UInt8),(45:UInt8),(42:UInt8),(47:UInt8),(61:UInt8),(60:UInt8)] (↑y21.toNat:Int)) <|
          ck (!w100y0 N [(43:UInt8),(45:UInt8),(42:UInt8),(47:UInt8),(61:UInt8),(60:UInt8)] (↑y21.toNat:Int)||w97p N x0_0) <|
          ck (!(w100y0 N [(43:UInt8),(45:UInt8),(42:UInt8),(47:UInt8),(61:UInt8),(60:UInt8)] (↑y21.toNat:Int)&&!w97y0 N x0_0)||w98p N x0_0) <|
          br (w100y0 N [(43:UInt8),(45:UInt8),(42:UInt8),(47:UInt8),(61:UInt8),(60:UInt8)] (↑y21.toNat:Int)&&(w97y0 N x0_0||w98y0 N x0_0||decide (x0_0=(41:Int))))
            (ck (lim (x0_3++[(↑(x0_2++[y25]).length:Int)]).length (8:Nat)) <|
            self ((↑y21.toNat:Int)) (x0_2++[y25]) (x0_3++[(↑(x0_2++[y25]).length:Int)]) b0)
            (self ((↑y21.toNat:Int)) (x0_2++[y25]) x0_3 b0))))
      (k0 x0_2 x0_3))
    (br false
      (none)
      (k0 x0_2 x0_3))
noncomputable def w70b0:Code:=atC [1,1,1,1,0,1,0,0] w70b
def w70m0:Nm:=⟨[2,4,5,6,9,10],[],[.nilR 4 (.row 5 .u8 [] true),.nilR 5 (.row 3 (.i .i64) [] true)]⟩
def w70I0 (x:Int×(List UInt8)×(List UInt8)×(List Int)×(List UInt8)×Int):Sg:=⟨[(2,.nilS),(4,.own 0),(5,.own 1),(6,.e (.i .i32) x.1),(9,.e .tx x.2.1),(10,.own 2)],[(0,.row 5 .u8 x.2.2.1 true),(1,.row 3 (.i .i64) x.2.2.2.1 true),(2,.it x.2.2.2.2.1 x.2.2.2.2.2)],100⟩
def w70u0 (σ:Sg):Int×(List UInt8)×(List UInt8)×(List Int)×(List UInt8)×Int:=(lvT (.i .i32) 6 0 σ,lvT .tx 9 0 σ,lvR .u8 0 σ,lvR (.i .i64) 1 σ,lvIs 2 σ,lvIp 2 σ)
theorem w70ui0:∀ x,w70u0 (w70I0 x)=x:=fun _=>by kernel_rfl
def w70X0_0 (y:(List UInt8)×(List Int)):Exit×Sg:=((.exit 0),⟨[(4,.own 0),(5,.own 1)],[(0,.row 5 .u8 y.1 true),(1,.row 3 (.i .i64) y.2 true)],100⟩)
def w70v0_0 (_:Exit) (σ:Sg):(List UInt8)×(List Int):=(lvR .u8 0 σ,lvR (.i .i64) 1 σ)
def w70w0:List (Exit×Nm):=[((.exit 0),⟨[4,5],[],[]⟩)]
theorem w70o0:Outs w70v0_0 (fun _ _=>()) (fun _ _=>()) w70X0_0 (noX 1) (noX 2) (exC (.exit 0)) (exC (.goto 1)) (exC (.goto 2)):=⟨fun _=>by kernel_rfl,fun _=>by kernel_rfl,fun _=>by kernel_rfl,fun _=>by kernel_rfl,fun _=>by kernel_rfl,fun _=>by kernel_rfl,exNe_ok (by kernel_rfl),exNe_ok (by kernel_rfl),exNe_ok (by kernel_rfl)⟩
def w70l0 [Alg] (N:Nat):Nat→(Int×(List UInt8)×(List UInt8)×(List Int)×(List UInt8)×Int)→(((List UInt8)×(List Int))→O)→((Unit)→O)→((Unit)→O)→O
  | 0,_,_,_,_=>none
  | n+1,x,k0,k1,k2=>w70F0 N  (fun v0 v1 v2 v3=>w70l0 N n (v0,x.2.1,v1,v2,x.2.2.2.2.1,v3) k0 k1 k2) (fun y0 y1=>k0 (y0,y1)) x.2.1 x.2.2.2.2.1 x.1 x.2.2.1 x.2.2.2.1 x.2.2.2.2.2
def w70n0 [Alg] (N:Nat) (a0:Int) (a1:(List UInt8)) (a2:(List UInt8)) (a3:(List Int)) (a4:(List UInt8)) (a5:Int) (k0:(List UInt8)→(List Int)→O):O:=w70l0 N N (a0,a1,a2,a3,a4,a5) (fun y=>k0 y.1 y.2) (fun _=>none) (fun _=>none)
noncomputable def w70s0 [Alg] (N:Nat) (a0:Int) (a1:(List UInt8)) (a2:(List UInt8)) (a3:(List Int)) (a4:(List UInt8)) (a5:Int) (k0:(List UInt8)→(List Int)→O):O:=subL w70I0 w70u0 (w70l0 N N) (w70I0 (a0,a1,a2,a3,a4,a5)) (fun y=>k0 y.1 y.2) (fun _=>none) (fun _=>none)
theorem w70e0 [Alg] (N:Nat):w70s0 N=w70n0 N:=funext fun _=>funext fun _=>funext fun _=>funext fun _=>funext fun _=>funext fun _=>funext fun _=>subL_I w70ui0 _ _ _ _
noncomputable def w70h0 [Alg] (_:Nat):Hint:=.d
theorem w70hk0 (N:Nat):HintOk (w70c N) Tryd.f70.ntmps (w70h0 N) w70b0:=hk_of _ _ trivial
theorem w70q0 [Alg] (N:Nat) (self:Sg→O) (K:Exit→Sg→O) (x:Int×(List UInt8)×(List UInt8)×(List Int)×(List UInt8)×Int):w70F0 N  (fun v0 v1 v2 v3=>self (w70I0 (v0,x.2.1,v1,v2,x.2.2.2.2.1,v3))) (fun y0 y1=>K (w70X0_0 (y0,y1)).1 (w70X0_0 (y0,y1)).2) x.2.1 x.2.2.2.2.1 x.1 x.2.2.1 x.2.2.2.1 x.2.2.2.2.2=exec (w70c N) Tryd.f70.ntmps (w70h0 N) w70b0 (w70I0 x) (roundX w70m0 w70w0 self K):=by kernel_rfl
theorem w70S0 (N:Nat) (hc:CxOk (w70c N)):SubOk (w70c N) Tryd.f70.ntmps (.loop w70b0) w70X0_0 (noX 1) (noX 2) (subL w70I0 w70u0 (w70l0 N N)):=
  sub_loop hc (w70hk0 N) w70o0 (n:=N) (fun x K=>loop_ind (w70l0 N) (fun _ _ _ _=>rfl) (fun n K ih x=>by
    have h:w70F0 N  (fun v0 v1 v2 v3=>w70l0 N n (v0,x.2.1,v1,v2,x.2.2.2.2.1,v3) (fun y=>K (w70X0_0 y).1 (w70X0_0 y).2) (fun y=>K ((noX 1) y).1 ((noX 1) y).2) (fun y=>K ((noX 2) y).1 ((noX 2) y).2)) (fun y0 y1=>K (w70X0_0 (y0,y1)).1 (w70X0_0 (y0,y1)).2) x.2.1 x.2.2.2.2.1 x.1 x.2.2.1 x.2.2.2.1 x.2.2.2.2.2=w70F0 N  (fun v0 v1 v2 v3=>loopX (w70c N) Tryd.f70.ntmps (w70h0 N) w70b0 w70m0 w70w0 n (w70I0 (v0,x.2.1,v1,v2,x.2.2.2.2.1,v3)) K) (fun y0 y1=>K (w70X0_0 (y0,y1)).1 (w70X0_0 (y0,y1)).2) x.2.1 x.2.2.2.2.1 x.1 x.2.2.1 x.2.2.2.1 x.2.2.2.2.2:=by rw [ show (fun v0 v1 v2 v3=>w70l0 N n (v0,x.2.1,v1,v2,x.2.2.2.2.1,v3) (fun y=>K (w70X0_0 y).1 (w70X0_0 y).2) (fun y=>K ((noX 1) y).1 ((noX 1) y).2) (fun y=>K ((noX 2) y).1 ((noX 2) y).2))=(fun v0 v1 v2 v3=>loopX (w70c N) Tryd.f70.ntmps (w70h0 N) w70b0 w70m0 w70w0 n (w70I0 (v0,x.2.1,v1,v2,x.2.2.2.2.1,v3)) K) from funext fun _=>funext fun _=>funext fun _=>funext fun _=>ih _]
    exact h.trans (w70q0 N (fun σ=>loopX (w70c N) Tryd.f70.ntmps (w70h0 N) w70b0 w70m0 w70w0 n σ K) K x)) N x K)
def w70G [Alg] (_:Nat) (in0:Int→(List UInt8)→(List UInt8)→(List Int)→(List UInt8)→Int→((List UInt8)→(List Int)→O)→O) (s0:(List UInt8)):O:=
  in0 ((40:Int)) s0 [] [] s0 ((0:Int))
    (fun z26 z27=>
      ck (lim (z26++[(63:UInt8)]).length (1:Nat)) <|
      some (w70r0 (z26++[(63:UInt8)]) z27))
def w70 [Alg] (N:Nat) (s0:(List UInt8)):O:=w70G N (w70n0 N) s0
noncomputable def w70h [Alg] (N:Nat):Hint:=(.seq .d (.seq .d (.seq .d (.seq .d (.seq (.seq .d (.block (.sub w70m0 _ _ _ w70X0_0 (noX 1) (noX 2) (subL w70I0 w70u0 (w70l0 N N))))) .d)))))
theorem w70hk (N:Nat) (hc:CxOk (w70c N)):HintOk (w70c N) Tryd.f70.ntmps (w70h N) w70b:=hk_of _ _ (And.intro trivial (And.intro trivial (And.intro trivial (And.intro trivial (And.intro (And.intro trivial (w70S0 N hc)) trivial)))))
theorem w70q [Alg] (N:Nat) (s0:(List UInt8)):w70G N (w70s0 N) s0=exec (w70c N) Tryd.f70.ntmps (w70h N) w70b ⟨argT 0 [.e .tx s0],[],100⟩ (finX (w70c N) Tryd.f70 true):=by kernel_rfl
theorem w70does {N:Nat} (hc:CxOk (w70c N)) {s0:(List UInt8)} {r:Res} (h:w70 N s0=some r):DoesR Tryd.prog 70 (([.e .tx s0]:List X).map X.D) (HA []) r:=
  fun_ok hc (f:=70) (fn:=Tryd.f70) (code:=w70b) (by kernel_rfl) (by kernel_rfl) (w70hk N hc) (Nat.le_of_ble_eq_true (by kernel_rfl)) (ow:=true) ((w70q N s0).symm.trans (by rw [w70e0 N];exact h))
def w70un (r:Res):Option ((List UInt8)×(List Int)):=match r with
  | (.tup [.own 100,.own 101],[(100,x0),(101,x1)])=>(match ur 5 .u8 true x0,ur 3 (.i .i64) true x1 with | some a0,some a1=>some (a0,a1) | _,_=>none)
  | _=>none
theorem w70uo {r:Res} {d:(List UInt8)×(List Int)} (h:w70un r=some d):r=w70r0 (d.1) (d.2):=by
  unfold w70un at h
  split at h
  · split at h
    · rename_i h0 h1;cases h;rw [ur_some h0,ur_some h1];rfl
    · cases h
  · cases h
def w70z (N:Nat) (s0:(List UInt8)):Option ((List UInt8)×(List Int)):=(w70 N s0).bind w70un
theorem w70fin {N:Nat} (hc:CxOk (w70c N)) {s0:(List UInt8)} {d:(List UInt8)×(List Int)} (hd:w70z N s0=some d):Does Tryd.prog 70 (([.e .tx s0]:List X).map X.D) (HA []) (w70r0 (d.1) (d.2)).1.D (HA (w70r0 (d.1) (d.2)).2):=by
  obtain ⟨r,hr,hu⟩:=Option.bind_eq_some_iff.1 hd
  have:=w70does hc hr
  rw [w70uo hu] at this
  exact this
def w70p (N:Nat) (s0:(List UInt8)):Bool:=(w70z N s0).isSome
def w70y0 (N:Nat) (s0:(List UInt8)):(List UInt8):=((w70z N s0).getD ([],[])).1
def w70y1 (N:Nat) (s0:(List UInt8)):(List Int):=((w70z N s0).getD ([],[])).2
def w70e (N:Nat):Ent':=E1 .tx  (fun x0=>(w70p N x0,w70r0 (w70y0 N x0) (w70y1 N x0)))
theorem w70re {N:Nat} {s0:(List UInt8)} {d:(List UInt8)×(List Int)} (hd:w70z N s0=some d):w70r0 (w70y0 N s0) (w70y1 N s0)=w70r0 (d.1) (d.2):=by unfold w70y0 w70y1;rw [hd];rfl
theorem w70ok (N:Nat):EOk Tryd.prog 70 (w70e N):=EOk.e1 (fun x0 h=>by
  have h:(w70z N x0).isSome=true:=h
  obtain ⟨d,hd⟩:=Option.isSome_iff_exists.1 h
  have f:=w70fin (w70cx N) hd
  rw [← w70re hd] at f
  exact f)
def w40r0 (a0:(List UInt8)) (a1:Int):Res:=(.tup [.e (.sl .u8) a0,.e (.i .i64) a1],[])
noncomputable def w40L (N:Nat):List (Nat×Ent'):=[(17,w17e N),(14,w14e N),(70,w70e N)]
noncomputable def w40c (N:Nat):Cx:=⟨Tryd.prog,25,w40L N,[]⟩
noncomputable def w40b:Code:=Tryd.f40.body.getD .skip
theorem w40cx (N:Nat):CxOk (w40c N):=ctx_ok (by kernel_rfl) (.cons (by kernel_rfl) (w17ok N) (.cons (by kernel_rfl) (w14ok N) (.cons (by kernel_rfl) (w70ok N) .nil))) .nil
def w40G [Alg] (N:Nat)  (e0_0:Int) (e0_1:Int) (e0_2:(List Ex)):O:=
  let b0:=Ex.mk (Ex.mk e0_0 e0_1 e0_2).op (Ex.mk e0_0 e0_1 e0_2).num (Ex.mk e0_0 e0_1 e0_2).kids
  ck (w17p N b0.op b0.num b0.kids) <|
  br (decide (w17y0 N b0.op b0.num b0.kids≠(0:Int)))
    (some (w40r0 [] (w17y0 N b0.op b0.num b0.kids)))
    (ck (w14p N b0.op b0.num b0.kids) <|
    ck (w70p N (w14y0 N b0.op b0.num b0.kids)) <|
    some (w40r0 (w70y0 N (w14y0 N b0.op b0.num b0.kids)) ((0:Int))))
def w40 [Alg] (N:Nat) (e0_0:Int) (e0_1:Int) (e0_2:(List Ex)):O:=w40G N  e0_0 e0_1 e0_2
noncomputable def w40h [Alg] (_:Nat):Hint:=.d
theorem w40hk (N:Nat):HintOk (w40c N) Tryd.f40.ntmps (w40h N) w40b:=hk_of _ _ trivial
theorem w40q [Alg] (N:Nat) (e0_0:Int) (e0_1:Int) (e0_2:(List Ex)):w40G N  e0_0 e0_1 e0_2=exec (w40c N) Tryd.f40.ntmps (w40h N) w40b ⟨argT 0 [.agg [.e (.i .i64) e0_0,.e (.i .i64) e0_1,.e (.sl .ex) e0_2]],[],100⟩ (finX (w40c N) Tryd.f40 false):=by kernel_rfl
theorem w40does {N:Nat} (hc:CxOk (w40c N)) {e0_0:Int} {e0_1:Int} {e0_2:(List Ex)} {r:Res} (h:w40 N e0_0 e0_1 e0_2=some r):DoesR Tryd.prog 40 (([.agg [.e (.i .i64) e0_0,.e (.i .i64) e0_1,.e (.sl .ex) e0_2]]:List X).map X.D) (HA []) r:=
  fun_ok hc (f:=40) (fn:=Tryd.f40) (code:=w40b) (by kernel_rfl) (by kernel_rfl) (w40hk N) (Nat.le_of_ble_eq_true (by kernel_rfl)) (ow:=false) ((w40q N e0_0 e0_1 e0_2).symm.trans (by exact h))
def w40un (r:Res):Option ((List UInt8)×Int):=match r with
  | (.tup [x0,x1],[])=>(match ue (.sl .u8) x0,ue (.i .i64) x1 with | some a0,some a1=>some (a0,a1) | _,_=>none)
  | _=>none
theorem w40uo {r:Res} {d:(List UInt8)×Int} (h:w40un r=some d):r=w40r0 (d.1) (d.2):=by
  unfold w40un at h
  split at h
  · split at h
    · rename_i h0 h1;cases h;rw [ue_some h0,ue_some h1];rfl
    · cases h
  · cases h
def w40z (N:Nat) (e0_0:Int) (e0_1:Int) (e0_2:(List Ex)):Option ((List UInt8)×Int):=(w40 N e0_0 e0_1 e0_2).bind w40un
theorem w40fin {N:Nat} (hc:CxOk (w40c N)) {e0_0:Int} {e0_1:Int} {e0_2:(List Ex)} {d:(List UInt8)×Int} (hd:w40z N e0_0 e0_1 e0_2=some d):Does Tryd.prog 40 (([.agg [.e (.i .i64) e0_0,.e (.i .i64) e0_1,.e (.sl .ex) e0_2]]:List X).map X.D) (HA []) (w40r0 (d.1) (d.2)).1.D (HA (w40r0 (d.1) (d.2)).2):=by
  obtain ⟨r,hr,hu⟩:=Option.bind_eq_some_iff.1 hd
  have:=w40does hc hr
  rw [w40uo hu] at this
  exact this
def w40p (N:Nat) (e0_0:Int) (e0_1:Int) (e0_2:(List Ex)):Bool:=(w40z N e0_0 e0_1 e0_2).isSome
def w40y0 (N:Nat) (e0_0:Int) (e0_1:Int) (e0_2:(List Ex)):(List UInt8):=((w40z N e0_0 e0_1 e0_2).getD ([],0)).1
def w40y1 (N:Nat) (e0_0:Int) (e0_1:Int) (e0_2:(List Ex)):Int:=((w40z N e0_0 e0_1 e0_2).getD ([],0)).2
def w40e (N:Nat):Ent':=E1 .ex  (fun x0=>(w40p N (Ex.op x0) (Ex.num x0) (Ex.kids x0),w40r0 (w40y0 N (Ex.op x0) (Ex.num x0) (Ex.kids x0)) (w40y1 N (Ex.op x0) (Ex.num x0) (Ex.kids x0))))
theorem w40re {N:Nat} {e0_0:Int} {e0_1:Int} {e0_2:(List Ex)} {d:(List UInt8)×Int} (hd:w40z N e0_0 e0_1 e0_2=some d):w40r0 (w40y0 N e0_0 e0_1 e0_2) (w40y1 N e0_0 e0_1 e0_2)=w40r0 (d.1) (d.2):=by unfold w40y0 w40y1;rw [hd];rfl
theorem w40ok (N:Nat):EOk Tryd.prog 40 (w40e N):=EOk.e1 (fun x0 h=>by
  have h:(w40z N (Ex.op x0) (Ex.num x0) (Ex.kids x0)).isSome=true:=h
  obtain ⟨d,hd⟩:=Option.isSome_iff_exists.1 h
  have f:=w40fin (w40cx N) hd
  rw [← w40re hd] at f
  exact f)
def w42r0 (a0:Int):Res:=(.e (.i .i64) a0,[])
noncomputable def w42L (N:Nat):List (Nat×Ent'):=[(40,w40e N)]
noncomputable def w42c (N:Nat):Cx:=⟨Tryd.prog,25,w42L N,[]⟩
noncomputable def w42b:Code:=Tryd.f42.body.getD .skip
theorem w42cx (N:Nat):CxOk (w42c N):=ctx_ok (by kernel_rfl) (.cons (by kernel_rfl) (w40ok N) .nil) .nil
def w42G [Alg] (N:Nat)  (e0_0:Int) (e0_1:Int) (e0_2:(List Ex)):O:=
  let b0:=Ex.mk (Ex.mk e0_0 e0_1 e0_2).op (Ex.mk e0_0 e0_1 e0_2).num (Ex.mk e0_0 e0_1 e0_2).kids
  ck (w40p N b0.op b0.num b0.kids) <|
  some (w42r0 ((↑(w40y0 N b0.op b0.num b0.kids).length:Int)))
def w42 [Alg] (N:Nat) (e0_0:Int) (e0_1:Int) (e0_2:(List Ex)):O:=w42G N  e0_0 e0_1 e0_2
noncomputable def w42h [Alg] (_:Nat):Hint:=.d
theorem w42hk (N:Nat):HintOk (w42c N) Tryd.f42.ntmps (w42h N) w42b:=hk_of _ _ trivial
theorem w42q [Alg] (N:Nat) (e0_0:Int) (e0_1:Int) (e0_2:(List Ex)):w42G N  e0_0 e0_1 e0_2=exec (w42c N) Tryd.f42.ntmps (w42h N) w42b ⟨argT 0 [.agg [.e (.i .i64) e0_0,.e (.i .i64) e0_1,.e (.sl .ex) e0_2]],[],100⟩ (finX (w42c N) Tryd.f42 false):=by kernel_rfl
theorem w42does {N:Nat} (hc:CxOk (w42c N)) {e0_0:Int} {e0_1:Int} {e0_2:(List Ex)} {r:Res} (h:w42 N e0_0 e0_1 e0_2=some r):DoesR Tryd.prog 42 (([.agg [.e (.i .i64) e0_0,.e (.i .i64) e0_1,.e (.sl .ex) e0_2]]:List X).map X.D) (HA []) r:=
  fun_ok hc (f:=42) (fn:=Tryd.f42) (code:=w42b) (by kernel_rfl) (by kernel_rfl) (w42hk N) (Nat.le_of_ble_eq_true (by kernel_rfl)) (ow:=false) ((w42q N e0_0 e0_1 e0_2).symm.trans (by exact h))
def w42un (r:Res):Option (Int):=match r with
  | (x0,[])=>(match ue (.i .i64) x0 with | some a0=>some a0 | _=>none)
  | _=>none
theorem w42uo {r:Res} {d:Int} (h:w42un r=some d):r=w42r0 (d):=by
  unfold w42un at h
  split at h
  · split at h
    · rename_i h0;cases h;rw [ue_some h0];rfl
    · cases h
  · cases h
def w42z (N:Nat) (e0_0:Int) (e0_1:Int) (e0_2:(List Ex)):Option (Int):=(w42 N e0_0 e0_1 e0_2).bind w42un
theorem w42fin {N:Nat} (hc:CxOk (w42c N)) {e0_0:Int} {e0_1:Int} {e0_2:(List Ex)} {d:Int} (hd:w42z N e0_0 e0_1 e0_2=some d):Does Tryd.prog 42 (([.agg [.e (.i .i64) e0_0,.e (.i .i64) e0_1,.e (.sl .ex) e0_2]]:List X).map X.D) (HA []) (w42r0 (d)).1.D (HA (w42r0 (d)).2):=by
  obtain ⟨r,hr,hu⟩:=Option.bind_eq_some_iff.1 hd
  have:=w42does hc hr
  rw [w42uo hu] at this
  exact this
def w42p (N:Nat) (e0_0:Int) (e0_1:Int) (e0_2:(List Ex)):Bool:=(w42z N e0_0 e0_1 e0_2).isSome
def w42y0 (N:Nat) (e0_0:Int) (e0_1:Int) (e0_2:(List Ex)):Int:=((w42z N e0_0 e0_1 e0_2).getD 0)
def w42e (N:Nat):Ent':=E1 .ex  (fun x0=>(w42p N (Ex.op x0) (Ex.num x0) (Ex.kids x0),w42r0 (w42y0 N (Ex.op x0) (Ex.num x0) (Ex.kids x0))))
theorem w42re {N:Nat} {e0_0:Int} {e0_1:Int} {e0_2:(List Ex)} {d:Int} (hd:w42z N e0_0 e0_1 e0_2=some d):w42r0 (w42y0 N e0_0 e0_1 e0_2)=w42r0 (d):=by unfold w42y0;rw [hd];rfl
theorem w42ok (N:Nat):EOk Tryd.prog 42 (w42e N):=EOk.e1 (fun x0 h=>by
  have h:(w42z N (Ex.op x0) (Ex.num x0) (Ex.kids x0)).isSome=true:=h
  obtain ⟨d,hd⟩:=Option.isSome_iff_exists.1 h
  have f:=w42fin (w42cx N) hd
  rw [← w42re hd] at f
  exact f)
def w72r0 (a0:Int) (a1:(List Int)):Res:=(.tup [.own 100,.e (.i .i64) a0],[(100,.row 3 (.i .i64) a1 true)])
def w72r1 (a0:Int):Res:=(.tup [.nilS,.e (.i .i64) a0],[])
noncomputable def w72L (N:Nat):List (Nat×Ent'):=[(17,w17e N),(14,w14e N),(70,w70e N)]
noncomputable def w72c (N:Nat):Cx:=⟨Tryd.prog,25,w72L N,[]⟩
noncomputable def w72b:Code:=Tryd.f72.body.getD .skip
theorem w72cx (N:Nat):CxOk (w72c N):=ctx_ok (by kernel_rfl) (.cons (by kernel_rfl) (w17ok N) (.cons (by kernel_rfl) (w14ok N) (.cons (by kernel_rfl) (w70ok N) .nil))) .nil
def w72G [Alg] (N:Nat)  (e0_0:Int) (e0_1:Int) (e0_2:(List Ex)):O:=
  let b0:=Ex.mk (Ex.mk e0_0 e0_1 e0_2).op (Ex.mk e0_0 e0_1 e0_2).num (Ex.mk e0_0 e0_1 e0_2).kids
  ck (w17p N b0.op b0.num b0.kids) <|
  br (decide (w17y0 N b0.op b0.num b0.kids≠(0:Int)))
    (some (w72r1 (w17y0 N b0.op b0.num b0.kids)))
    (ck (w14p N b0.op b0.num b0.kids) <|
    ck (w70p N (w14y0 N b0.op b0.num b0.kids)) <|
    some (w72r0 ((0:Int)) (w70y1 N (w14y0 N b0.op b0.num b0.kids))))
def w72 [Alg] (N:Nat) (e0_0:Int) (e0_1:Int) (e0_2:(List Ex)):O:=w72G N  e0_0 e0_1 e0_2
noncomputable def w72h [Alg] (_:Nat):Hint:=.d
theorem w72hk (N:Nat):HintOk (w72c N) Tryd.f72.ntmps (w72h N) w72b:=hk_of _ _ trivial
theorem w72q [Alg] (N:Nat) (e0_0:Int) (e0_1:Int) (e0_2:(List Ex)):w72G N  e0_0 e0_1 e0_2=exec (w72c N) Tryd.f72.ntmps (w72h N) w72b ⟨argT 0 [.agg [.e (.i .i64) e0_0,.e (.i .i64) e0_1,.e (.sl .ex) e0_2]],[],100⟩ (finX (w72c N) Tryd.f72 true):=by kernel_rfl
theorem w72does {N:Nat} (hc:CxOk (w72c N)) {e0_0:Int} {e0_1:Int} {e0_2:(List Ex)} {r:Res} (h:w72 N e0_0 e0_1 e0_2=some r):DoesR Tryd.prog 72 (([.agg [.e (.i .i64) e0_0,.e (.i .i64) e0_1,.e (.sl .ex) e0_2]]:List X).map X.D) (HA []) r:=
  fun_ok hc (f:=72) (fn:=Tryd.f72) (code:=w72b) (by kernel_rfl) (by kernel_rfl) (w72hk N) (Nat.le_of_ble_eq_true (by kernel_rfl)) (ow:=true) ((w72q N e0_0 e0_1 e0_2).symm.trans (by exact h))
def w72un (r:Res):Option (Int×(List Int)):=match r with
  | (.tup [.own 100,x0],[(100,x1)])=>(match ue (.i .i64) x0,ur 3 (.i .i64) true x1 with | some a0,some a1=>some (a0,a1) | _,_=>none)
  | _=>none
theorem w72uo {r:Res} {d:Int×(List Int)} (h:w72un r=some d):r=w72r0 (d.1) (d.2):=by
  unfold w72un at h
  split at h
  · split at h
    · rename_i h0 h1;cases h;rw [ue_some h0,ur_some h1];rfl
    · cases h
  · cases h
def w72z (N:Nat) (e0_0:Int) (e0_1:Int) (e0_2:(List Ex)):Option (Int×(List Int)):=(w72 N e0_0 e0_1 e0_2).bind w72un
theorem w72fin {N:Nat} (hc:CxOk (w72c N)) {e0_0:Int} {e0_1:Int} {e0_2:(List Ex)} {d:Int×(List Int)} (hd:w72z N e0_0 e0_1 e0_2=some d):Does Tryd.prog 72 (([.agg [.e (.i .i64) e0_0,.e (.i .i64) e0_1,.e (.sl .ex) e0_2]]:List X).map X.D) (HA []) (w72r0 (d.1) (d.2)).1.D (HA (w72r0 (d.1) (d.2)).2):=by
  obtain ⟨r,hr,hu⟩:=Option.bind_eq_some_iff.1 hd
  have:=w72does hc hr
  rw [w72uo hu] at this
  exact this
def w72p (N:Nat) (e0_0:Int) (e0_1:Int) (e0_2:(List Ex)):Bool:=(w72z N e0_0 e0_1 e0_2).isSome
def w72y0 (N:Nat) (e0_0:Int) (e0_1:Int) (e0_2:(List Ex)):Int:=((w72z N e0_0 e0_1 e0_2).getD (0,[])).1
def w72y1 (N:Nat) (e0_0:Int) (e0_1:Int) (e0_2:(List Ex)):(List Int):=((w72z N e0_0 e0_1 e0_2).getD (0,[])).2
def w72e (N:Nat):Ent':=E1 .ex  (fun x0=>(w72p N (Ex.op x0) (Ex.num x0) (Ex.kids x0),w72r0 (w72y0 N (Ex.op x0) (Ex.num x0) (Ex.kids x0)) (w72y1 N (Ex.op x0) (Ex.num x0) (Ex.kids x0))))
theorem w72re {N:Nat} {e0_0:Int} {e0_1:Int} {e0_2:(List Ex)} {d:Int×(List Int)} (hd:w72z N e0_0 e0_1 e0_2=some d):w72r0 (w72y0 N e0_0 e0_1 e0_2) (w72y1 N e0_0 e0_1 e0_2)=w72r0 (d.1) (d.2):=by unfold w72y0 w72y1;rw [hd];rfl
theorem w72ok (N:Nat):EOk Tryd.prog 72 (w72e N):=EOk.e1 (fun x0 h=>by
  have h:(w72z N (Ex.op x0) (Ex.num x0) (Ex.kids x0)).isSome=true:=h
  obtain ⟨d,hd⟩:=Option.isSome_iff_exists.1 h
  have f:=w72fin (w72cx N) hd
  rw [← w72re hd] at f
  exact f)
def w101r0 (a0:Bool) (a1:Int) (a2:(List Int)) (a3:Int) (a4:(List UInt8)) (a5:(List (List UInt8))):Res:=(.e .bo a0,[(50,.box 3 [.e (.i .i64) a1]),(51,.box 22 [.e (.sl (.i .i64)) a2]),(52,.box 3 [.e (.i .i64) a3]),(53,.box 96 [.own 100]),(54,.box 57 [.e (.sl .u8) a4]),(100,.row 57 (.sl .u8) a5 true)])
noncomputable def w101L (_:Nat):List (Nat×Ent'):=[]
noncomputable def w101c (N:Nat):Cx:=⟨Tryd.prog,25,w101L N,[]⟩
noncomputable def w101b:Code:=Tryd.f101.body.getD .skip
theorem w101cx (N:Nat):CxOk (w101c N):=ctx_ok (by kernel_rfl) .nil .nil
def w101F0 [Alg] (_:Nat)   (k0:Int→(List Int)→Int→(List UInt8)→(List (List UInt8))→(List UInt8)→O) (x0_0:Int) (x0_1:(List Int)) (x0_2:Int) (x0_3:(List UInt8)) (x0_4:(List (List UInt8))):O:=
  br (decide ((0:Int) < x0_0))
    (ck true <|
    ck true <|
    k0 x0_0 x0_1 x0_2 x0_3 x0_4 [(0:UInt8),(0:UInt8)])
    (k0 x0_0 x0_1 x0_2 x0_3 x0_4 [])
noncomputable def w101b0:Code:=atC [1,1,0] w101b
def w101m0:Nm:=⟨[0,1,2,3,4,6],[],[]⟩
def w101I0 (x:Int×(List Int)×Int×(List UInt8)×(List (List UInt8))):Sg:=⟨[(0,.ref 50 0),(1,.ref 51 0),(2,.ref 52 0),(3,.ref 53 0),(4,.ref 54 0),(6,.nilS)],[(50,.box 3 [.e (.i .i64) x.1]),(51,.box 22 [.e (.sl (.i .i64)) x.2.1]),(52,.box 3 [.e (.i .i64) x.2.2.1]),(53,.box 96 [.own 55]),(54,.box 57 [.e (.sl .u8) x.2.2.2.1]),(55,.row 57 (.sl .u8) x.2.2.2.2 true)],100⟩
def w101u0 (σ:Sg):Int×(List Int)×Int×(List UInt8)×(List (List UInt8)):=(lvH (.i .i64) 50 0 σ,lvH (.sl (.i .i64)) 51 0 σ,lvH (.i .i64) 52 0 σ,lvH (.sl .u8) 54 0 σ,lvR (.sl .u8) 55 σ)
theorem w101ui0:∀ x,w101u0 (w101I0 x)=x:=fun _=>by kernel_rfl
def w101X0_0 (y:Int×(List Int)×Int×(List UInt8)×(List (List UInt8))×(List UInt8)):Exit×Sg:=(.normal,⟨[(0,.ref 50 0),(1,.ref 51 0),(2,.ref 52 0),(3,.ref 53 0),(4,.ref 54 0),(6,.own 0)],[(50,.box 3 [.e (.i .i64) y.1]),(51,.box 22 [.e (.sl (.i .i64)) y.2.1]),(52,.box 3 [.e (.i .i64) y.2.2.1]),(53,.box 96 [.own 55]),(54,.box 57 [.e (.sl .u8) y.2.2.2.1]),(55,.row 57 (.sl .u8) y.2.2.2.2.1 true),(0,.row 5 .u8 y.2.2.2.2.2 false)],100⟩)
def w101v0_0 (_:Exit) (σ:Sg):Int×(List Int)×Int×(List UInt8)×(List (List UInt8))×(List UInt8):=(lvH (.i .i64) 50 0 σ,lvH (.sl (.i .i64)) 51 0 σ,lvH (.i .i64) 52 0 σ,lvH (.sl .u8) 54 0 σ,lvR (.sl .u8) 55 σ,lvR .u8 0 σ)
def w101w0:List (Exit×Nm):=[(.normal,⟨[0,1,2,3,4,6],[],[.nilR 6 (.row 5 .u8 [] false)]⟩)]
theorem w101o0:Outs w101v0_0 (fun _ _=>()) (fun _ _=>()) w101X0_0 (noX 1) (noX 2) (exC .normal) (exC (.goto 1)) (exC (.goto 2)):=⟨fun _=>by kernel_rfl,fun _=>by kernel_rfl,fun _=>by kernel_rfl,fun _=>by kernel_rfl,fun _=>by kernel_rfl,fun _=>by kernel_rfl,exNe_ok (by kernel_rfl),exNe_ok (by kernel_rfl),exNe_ok (by kernel_rfl)⟩
def w101l0 [Alg] (N:Nat) (_:Nat) (x:Int×(List Int)×Int×(List UInt8)×(List (List UInt8))) (k0:(Int×(List Int)×Int×(List UInt8)×(List (List UInt8))×(List UInt8))→O) (_:(Unit)→O) (_:(Unit)→O):O:=w101F0 N   (fun y0 y1 y2 y3 y4 y5=>k0 (y0,y1,y2,y3,y4,y5)) x.1 x.2.1 x.2.2.1 x.2.2.2.1 x.2.2.2.2
def w101n0 [Alg] (N:Nat) (a0:Int) (a1:(List Int)) (a2:Int) (a3:(List UInt8)) (a4:(List (List UInt8))) (k0:Int→(List Int)→Int→(List UInt8)→(List (List UInt8))→(List UInt8)→O):O:=w101l0 N N (a0,a1,a2,a3,a4) (fun y=>k0 y.1 y.2.1 y.2.2.1 y.2.2.2.1 y.2.2.2.2.1 y.2.2.2.2.2) (fun _=>none) (fun _=>none)
noncomputable def w101s0 [Alg] (N:Nat) (a0:Int) (a1:(List Int)) (a2:Int) (a3:(List UInt8)) (a4:(List (List UInt8))) (k0:Int→(List Int)→Int→(List UInt8)→(List (List UInt8))→(List UInt8)→O):O:=subL w101I0 w101u0 (w101l0 N N) (w101I0 (a0,a1,a2,a3,a4)) (fun y=>k0 y.1 y.2.1 y.2.2.1 y.2.2.2.1 y.2.2.2.2.1 y.2.2.2.2.2) (fun _=>none) (fun _=>none)
theorem w101e0 [Alg] (N:Nat):w101s0 N=w101n0 N:=funext fun _=>funext fun _=>funext fun _=>funext fun _=>funext fun _=>funext fun _=>subL_I w101ui0 _ _ _ _
noncomputable def w101h0 [Alg] (_:Nat):Hint:=.d
theorem w101hk0 (N:Nat):HintOk (w101c N) Tryd.f101.ntmps (w101h0 N) w101b0:=hk_of _ _ trivial
theorem w101q0 [Alg] (N:Nat) (K:Exit→Sg→O) (x:Int×(List Int)×Int×(List UInt8)×(List (List UInt8))):w101F0 N   (fun y0 y1 y2 y3 y4 y5=>K (w101X0_0 (y0,y1,y2,y3,y4,y5)).1 (w101X0_0 (y0,y1,y2,y3,y4,y5)).2) x.1 x.2.1 x.2.2.1 x.2.2.2.1 x.2.2.2.2=exec (w101c N) Tryd.f101.ntmps (w101h0 N) w101b0 (w101I0 x) (partX w101w0 K):=by kernel_rfl
theorem w101S0 (N:Nat) (hc:CxOk (w101c N)):SubOk (w101c N) Tryd.f101.ntmps w101b0 w101X0_0 (noX 1) (noX 2) (subL w101I0 w101u0 (w101l0 N N)):=
  sub_part hc (w101hk0 N) w101o0 (fun x K=>by
    have h:w101F0 N   (fun y0 y1 y2 y3 y4 y5=>K (w101X0_0 (y0,y1,y2,y3,y4,y5)).1 (w101X0_0 (y0,y1,y2,y3,y4,y5)).2) x.1 x.2.1 x.2.2.1 x.2.2.2.1 x.2.2.2.2=w101F0 N   (fun y0 y1 y2 y3 y4 y5=>K (w101X0_0 (y0,y1,y2,y3,y4,y5)).1 (w101X0_0 (y0,y1,y2,y3,y4,y5)).2) x.1 x.2.1 x.2.2.1 x.2.2.2.1 x.2.2.2.2:=by rfl
    exact h.trans (w101q0 N K x))
def w101F1 [Alg] (_:Nat)  (self:Int→Int→O) (k0:Int→Int→(List Int)→Int→(List UInt8)→(List (List UInt8))→(List UInt8)→O) (x7_1:(List Int)) (x7_2:Int) (x7_4:Int) (x7_5:(List Int)) (x7_6:Int) (x7_7:(List UInt8)) (x7_8:(List (List UInt8))) (x7_9:(List UInt8)) (x7_0:Int) (x7_3:Int):O:=
  br (decide (x7_3 < x7_2))
    (gx x7_1 x7_3 fun y10=>
    br (decide (x7_4 < y10)&&decide (IntKind.i64.wrap (IntKind.i64.wrap ((↑x7_9.length:Int)+y10) - x7_4)≤x7_6))
      (self y10 (IntKind.i64.wrap (x7_3+(1:Int))))
      (self x7_0 (IntKind.i64.wrap (x7_3+(1:Int)))))
    (k0 x7_0 x7_4 x7_5 x7_6 x7_7 x7_8 x7_9)
noncomputable def w101b1:Code:=atC [1,1,1,1,0,1,0,0] w101b
def w101m1:Nm:=⟨[0,2,3,4,6,7,14,15,16],[],[]⟩
def w101I1 (x:Int×(List Int)×Int×Int×Int×(List Int)×Int×(List UInt8)×(List (List UInt8))×(List UInt8)):Sg:=⟨[(0,.ref 50 0),(2,.ref 52 0),(3,.ref 53 0),(4,.ref 54 0),(6,.own 0),(7,.e (.i .i64) x.1),(14,.e (.sl (.i .i64)) x.2.1),(15,.e (.i .i64) x.2.2.1),(16,.e (.i .i64) x.2.2.2.1)],[(50,.box 3 [.e (.i .i64) x.2.2.2.2.1]),(51,.box 22 [.e (.sl (.i .i64)) x.2.2.2.2.2.1]),(52,.box 3 [.e (.i .i64) x.2.2.2.2.2.2.1]),(53,.box 96 [.own 55]),(54,.box 57 [.e (.sl .u8) x.2.2.2.2.2.2.2.1]),(55,.row 57 (.sl .u8) x.2.2.2.2.2.2.2.2.1 true),(0,.row 5 .u8 x.2.2.2.2.2.2.2.2.2 false)],100⟩
def w101u1 (σ:Sg):Int×(List Int)×Int×Int×Int×(List Int)×Int×(List UInt8)×(List (List UInt8))×(List UInt8):=(lvT (.i .i64) 7 0 σ,lvT (.sl (.i .i64)) 14 0 σ,lvT (.i .i64) 15 0 σ,lvT (.i .i64) 16 0 σ,lvH (.i .i64) 50 0 σ,lvH (.sl (.i .i64)) 51 0 σ,lvH (.i .i64) 52 0 σ,lvH (.sl .u8) 54 0 σ,lvR (.sl .u8) 55 σ,lvR .u8 0 σ)
theorem w101ui1:∀ x,w101u1 (w101I1 x)=x:=fun _=>by kernel_rfl
def w101X1_0 (y:Int×Int×(List Int)×Int×(List UInt8)×(List (List UInt8))×(List UInt8)):Exit×Sg:=((.exit 0),⟨[(0,.ref 50 0),(3,.ref 53 0),(4,.ref 54 0),(6,.own 0),(7,.e (.i .i64) y.1)],[(50,.box 3 [.e (.i .i64) y.2.1]),(51,.box 22 [.e (.sl (.i .i64)) y.2.2.1]),(52,.box 3 [.e (.i .i64) y.2.2.2.1]),(53,.box 96 [.own 55]),(54,.box 57 [.e (.sl .u8) y.2.2.2.2.1]),(55,.row 57 (.sl .u8) y.2.2.2.2.2.1 true),(0,.row 5 .u8 y.2.2.2.2.2.2 false)],100⟩)
def w101v1_0 (_:Exit) (σ:Sg):Int×Int×(List Int)×Int×(List UInt8)×(List (List UInt8))×(List UInt8):=(lvT (.i .i64) 7 0 σ,lvH (.i .i64) 50 0 σ,lvH (.sl (.i .i64)) 51 0 σ,lvH (.i .i64) 52 0 σ,lvH (.sl .u8) 54 0 σ,lvR (.sl .u8) 55 σ,lvR .u8 0 σ)
def w101w1:List (Exit×Nm):=[((.exit 0),⟨[0,3,4,6,7],[],[]⟩)]
theorem w101o1:Outs w101v1_0 (fun _ _=>()) (fun _ _=>()) w101X1_0 (noX 1) (noX 2) (exC (.exit 0)) (exC (.goto 1)) (exC (.goto 2)):=⟨fun _=>by kernel_rfl,fun _=>by kernel_rfl,fun _=>by kernel_rfl,fun _=>by kernel_rfl,fun _=>by kernel_rfl,fun _=>by kernel_rfl,exNe_ok (by kernel_rfl),exNe_ok (by kernel_rfl),exNe_ok (by kernel_rfl)⟩
def w101l1 [Alg] (N:Nat):Nat→(Int×(List Int)×Int×Int×Int×(List Int)×Int×(List UInt8)×(List (List UInt8))×(List UInt8))→((Int×Int×(List Int)×Int×(List UInt8)×(List (List UInt8))×(List UInt8))→O)→((Unit)→O)→((Unit)→O)→O
  | 0,_,_,_,_=>none
  | n+1,x,k0,k1,k2=>w101F1 N  (fun v0 v1=>w101l1 N n (v0,x.2.1,x.2.2.1,v1,x.2.2.2.2.1,x.2.2.2.2.2.1,x.2.2.2.2.2.2.1,x.2.2.2.2.2.2.2.1,x.2.2.2.2.2.2.2.2.1,x.2.2.2.2.2.2.2.2.2) k0 k1 k2) (fun y0 y1 y2 y3 y4 y5 y6=>k0 (y0,y1,y2,y3,y4,y5,y6)) x.2.1 x.2.2.1 x.2.2.2.2.1 x.2.2.2.2.2.1 x.2.2.2.2.2.2.1 x.2.2.2.2.2.2.2.1 x.2.2.2.2.2.2.2.2.1 x.2.2.2.2.2.2.2.2.2 x.1 x.2.2.2.1
def w101n1 [Alg] (N:Nat) (a0:Int) (a1:(List Int)) (a2:Int) (a3:Int) (a4:Int) (a5:(List Int)) (a6:Int) (a7:(List UInt8)) (a8:(List (List UInt8))) (a9:(List UInt8)) (k0:Int→Int→(List Int)→Int→(List UInt8)→(List (List UInt8))→(List UInt8)→O):O:=w101l1 N N (a0,a1,a2,a3,a4,a5,a6,a7,a8,a9) (fun y=>k0 y.1 y.2.1 y.2.2.1 y.2.2.2.1 y.2.2.2.2.1 y.2.2.2.2.2.1 y.2.2.2.2.2.2) (fun _=>none) (fun _=>none)
noncomputable def w101s1 [Alg] (N:Nat) (a0:Int) (a1:(List Int)) (a2:Int) (a3:Int) (a4:Int) (a5:(List Int)) (a6:Int) (a7:(List UInt8)) (a8:(List (List UInt8))) (a9:(List UInt8)) (k0:Int→Int→(List Int)→Int→(List UInt8)→(List (List UInt8))→(List UInt8)→O):O:=subL w101I1 w101u1 (w101l1 N N) (w101I1 (a0,a1,a2,a3,a4,a5,a6,a7,a8,a9)) (fun y=>k0 y.1 y.2.1 y.2.2.1 y.2.2.2.1 y.2.2.2.2.1 y.2.2.2.2.2.1 y.2.2.2.2.2.2) (fun _=>none) (fun _=>none)
theorem w101e1 [Alg] (N:Nat):w101s1 N=w101n1 N:=funext fun _=>funext fun _=>funext fun _=>funext fun _=>funext fun _=>funext fun _=>funext fun _=>funext fun _=>funext fun _=>funext fun _=>funext fun _=>subL_I w101ui1 _ _ _ _
noncomputable def w101h1 [Alg] (_:Nat):Hint:=.d
theorem w101hk1 (N:Nat):HintOk (w101c N) Tryd.f101.ntmps (w101h1 N) w101b1:=hk_of _ _ trivial
theorem w101q1 [Alg] (N:Nat) (self:Sg→O) (K:Exit→Sg→O) (x:Int×(List Int)×Int×Int×Int×(List Int)×Int×(List UInt8)×(List (List UInt8))×(List UInt8)):w101F1 N  (fun v0 v1=>self (w101I1 (v0,x.2.1,x.2.2.1,v1,x.2.2.2.2.1,x.2.2.2.2.2.1,x.2.2.2.2.2.2.1,x.2.2.2.2.2.2.2.1,x.2.2.2.2.2.2.2.2.1,x.2.2.2.2.2.2.2.2.2))) (fun y0 y1 y2 y3 y4 y5 y6=>K (w101X1_0 (y0,y1,y2,y3,y4,y5,y6)).1 (w101X1_0 (y0,y1,y2,y3,y4,y5,y6)).2) x.2.1 x.2.2.1 x.2.2.2.2.1 x.2.2.2.2.2.1 x.2.2.2.2.2.2.1 x.2.2.2.2.2.2.2.1 x.2.2.2.2.2.2.2.2.1 x.2.2.2.2.2.2.2.2.2 x.1 x.2.2.2.1=exec (w101c N) Tryd.f101.ntmps (w101h1 N) w101b1 (w101I1 x) (roundX w101m1 w101w1 self K):=by kernel_rfl
theorem w101S1 (N:Nat) (hc:CxOk (w101c N)):SubOk (w101c N) Tryd.f101.ntmps (.loop w101b1) w101X1_0 (noX 1) (noX 2) (subL w101I1 w101u1 (w101l1 N N)):=
  sub_loop hc (w101hk1 N) w101o1 (n:=N) (fun x K=>loop_ind (w101l1 N) (fun _ _ _ _=>rfl) (fun n K ih x=>by
    have h:w101F1 N  (fun v0 v1=>w101l1 N n (v0,x.2.1,x.2.2.1,v1,x.2.2.2.2.1,x.2.2.2.2.2.1,x.2.2.2.2.2.2.1,x.2.2.2.2.2.2.2.1,x.2.2.2.2.2.2.2.2.1,x.2.2.2.2.2.2.2.2.2) (fun y=>K (w101X1_0 y).1 (w101X1_0 y).2) (fun y=>K ((noX 1) y).1 ((noX 1) y).2) (fun y=>K ((noX 2) y).1 ((noX 2) y).2)) (fun y0 y1 y2 y3 y4 y5 y6=>K (w101X1_0 (y0,y1,y2,y3,y4,y5,y6)).1 (w101X1_0 (y0,y1,y2,y3,y4,y5,y6)).2) x.2.1 x.2.2.1 x.2.2.2.2.1 x.2.2.2.2.2.1 x.2.2.2.2.2.2.1 x.2.2.2.2.2.2.2.1 x.2.2.2.2.2.2.2.2.1 x.2.2.2.2.2.2.2.2.2 x.1 x.2.2.2.1=w101F1 N  (fun v0 v1=>loopX (w101c N) Tryd.f101.ntmps (w101h1 N) w101b1 w101m1 w101w1 n (w101I1 (v0,x.2.1,x.2.2.1,v1,x.2.2.2.2.1,x.2.2.2.2.2.1,x.2.2.2.2.2.2.1,x.2.2.2.2.2.2.2.1,x.2.2.2.2.2.2.2.2.1,x.2.2.2.2.2.2.2.2.2)) K) (fun y0 y1 y2 y3 y4 y5 y6=>K (w101X1_0 (y0,y1,y2,y3,y4,y5,y6)).1 (w101X1_0 (y0,y1,y2,y3,y4,y5,y6)).2) x.2.1 x.2.2.1 x.2.2.2.2.1 x.2.2.2.2.2.1 x.2.2.2.2.2.2.1 x.2.2.2.2.2.2.2.1 x.2.2.2.2.2.2.2.2.1 x.2.2.2.2.2.2.2.2.2 x.1 x.2.2.2.1:=by rw [ show (fun v0 v1=>w101l1 N n (v0,x.2.1,x.2.2.1,v1,x.2.2.2.2.1,x.2.2.2.2.2.1,x.2.2.2.2.2.2.1,x.2.2.2.2.2.2.2.1,x.2.2.2.2.2.2.2.2.1,x.2.2.2.2.2.2.2.2.2) (fun y=>K (w101X1_0 y).1 (w101X1_0 y).2) (fun y=>K ((noX 1) y).1 ((noX 1) y).2) (fun y=>K ((noX 2) y).1 ((noX 2) y).2))=(fun v0 v1=>loopX (w101c N) Tryd.f101.ntmps (w101h1 N) w101b1 w101m1 w101w1 n (w101I1 (v0,x.2.1,x.2.2.1,v1,x.2.2.2.2.1,x.2.2.2.2.2.1,x.2.2.2.2.2.2.1,x.2.2.2.2.2.2.2.1,x.2.2.2.2.2.2.2.2.1,x.2.2.2.2.2.2.2.2.2)) K) from funext fun _=>funext fun _=>ih _]
    exact h.trans (w101q1 N (fun σ=>loopX (w101c N) Tryd.f101.ntmps (w101h1 N) w101b1 w101m1 w101w1 n σ K) K x)) N x K)
def w101G [Alg] (_:Nat) (in0:Int→(List Int)→Int→(List UInt8)→(List (List UInt8))→(Int→(List Int)→Int→(List UInt8)→(List (List UInt8))→(List UInt8)→O)→O) (in1:Int→(List Int)→Int→Int→Int→(List Int)→Int→(List UInt8)→(List (List UInt8))→(List UInt8)→(Int→Int→(List Int)→Int→(List UInt8)→(List (List UInt8))→(List UInt8)→O)→O) (h50_0:Int) (h51_0:(List Int)) (h52_0:Int) (h54_0:(List UInt8)) (h55_0:(List (List UInt8))):O:=
  in0 h50_0 h51_0 h52_0 h54_0 h55_0
    (fun z1 z2 z3 z4 z5 z6=>
      in1 z1 z2 ((↑z2.length:Int)) ((0:Int)) z1 z2 z3 z4 z5 z6
        (fun z11 z12 z13 z14 z15 z16 z17=>
          ck (slcOk z15.length (some z12) (some z11)) <|
          ck (lim (z17++slc z15 (some z12) (some z11)).length (1:Nat)) <|
          ck (lim (z16++[z17++slc z15 (some z12) (some z11)]).length (24:Nat)) <|
          some (w101r0 (decide (z12 < z11)) z11 z13 z14 z15 (z16++[z17++slc z15 (some z12) (some z11)]))))
def w101 [Alg] (N:Nat) (h50_0:Int) (h51_0:(List Int)) (h52_0:Int) (h54_0:(List UInt8)) (h55_0:(List (List UInt8))):O:=w101G N (w101n0 N) (w101n1 N) h50_0 h51_0 h52_0 h54_0 h55_0
noncomputable def w101h [Alg] (N:Nat):Hint:=(.seq .d (.seq .d (.seq (.sub w101m0 _ _ _ w101X0_0 (noX 1) (noX 2) (subL w101I0 w101u0 (w101l0 N N))) (.seq .d (.seq (.seq .d (.block (.sub w101m1 _ _ _ w101X1_0 (noX 1) (noX 2) (subL w101I1 w101u1 (w101l1 N N))))) (.seq (.reg [] [.slr 6] [[],[],[],[],[],[],[148,0],[],[164,55],[53]]) .d))))))
theorem w101hk (N:Nat) (hc:CxOk (w101c N)):HintOk (w101c N) Tryd.f101.ntmps (w101h N) w101b:=hk_of _ _ (And.intro trivial (And.intro trivial (And.intro (w101S0 N hc) (And.intro trivial (And.intro (And.intro trivial (w101S1 N hc)) (And.intro trivial trivial))))))
theorem w101q [Alg] (N:Nat) (h50_0:Int) (h51_0:(List Int)) (h52_0:Int) (h54_0:(List UInt8)) (h55_0:(List (List UInt8))):w101G N (w101s0 N) (w101s1 N) h50_0 h51_0 h52_0 h54_0 h55_0=exec (w101c N) Tryd.f101.ntmps (w101h N) w101b ⟨argT 0 [.ref 50 0,.ref 51 0,.ref 52 0,.ref 53 0,.ref 54 0],[(50,.box 3 [.e (.i .i64) h50_0]),(51,.box 22 [.e (.sl (.i .i64)) h51_0]),(52,.box 3 [.e (.i .i64) h52_0]),(53,.box 96 [.own 55]),(54,.box 57 [.e (.sl .u8) h54_0]),(55,.row 57 (.sl .u8) h55_0 true)],100⟩ (finX (w101c N) Tryd.f101 true):=by kernel_rfl
theorem w101does {N:Nat} (hc:CxOk (w101c N)) {h50_0:Int} {h51_0:(List Int)} {h52_0:Int} {h54_0:(List UInt8)} {h55_0:(List (List UInt8))} {r:Res} (h:w101 N h50_0 h51_0 h52_0 h54_0 h55_0=some r):DoesR Tryd.prog 101 (([.ref 50 0,.ref 51 0,.ref 52 0,.ref 53 0,.ref 54 0]:List X).map X.D) (HA [(50,.box 3 [.e (.i .i64) h50_0]),(51,.box 22 [.e (.sl (.i .i64)) h51_0]),(52,.box 3 [.e (.i .i64) h52_0]),(53,.box 96 [.own 55]),(54,.box 57 [.e (.sl .u8) h54_0]),(55,.row 57 (.sl .u8) h55_0 true)]) r:=
  fun_ok hc (f:=101) (fn:=Tryd.f101) (code:=w101b) (by kernel_rfl) (by kernel_rfl) (w101hk N hc) (Nat.le_of_ble_eq_true (by kernel_rfl)) (ow:=true) ((w101q N h50_0 h51_0 h52_0 h54_0 h55_0).symm.trans (by rw [w101e0 N,w101e1 N];exact h))
def w101un (r:Res):Option (Bool×Int×(List Int)×Int×(List UInt8)×(List (List UInt8))):=match r with
  | (x0,[(50,.box 3 [x1]),(51,.box 22 [x2]),(52,.box 3 [x3]),(53,.box 96 [.own 100]),(54,.box 57 [x4]),(100,x5)])=>(match ue .bo x0,ue (.i .i64) x1,ue (.sl (.i .i64)) x2,ue (.i .i64) x3,ue (.sl .u8) x4,ur 57 (.sl .u8) true x5 with | some a0,some a1,some a2,some a3,some a4,some a5=>some (a0,a1,a2,a3,a4,a5) | _,_,_,_,_,_=>none)
  | _=>none
theorem w101uo {r:Res} {d:Bool×Int×(List Int)×Int×(List UInt8)×(List (List UInt8))} (h:w101un r=some d):r=w101r0 (d.1) (d.2.1) (d.2.2.1) (d.2.2.2.1) (d.2.2.2.2.1) (d.2.2.2.2.2):=by
  unfold w101un at h
  split at h
  · split at h
    · rename_i h0 h1 h2 h3 h4 h5;cases h;rw [ue_some h0,ue_some h1,ue_some h2,ue_some h3,ue_some h4,ur_some h5];rfl
    · cases h
  · cases h
def w101z (N:Nat) (h50_0:Int) (h51_0:(List Int)) (h52_0:Int) (h54_0:(List UInt8)) (h55_0:(List (List UInt8))):Option (Bool×Int×(List Int)×Int×(List UInt8)×(List (List UInt8))):=(w101 N h50_0 h51_0 h52_0 h54_0 h55_0).bind w101un
theorem w101fin {N:Nat} (hc:CxOk (w101c N)) {h50_0:Int} {h51_0:(List Int)} {h52_0:Int} {h54_0:(List UInt8)} {h55_0:(List (List UInt8))} {d:Bool×Int×(List Int)×Int×(List UInt8)×(List (List UInt8))} (hd:w101z N h50_0 h51_0 h52_0 h54_0 h55_0=some d):Does Tryd.prog 101 (([.ref 50 0,.ref 51 0,.ref 52 0,.ref 53 0,.ref 54 0]:List X).map X.D) (HA [(50,.box 3 [.e (.i .i64) h50_0]),(51,.box 22 [.e (.sl (.i .i64)) h51_0]),(52,.box 3 [.e (.i .i64) h52_0]),(53,.box 96 [.own 55]),(54,.box 57 [.e (.sl .u8) h54_0]),(55,.row 57 (.sl .u8) h55_0 true)]) (w101r0 (d.1) (d.2.1) (d.2.2.1) (d.2.2.2.1) (d.2.2.2.2.1) (d.2.2.2.2.2)).1.D (HA (w101r0 (d.1) (d.2.1) (d.2.2.1) (d.2.2.2.1) (d.2.2.2.2.1) (d.2.2.2.2.2)).2):=by
  obtain ⟨r,hr,hu⟩:=Option.bind_eq_some_iff.1 hd
  have:=w101does hc hr
  rw [w101uo hu] at this
  exact this
def w101p (N:Nat) (h50_0:Int) (h51_0:(List Int)) (h52_0:Int) (h54_0:(List UInt8)) (h55_0:(List (List UInt8))):Bool:=(w101z N h50_0 h51_0 h52_0 h54_0 h55_0).isSome
def w101y0 (N:Nat) (h50_0:Int) (h51_0:(List Int)) (h52_0:Int) (h54_0:(List UInt8)) (h55_0:(List (List UInt8))):Bool:=((w101z N h50_0 h51_0 h52_0 h54_0 h55_0).getD (false,0,[],0,[],[])).1
def w101y1 (N:Nat) (h50_0:Int) (h51_0:(List Int)) (h52_0:Int) (h54_0:(List UInt8)) (h55_0:(List (List UInt8))):Int:=((w101z N h50_0 h51_0 h52_0 h54_0 h55_0).getD (false,0,[],0,[],[])).2.1
def w101y2 (N:Nat) (h50_0:Int) (h51_0:(List Int)) (h52_0:Int) (h54_0:(List UInt8)) (h55_0:(List (List UInt8))):(List Int):=((w101z N h50_0 h51_0 h52_0 h54_0 h55_0).getD (false,0,[],0,[],[])).2.2.1
def w101y3 (N:Nat) (h50_0:Int) (h51_0:(List Int)) (h52_0:Int) (h54_0:(List UInt8)) (h55_0:(List (List UInt8))):Int:=((w101z N h50_0 h51_0 h52_0 h54_0 h55_0).getD (false,0,[],0,[],[])).2.2.2.1
def w101y4 (N:Nat) (h50_0:Int) (h51_0:(List Int)) (h52_0:Int) (h54_0:(List UInt8)) (h55_0:(List (List UInt8))):(List UInt8):=((w101z N h50_0 h51_0 h52_0 h54_0 h55_0).getD (false,0,[],0,[],[])).2.2.2.2.1
def w101y5 (N:Nat) (h50_0:Int) (h51_0:(List Int)) (h52_0:Int) (h54_0:(List UInt8)) (h55_0:(List (List UInt8))):(List (List UInt8)):=((w101z N h50_0 h51_0 h52_0 h54_0 h55_0).getD (false,0,[],0,[],[])).2.2.2.2.2
def w101in (xs:List X) (H:XH):Option (Int×(List Int)×Int×(List UInt8)×(List (List UInt8))):=match xs,H with
  | [.ref 50 0,.ref 51 0,.ref 52 0,.ref 53 0,.ref 54 0],[(50,.box 3 [x0]),(51,.box 22 [x1]),(52,.box 3 [x2]),(53,.box 96 [.own 55]),(54,.box 57 [x3]),(55,x4)]=>(match ue (.i .i64) x0,ue (.sl (.i .i64)) x1,ue (.i .i64) x2,ue (.sl .u8) x3,ur 57 (.sl .u8) true x4 with | some a0,some a1,some a2,some a3,some a4=>some (a0,a1,a2,a3,a4) | _,_,_,_,_=>none)
  | _,_=>none
theorem w101io {xs:List X} {H:XH} {d:Int×(List Int)×Int×(List UInt8)×(List (List UInt8))} (h:w101in xs H=some d):xs=[.ref 50 0,.ref 51 0,.ref 52 0,.ref 53 0,.ref 54 0]∧H=[(50,.box 3 [.e (.i .i64) (d.1)]),(51,.box 22 [.e (.sl (.i .i64)) (d.2.1)]),(52,.box 3 [.e (.i .i64) (d.2.2.1)]),(53,.box 96 [.own 55]),(54,.box 57 [.e (.sl .u8) (d.2.2.2.1)]),(55,.row 57 (.sl .u8) (d.2.2.2.2) true)]:=by
  unfold w101in at h
  split at h
  · split at h
    · rename_i h0 h1 h2 h3 h4;cases h;rw [ue_some h0,ue_some h1,ue_some h2,ue_some h3,ur_some h4];exact ⟨rfl,rfl⟩
    · cases h
  · cases h
def w101e (N:Nat):Ent':=fun xs H=>match w101in xs H with | some d=>some (w101p N (d.1) (d.2.1) (d.2.2.1) (d.2.2.2.1) (d.2.2.2.2),w101r0 (w101y0 N (d.1) (d.2.1) (d.2.2.1) (d.2.2.2.1) (d.2.2.2.2)) (w101y1 N (d.1) (d.2.1) (d.2.2.1) (d.2.2.2.1) (d.2.2.2.2)) (w101y2 N (d.1) (d.2.1) (d.2.2.1) (d.2.2.2.1) (d.2.2.2.2)) (w101y3 N (d.1) (d.2.1) (d.2.2.1) (d.2.2.2.1) (d.2.2.2.2)) (w101y4 N (d.1) (d.2.1) (d.2.2.1) (d.2.2.2.1) (d.2.2.2.2)) (w101y5 N (d.1) (d.2.1) (d.2.2.1) (d.2.2.2.1) (d.2.2.2.2))) | none=>none
theorem w101re {N:Nat} {h50_0:Int} {h51_0:(List Int)} {h52_0:Int} {h54_0:(List UInt8)} {h55_0:(List (List UInt8))} {d:Bool×Int×(List Int)×Int×(List UInt8)×(List (List UInt8))} (hd:w101z N h50_0 h51_0 h52_0 h54_0 h55_0=some d):w101r0 (w101y0 N h50_0 h51_0 h52_0 h54_0 h55_0) (w101y1 N h50_0 h51_0 h52_0 h54_0 h55_0) (w101y2 N h50_0 h51_0 h52_0 h54_0 h55_0) (w101y3 N h50_0 h51_0 h52_0 h54_0 h55_0) (w101y4 N h50_0 h51_0 h52_0 h54_0 h55_0) (w101y5 N h50_0 h51_0 h52_0 h54_0 h55_0)=w101r0 (d.1) (d.2.1) (d.2.2.1) (d.2.2.2.1) (d.2.2.2.2.1) (d.2.2.2.2.2):=by unfold w101y0 w101y1 w101y2 w101y3 w101y4 w101y5;rw [hd];rfl
theorem w101ok (N:Nat):EOk Tryd.prog 101 (w101e N):=fun xs H pre r he hp=>by
  unfold w101e at he
  split at he
  · rename_i d hd
    have he:=Option.some.inj he
    have h1:=congrArg Prod.fst he
    have h2:=congrArg Prod.snd he
    simp only at h1 h2
    obtain ⟨e1,e2⟩:=w101io hd
    rw [e1,e2,← h2]
    have h:(w101z N (d.1) (d.2.1) (d.2.2.1) (d.2.2.2.1) (d.2.2.2.2)).isSome=true:=h1.trans hp
    obtain ⟨d',hd'⟩:=Option.isSome_iff_exists.1 h
    have f:=w101fin (w101cx N) hd'
    rw [← w101re hd'] at f
    exact f
  · cases he
def w73r0 (a0:(List (List UInt8))) (a1:Int):Res:=(.tup [.e (.sl (.sl .u8)) a0,.e (.i .i64) a1],[])
noncomputable def w73L (N:Nat):List (Nat×Ent'):=[(101,w101e N),(40,w40e N),(72,w72e N)]
noncomputable def w73c (N:Nat):Cx:=⟨Tryd.prog,25,w73L N,[]⟩
noncomputable def w73b:Code:=Tryd.f73.body.getD .skip
theorem w73cx (N:Nat):CxOk (w73c N):=ctx_ok (by kernel_rfl) (.cons (by kernel_rfl) (w101ok N) (.cons (by kernel_rfl) (w40ok N) (.cons (by kernel_rfl) (w72ok N) .nil))) .nil
def w73F0 [Alg] (N:Nat)  (self:(List UInt8)→Int→(List Int)→Int→(List (List UInt8))→O) (k0:Int→O) (k1:(List (List UInt8))→O) (x0_0:(List UInt8)) (x0_1:Int) (x0_2:(List Int)) (x0_3:Int) (x0_4:(List (List UInt8))):O:=
  br (decide (x0_1 < (↑x0_0.length:Int)))
    (ck (w101p N x0_1 x0_2 x0_3 x0_0 x0_4) <|
    br (!w101y0 N x0_1 x0_2 x0_3 x0_0 x0_4)
      (k0 ((14:Int)))
      (self (w101y4 N x0_1 x0_2 x0_3 x0_0 x0_4) (w101y1 N x0_1 x0_2 x0_3 x0_0 x0_4) (w101y2 N x0_1 x0_2 x0_3 x0_0 x0_4) (w101y3 N x0_1 x0_2 x0_3 x0_0 x0_4) (w101y5 N x0_1 x0_2 x0_3 x0_0 x0_4)))
    (k1 x0_4)
noncomputable def w73b0:Code:=atC [1,1,1,1,1,1,1,1,1,0,0,0] w73b
def w73m0:Nm:=⟨[6,11,12,13],[],[]⟩
def w73I0 (x:(List UInt8)×Int×(List Int)×Int×(List (List UInt8))):Sg:=⟨[(6,.ref 0 0),(11,.ref 1 0),(12,.ref 2 0),(13,.fn 101 [.ref 2 0,.ref 3 0,.ref 4 0,.ref 1 0,.ref 0 0])],[(0,.box 57 [.e (.sl .u8) x.1]),(1,.box 96 [.own 5]),(2,.box 3 [.e (.i .i64) x.2.1]),(3,.box 22 [.e (.sl (.i .i64)) x.2.2.1]),(4,.box 3 [.e (.i .i64) x.2.2.2.1]),(5,.row 57 (.sl .u8) x.2.2.2.2 true)],100⟩
def w73u0 (σ:Sg):(List UInt8)×Int×(List Int)×Int×(List (List UInt8)):=(lvH (.sl .u8) 0 0 σ,lvH (.i .i64) 2 0 σ,lvH (.sl (.i .i64)) 3 0 σ,lvH (.i .i64) 4 0 σ,lvR (.sl .u8) 5 σ)
theorem w73ui0:∀ x,w73u0 (w73I0 x)=x:=fun _=>by kernel_rfl
def w73X0_0 (y:Int):Exit×Sg:=(.ret,⟨[(4,.nilS),(5,.e (.i .i64) y)],[],100⟩)
def w73v0_0 (_:Exit) (σ:Sg):Int:=lvT (.i .i64) 5 0 σ
def w73X0_1 (y:(List (List UInt8))):Exit×Sg:=((.exit 0),⟨[(11,.ref 0 0)],[(0,.box 96 [.own 1]),(1,.row 57 (.sl .u8) y true)],100⟩)
def w73v0_1 (_:Exit) (σ:Sg):(List (List UInt8)):=lvR (.sl .u8) 1 σ
def w73w0:List (Exit×Nm):=[(.ret,⟨[4,5],[],[]⟩),((.exit 0),⟨[11],[],[]⟩)]
theorem w73o0:Outs w73v0_0 w73v0_1 (fun _ _=>()) w73X0_0 w73X0_1 (noX 2) (exC .ret) (exC (.exit 0)) (exC (.goto 2)):=⟨fun _=>by kernel_rfl,fun _=>by kernel_rfl,fun _=>by kernel_rfl,fun _=>by kernel_rfl,fun _=>by kernel_rfl,fun _=>by kernel_rfl,exNe_ok (by kernel_rfl),exNe_ok (by kernel_rfl),exNe_ok (by kernel_rfl)⟩
def w73l0 [Alg] (N:Nat):Nat→((List UInt8)×Int×(List Int)×Int×(List (List UInt8)))→((Int)→O)→(((List (List UInt8)))→O)→((Unit)→O)→O
  | 0,_,_,_,_=>none
  | n+1,x,k0,k1,k2=>w73F0 N  (fun v0 v1 v2 v3 v4=>w73l0 N n (v0,v1,v2,v3,v4) k0 k1 k2) (fun y0=>k0 y0) (fun y0=>k1 y0) x.1 x.2.1 x.2.2.1 x.2.2.2.1 x.2.2.2.2
def w73n0 [Alg] (N:Nat) (a0:(List UInt8)) (a1:Int) (a2:(List Int)) (a3:Int) (a4:(List (List UInt8))) (k0:Int→O) (k1:(List (List UInt8))→O):O:=w73l0 N N (a0,a1,a2,a3,a4) (fun y=>k0 y) (fun y=>k1 y) (fun _=>none)
noncomputable def w73s0 [Alg] (N:Nat) (a0:(List UInt8)) (a1:Int) (a2:(List Int)) (a3:Int) (a4:(List (List UInt8))) (k0:Int→O) (k1:(List (List UInt8))→O):O:=subL w73I0 w73u0 (w73l0 N N) (w73I0 (a0,a1,a2,a3,a4)) (fun y=>k0 y) (fun y=>k1 y) (fun _=>none)
theorem w73e0 [Alg] (N:Nat):w73s0 N=w73n0 N:=funext fun _=>funext fun _=>funext fun _=>funext fun _=>funext fun _=>funext fun _=>funext fun _=>subL_I w73ui0 _ _ _ _
noncomputable def w73h0 [Alg] (_:Nat):Hint:=.d
theorem w73hk0 (N:Nat):HintOk (w73c N) Tryd.f73.ntmps (w73h0 N) w73b0:=hk_of _ _ trivial
theorem w73q0 [Alg] (N:Nat) (self:Sg→O) (K:Exit→Sg→O) (x:(List UInt8)×Int×(List Int)×Int×(List (List UInt8))):w73F0 N  (fun v0 v1 v2 v3 v4=>self (w73I0 (v0,v1,v2,v3,v4))) (fun y0=>K (w73X0_0 y0).1 (w73X0_0 y0).2) (fun y0=>K (w73X0_1 y0).1 (w73X0_1 y0).2) x.1 x.2.1 x.2.2.1 x.2.2.2.1 x.2.2.2.2=exec (w73c N) Tryd.f73.ntmps (w73h0 N) w73b0 (w73I0 x) (roundX w73m0 w73w0 self K):=by kernel_rfl
theorem w73S0 (N:Nat) (hc:CxOk (w73c N)):SubOk (w73c N) Tryd.f73.ntmps (.loop w73b0) w73X0_0 w73X0_1 (noX 2) (subL w73I0 w73u0 (w73l0 N N)):=
  sub_loop hc (w73hk0 N) w73o0 (n:=N) (fun x K=>loop_ind (w73l0 N) (fun _ _ _ _=>rfl) (fun n K ih x=>by
    have h:w73F0 N  (fun v0 v1 v2 v3 v4=>w73l0 N n (v0,v1,v2,v3,v4) (fun y=>K (w73X0_0 y).1 (w73X0_0 y).2) (fun y=>K (w73X0_1 y).1 (w73X0_1 y).2) (fun y=>K ((noX 2) y).1 ((noX 2) y).2)) (fun y0=>K (w73X0_0 y0).1 (w73X0_0 y0).2) (fun y0=>K (w73X0_1 y0).1 (w73X0_1 y0).2) x.1 x.2.1 x.2.2.1 x.2.2.2.1 x.2.2.2.2=w73F0 N  (fun v0 v1 v2 v3 v4=>loopX (w73c N) Tryd.f73.ntmps (w73h0 N) w73b0 w73m0 w73w0 n (w73I0 (v0,v1,v2,v3,v4)) K) (fun y0=>K (w73X0_0 y0).1 (w73X0_0 y0).2) (fun y0=>K (w73X0_1 y0).1 (w73X0_1 y0).2) x.1 x.2.1 x.2.2.1 x.2.2.2.1 x.2.2.2.2:=by rw [ show (fun v0 v1 v2 v3 v4=>w73l0 N n (v0,v1,v2,v3,v4) (fun y=>K (w73X0_0 y).1 (w73X0_0 y).2) (fun y=>K (w73X0_1 y).1 (w73X0_1 y).2) (fun y=>K ((noX 2) y).1 ((noX 2) y).2))=(fun v0 v1 v2 v3 v4=>loopX (w73c N) Tryd.f73.ntmps (w73h0 N) w73b0 w73m0 w73w0 n (w73I0 (v0,v1,v2,v3,v4)) K) from funext fun _=>funext fun _=>funext fun _=>funext fun _=>funext fun _=>ih _]
    exact h.trans (w73q0 N (fun σ=>loopX (w73c N) Tryd.f73.ntmps (w73h0 N) w73b0 w73m0 w73w0 n σ K) K x)) N x K)
def w73G [Alg] (N:Nat) (in0:(List UInt8)→Int→(List Int)→Int→(List (List UInt8))→(Int→O)→((List (List UInt8))→O)→O) (e0_0:Int) (e0_1:Int) (e0_2:(List Ex)) (width1:Int):O:=
  let b0:=Ex.mk (Ex.mk e0_0 e0_1 e0_2).op (Ex.mk e0_0 e0_1 e0_2).num (Ex.mk e0_0 e0_1 e0_2).kids
  let b1:=w72y1 N b0.op b0.num b0.kids++[(↑(w40y0 N b0.op b0.num b0.kids).length:Int)]
  ck (w40p N b0.op b0.num b0.kids) <|
  br (decide (w40y1 N b0.op b0.num b0.kids≠(0:Int)))
    (some (w73r0 [] (w40y1 N b0.op b0.num b0.kids)))
    (br (decide (width1 < (4:Int))||decide ((40:Int) < width1))
      (some (w73r0 [] ((5:Int))))
      (ck (w72p N b0.op b0.num b0.kids) <|
      ck (lim b1.length (8:Nat)) <|
      in0 (w40y0 N b0.op b0.num b0.kids) ((0:Int)) b1 width1 []
        (fun z1=>
          some (w73r0 [] z1))
        (fun z2=>
          some (w73r0 z2 ((0:Int))))))
def w73 [Alg] (N:Nat) (e0_0:Int) (e0_1:Int) (e0_2:(List Ex)) (width1:Int):O:=w73G N (w73n0 N) e0_0 e0_1 e0_2 width1
noncomputable def w73h [Alg] (N:Nat):Hint:=(.seq .d (.seq .d (.seq .d (.seq .d (.seq .d (.seq .d (.seq .d (.seq .d (.seq (.reg [] [.cv 10 0 (.sl (.i .i64)),.nilC 11 0 (.row 57 (.sl .u8) [] true)] []) (.seq (.block (.sub w73m0 _ _ _ w73X0_0 w73X0_1 (noX 2) (subL w73I0 w73u0 (w73l0 N N)))) .d))))))))))
theorem w73hk (N:Nat) (hc:CxOk (w73c N)):HintOk (w73c N) Tryd.f73.ntmps (w73h N) w73b:=hk_of _ _ (And.intro trivial (And.intro trivial (And.intro trivial (And.intro trivial (And.intro trivial (And.intro trivial (And.intro trivial (And.intro trivial (And.intro trivial (And.intro (w73S0 N hc) trivial))))))))))
theorem w73q [Alg] (N:Nat) (e0_0:Int) (e0_1:Int) (e0_2:(List Ex)) (width1:Int):w73G N (w73s0 N) e0_0 e0_1 e0_2 width1=exec (w73c N) Tryd.f73.ntmps (w73h N) w73b ⟨argT 0 [.agg [.e (.i .i64) e0_0,.e (.i .i64) e0_1,.e (.sl .ex) e0_2],.e (.i .i64) width1],[],100⟩ (finX (w73c N) Tryd.f73 false):=by kernel_rfl
theorem w73does {N:Nat} (hc:CxOk (w73c N)) {e0_0:Int} {e0_1:Int} {e0_2:(List Ex)} {width1:Int} {r:Res} (h:w73 N e0_0 e0_1 e0_2 width1=some r):DoesR Tryd.prog 73 (([.agg [.e (.i .i64) e0_0,.e (.i .i64) e0_1,.e (.sl .ex) e0_2],.e (.i .i64) width1]:List X).map X.D) (HA []) r:=
  fun_ok hc (f:=73) (fn:=Tryd.f73) (code:=w73b) (by kernel_rfl) (by kernel_rfl) (w73hk N hc) (Nat.le_of_ble_eq_true (by kernel_rfl)) (ow:=false) ((w73q N e0_0 e0_1 e0_2 width1).symm.trans (by rw [w73e0 N];exact h))
def w73un (r:Res):Option ((List (List UInt8))×Int):=match r with
  | (.tup [x0,x1],[])=>(match ue (.sl (.sl .u8)) x0,ue (.i .i64) x1 with | some a0,some a1=>some (a0,a1) | _,_=>none)
  | _=>none
theorem w73uo {r:Res} {d:(List (List UInt8))×Int} (h:w73un r=some d):r=w73r0 (d.1) (d.2):=by
  unfold w73un at h
  split at h
  · split at h
    · rename_i h0 h1;cases h;rw [ue_some h0,ue_some h1];rfl
    · cases h
  · cases h
def w73z (N:Nat) (e0_0:Int) (e0_1:Int) (e0_2:(List Ex)) (width1:Int):Option ((List (List UInt8))×Int):=(w73 N e0_0 e0_1 e0_2 width1).bind w73un
theorem w73fin {N:Nat} (hc:CxOk (w73c N)) {e0_0:Int} {e0_1:Int} {e0_2:(List Ex)} {width1:Int} {d:(List (List UInt8))×Int} (hd:w73z N e0_0 e0_1 e0_2 width1=some d):Does Tryd.prog 73 (([.agg [.e (.i .i64) e0_0,.e (.i .i64) e0_1,.e (.sl .ex) e0_2],.e (.i .i64) width1]:List X).map X.D) (HA []) (w73r0 (d.1) (d.2)).1.D (HA (w73r0 (d.1) (d.2)).2):=by
  obtain ⟨r,hr,hu⟩:=Option.bind_eq_some_iff.1 hd
  have:=w73does hc hr
  rw [w73uo hu] at this
  exact this
def w73p (N:Nat) (e0_0:Int) (e0_1:Int) (e0_2:(List Ex)) (width1:Int):Bool:=(w73z N e0_0 e0_1 e0_2 width1).isSome
def w73y0 (N:Nat) (e0_0:Int) (e0_1:Int) (e0_2:(List Ex)) (width1:Int):(List (List UInt8)):=((w73z N e0_0 e0_1 e0_2 width1).getD ([],0)).1
def w73y1 (N:Nat) (e0_0:Int) (e0_1:Int) (e0_2:(List Ex)) (width1:Int):Int:=((w73z N e0_0 e0_1 e0_2 width1).getD ([],0)).2
def w73e (N:Nat):Ent':=E2 .ex (.i .i64)  (fun x0 x1=>(w73p N (Ex.op x0) (Ex.num x0) (Ex.kids x0) x1,w73r0 (w73y0 N (Ex.op x0) (Ex.num x0) (Ex.kids x0) x1) (w73y1 N (Ex.op x0) (Ex.num x0) (Ex.kids x0) x1)))
theorem w73re {N:Nat} {e0_0:Int} {e0_1:Int} {e0_2:(List Ex)} {width1:Int} {d:(List (List UInt8))×Int} (hd:w73z N e0_0 e0_1 e0_2 width1=some d):w73r0 (w73y0 N e0_0 e0_1 e0_2 width1) (w73y1 N e0_0 e0_1 e0_2 width1)=w73r0 (d.1) (d.2):=by unfold w73y0 w73y1;rw [hd];rfl
theorem w73ok (N:Nat):EOk Tryd.prog 73 (w73e N):=EOk.e2 (fun x0 x1 h=>by
  have h:(w73z N (Ex.op x0) (Ex.num x0) (Ex.kids x0) x1).isSome=true:=h
  obtain ⟨d,hd⟩:=Option.isSome_iff_exists.1 h
  have f:=w73fin (w73cx N) hd
  rw [← w73re hd] at f
  exact f)
def w103r0 (a0:(List UInt8)):Res:=(.v Value.nilIface,[(50,.box 125 [.via 50 0,.own 100]),(100,.row 5 .u8 a0 true)])
noncomputable def w103L (N:Nat):List (Nat×Ent'):=[(115,w115e N)]
noncomputable def w103c (N:Nat):Cx:=⟨Tryd.prog,25,w103L N,[]⟩
noncomputable def w103b:Code:=Tryd.f103.body.getD .skip
theorem w103cx (N:Nat):CxOk (w103c N):=ctx_ok (by kernel_rfl) (.cons (by kernel_rfl) (w115ok N) .nil) .nil
def w103G [Alg] (_:Nat)  (c1:UInt8) (h51_0:(List UInt8)):O:=
  ck true <|
  ck (lim (h51_0++[c1]).length (1:Nat)) <|
  some (w103r0 (h51_0++[c1]))
def w103 [Alg] (N:Nat) (c1:UInt8) (h51_0:(List UInt8)):O:=w103G N  c1 h51_0
noncomputable def w103h [Alg] (_:Nat):Hint:=.d
theorem w103hk (N:Nat):HintOk (w103c N) Tryd.f103.ntmps (w103h N) w103b:=hk_of _ _ trivial
theorem w103q [Alg] (N:Nat) (c1:UInt8) (h51_0:(List UInt8)):w103G N  c1 h51_0=exec (w103c N) Tryd.f103.ntmps (w103h N) w103b ⟨argT 0 [.ref 50 0,.e .u8 c1],[(50,.box 125 [.via 50 0,.own 51]),(51,.row 5 .u8 h51_0 true)],100⟩ (finX (w103c N) Tryd.f103 true):=by kernel_rfl
theorem w103does {N:Nat} (hc:CxOk (w103c N)) {c1:UInt8} {h51_0:(List UInt8)} {r:Res} (h:w103 N c1 h51_0=some r):DoesR Tryd.prog 103 (([.ref 50 0,.e .u8 c1]:List X).map X.D) (HA [(50,.box 125 [.via 50 0,.own 51]),(51,.row 5 .u8 h51_0 true)]) r:=
  fun_ok hc (f:=103) (fn:=Tryd.f103) (code:=w103b) (by kernel_rfl) (by kernel_rfl) (w103hk N) (Nat.le_of_ble_eq_true (by kernel_rfl)) (ow:=true) ((w103q N c1 h51_0).symm.trans (by exact h))
def w103un (r:Res):Option ((List UInt8)):=match r with
  | (.v Value.nilIface,[(50,.box 125 [.via 50 0,.own 100]),(100,x0)])=>(match ur 5 .u8 true x0 with | some a0=>some a0 | _=>none)
  | _=>none
theorem w103uo {r:Res} {d:(List UInt8)} (h:w103un r=some d):r=w103r0 (d):=by
  unfold w103un at h
  split at h
  · split at h
    · rename_i h0;cases h;rw [ur_some h0];rfl
    · cases h
  · cases h
def w103z (N:Nat) (c1:UInt8) (h51_0:(List UInt8)):Option ((List UInt8)):=(w103 N c1 h51_0).bind w103un
theorem w103fin {N:Nat} (hc:CxOk (w103c N)) {c1:UInt8} {h51_0:(List UInt8)} {d:(List UInt8)} (hd:w103z N c1 h51_0=some d):Does Tryd.prog 103 (([.ref 50 0,.e .u8 c1]:List X).map X.D) (HA [(50,.box 125 [.via 50 0,.own 51]),(51,.row 5 .u8 h51_0 true)]) (w103r0 (d)).1.D (HA (w103r0 (d)).2):=by
  obtain ⟨r,hr,hu⟩:=Option.bind_eq_some_iff.1 hd
  have:=w103does hc hr
  rw [w103uo hu] at this
  exact this
def w103p (N:Nat) (c1:UInt8) (h51_0:(List UInt8)):Bool:=(w103z N c1 h51_0).isSome
def w103y0 (N:Nat) (c1:UInt8) (h51_0:(List UInt8)):(List UInt8):=((w103z N c1 h51_0).getD [])
def w103in (xs:List X) (H:XH):Option (UInt8×(List UInt8)):=match xs,H with
  | [.ref 50 0,x0],[(50,.box 125 [.via 50 0,.own 51]),(51,x1)]=>(match ue .u8 x0,ur 5 .u8 true x1 with | some a0,some a1=>some (a0,a1) | _,_=>none)
  | _,_=>none
theorem w103io {xs:List X} {H:XH} {d:UInt8×(List UInt8)} (h:w103in xs H=some d):xs=[.ref 50 0,.e .u8 (d.1)]∧H=[(50,.box 125 [.via 50 0,.own 51]),(51,.row 5 .u8 (d.2) true)]:=by
  unfold w103in at h
  split at h
  · split at h
    · rename_i h0 h1;cases h;rw [ue_some h0,ur_some h1];exact ⟨rfl,rfl⟩
    · cases h
  · cases h
def w103e (N:Nat):Ent':=fun xs H=>match w103in xs H with | some d=>some (w103p N (d.1) (d.2),w103r0 (w103y0 N (d.1) (d.2))) | none=>none
theorem w103re {N:Nat} {c1:UInt8} {h51_0:(List UInt8)} {d:(List UInt8)} (hd:w103z N c1 h51_0=some d):w103r0 (w103y0 N c1 h51_0)=w103r0 (d):=by unfold w103y0;rw [hd];rfl
theorem w103ok (N:Nat):EOk Tryd.prog 103 (w103e N):=fun xs H pre r he hp=>by
  unfold w103e at he
  split at he
  · rename_i d hd
    have he:=Option.some.inj he
    have h1:=congrArg Prod.fst he
    have h2:=congrArg Prod.snd he
    simp only at h1 h2
    obtain ⟨e1,e2⟩:=w103io hd
    rw [e1,e2,← h2]
    have h:(w103z N (d.1) (d.2)).isSome=true:=h1.trans hp
    obtain ⟨d',hd'⟩:=Option.isSome_iff_exists.1 h
    have f:=w103fin (w103cx N) hd'
    rw [← w103re hd'] at f
    exact f
  · cases he
def w104r0 (a0:(List UInt8)):Res:=(.e .tx a0,[])
noncomputable def w104L (_:Nat):List (Nat×Ent'):=[]
noncomputable def w104c (N:Nat):Cx:=⟨Tryd.prog,25,w104L N,[]⟩
noncomputable def w104b:Code:=Tryd.f104.body.getD .skip
theorem w104cx (N:Nat):CxOk (w104c N):=ctx_ok (by kernel_rfl) .nil .nil
def w104G [Alg] (_:Nat)  (h51_0:(List UInt8)):O:=
  ck (decide ((↑h51_0.length:Int)=(↑h51_0.length:Int))) <|
  some (w104r0 h51_0)
def w104 [Alg] (N:Nat) (h51_0:(List UInt8)):O:=w104G N  h51_0
noncomputable def w104h [Alg] (_:Nat):Hint:=(.seq .d (.seq (.reg [] [] [[],[],[],[],[],[],[],[],[],[],[51],[]]) .d))
theorem w104hk (N:Nat):HintOk (w104c N) Tryd.f104.ntmps (w104h N) w104b:=hk_of _ _ (And.intro trivial (And.intro trivial trivial))
theorem w104q [Alg] (N:Nat) (h51_0:(List UInt8)):w104G N  h51_0=exec (w104c N) Tryd.f104.ntmps (w104h N) w104b ⟨argT 0 [.ref 50 0],[(50,.box 125 [.via 50 0,.own 51]),(51,.row 5 .u8 h51_0 true)],100⟩ (finX (w104c N) Tryd.f104 true):=by kernel_rfl
theorem w104does {N:Nat} (hc:CxOk (w104c N)) {h51_0:(List UInt8)} {r:Res} (h:w104 N h51_0=some r):DoesR Tryd.prog 104 (([.ref 50 0]:List X).map X.D) (HA [(50,.box 125 [.via 50 0,.own 51]),(51,.row 5 .u8 h51_0 true)]) r:=
  fun_ok hc (f:=104) (fn:=Tryd.f104) (code:=w104b) (by kernel_rfl) (by kernel_rfl) (w104hk N) (Nat.le_of_ble_eq_true (by kernel_rfl)) (ow:=true) ((w104q N h51_0).symm.trans (by exact h))
def w104un (r:Res):Option ((List UInt8)):=match r with
  | (x0,[])=>(match ue .tx x0 with | some a0=>some a0 | _=>none)
  | _=>none
theorem w104uo {r:Res} {d:(List UInt8)} (h:w104un r=some d):r=w104r0 (d):=by
  unfold w104un at h
  split at h
  · split at h
    · rename_i h0;cases h;rw [ue_some h0];rfl
    · cases h
  · cases h
def w104z (N:Nat) (h51_0:(List UInt8)):Option ((List UInt8)):=(w104 N h51_0).bind w104un
theorem w104fin {N:Nat} (hc:CxOk (w104c N)) {h51_0:(List UInt8)} {d:(List UInt8)} (hd:w104z N h51_0=some d):Does Tryd.prog 104 (([.ref 50 0]:List X).map X.D) (HA [(50,.box 125 [.via 50 0,.own 51]),(51,.row 5 .u8 h51_0 true)]) (w104r0 (d)).1.D (HA (w104r0 (d)).2):=by
  obtain ⟨r,hr,hu⟩:=Option.bind_eq_some_iff.1 hd
  have:=w104does hc hr
  rw [w104uo hu] at this
  exact this
def w104p (N:Nat) (h51_0:(List UInt8)):Bool:=(w104z N h51_0).isSome
def w104y0 (N:Nat) (h51_0:(List UInt8)):(List UInt8):=((w104z N h51_0).getD [])
def w104in (xs:List X) (H:XH):Option ((List UInt8)):=match xs,H with
  | [.ref 50 0],[(50,.box 125 [.via 50 0,.own 51]),(51,x0)]=>(match ur 5 .u8 true x0 with | some a0=>some a0 | _=>none)
  | _,_=>none
theorem w104io {xs:List X} {H:XH} {d:(List UInt8)} (h:w104in xs H=some d):xs=[.ref 50 0]∧H=[(50,.box 125 [.via 50 0,.own 51]),(51,.row 5 .u8 (d) true)]:=by
  unfold w104in at h
  split at h
  · split at h
    · rename_i h0;cases h;rw [ur_some h0];exact ⟨rfl,rfl⟩
    · cases h
  · cases h
def w104e (N:Nat):Ent':=fun xs H=>match w104in xs H with | some d=>some (w104p N (d),w104r0 (w104y0 N (d))) | none=>none
theorem w104re {N:Nat} {h51_0:(List UInt8)} {d:(List UInt8)} (hd:w104z N h51_0=some d):w104r0 (w104y0 N h51_0)=w104r0 (d):=by unfold w104y0;rw [hd];rfl
theorem w104ok (N:Nat):EOk Tryd.prog 104 (w104e N):=fun xs H pre r he hp=>by
  unfold w104e at he
  split at he
  · rename_i d hd
    have he:=Option.some.inj he
    have h1:=congrArg Prod.fst he
    have h2:=congrArg Prod.snd he
    simp only at h1 h2
    obtain ⟨e1,e2⟩:=w104io hd
    rw [e1,e2,← h2]
    have h:(w104z N (d)).isSome=true:=h1.trans hp
    obtain ⟨d',hd'⟩:=Option.isSome_iff_exists.1 h
    have f:=w104fin (w104cx N) hd'
    rw [← w104re hd'] at f
    exact f
  · cases he
def w76r0 (a0:(List UInt8)) (a1:Bool):Res:=(.tup [.e .tx a0,.e .bo a1],[])
noncomputable def w76L (N:Nat):List (Nat×Ent'):=[(75,w75e N),(103,w103e N),(104,w104e N)]
noncomputable def w76c (N:Nat):Cx:=⟨Tryd.prog,25,w76L N,[]⟩
noncomputable def w76b:Code:=Tryd.f76.body.getD .skip
theorem w76cx (N:Nat):CxOk (w76c N):=ctx_ok (by kernel_rfl) (.cons (by kernel_rfl) (w75ok N) (.cons (by kernel_rfl) (w103ok N) (.cons (by kernel_rfl) (w104ok N) .nil))) .nil
def w76F0 [Alg] (N:Nat)  (self:Bool→Int→(List UInt8)→O) (k0:(List UInt8)→Bool→O) (k1:(List UInt8)→O) (x0_0:(List UInt8)) (x0_1:Bool) (x0_2:Int) (x0_3:(List UInt8)):O:=
  let b0:=IntKind.i64.wrap (x0_2+(1:Int))
  br (decide (x0_2 < (↑x0_0.length:Int)))
    (gx x0_0 x0_2 fun y7=>
    ck (w75p N [(26:UInt8),(1:UInt8),(3:UInt8),(9:UInt8),(25:UInt8),(17:UInt8),(11:UInt8),(27:UInt8),(19:UInt8),(10:UInt8)] y7) <|
    br (x0_1&&decide ((0:Int)≤w75y0 N [(26:UInt8),(1:UInt8),(3:UInt8),(9:UInt8),(25:UInt8),(17:UInt8),(11:UInt8),(27:UInt8),(19:UInt8),(10:UInt8)] y7))
      (ck (w103p N (u8of (IntKind.i64.wrap ((48:Int)+w75y0 N [(26:UInt8),(1:UInt8),(3:UInt8),(9:UInt8),(25:UInt8),(17:UInt8),(11:UInt8),(27:UInt8),(19:UInt8),(10:UInt8)] y7))) x0_3) <|
      self x0_1 b0 (w103y0 N (u8of (IntKind.i64.wrap ((48:Int)+w75y0 N [(26:UInt8),(1:UInt8),(3:UInt8),(9:UInt8),(25:UInt8),(17:UInt8),(11:UInt8),(27:UInt8),(19:UInt8),(10:UInt8)] y7))) x0_3))
      (br (decide (y7=(60:UInt8)))
        (self (decide (y7=(60:UInt8))) b0 x0_3)
        (br (decide (y7=(48:UInt8)))
          (br (decide ((↑x0_0.length:Int)≤IntKind.i64.wrap (x0_2+(1:Int))))
            (k0 [] false)
            (gx x0_0 b0 fun y8=>
            ck (w75p N [(1:UInt8),(3:UInt8),(9:UInt8),(25:UInt8),(17:UInt8),(11:UInt8),(27:UInt8),(19:UInt8),(10:UInt8),(26:UInt8),(5:UInt8),(7:UInt8),(13:UInt8),(29:UInt8),(21:UInt8),(15:UInt8),(31:UInt8),(23:UInt8),(14:UInt8),(30:UInt8),(37:UInt8),(39:UInt8),(58:UInt8),(45:UInt8),(61:UInt8),(53:UInt8)] y8) <|
            br (decide (w75y0 N [(1:UInt8),(3:UInt8),(9:UInt8),(25:UInt8),(17:UInt8),(11:UInt8),(27:UInt8),(19:UInt8),(10:UInt8),(26:UInt8),(5:UInt8),(7:UInt8),(13:UInt8),(29:UInt8),(21:UInt8),(15:UInt8),(31:UInt8),(23:UInt8),(14:UInt8),(30:UInt8),(37:UInt8),(39:UInt8),(58:UInt8),(45:UInt8),(61:UInt8),(53:UInt8)] y8 < (0:Int)))
              (k0 [] false)
              (ck (w103p N (u8of (IntKind.i64.wrap ((97:Int)+w75y0 N [(1:UInt8),(3:UInt8),(9:UInt8),(25:UInt8),(17:UInt8),(11:UInt8),(27:UInt8),(19:UInt8),(10:UInt8),(26:UInt8),(5:UInt8),(7:UInt8),(13:UInt8),(29:UInt8),(21:UInt8),(15:UInt8),(31:UInt8),(23:UInt8),(14:UInt8),(30:UInt8),(37:UInt8),(39:UInt8),(58:UInt8),(45:UInt8),(61:UInt8),(53:UInt8)] y8))) x0_3) <|
              self (decide (y7=(60:UInt8))) (IntKind.i64.wrap (IntKind.i64.wrap (x0_2+(1:Int))+(1:Int))) (w103y0 N (u8of (IntKind.i64.wrap ((97:Int)+w75y0 N [(1:UInt8),(3:UInt8),(9:UInt8),(25:UInt8),(17:UInt8),(11:UInt8),(27:UInt8),(19:UInt8),(10:UInt8),(26:UInt8),(5:UInt8),(7:UInt8),(13:UInt8),(29:UInt8),(21:UInt8),(15:UInt8),(31:UInt8),(23:UInt8),(14:UInt8),(30:UInt8),(37:UInt8),(39:UInt8),(58:UInt8),(45:UInt8),(61:UInt8),(53:UInt8)] y8))) x0_3))))
          (ck (w75p N [(22:UInt8),(36:UInt8),(33:UInt8),(12:UInt8),(24:UInt8),(54:UInt8),(42:UInt8),(28:UInt8),(55:UInt8),(62:UInt8)] y7) <|
          br (decide (w75y0 N [(22:UInt8),(36:UInt8),(33:UInt8),(12:UInt8),(24:UInt8),(54:UInt8),(42:UInt8),(28:UInt8),(55:UInt8),(62:UInt8)] y7 < (0:Int)))
            (k0 [] false)
            (gx [(43:UInt8),(45:UInt8),(42:UInt8),(47:UInt8),(94:UInt8),(61:UInt8),(60:UInt8),(82:UInt8),(40:UInt8),(41:UInt8)] (w75y0 N [(22:UInt8),(36:UInt8),(33:UInt8),(12:UInt8),(24:UInt8),(54:UInt8),(42:UInt8),(28:UInt8),(55:UInt8),(62:UInt8)] y7) fun y9=>
            ck (w103p N y9 x0_3) <|
            self (decide (y7=(60:UInt8))) b0 (w103y0 N y9 x0_3))))))
    (k1 x0_3)
noncomputable def w76b0:Code:=atC [1,1,1,0,1,0,0] w76b
def w76m0:Nm:=⟨[0,4,5,6],[],[]⟩
def w76I0 (x:(List UInt8)×Bool×Int×(List UInt8)):Sg:=⟨[(0,.e (.sl .u8) x.1),(4,.ref 0 0),(5,.e .bo x.2.1),(6,.e (.i .i64) x.2.2.1)],[(0,.box 125 [.via 0 0,.own 1]),(1,.row 5 .u8 x.2.2.2 true)],100⟩
def w76u0 (σ:Sg):(List UInt8)×Bool×Int×(List UInt8):=(lvT (.sl .u8) 0 0 σ,lvT .bo 5 0 σ,lvT (.i .i64) 6 0 σ,lvR .u8 1 σ)
theorem w76ui0:∀ x,w76u0 (w76I0 x)=x:=fun _=>by kernel_rfl
def w76X0_0 (y:(List UInt8)×Bool):Exit×Sg:=(.ret,⟨[(2,.e .tx y.1),(3,.e .bo y.2)],[],100⟩)
def w76v0_0 (_:Exit) (σ:Sg):(List UInt8)×Bool:=(lvT .tx 2 0 σ,lvT .bo 3 0 σ)
def w76X0_1 (y:(List UInt8)):Exit×Sg:=((.exit 0),⟨[(4,.ref 0 0)],[(0,.box 125 [.via 0 0,.own 1]),(1,.row 5 .u8 y true)],100⟩)
def w76v0_1 (_:Exit) (σ:Sg):(List UInt8):=lvR .u8 1 σ
def w76w0:List (Exit×Nm):=[(.ret,⟨[2,3],[],[]⟩),((.exit 0),⟨[4],[],[]⟩)]
theorem w76o0:Outs w76v0_0 w76v0_1 (fun _ _=>()) w76X0_0 w76X0_1 (noX 2) (exC .ret) (exC (.exit 0)) (exC (.goto 2)):=⟨fun _=>by kernel_rfl,fun _=>by kernel_rfl,fun _=>by kernel_rfl,fun _=>by kernel_rfl,fun _=>by kernel_rfl,fun _=>by kernel_rfl,exNe_ok (by kernel_rfl),exNe_ok (by kernel_rfl),exNe_ok (by kernel_rfl)⟩
def w76l0 [Alg] (N:Nat):Nat→((List UInt8)×Bool×Int×(List UInt8))→(((List UInt8)×Bool)→O)→(((List UInt8))→O)→((Unit)→O)→O
  | 0,_,_,_,_=>none
  | n+1,x,k0,k1,k2=>w76F0 N  (fun v0 v1 v2=>w76l0 N n (x.1,v0,v1,v2) k0 k1 k2) (fun y0 y1=>k0 (y0,y1)) (fun y0=>k1 y0) x.1 x.2.1 x.2.2.1 x.2.2.2
def w76n0 [Alg] (N:Nat) (a0:(List UInt8)) (a1:Bool) (a2:Int) (a3:(List UInt8)) (k0:(List UInt8)→Bool→O) (k1:(List UInt8)→O):O:=w76l0 N N (a0,a1,a2,a3) (fun y=>k0 y.1 y.2) (fun y=>k1 y) (fun _=>none)
noncomputable def w76s0 [Alg] (N:Nat) (a0:(List UInt8)) (a1:Bool) (a2:Int) (a3:(List UInt8)) (k0:(List UInt8)→Bool→O) (k1:(List UInt8)→O):O:=subL w76I0 w76u0 (w76l0 N N) (w76I0 (a0,a1,a2,a3)) (fun y=>k0 y.1 y.2) (fun y=>k1 y) (fun _=>none)
theorem w76e0 [Alg] (N:Nat):w76s0 N=w76n0 N:=funext fun _=>funext fun _=>funext fun _=>funext fun _=>funext fun _=>funext fun _=>subL_I w76ui0 _ _ _ _
noncomputable def w76h0 [Alg] (_:Nat):Hint:=.d
theorem w76hk0 (N:Nat):HintOk (w76c N) Tryd.f76.ntmps (w76h0 N) w76b0:=hk_of _ _ trivial
theorem w76q0 [Alg] (N:Nat) (self:Sg→O) (K:Exit→Sg→O) (x:(List UInt8)×Bool×Int×(List UInt8)):w76F0 N  (fun v0 v1 v2=>self (w76I0 (x.1,v0,v1,v2))) (fun y0 y1=>K (w76X0_0 (y0,y1)).1 (w76X0_0 (y0,y1)).2) (fun y0=>K (w76X0_1 y0).1 (w76X0_1 y0).2) x.1 x.2.1 x.2.2.1 x.2.2.2=exec (w76c N) Tryd.f76.ntmps (w76h0 N) w76b0 (w76I0 x) (roundX w76m0 w76w0 self K):=by kernel_rfl
theorem w76S0 (N:Nat) (hc:CxOk (w76c N)):SubOk (w76c N) Tryd.f76.ntmps (.loop w76b0) w76X0_0 w76X0_1 (noX 2) (subL w76I0 w76u0 (w76l0 N N)):=
  sub_loop hc (w76hk0 N) w76o0 (n:=N) (fun x K=>loop_ind (w76l0 N) (fun _ _ _ _=>rfl) (fun n K ih x=>by
    have h:w76F0 N  (fun v0 v1 v2=>w76l0 N n (x.1,v0,v1,v2) (fun y=>K (w76X0_0 y).1 (w76X0_0 y).2) (fun y=>K (w76X0_1 y).1 (w76X0_1 y).2) (fun y=>K ((noX 2) y).1 ((noX 2) y).2)) (fun y0 y1=>K (w76X0_0 (y0,y1)).1 (w76X0_0 (y0,y1)).2) (fun y0=>K (w76X0_1 y0).1 (w76X0_1 y0).2) x.1 x.2.1 x.2.2.1 x.2.2.2=w76F0 N  (fun v0 v1 v2=>loopX (w76c N) Tryd.f76.ntmps (w76h0 N) w76b0 w76m0 w76w0 n (w76I0 (x.1,v0,v1,v2)) K) (fun y0 y1=>K (w76X0_0 (y0,y1)).1 (w76X0_0 (y0,y1)).2) (fun y0=>K (w76X0_1 y0).1 (w76X0_1 y0).2) x.1 x.2.1 x.2.2.1 x.2.2.2:=by rw [ show (fun v0 v1 v2=>w76l0 N n (x.1,v0,v1,v2) (fun y=>K (w76X0_0 y).1 (w76X0_0 y).2) (fun y=>K (w76X0_1 y).1 (w76X0_1 y).2) (fun y=>K ((noX 2) y).1 ((noX 2) y).2))=(fun v0 v1 v2=>loopX (w76c N) Tryd.f76.ntmps (w76h0 N) w76b0 w76m0 w76w0 n (w76I0 (x.1,v0,v1,v2)) K) from funext fun _=>funext fun _=>funext fun _=>ih _]
    exact h.trans (w76q0 N (fun σ=>loopX (w76c N) Tryd.f76.ntmps (w76h0 N) w76b0 w76m0 w76w0 n σ K) K x)) N x K)
def w76G [Alg] (N:Nat) (in0:(List UInt8)→Bool→Int→(List UInt8)→((List UInt8)→Bool→O)→((List UInt8)→O)→O) (l0:(List UInt8)):O:=
  in0 l0 false ((0:Int)) []
    (fun z10 z11=>
      some (w76r0 z10 z11))
    (fun z12=>
      ck (w104p N z12) <|
      some (w76r0 (w104y0 N z12) true))
def w76 [Alg] (N:Nat) (l0:(List UInt8)):O:=w76G N (w76n0 N) l0
noncomputable def w76h [Alg] (N:Nat):Hint:=(.seq .d (.seq .d (.seq (.reg [] [.nilC 4 1 (.row 5 .u8 [] true)] []) (.seq (.seq .d (.block (.sub w76m0 _ _ _ w76X0_0 w76X0_1 (noX 2) (subL w76I0 w76u0 (w76l0 N N))))) .d))))
theorem w76hk (N:Nat) (hc:CxOk (w76c N)):HintOk (w76c N) Tryd.f76.ntmps (w76h N) w76b:=hk_of _ _ (And.intro trivial (And.intro trivial (And.intro trivial (And.intro (And.intro trivial (w76S0 N hc)) trivial))))
theorem w76q [Alg] (N:Nat) (l0:(List UInt8)):w76G N (w76s0 N) l0=exec (w76c N) Tryd.f76.ntmps (w76h N) w76b ⟨argT 0 [.e (.sl .u8) l0],[],100⟩ (finX (w76c N) Tryd.f76 false):=by kernel_rfl
theorem w76does {N:Nat} (hc:CxOk (w76c N)) {l0:(List UInt8)} {r:Res} (h:w76 N l0=some r):DoesR Tryd.prog 76 (([.e (.sl .u8) l0]:List X).map X.D) (HA []) r:=
  fun_ok hc (f:=76) (fn:=Tryd.f76) (code:=w76b) (by kernel_rfl) (by kernel_rfl) (w76hk N hc) (Nat.le_of_ble_eq_true (by kernel_rfl)) (ow:=false) ((w76q N l0).symm.trans (by rw [w76e0 N];exact h))
def w76un (r:Res):Option ((List UInt8)×Bool):=match r with
  | (.tup [x0,x1],[])=>(match ue .tx x0,ue .bo x1 with | some a0,some a1=>some (a0,a1) | _,_=>none)
  | _=>none
theorem w76uo {r:Res} {d:(List UInt8)×Bool} (h:w76un r=some d):r=w76r0 (d.1) (d.2):=by
  unfold w76un at h
  split at h
  · split at h
    · rename_i h0 h1;cases h;rw [ue_some h0,ue_some h1];rfl
    · cases h
  · cases h
def w76z (N:Nat) (l0:(List UInt8)):Option ((List UInt8)×Bool):=(w76 N l0).bind w76un
theorem w76fin {N:Nat} (hc:CxOk (w76c N)) {l0:(List UInt8)} {d:(List UInt8)×Bool} (hd:w76z N l0=some d):Does Tryd.prog 76 (([.e (.sl .u8) l0]:List X).map X.D) (HA []) (w76r0 (d.1) (d.2)).1.D (HA (w76r0 (d.1) (d.2)).2):=by
  obtain ⟨r,hr,hu⟩:=Option.bind_eq_some_iff.1 hd
  have:=w76does hc hr
  rw [w76uo hu] at this
  exact this
def w76p (N:Nat) (l0:(List UInt8)):Bool:=(w76z N l0).isSome
def w76y0 (N:Nat) (l0:(List UInt8)):(List UInt8):=((w76z N l0).getD ([],false)).1
def w76y1 (N:Nat) (l0:(List UInt8)):Bool:=((w76z N l0).getD ([],false)).2
def w76e (N:Nat):Ent':=E1 (.sl .u8)  (fun x0=>(w76p N x0,w76r0 (w76y0 N x0) (w76y1 N x0)))
theorem w76re {N:Nat} {l0:(List UInt8)} {d:(List UInt8)×Bool} (hd:w76z N l0=some d):w76r0 (w76y0 N l0) (w76y1 N l0)=w76r0 (d.1) (d.2):=by unfold w76y0 w76y1;rw [hd];rfl
theorem w76ok (N:Nat):EOk Tryd.prog 76 (w76e N):=EOk.e1 (fun x0 h=>by
  have h:(w76z N x0).isSome=true:=h
  obtain ⟨d,hd⟩:=Option.isSome_iff_exists.1 h
  have f:=w76fin (w76cx N) hd
  rw [← w76re hd] at f
  exact f)
def w77r0 (a0:Bool):Res:=(.e .bo a0,[])
noncomputable def w77L (_:Nat):List (Nat×Ent'):=[]
noncomputable def w77c (N:Nat):Cx:=⟨Tryd.prog,25,w77L N,[]⟩
noncomputable def w77b:Code:=Tryd.f77.body.getD .skip
theorem w77cx (N:Nat):CxOk (w77c N):=ctx_ok (by kernel_rfl) .nil .nil
def w77G [Alg] (_:Nat)  (a0:(List UInt8)) (b1:(List UInt8)):O:=
  some (w77r0 (decide (a0=b1)))
def w77 [Alg] (N:Nat) (a0:(List UInt8)) (b1:(List UInt8)):O:=w77G N  a0 b1
noncomputable def w77h [Alg] (_:Nat):Hint:=.d
theorem w77hk (N:Nat):HintOk (w77c N) Tryd.f77.ntmps (w77h N) w77b:=hk_of _ _ trivial
theorem w77q [Alg] (N:Nat) (a0:(List UInt8)) (b1:(List UInt8)):w77G N  a0 b1=exec (w77c N) Tryd.f77.ntmps (w77h N) w77b ⟨argT 0 [.e (.sl .u8) a0,.e (.sl .u8) b1],[],100⟩ (finX (w77c N) Tryd.f77 false):=by kernel_rfl
theorem w77does {N:Nat} (hc:CxOk (w77c N)) {a0:(List UInt8)} {b1:(List UInt8)} {r:Res} (h:w77 N a0 b1=some r):DoesR Tryd.prog 77 (([.e (.sl .u8) a0,.e (.sl .u8) b1]:List X).map X.D) (HA []) r:=
  fun_ok hc (f:=77) (fn:=Tryd.f77) (code:=w77b) (by kernel_rfl) (by kernel_rfl) (w77hk N) (Nat.le_of_ble_eq_true (by kernel_rfl)) (ow:=false) ((w77q N a0 b1).symm.trans (by exact h))
def w77un (r:Res):Option (Bool):=match r with
  | (x0,[])=>(match ue .bo x0 with | some a0=>some a0 | _=>none)
  | _=>none
theorem w77uo {r:Res} {d:Bool} (h:w77un r=some d):r=w77r0 (d):=by
  unfold w77un at h
  split at h
  · split at h
    · rename_i h0;cases h;rw [ue_some h0];rfl
    · cases h
  · cases h
def w77z (N:Nat) (a0:(List UInt8)) (b1:(List UInt8)):Option (Bool):=(w77 N a0 b1).bind w77un
theorem w77fin {N:Nat} (hc:CxOk (w77c N)) {a0:(List UInt8)} {b1:(List UInt8)} {d:Bool} (hd:w77z N a0 b1=some d):Does Tryd.prog 77 (([.e (.sl .u8) a0,.e (.sl .u8) b1]:List X).map X.D) (HA []) (w77r0 (d)).1.D (HA (w77r0 (d)).2):=by
  obtain ⟨r,hr,hu⟩:=Option.bind_eq_some_iff.1 hd
  have:=w77does hc hr
  rw [w77uo hu] at this
  exact this
def w77p (N:Nat) (a0:(List UInt8)) (b1:(List UInt8)):Bool:=(w77z N a0 b1).isSome
def w77y0 (N:Nat) (a0:(List UInt8)) (b1:(List UInt8)):Bool:=((w77z N a0 b1).getD false)
def w77e (N:Nat):Ent':=E2 (.sl .u8) (.sl .u8)  (fun x0 x1=>(w77p N x0 x1,w77r0 (w77y0 N x0 x1)))
theorem w77re {N:Nat} {a0:(List UInt8)} {b1:(List UInt8)} {d:Bool} (hd:w77z N a0 b1=some d):w77r0 (w77y0 N a0 b1)=w77r0 (d):=by unfold w77y0;rw [hd];rfl
theorem w77ok (N:Nat):EOk Tryd.prog 77 (w77e N):=EOk.e2 (fun x0 x1 h=>by
  have h:(w77z N x0 x1).isSome=true:=h
  obtain ⟨d,hd⟩:=Option.isSome_iff_exists.1 h
  have f:=w77fin (w77cx N) hd
  rw [← w77re hd] at f
  exact f)
def w43r0 (a0:Int) (a1:Int) (a2:(List Ex)) (a3:Int) (a4:Int):Res:=(.tup [.agg [.e (.i .i64) a0,.e (.i .i64) a1,.e (.sl .ex) a2],.e (.i .i64) a3,.e (.i .i64) a4],[])
noncomputable def w43L (N:Nat):List (Nat×Ent'):=[(75,w75e N),(76,w76e N),(16,w16e N),(40,w40e N),(77,w77e N)]
noncomputable def w43c (N:Nat):Cx:=⟨Tryd.prog,25,w43L N,[]⟩
noncomputable def w43b:Code:=Tryd.f43.body.getD .skip
theorem w43cx (N:Nat):CxOk (w43c N):=ctx_ok (by kernel_rfl) (.cons (by kernel_rfl) (w75ok N) (.cons (by kernel_rfl) (w76ok N) (.cons (by kernel_rfl) (w16ok N) (.cons (by kernel_rfl) (w40ok N) (.cons (by kernel_rfl) (w77ok N) .nil))))) .nil
def w43G [Alg] (N:Nat)  (l0:(List UInt8)):O:=
  let b2:=slc l0 none (some (w75y0 N l0 (63:UInt8)))
  let b0:=Ex.mk (w16y0 N (w76y0 N b2)) (w16y1 N (w76y0 N b2)) (w16y2 N (w76y0 N b2))
  let b1:=Ex.mk b0.op b0.num b0.kids
  let b3:=IntKind.i64.wrap (w75y0 N l0 (63:UInt8)+(1:Int))
  let b4:=decide (w16y4 N (w76y0 N b2)≠(0:Int))||decide (w40y1 N b1.op b1.num b1.kids≠(0:Int))
  let b5:=some (w43r0 ((0:Int)) ((0:Int)) [] ((0:Int)) ((2:Int)))
  ck (w75p N l0 (63:UInt8)) <|
  br (decide (w75y0 N l0 (63:UInt8) < (0:Int)))
    (some (w43r0 ((0:Int)) ((0:Int)) [] ((0:Int)) ((3:Int))))
    (ck (slcOk l0.length none (some (w75y0 N l0 (63:UInt8)))) <|
    ck (w76p N b2) <|
    br (!w76y1 N b2)
      b5
      (ck (w16p N (w76y0 N b2)) <|
      ck (w40p N b1.op b1.num b1.kids) <|
      ck (!!b4||slcOk l0.length none (some b3)) <|
      ck (!!b4||w77p N (w40y0 N b1.op b1.num b1.kids) (slc l0 none (some b3))) <|
      br (decide (w16y4 N (w76y0 N b2)≠(0:Int))||decide (w40y1 N b1.op b1.num b1.kids≠(0:Int))||!w77y0 N (w40y0 N b1.op b1.num b1.kids) (slc l0 none (some b3)))
        b5
        (some (w43r0 (b0.op) (b0.num) (b0.kids) b3 ((0:Int))))))
def w43 [Alg] (N:Nat) (l0:(List UInt8)):O:=w43G N  l0
noncomputable def w43h [Alg] (_:Nat):Hint:=.d
theorem w43hk (N:Nat):HintOk (w43c N) Tryd.f43.ntmps (w43h N) w43b:=hk_of _ _ trivial
theorem w43q [Alg] (N:Nat) (l0:(List UInt8)):w43G N  l0=exec (w43c N) Tryd.f43.ntmps (w43h N) w43b ⟨argT 0 [.e (.sl .u8) l0],[],100⟩ (finX (w43c N) Tryd.f43 false):=by kernel_rfl
theorem w43does {N:Nat} (hc:CxOk (w43c N)) {l0:(List UInt8)} {r:Res} (h:w43 N l0=some r):DoesR Tryd.prog 43 (([.e (.sl .u8) l0]:List X).map X.D) (HA []) r:=
  fun_ok hc (f:=43) (fn:=Tryd.f43) (code:=w43b) (by kernel_rfl) (by kernel_rfl) (w43hk N) (Nat.le_of_ble_eq_true (by kernel_rfl)) (ow:=false) ((w43q N l0).symm.trans (by exact h))
def w43un (r:Res):Option (Int×Int×(List Ex)×Int×Int):=match r with
  | (.tup [.agg [x0,x1,x2],x3,x4],[])=>(match ue (.i .i64) x0,ue (.i .i64) x1,ue (.sl .ex) x2,ue (.i .i64) x3,ue (.i .i64) x4 with | some a0,some a1,some a2,some a3,some a4=>some (a0,a1,a2,a3,a4) | _,_,_,_,_=>none)
  | _=>none
theorem w43uo {r:Res} {d:Int×Int×(List Ex)×Int×Int} (h:w43un r=some d):r=w43r0 (d.1) (d.2.1) (d.2.2.1) (d.2.2.2.1) (d.2.2.2.2):=by
  unfold w43un at h
  split at h
  · split at h
    · rename_i h0 h1 h2 h3 h4;cases h;rw [ue_some h0,ue_some h1,ue_some h2,ue_some h3,ue_some h4];rfl
    · cases h
  · cases h
def w43z (N:Nat) (l0:(List UInt8)):Option (Int×Int×(List Ex)×Int×Int):=(w43 N l0).bind w43un
theorem w43fin {N:Nat} (hc:CxOk (w43c N)) {l0:(List UInt8)} {d:Int×Int×(List Ex)×Int×Int} (hd:w43z N l0=some d):Does Tryd.prog 43 (([.e (.sl .u8) l0]:List X).map X.D) (HA []) (w43r0 (d.1) (d.2.1) (d.2.2.1) (d.2.2.2.1) (d.2.2.2.2)).1.D (HA (w43r0 (d.1) (d.2.1) (d.2.2.1) (d.2.2.2.1) (d.2.2.2.2)).2):=by
  obtain ⟨r,hr,hu⟩:=Option.bind_eq_some_iff.1 hd
  have:=w43does hc hr
  rw [w43uo hu] at this
  exact this
def w43p (N:Nat) (l0:(List UInt8)):Bool:=(w43z N l0).isSome
def w43y0 (N:Nat) (l0:(List UInt8)):Int:=((w43z N l0).getD (0,0,[],0,0)).1
def w43y1 (N:Nat) (l0:(List UInt8)):Int:=((w43z N l0).getD (0,0,[],0,0)).2.1
def w43y2 (N:Nat) (l0:(List UInt8)):(List Ex):=((w43z N l0).getD (0,0,[],0,0)).2.2.1
def w43y3 (N:Nat) (l0:(List UInt8)):Int:=((w43z N l0).getD (0,0,[],0,0)).2.2.2.1
def w43y4 (N:Nat) (l0:(List UInt8)):Int:=((w43z N l0).getD (0,0,[],0,0)).2.2.2.2
def w43e (N:Nat):Ent':=E1 (.sl .u8)  (fun x0=>(w43p N x0,w43r0 (w43y0 N x0) (w43y1 N x0) (w43y2 N x0) (w43y3 N x0) (w43y4 N x0)))
theorem w43re {N:Nat} {l0:(List UInt8)} {d:Int×Int×(List Ex)×Int×Int} (hd:w43z N l0=some d):w43r0 (w43y0 N l0) (w43y1 N l0) (w43y2 N l0) (w43y3 N l0) (w43y4 N l0)=w43r0 (d.1) (d.2.1) (d.2.2.1) (d.2.2.2.1) (d.2.2.2.2):=by unfold w43y0 w43y1 w43y2 w43y3 w43y4;rw [hd];rfl
theorem w43ok (N:Nat):EOk Tryd.prog 43 (w43e N):=EOk.e1 (fun x0 h=>by
  have h:(w43z N x0).isSome=true:=h
  obtain ⟨d,hd⟩:=Option.isSome_iff_exists.1 h
  have f:=w43fin (w43cx N) hd
  rw [← w43re hd] at f
  exact f)
def w44r0 (a0:(List UInt8)):Res:=(.own 100,[(100,.row 5 .u8 a0 true)])
noncomputable def w44L (_:Nat):List (Nat×Ent'):=[]
noncomputable def w44c (N:Nat):Cx:=⟨Tryd.prog,25,w44L N,[]⟩
noncomputable def w44b:Code:=Tryd.f44.body.getD .skip
theorem w44cx (N:Nat):CxOk (w44c N):=ctx_ok (by kernel_rfl) .nil .nil
def w44G [Alg] (_:Nat)  (b0:(List UInt8)) (most1:Int):O:=
  ck (slcOk b0.length none (some (min (↑b0.length:Int) most1))) <|
  ck (lim (slc b0 none (some (min (↑b0.length:Int) most1))).length (1:Nat)) <|
  some (w44r0 (slc b0 none (some (min (↑b0.length:Int) most1))))
def w44 [Alg] (N:Nat) (b0:(List UInt8)) (most1:Int):O:=w44G N  b0 most1
noncomputable def w44h [Alg] (_:Nat):Hint:=.d
theorem w44hk (N:Nat):HintOk (w44c N) Tryd.f44.ntmps (w44h N) w44b:=hk_of _ _ trivial
theorem w44q [Alg] (N:Nat) (b0:(List UInt8)) (most1:Int):w44G N  b0 most1=exec (w44c N) Tryd.f44.ntmps (w44h N) w44b ⟨argT 0 [.e (.sl .u8) b0,.e (.i .i64) most1],[],100⟩ (finX (w44c N) Tryd.f44 true):=by kernel_rfl
theorem w44does {N:Nat} (hc:CxOk (w44c N)) {b0:(List UInt8)} {most1:Int} {r:Res} (h:w44 N b0 most1=some r):DoesR Tryd.prog 44 (([.e (.sl .u8) b0,.e (.i .i64) most1]:List X).map X.D) (HA []) r:=
  fun_ok hc (f:=44) (fn:=Tryd.f44) (code:=w44b) (by kernel_rfl) (by kernel_rfl) (w44hk N) (Nat.le_of_ble_eq_true (by kernel_rfl)) (ow:=true) ((w44q N b0 most1).symm.trans (by exact h))
def w44un (r:Res):Option ((List UInt8)):=match r with
  | (.own 100,[(100,x0)])=>(match ur 5 .u8 true x0 with | some a0=>some a0 | _=>none)
  | _=>none
theorem w44uo {r:Res} {d:(List UInt8)} (h:w44un r=some d):r=w44r0 (d):=by
  unfold w44un at h
  split at h
  · split at h
    · rename_i h0;cases h;rw [ur_some h0];rfl
    · cases h
  · cases h
def w44z (N:Nat) (b0:(List UInt8)) (most1:Int):Option ((List UInt8)):=(w44 N b0 most1).bind w44un
theorem w44fin {N:Nat} (hc:CxOk (w44c N)) {b0:(List UInt8)} {most1:Int} {d:(List UInt8)} (hd:w44z N b0 most1=some d):Does Tryd.prog 44 (([.e (.sl .u8) b0,.e (.i .i64) most1]:List X).map X.D) (HA []) (w44r0 (d)).1.D (HA (w44r0 (d)).2):=by
  obtain ⟨r,hr,hu⟩:=Option.bind_eq_some_iff.1 hd
  have:=w44does hc hr
  rw [w44uo hu] at this
  exact this
def w44p (N:Nat) (b0:(List UInt8)) (most1:Int):Bool:=(w44z N b0 most1).isSome
def w44y0 (N:Nat) (b0:(List UInt8)) (most1:Int):(List UInt8):=((w44z N b0 most1).getD [])
def w44e (N:Nat):Ent':=E2 (.sl .u8) (.i .i64)  (fun x0 x1=>(w44p N x0 x1,w44r0 (w44y0 N x0 x1)))
theorem w44re {N:Nat} {b0:(List UInt8)} {most1:Int} {d:(List UInt8)} (hd:w44z N b0 most1=some d):w44r0 (w44y0 N b0 most1)=w44r0 (d):=by unfold w44y0;rw [hd];rfl
theorem w44ok (N:Nat):EOk Tryd.prog 44 (w44e N):=EOk.e2 (fun x0 x1 h=>by
  have h:(w44z N x0 x1).isSome=true:=h
  obtain ⟨d,hd⟩:=Option.isSome_iff_exists.1 h
  have f:=w44fin (w44cx N) hd
  rw [← w44re hd] at f
  exact f)
def w79r0 (a0:Bool):Res:=(.e .bo a0,[])
noncomputable def w79L (_:Nat):List (Nat×Ent'):=[]
noncomputable def w79c (N:Nat):Cx:=⟨Tryd.prog,25,w79L N,[]⟩
noncomputable def w79b:Code:=Tryd.f79.body.getD .skip
theorem w79cx (N:Nat):CxOk (w79c N):=ctx_ok (by kernel_rfl) .nil .nil
def w79G [Alg] (_:Nat)  (c0:UInt8):O:=
  some (w79r0 (decide ((64:UInt8)≤c0)))
def w79 [Alg] (N:Nat) (c0:UInt8):O:=w79G N  c0
noncomputable def w79h [Alg] (_:Nat):Hint:=.d
theorem w79hk (N:Nat):HintOk (w79c N) Tryd.f79.ntmps (w79h N) w79b:=hk_of _ _ trivial
theorem w79q [Alg] (N:Nat) (c0:UInt8):w79G N  c0=exec (w79c N) Tryd.f79.ntmps (w79h N) w79b ⟨argT 0 [.e .u8 c0],[],100⟩ (finX (w79c N) Tryd.f79 false):=by kernel_rfl
theorem w79does {N:Nat} (hc:CxOk (w79c N)) {c0:UInt8} {r:Res} (h:w79 N c0=some r):DoesR Tryd.prog 79 (([.e .u8 c0]:List X).map X.D) (HA []) r:=
  fun_ok hc (f:=79) (fn:=Tryd.f79) (code:=w79b) (by kernel_rfl) (by kernel_rfl) (w79hk N) (Nat.le_of_ble_eq_true (by kernel_rfl)) (ow:=false) ((w79q N c0).symm.trans (by exact h))
def w79un (r:Res):Option (Bool):=match r with
  | (x0,[])=>(match ue .bo x0 with | some a0=>some a0 | _=>none)
  | _=>none
theorem w79uo {r:Res} {d:Bool} (h:w79un r=some d):r=w79r0 (d):=by
  unfold w79un at h
  split at h
  · split at h
    · rename_i h0;cases h;rw [ue_some h0];rfl
    · cases h
  · cases h
def w79z (N:Nat) (c0:UInt8):Option (Bool):=(w79 N c0).bind w79un
theorem w79fin {N:Nat} (hc:CxOk (w79c N)) {c0:UInt8} {d:Bool} (hd:w79z N c0=some d):Does Tryd.prog 79 (([.e .u8 c0]:List X).map X.D) (HA []) (w79r0 (d)).1.D (HA (w79r0 (d)).2):=by
  obtain ⟨r,hr,hu⟩:=Option.bind_eq_some_iff.1 hd
  have:=w79does hc hr
  rw [w79uo hu] at this
  exact this
def w79p (N:Nat) (c0:UInt8):Bool:=(w79z N c0).isSome
def w79y0 (N:Nat) (c0:UInt8):Bool:=((w79z N c0).getD false)
def w79e (N:Nat):Ent':=E1 .u8  (fun x0=>(w79p N x0,w79r0 (w79y0 N x0)))
theorem w79re {N:Nat} {c0:UInt8} {d:Bool} (hd:w79z N c0=some d):w79r0 (w79y0 N c0)=w79r0 (d):=by unfold w79y0;rw [hd];rfl
theorem w79ok (N:Nat):EOk Tryd.prog 79 (w79e N):=EOk.e1 (fun x0 h=>by
  have h:(w79z N x0).isSome=true:=h
  obtain ⟨d,hd⟩:=Option.isSome_iff_exists.1 h
  have f:=w79fin (w79cx N) hd
  rw [← w79re hd] at f
  exact f)
def w105r0 (a0:Int):Res:=(.e (.i .i64) a0,[])
noncomputable def w105L (N:Nat):List (Nat×Ent'):=[(79,w79e N)]
noncomputable def w105c (N:Nat):Cx:=⟨Tryd.prog,25,w105L N,[]⟩
noncomputable def w105b:Code:=Tryd.f105.body.getD .skip
theorem w105cx (N:Nat):CxOk (w105c N):=ctx_ok (by kernel_rfl) (.cons (by kernel_rfl) (w79ok N) .nil) .nil
def w105F0 [Alg] (N:Nat)  (self:Int→O) (k0:Int→O) (k1:Unit→O) (x0_0:(List UInt8)) (x0_1:Int) (x0_2:Int):O:=
  br (decide (x0_2 < x0_1))
    (gx x0_0 x0_2 fun y3=>
    ck (w79p N y3) <|
    br (w79y0 N y3)
      (k0 x0_2)
      (self (IntKind.i64.wrap (x0_2+(1:Int)))))
    (k1 ())
noncomputable def w105b0:Code:=atC [1,0,1,0,0] w105b
def w105m0:Nm:=⟨[0,1,7,8],[],[]⟩
def w105I0 (x:(List UInt8)×Int×Int):Sg:=⟨[(0,.e (.sl .u8) x.1),(1,.fn 79 []),(7,.e (.i .i64) x.2.1),(8,.e (.i .i64) x.2.2)],[],100⟩
def w105u0 (σ:Sg):(List UInt8)×Int×Int:=(lvT (.sl .u8) 0 0 σ,lvT (.i .i64) 7 0 σ,lvT (.i .i64) 8 0 σ)
theorem w105ui0:∀ x,w105u0 (w105I0 x)=x:=fun _=>by kernel_rfl
def w105X0_0 (y:Int):Exit×Sg:=(.ret,⟨[(4,.e (.i .i64) y)],[],100⟩)
def w105v0_0 (_:Exit) (σ:Sg):Int:=lvT (.i .i64) 4 0 σ
def w105X0_1 (_:Unit):Exit×Sg:=((.exit 0),⟨[],[],100⟩)
def w105v0_1 (_:Exit) (_:Sg):Unit:=()
def w105w0:List (Exit×Nm):=[(.ret,⟨[4],[],[]⟩),((.exit 0),⟨[],[],[]⟩)]
theorem w105o0:Outs w105v0_0 w105v0_1 (fun _ _=>()) w105X0_0 w105X0_1 (noX 2) (exC .ret) (exC (.exit 0)) (exC (.goto 2)):=⟨fun _=>by kernel_rfl,fun _=>by kernel_rfl,fun _=>by kernel_rfl,fun _=>by kernel_rfl,fun _=>by kernel_rfl,fun _=>by kernel_rfl,exNe_ok (by kernel_rfl),exNe_ok (by kernel_rfl),exNe_ok (by kernel_rfl)⟩
def w105l0 [Alg] (N:Nat):Nat→((List UInt8)×Int×Int)→((Int)→O)→((Unit)→O)→((Unit)→O)→O
  | 0,_,_,_,_=>none
  | n+1,x,k0,k1,k2=>w105F0 N  (fun v0=>w105l0 N n (x.1,x.2.1,v0) k0 k1 k2) (fun y0=>k0 y0) (fun (_:Unit)=>k1 ()) x.1 x.2.1 x.2.2
def w105n0 [Alg] (N:Nat) (a0:(List UInt8)) (a1:Int) (a2:Int) (k0:Int→O) (k1:Unit→O):O:=w105l0 N N (a0,a1,a2) (fun y=>k0 y) (fun y=>k1 y) (fun _=>none)
noncomputable def w105s0 [Alg] (N:Nat) (a0:(List UInt8)) (a1:Int) (a2:Int) (k0:Int→O) (k1:Unit→O):O:=subL w105I0 w105u0 (w105l0 N N) (w105I0 (a0,a1,a2)) (fun y=>k0 y) (fun y=>k1 y) (fun _=>none)
theorem w105e0 [Alg] (N:Nat):w105s0 N=w105n0 N:=funext fun _=>funext fun _=>funext fun _=>funext fun _=>funext fun _=>subL_I w105ui0 _ _ _ _
noncomputable def w105h0 [Alg] (_:Nat):Hint:=.d
theorem w105hk0 (N:Nat):HintOk (w105c N) Tryd.f105.ntmps (w105h0 N) w105b0:=hk_of _ _ trivial
theorem w105q0 [Alg] (N:Nat) (self:Sg→O) (K:Exit→Sg→O) (x:(List UInt8)×Int×Int):w105F0 N  (fun v0=>self (w105I0 (x.1,x.2.1,v0))) (fun y0=>K (w105X0_0 y0).1 (w105X0_0 y0).2) (fun (_:Unit)=>K (w105X0_1 ()).1 (w105X0_1 ()).2) x.1 x.2.1 x.2.2=exec (w105c N) Tryd.f105.ntmps (w105h0 N) w105b0 (w105I0 x) (roundX w105m0 w105w0 self K):=by kernel_rfl
theorem w105S0 (N:Nat) (hc:CxOk (w105c N)):SubOk (w105c N) Tryd.f105.ntmps (.loop w105b0) w105X0_0 w105X0_1 (noX 2) (subL w105I0 w105u0 (w105l0 N N)):=
  sub_loop hc (w105hk0 N) w105o0 (n:=N) (fun x K=>loop_ind (w105l0 N) (fun _ _ _ _=>rfl) (fun n K ih x=>by
    have h:w105F0 N  (fun v0=>w105l0 N n (x.1,x.2.1,v0) (fun y=>K (w105X0_0 y).1 (w105X0_0 y).2) (fun y=>K (w105X0_1 y).1 (w105X0_1 y).2) (fun y=>K ((noX 2) y).1 ((noX 2) y).2)) (fun y0=>K (w105X0_0 y0).1 (w105X0_0 y0).2) (fun (_:Unit)=>K (w105X0_1 ()).1 (w105X0_1 ()).2) x.1 x.2.1 x.2.2=w105F0 N  (fun v0=>loopX (w105c N) Tryd.f105.ntmps (w105h0 N) w105b0 w105m0 w105w0 n (w105I0 (x.1,x.2.1,v0)) K) (fun y0=>K (w105X0_0 y0).1 (w105X0_0 y0).2) (fun (_:Unit)=>K (w105X0_1 ()).1 (w105X0_1 ()).2) x.1 x.2.1 x.2.2:=by rw [ show (fun v0=>w105l0 N n (x.1,x.2.1,v0) (fun y=>K (w105X0_0 y).1 (w105X0_0 y).2) (fun y=>K (w105X0_1 y).1 (w105X0_1 y).2) (fun y=>K ((noX 2) y).1 ((noX 2) y).2))=(fun v0=>loopX (w105c N) Tryd.f105.ntmps (w105h0 N) w105b0 w105m0 w105w0 n (w105I0 (x.1,x.2.1,v0)) K) from funext fun _=>ih _]
    exact h.trans (w105q0 N (fun σ=>loopX (w105c N) Tryd.f105.ntmps (w105h0 N) w105b0 w105m0 w105w0 n σ K) K x)) N x K)
def w105G [Alg] (_:Nat) (in0:(List UInt8)→Int→Int→(Int→O)→(Unit→O)→O) (s0:(List UInt8)):O:=
  in0 s0 ((↑s0.length:Int)) ((0:Int))
    (fun z4=>
      some (w105r0 z4))
    (fun (_:Unit)=>
      some (w105r0 ((-1:Int))))
def w105 [Alg] (N:Nat) (s0:(List UInt8)):O:=w105G N (w105n0 N) s0
noncomputable def w105h [Alg] (N:Nat):Hint:=(.seq .d (.seq (.seq .d (.block (.sub w105m0 _ _ _ w105X0_0 w105X0_1 (noX 2) (subL w105I0 w105u0 (w105l0 N N))))) .d))
theorem w105hk (N:Nat) (hc:CxOk (w105c N)):HintOk (w105c N) Tryd.f105.ntmps (w105h N) w105b:=hk_of _ _ (And.intro trivial (And.intro (And.intro trivial (w105S0 N hc)) trivial))
theorem w105q [Alg] (N:Nat) (s0:(List UInt8)):w105G N (w105s0 N) s0=exec (w105c N) Tryd.f105.ntmps (w105h N) w105b ⟨argT 0 [.e (.sl .u8) s0,.fn 79 []],[],100⟩ (finX (w105c N) Tryd.f105 false):=by kernel_rfl
theorem w105does {N:Nat} (hc:CxOk (w105c N)) {s0:(List UInt8)} {r:Res} (h:w105 N s0=some r):DoesR Tryd.prog 105 (([.e (.sl .u8) s0,.fn 79 []]:List X).map X.D) (HA []) r:=
  fun_ok hc (f:=105) (fn:=Tryd.f105) (code:=w105b) (by kernel_rfl) (by kernel_rfl) (w105hk N hc) (Nat.le_of_ble_eq_true (by kernel_rfl)) (ow:=false) ((w105q N s0).symm.trans (by rw [w105e0 N];exact h))
def w105un (r:Res):Option (Int):=match r with
  | (x0,[])=>(match ue (.i .i64) x0 with | some a0=>some a0 | _=>none)
  | _=>none
theorem w105uo {r:Res} {d:Int} (h:w105un r=some d):r=w105r0 (d):=by
  unfold w105un at h
  split at h
  · split at h
    · rename_i h0;cases h;rw [ue_some h0];rfl
    · cases h
  · cases h
def w105z (N:Nat) (s0:(List UInt8)):Option (Int):=(w105 N s0).bind w105un
theorem w105fin {N:Nat} (hc:CxOk (w105c N)) {s0:(List UInt8)} {d:Int} (hd:w105z N s0=some d):Does Tryd.prog 105 (([.e (.sl .u8) s0,.fn 79 []]:List X).map X.D) (HA []) (w105r0 (d)).1.D (HA (w105r0 (d)).2):=by
  obtain ⟨r,hr,hu⟩:=Option.bind_eq_some_iff.1 hd
  have:=w105does hc hr
  rw [w105uo hu] at this
  exact this
def w105p (N:Nat) (s0:(List UInt8)):Bool:=(w105z N s0).isSome
def w105y0 (N:Nat) (s0:(List UInt8)):Int:=((w105z N s0).getD 0)
def w105e (N:Nat):Ent':=Ef1 (.sl .u8) 79 (fun x0=>(w105p N x0,w105r0 (w105y0 N x0)))
theorem w105re {N:Nat} {s0:(List UInt8)} {d:Int} (hd:w105z N s0=some d):w105r0 (w105y0 N s0)=w105r0 (d):=by unfold w105y0;rw [hd];rfl
theorem w105ok (N:Nat):EOk Tryd.prog 105 (w105e N):=EOk.f1 (fun x0 h=>by
  have h:(w105z N x0).isSome=true:=h
  obtain ⟨d,hd⟩:=Option.isSome_iff_exists.1 h
  have f:=w105fin (w105cx N) hd
  rw [← w105re hd] at f
  exact f)
def w78r0 (a0:Bool):Res:=(.e .bo a0,[])
noncomputable def w78L (N:Nat):List (Nat×Ent'):=[(79,w79e N),(105,w105e N)]
noncomputable def w78c (N:Nat):Cx:=⟨Tryd.prog,25,w78L N,[]⟩
noncomputable def w78b:Code:=Tryd.f78.body.getD .skip
theorem w78cx (N:Nat):CxOk (w78c N):=ctx_ok (by kernel_rfl) (.cons (by kernel_rfl) (w79ok N) (.cons (by kernel_rfl) (w105ok N) .nil)) .nil
def w78G [Alg] (N:Nat)  (s0:(List UInt8)):O:=
  ck (w105p N s0) <|
  some (w78r0 (decide ((0:Int)≤w105y0 N s0)))
def w78 [Alg] (N:Nat) (s0:(List UInt8)):O:=w78G N  s0
noncomputable def w78h [Alg] (_:Nat):Hint:=.d
theorem w78hk (N:Nat):HintOk (w78c N) Tryd.f78.ntmps (w78h N) w78b:=hk_of _ _ trivial
theorem w78q [Alg] (N:Nat) (s0:(List UInt8)):w78G N  s0=exec (w78c N) Tryd.f78.ntmps (w78h N) w78b ⟨argT 0 [.e (.sl .u8) s0,.fn 79 []],[],100⟩ (finX (w78c N) Tryd.f78 false):=by kernel_rfl
theorem w78does {N:Nat} (hc:CxOk (w78c N)) {s0:(List UInt8)} {r:Res} (h:w78 N s0=some r):DoesR Tryd.prog 78 (([.e (.sl .u8) s0,.fn 79 []]:List X).map X.D) (HA []) r:=
  fun_ok hc (f:=78) (fn:=Tryd.f78) (code:=w78b) (by kernel_rfl) (by kernel_rfl) (w78hk N) (Nat.le_of_ble_eq_true (by kernel_rfl)) (ow:=false) ((w78q N s0).symm.trans (by exact h))
def w78un (r:Res):Option (Bool):=match r with
  | (x0,[])=>(match ue .bo x0 with | some a0=>some a0 | _=>none)
  | _=>none
theorem w78uo {r:Res} {d:Bool} (h:w78un r=some d):r=w78r0 (d):=by
  unfold w78un at h
  split at h
  · split at h
    · rename_i h0;cases h;rw [ue_some h0];rfl
    · cases h
  · cases h
def w78z (N:Nat) (s0:(List UInt8)):Option (Bool):=(w78 N s0).bind w78un
theorem w78fin {N:Nat} (hc:CxOk (w78c N)) {s0:(List UInt8)} {d:Bool} (hd:w78z N s0=some d):Does Tryd.prog 78 (([.e (.sl .u8) s0,.fn 79 []]:List X).map X.D) (HA []) (w78r0 (d)).1.D (HA (w78r0 (d)).2):=by
  obtain ⟨r,hr,hu⟩:=Option.bind_eq_some_iff.1 hd
  have:=w78does hc hr
  rw [w78uo hu] at this
  exact this
def w78p (N:Nat) (s0:(List UInt8)):Bool:=(w78z N s0).isSome
def w78y0 (N:Nat) (s0:(List UInt8)):Bool:=((w78z N s0).getD false)
def w78e (N:Nat):Ent':=Ef1 (.sl .u8) 79 (fun x0=>(w78p N x0,w78r0 (w78y0 N x0)))
theorem w78re {N:Nat} {s0:(List UInt8)} {d:Bool} (hd:w78z N s0=some d):w78r0 (w78y0 N s0)=w78r0 (d):=by unfold w78y0;rw [hd];rfl
theorem w78ok (N:Nat):EOk Tryd.prog 78 (w78e N):=EOk.f1 (fun x0 h=>by
  have h:(w78z N x0).isSome=true:=h
  obtain ⟨d,hd⟩:=Option.isSome_iff_exists.1 h
  have f:=w78fin (w78cx N) hd
  rw [← w78re hd] at f
  exact f)
def w45r0 (a0:Bool):Res:=(.e .bo a0,[])
noncomputable def w45L (N:Nat):List (Nat×Ent'):=[(78,w78e N),(79,w79e N)]
noncomputable def w45c (N:Nat):Cx:=⟨Tryd.prog,25,w45L N,[]⟩
noncomputable def w45b:Code:=Tryd.f45.body.getD .skip
theorem w45cx (N:Nat):CxOk (w45c N):=ctx_ok (by kernel_rfl) (.cons (by kernel_rfl) (w78ok N) (.cons (by kernel_rfl) (w79ok N) .nil)) .nil
def w45G [Alg] (N:Nat)  (l0:(List UInt8)):O:=
  ck (w78p N l0) <|
  some (w45r0 (!w78y0 N l0))
def w45 [Alg] (N:Nat) (l0:(List UInt8)):O:=w45G N  l0
noncomputable def w45h [Alg] (_:Nat):Hint:=.d
theorem w45hk (N:Nat):HintOk (w45c N) Tryd.f45.ntmps (w45h N) w45b:=hk_of _ _ trivial
theorem w45q [Alg] (N:Nat) (l0:(List UInt8)):w45G N  l0=exec (w45c N) Tryd.f45.ntmps (w45h N) w45b ⟨argT 0 [.e (.sl .u8) l0],[],100⟩ (finX (w45c N) Tryd.f45 false):=by kernel_rfl
theorem w45does {N:Nat} (hc:CxOk (w45c N)) {l0:(List UInt8)} {r:Res} (h:w45 N l0=some r):DoesR Tryd.prog 45 (([.e (.sl .u8) l0]:List X).map X.D) (HA []) r:=
  fun_ok hc (f:=45) (fn:=Tryd.f45) (code:=w45b) (by kernel_rfl) (by kernel_rfl) (w45hk N) (Nat.le_of_ble_eq_true (by kernel_rfl)) (ow:=false) ((w45q N l0).symm.trans (by exact h))
def w45un (r:Res):Option (Bool):=match r with
  | (x0,[])=>(match ue .bo x0 with | some a0=>some a0 | _=>none)
  | _=>none
theorem w45uo {r:Res} {d:Bool} (h:w45un r=some d):r=w45r0 (d):=by
  unfold w45un at h
  split at h
  · split at h
    · rename_i h0;cases h;rw [ue_some h0];rfl
    · cases h
  · cases h
def w45z (N:Nat) (l0:(List UInt8)):Option (Bool):=(w45 N l0).bind w45un
theorem w45fin {N:Nat} (hc:CxOk (w45c N)) {l0:(List UInt8)} {d:Bool} (hd:w45z N l0=some d):Does Tryd.prog 45 (([.e (.sl .u8) l0]:List X).map X.D) (HA []) (w45r0 (d)).1.D (HA (w45r0 (d)).2):=by
  obtain ⟨r,hr,hu⟩:=Option.bind_eq_some_iff.1 hd
  have:=w45does hc hr
  rw [w45uo hu] at this
  exact this
def w45p (N:Nat) (l0:(List UInt8)):Bool:=(w45z N l0).isSome
def w45y0 (N:Nat) (l0:(List UInt8)):Bool:=((w45z N l0).getD false)
def w45e (N:Nat):Ent':=E1 (.sl .u8)  (fun x0=>(w45p N x0,w45r0 (w45y0 N x0)))
theorem w45re {N:Nat} {l0:(List UInt8)} {d:Bool} (hd:w45z N l0=some d):w45r0 (w45y0 N l0)=w45r0 (d):=by unfold w45y0;rw [hd];rfl
theorem w45ok (N:Nat):EOk Tryd.prog 45 (w45e N):=EOk.e1 (fun x0 h=>by
  have h:(w45z N x0).isSome=true:=h
  obtain ⟨d,hd⟩:=Option.isSome_iff_exists.1 h
  have f:=w45fin (w45cx N) hd
  rw [← w45re hd] at f
  exact f)
def w47r0 (a0:Bool):Res:=(.e .bo a0,[])
noncomputable def w47L (_:Nat):List (Nat×Ent'):=[]
noncomputable def w47c (N:Nat):Cx:=⟨Tryd.prog,25,w47L N,[]⟩
noncomputable def w47b:Code:=Tryd.f47.body.getD .skip
theorem w47cx (N:Nat):CxOk (w47c N):=ctx_ok (by kernel_rfl) .nil .nil
def w47F0 [Alg] (_:Nat)  (self:Int→O) (k0:Bool→O) (k1:Unit→O) (x0_0:(List UInt8)) (x0_1:(List UInt8)) (x0_2:Int):O:=
  br (decide (x0_2 < (↑x0_0.length:Int)))
    (gx x0_0 x0_2 fun y5=>
    gx x0_1 x0_2 fun y6=>
    br (decide (y5≠y6))
      (k0 false)
      (self (IntKind.i64.wrap (x0_2+(1:Int)))))
    (k1 ())
noncomputable def w47b0:Code:=atC [1,1,0,1,0,0] w47b
def w47m0:Nm:=⟨[0,1,5],[],[]⟩
def w47I0 (x:(List UInt8)×(List UInt8)×Int):Sg:=⟨[(0,.e (.sl .u8) x.1),(1,.e (.sl .u8) x.2.1),(5,.e (.i .i64) x.2.2)],[],100⟩
def w47u0 (σ:Sg):(List UInt8)×(List UInt8)×Int:=(lvT (.sl .u8) 0 0 σ,lvT (.sl .u8) 1 0 σ,lvT (.i .i64) 5 0 σ)
theorem w47ui0:∀ x,w47u0 (w47I0 x)=x:=fun _=>by kernel_rfl
def w47X0_0 (y:Bool):Exit×Sg:=(.ret,⟨[(4,.e .bo y)],[],100⟩)
def w47v0_0 (_:Exit) (σ:Sg):Bool:=lvT .bo 4 0 σ
def w47X0_1 (_:Unit):Exit×Sg:=((.exit 0),⟨[],[],100⟩)
def w47v0_1 (_:Exit) (_:Sg):Unit:=()
def w47w0:List (Exit×Nm):=[(.ret,⟨[4],[],[]⟩),((.exit 0),⟨[],[],[]⟩)]
theorem w47o0:Outs w47v0_0 w47v0_1 (fun _ _=>()) w47X0_0 w47X0_1 (noX 2) (exC .ret) (exC (.exit 0)) (exC (.goto 2)):=⟨fun _=>by kernel_rfl,fun _=>by kernel_rfl,fun _=>by kernel_rfl,fun _=>by kernel_rfl,fun _=>by kernel_rfl,fun _=>by kernel_rfl,exNe_ok (by kernel_rfl),exNe_ok (by kernel_rfl),exNe_ok (by kernel_rfl)⟩
def w47l0 [Alg] (N:Nat):Nat→((List UInt8)×(List UInt8)×Int)→((Bool)→O)→((Unit)→O)→((Unit)→O)→O
  | 0,_,_,_,_=>none
  | n+1,x,k0,k1,k2=>w47F0 N  (fun v0=>w47l0 N n (x.1,x.2.1,v0) k0 k1 k2) (fun y0=>k0 y0) (fun (_:Unit)=>k1 ()) x.1 x.2.1 x.2.2
def w47n0 [Alg] (N:Nat) (a0:(List UInt8)) (a1:(List UInt8)) (a2:Int) (k0:Bool→O) (k1:Unit→O):O:=w47l0 N N (a0,a1,a2) (fun y=>k0 y) (fun y=>k1 y) (fun _=>none)
noncomputable def w47s0 [Alg] (N:Nat) (a0:(List UInt8)) (a1:(List UInt8)) (a2:Int) (k0:Bool→O) (k1:Unit→O):O:=subL w47I0 w47u0 (w47l0 N N) (w47I0 (a0,a1,a2)) (fun y=>k0 y) (fun y=>k1 y) (fun _=>none)
theorem w47e0 [Alg] (N:Nat):w47s0 N=w47n0 N:=funext fun _=>funext fun _=>funext fun _=>funext fun _=>funext fun _=>subL_I w47ui0 _ _ _ _
noncomputable def w47h0 [Alg] (_:Nat):Hint:=.d
theorem w47hk0 (N:Nat):HintOk (w47c N) Tryd.f47.ntmps (w47h0 N) w47b0:=hk_of _ _ trivial
theorem w47q0 [Alg] (N:Nat) (self:Sg→O) (K:Exit→Sg→O) (x:(List UInt8)×(List UInt8)×Int):w47F0 N  (fun v0=>self (w47I0 (x.1,x.2.1,v0))) (fun y0=>K (w47X0_0 y0).1 (w47X0_0 y0).2) (fun (_:Unit)=>K (w47X0_1 ()).1 (w47X0_1 ()).2) x.1 x.2.1 x.2.2=exec (w47c N) Tryd.f47.ntmps (w47h0 N) w47b0 (w47I0 x) (roundX w47m0 w47w0 self K):=by kernel_rfl
theorem w47S0 (N:Nat) (hc:CxOk (w47c N)):SubOk (w47c N) Tryd.f47.ntmps (.loop w47b0) w47X0_0 w47X0_1 (noX 2) (subL w47I0 w47u0 (w47l0 N N)):=
  sub_loop hc (w47hk0 N) w47o0 (n:=N) (fun x K=>loop_ind (w47l0 N) (fun _ _ _ _=>rfl) (fun n K ih x=>by
    have h:w47F0 N  (fun v0=>w47l0 N n (x.1,x.2.1,v0) (fun y=>K (w47X0_0 y).1 (w47X0_0 y).2) (fun y=>K (w47X0_1 y).1 (w47X0_1 y).2) (fun y=>K ((noX 2) y).1 ((noX 2) y).2)) (fun y0=>K (w47X0_0 y0).1 (w47X0_0 y0).2) (fun (_:Unit)=>K (w47X0_1 ()).1 (w47X0_1 ()).2) x.1 x.2.1 x.2.2=w47F0 N  (fun v0=>loopX (w47c N) Tryd.f47.ntmps (w47h0 N) w47b0 w47m0 w47w0 n (w47I0 (x.1,x.2.1,v0)) K) (fun y0=>K (w47X0_0 y0).1 (w47X0_0 y0).2) (fun (_:Unit)=>K (w47X0_1 ()).1 (w47X0_1 ()).2) x.1 x.2.1 x.2.2:=by rw [ show (fun v0=>w47l0 N n (x.1,x.2.1,v0) (fun y=>K (w47X0_0 y).1 (w47X0_0 y).2) (fun y=>K (w47X0_1 y).1 (w47X0_1 y).2) (fun y=>K ((noX 2) y).1 ((noX 2) y).2))=(fun v0=>loopX (w47c N) Tryd.f47.ntmps (w47h0 N) w47b0 w47m0 w47w0 n (w47I0 (x.1,x.2.1,v0)) K) from funext fun _=>ih _]
    exact h.trans (w47q0 N (fun σ=>loopX (w47c N) Tryd.f47.ntmps (w47h0 N) w47b0 w47m0 w47w0 n σ K) K x)) N x K)
def w47G [Alg] (_:Nat) (in0:(List UInt8)→(List UInt8)→Int→(Bool→O)→(Unit→O)→O) (a0:(List UInt8)) (b1:(List UInt8)):O:=
  br (decide ((↑a0.length:Int)≠(↑b1.length:Int)))
    (some (w47r0 false))
    (in0 a0 b1 ((0:Int))
      (fun z7=>
        some (w47r0 z7))
      (fun (_:Unit)=>
        some (w47r0 true)))
def w47 [Alg] (N:Nat) (a0:(List UInt8)) (b1:(List UInt8)):O:=w47G N (w47n0 N) a0 b1
noncomputable def w47h [Alg] (N:Nat):Hint:=(.seq .d (.seq .d (.seq (.seq .d (.block (.sub w47m0 _ _ _ w47X0_0 w47X0_1 (noX 2) (subL w47I0 w47u0 (w47l0 N N))))) .d)))
theorem w47hk (N:Nat) (hc:CxOk (w47c N)):HintOk (w47c N) Tryd.f47.ntmps (w47h N) w47b:=hk_of _ _ (And.intro trivial (And.intro trivial (And.intro (And.intro trivial (w47S0 N hc)) trivial)))
theorem w47q [Alg] (N:Nat) (a0:(List UInt8)) (b1:(List UInt8)):w47G N (w47s0 N) a0 b1=exec (w47c N) Tryd.f47.ntmps (w47h N) w47b ⟨argT 0 [.e (.sl .u8) a0,.e (.sl .u8) b1],[],100⟩ (finX (w47c N) Tryd.f47 false):=by kernel_rfl
theorem w47does {N:Nat} (hc:CxOk (w47c N)) {a0:(List UInt8)} {b1:(List UInt8)} {r:Res} (h:w47 N a0 b1=some r):DoesR Tryd.prog 47 (([.e (.sl .u8) a0,.e (.sl .u8) b1]:List X).map X.D) (HA []) r:=
  fun_ok hc (f:=47) (fn:=Tryd.f47) (code:=w47b) (by kernel_rfl) (by kernel_rfl) (w47hk N hc) (Nat.le_of_ble_eq_true (by kernel_rfl)) (ow:=false) ((w47q N a0 b1).symm.trans (by rw [w47e0 N];exact h))
def w47un (r:Res):Option (Bool):=match r with
  | (x0,[])=>(match ue .bo x0 with | some a0=>some a0 | _=>none)
  | _=>none
theorem w47uo {r:Res} {d:Bool} (h:w47un r=some d):r=w47r0 (d):=by
  unfold w47un at h
  split at h
  · split at h
    · rename_i h0;cases h;rw [ue_some h0];rfl
    · cases h
  · cases h
def w47z (N:Nat) (a0:(List UInt8)) (b1:(List UInt8)):Option (Bool):=(w47 N a0 b1).bind w47un
theorem w47fin {N:Nat} (hc:CxOk (w47c N)) {a0:(List UInt8)} {b1:(List UInt8)} {d:Bool} (hd:w47z N a0 b1=some d):Does Tryd.prog 47 (([.e (.sl .u8) a0,.e (.sl .u8) b1]:List X).map X.D) (HA []) (w47r0 (d)).1.D (HA (w47r0 (d)).2):=by
  obtain ⟨r,hr,hu⟩:=Option.bind_eq_some_iff.1 hd
  have:=w47does hc hr
  rw [w47uo hu] at this
  exact this
def w47p (N:Nat) (a0:(List UInt8)) (b1:(List UInt8)):Bool:=(w47z N a0 b1).isSome
def w47y0 (N:Nat) (a0:(List UInt8)) (b1:(List UInt8)):Bool:=((w47z N a0 b1).getD false)
def w47e (N:Nat):Ent':=E2 (.sl .u8) (.sl .u8)  (fun x0 x1=>(w47p N x0 x1,w47r0 (w47y0 N x0 x1)))
theorem w47re {N:Nat} {a0:(List UInt8)} {b1:(List UInt8)} {d:Bool} (hd:w47z N a0 b1=some d):w47r0 (w47y0 N a0 b1)=w47r0 (d):=by unfold w47y0;rw [hd];rfl
theorem w47ok (N:Nat):EOk Tryd.prog 47 (w47e N):=EOk.e2 (fun x0 x1 h=>by
  have h:(w47z N x0 x1).isSome=true:=h
  obtain ⟨d,hd⟩:=Option.isSome_iff_exists.1 h
  have f:=w47fin (w47cx N) hd
  rw [← w47re hd] at f
  exact f)
def w39r0 (a0:Int) (a1:Int) (a2:(List Ex)):Res:=(.agg [.e (.i .i64) a0,.e (.i .i64) a1,.e (.sl .ex) a2],[])
noncomputable def w39L (N:Nat):List (Nat×Ent'):=[(12,w12e N)]
noncomputable def w39c (N:Nat):Cx:=⟨Tryd.prog,25,w39L N,[]⟩
noncomputable def w39b:Code:=Tryd.f39.body.getD .skip
theorem w39cx (N:Nat):CxOk (w39c N):=ctx_ok (by kernel_rfl) (.cons (by kernel_rfl) (w12ok N) .nil) .nil
def w39G [Alg] (N:Nat)  (l0:(List Int)):O:=
  ck (w12p N l0 (4:Int)) <|
  some (w39r0 ((Ex.mk (w12y0 N l0 (4:Int)) (w12y1 N l0 (4:Int)) (w12y2 N l0 (4:Int))).op) ((Ex.mk (w12y0 N l0 (4:Int)) (w12y1 N l0 (4:Int)) (w12y2 N l0 (4:Int))).num) ((Ex.mk (w12y0 N l0 (4:Int)) (w12y1 N l0 (4:Int)) (w12y2 N l0 (4:Int))).kids))
def w39 [Alg] (N:Nat) (l0:(List Int)):O:=w39G N  l0
noncomputable def w39h [Alg] (_:Nat):Hint:=.d
theorem w39hk (N:Nat):HintOk (w39c N) Tryd.f39.ntmps (w39h N) w39b:=hk_of _ _ trivial
theorem w39q [Alg] (N:Nat) (l0:(List Int)):w39G N  l0=exec (w39c N) Tryd.f39.ntmps (w39h N) w39b ⟨argT 0 [.e (.sl (.i .i64)) l0],[],100⟩ (finX (w39c N) Tryd.f39 false):=by kernel_rfl
theorem w39does {N:Nat} (hc:CxOk (w39c N)) {l0:(List Int)} {r:Res} (h:w39 N l0=some r):DoesR Tryd.prog 39 (([.e (.sl (.i .i64)) l0]:List X).map X.D) (HA []) r:=
  fun_ok hc (f:=39) (fn:=Tryd.f39) (code:=w39b) (by kernel_rfl) (by kernel_rfl) (w39hk N) (Nat.le_of_ble_eq_true (by kernel_rfl)) (ow:=false) ((w39q N l0).symm.trans (by exact h))
def w39un (r:Res):Option (Int×Int×(List Ex)):=match r with
  | (.agg [x0,x1,x2],[])=>(match ue (.i .i64) x0,ue (.i .i64) x1,ue (.sl .ex) x2 with | some a0,some a1,some a2=>some (a0,a1,a2) | _,_,_=>none)
  | _=>none
theorem w39uo {r:Res} {d:Int×Int×(List Ex)} (h:w39un r=some d):r=w39r0 (d.1) (d.2.1) (d.2.2):=by
  unfold w39un at h
  split at h
  · split at h
    · rename_i h0 h1 h2;cases h;rw [ue_some h0,ue_some h1,ue_some h2];rfl
    · cases h
  · cases h
def w39z (N:Nat) (l0:(List Int)):Option (Int×Int×(List Ex)):=(w39 N l0).bind w39un
theorem w39fin {N:Nat} (hc:CxOk (w39c N)) {l0:(List Int)} {d:Int×Int×(List Ex)} (hd:w39z N l0=some d):Does Tryd.prog 39 (([.e (.sl (.i .i64)) l0]:List X).map X.D) (HA []) (w39r0 (d.1) (d.2.1) (d.2.2)).1.D (HA (w39r0 (d.1) (d.2.1) (d.2.2)).2):=by
  obtain ⟨r,hr,hu⟩:=Option.bind_eq_some_iff.1 hd
  have:=w39does hc hr
  rw [w39uo hu] at this
  exact this
def w39p (N:Nat) (l0:(List Int)):Bool:=(w39z N l0).isSome
def w39y0 (N:Nat) (l0:(List Int)):Int:=((w39z N l0).getD (0,0,[])).1
def w39y1 (N:Nat) (l0:(List Int)):Int:=((w39z N l0).getD (0,0,[])).2.1
def w39y2 (N:Nat) (l0:(List Int)):(List Ex):=((w39z N l0).getD (0,0,[])).2.2
def w39e (N:Nat):Ent':=E1 (.sl (.i .i64))  (fun x0=>(w39p N x0,w39r0 (w39y0 N x0) (w39y1 N x0) (w39y2 N x0)))
theorem w39re {N:Nat} {l0:(List Int)} {d:Int×Int×(List Ex)} (hd:w39z N l0=some d):w39r0 (w39y0 N l0) (w39y1 N l0) (w39y2 N l0)=w39r0 (d.1) (d.2.1) (d.2.2):=by unfold w39y0 w39y1 w39y2;rw [hd];rfl
theorem w39ok (N:Nat):EOk Tryd.prog 39 (w39e N):=EOk.e1 (fun x0 h=>by
  have h:(w39z N x0).isSome=true:=h
  obtain ⟨d,hd⟩:=Option.isSome_iff_exists.1 h
  have f:=w39fin (w39cx N) hd
  rw [← w39re hd] at f
  exact f)
def w71r0 (a0:Int) (a1:Int) (a2:(List Ex)):Res:=(.agg [.e (.i .i64) a0,.e (.i .i64) a1,.e (.sl .ex) a2],[])
noncomputable def w71L (_:Nat):List (Nat×Ent'):=[]
noncomputable def w71c (N:Nat):Cx:=⟨Tryd.prog,25,w71L N,[]⟩
noncomputable def w71b:Code:=Tryd.f71.body.getD .skip
theorem w71cx (N:Nat):CxOk (w71c N):=ctx_ok (by kernel_rfl) .nil .nil
def w71G [Alg] (_:Nat)   : O:=
  some (w71r0 ((3:Int)) ((0:Int)) [Ex.mk (1:Int) (0:Int) [],Ex.mk (0:Int) (12:Int) []])
def w71 [Alg] (N:Nat)  : O:=w71G N  
noncomputable def w71h [Alg] (_:Nat):Hint:=.d
theorem w71hk (N:Nat):HintOk (w71c N) Tryd.f71.ntmps (w71h N) w71b:=hk_of _ _ trivial
theorem w71q [Alg] (N:Nat)  : w71G N   = exec (w71c N) Tryd.f71.ntmps (w71h N) w71b ⟨argT 0 [],[],100⟩ (finX (w71c N) Tryd.f71 false):=by kernel_rfl
theorem w71does {N:Nat} (hc:CxOk (w71c N))  {r:Res} (h:w71 N  = some r):DoesR Tryd.prog 71 (([]:List X).map X.D) (HA []) r:=
  fun_ok hc (f:=71) (fn:=Tryd.f71) (code:=w71b) (by kernel_rfl) (by kernel_rfl) (w71hk N) (Nat.le_of_ble_eq_true (by kernel_rfl)) (ow:=false) ((w71q N ).symm.trans (by exact h))
def w71un (r:Res):Option (Int×Int×(List Ex)):=match r with
  | (.agg [x0,x1,x2],[])=>(match ue (.i .i64) x0,ue (.i .i64) x1,ue (.sl .ex) x2 with | some a0,some a1,some a2=>some (a0,a1,a2) | _,_,_=>none)
  | _=>none
theorem w71uo {r:Res} {d:Int×Int×(List Ex)} (h:w71un r=some d):r=w71r0 (d.1) (d.2.1) (d.2.2):=by
  unfold w71un at h
  split at h
  · split at h
    · rename_i h0 h1 h2;cases h;rw [ue_some h0,ue_some h1,ue_some h2];rfl
    · cases h
  · cases h
def w71z (N:Nat)  : Option (Int×Int×(List Ex)):=(w71 N ).bind w71un
theorem w71fin {N:Nat} (hc:CxOk (w71c N))  {d:Int×Int×(List Ex)} (hd:w71z N  = some d):Does Tryd.prog 71 (([]:List X).map X.D) (HA []) (w71r0 (d.1) (d.2.1) (d.2.2)).1.D (HA (w71r0 (d.1) (d.2.1) (d.2.2)).2):=by
  obtain ⟨r,hr,hu⟩:=Option.bind_eq_some_iff.1 hd
  have:=w71does hc hr
  rw [w71uo hu] at this
  exact this
def w71p (N:Nat)  : Bool:=(w71z N ).isSome
def w71y0 (N:Nat)  : Int:=((w71z N ).getD (0,0,[])).1
def w71y1 (N:Nat)  : Int:=((w71z N ).getD (0,0,[])).2.1
def w71y2 (N:Nat)  : (List Ex):=((w71z N ).getD (0,0,[])).2.2
def w71e (N:Nat):Ent':=E0   (w71p N ,w71r0 (w71y0 N ) (w71y1 N ) (w71y2 N ))
theorem w71re {N:Nat}  {d:Int×Int×(List Ex)} (hd:w71z N  = some d):w71r0 (w71y0 N ) (w71y1 N ) (w71y2 N )=w71r0 (d.1) (d.2.1) (d.2.2):=by unfold w71y0 w71y1 w71y2;rw [hd];rfl
theorem w71ok (N:Nat):EOk Tryd.prog 71 (w71e N):=EOk.e0 (fun h=>by
  have h:(w71z N ).isSome=true:=h
  obtain ⟨d,hd⟩:=Option.isSome_iff_exists.1 h
  have f:=w71fin (w71cx N) hd
  rw [← w71re hd] at f
  exact f)
def w74r0 (a0:Bool):Res:=(.e .bo a0,[])
noncomputable def w74L (N:Nat):List (Nat×Ent'):=[(47,w47e N)]
noncomputable def w74c (N:Nat):Cx:=⟨Tryd.prog,25,w74L N,[]⟩
noncomputable def w74b:Code:=Tryd.f74.body.getD .skip
theorem w74cx (N:Nat):CxOk (w74c N):=ctx_ok (by kernel_rfl) (.cons (by kernel_rfl) (w47ok N) .nil) .nil
def w74F0 [Alg] (N:Nat)  (self:Int→O) (k0:Bool→O) (k1:Unit→O) (x0_0:(List (List UInt8))) (x0_1:(List (List UInt8))) (x0_2:Int):O:=
  br (decide (x0_2 < (↑x0_0.length:Int)))
    (gx x0_0 x0_2 fun y5=>
    gx x0_1 x0_2 fun y6=>
    ck (w47p N y5 y6) <|
    br (!w47y0 N y5 y6)
      (k0 false)
      (self (IntKind.i64.wrap (x0_2+(1:Int)))))
    (k1 ())
noncomputable def w74b0:Code:=atC [1,1,0,1,0,0] w74b
def w74m0:Nm:=⟨[0,1,5],[],[]⟩
def w74I0 (x:(List (List UInt8))×(List (List UInt8))×Int):Sg:=⟨[(0,.e (.sl (.sl .u8)) x.1),(1,.e (.sl (.sl .u8)) x.2.1),(5,.e (.i .i64) x.2.2)],[],100⟩
def w74u0 (σ:Sg):(List (List UInt8))×(List (List UInt8))×Int:=(lvT (.sl (.sl .u8)) 0 0 σ,lvT (.sl (.sl .u8)) 1 0 σ,lvT (.i .i64) 5 0 σ)
theorem w74ui0:∀ x,w74u0 (w74I0 x)=x:=fun _=>by kernel_rfl
def w74X0_0 (y:Bool):Exit×Sg:=(.ret,⟨[(4,.e .bo y)],[],100⟩)
def w74v0_0 (_:Exit) (σ:Sg):Bool:=lvT .bo 4 0 σ
def w74X0_1 (_:Unit):Exit×Sg:=((.exit 0),⟨[],[],100⟩)
def w74v0_1 (_:Exit) (_:Sg):Unit:=()
def w74w0:List (Exit×Nm):=[(.ret,⟨[4],[],[]⟩),((.exit 0),⟨[],[],[]⟩)]
theorem w74o0:Outs w74v0_0 w74v0_1 (fun _ _=>()) w74X0_0 w74X0_1 (noX 2) (exC .ret) (exC (.exit 0)) (exC (.goto 2)):=⟨fun _=>by kernel_rfl,fun _=>by kernel_rfl,fun _=>by kernel_rfl,fun _=>by kernel_rfl,fun _=>by kernel_rfl,fun _=>by kernel_rfl,exNe_ok (by kernel_rfl),exNe_ok (by kernel_rfl),exNe_ok (by kernel_rfl)⟩
def w74l0 [Alg] (N:Nat):Nat→((List (List UInt8))×(List (List UInt8))×Int)→((Bool)→O)→((Unit)→O)→((Unit)→O)→O
  | 0,_,_,_,_=>none
  | n+1,x,k0,k1,k2=>w74F0 N  (fun v0=>w74l0 N n (x.1,x.2.1,v0) k0 k1 k2) (fun y0=>k0 y0) (fun (_:Unit)=>k1 ()) x.1 x.2.1 x.2.2
def w74n0 [Alg] (N:Nat) (a0:(List (List UInt8))) (a1:(List (List UInt8))) (a2:Int) (k0:Bool→O) (k1:Unit→O):O:=w74l0 N N (a0,a1,a2) (fun y=>k0 y) (fun y=>k1 y) (fun _=>none)
noncomputable def w74s0 [Alg] (N:Nat) (a0:(List (List UInt8))) (a1:(List (List UInt8))) (a2:Int) (k0:Bool→O) (k1:Unit→O):O:=subL w74I0 w74u0 (w74l0 N N) (w74I0 (a0,a1,a2)) (fun y=>k0 y) (fun y=>k1 y) (fun _=>none)
theorem w74e0 [Alg] (N:Nat):w74s0 N=w74n0 N:=funext fun _=>funext fun _=>funext fun _=>funext fun _=>funext fun _=>subL_I w74ui0 _ _ _ _
noncomputable def w74h0 [Alg] (_:Nat):Hint:=.d
theorem w74hk0 (N:Nat):HintOk (w74c N) Tryd.f74.ntmps (w74h0 N) w74b0:=hk_of _ _ trivial
theorem w74q0 [Alg] (N:Nat) (self:Sg→O) (K:Exit→Sg→O) (x:(List (List UInt8))×(List (List UInt8))×Int):w74F0 N  (fun v0=>self (w74I0 (x.1,x.2.1,v0))) (fun y0=>K (w74X0_0 y0).1 (w74X0_0 y0).2) (fun (_:Unit)=>K (w74X0_1 ()).1 (w74X0_1 ()).2) x.1 x.2.1 x.2.2=exec (w74c N) Tryd.f74.ntmps (w74h0 N) w74b0 (w74I0 x) (roundX w74m0 w74w0 self K):=by kernel_rfl
theorem w74S0 (N:Nat) (hc:CxOk (w74c N)):SubOk (w74c N) Tryd.f74.ntmps (.loop w74b0) w74X0_0 w74X0_1 (noX 2) (subL w74I0 w74u0 (w74l0 N N)):=
  sub_loop hc (w74hk0 N) w74o0 (n:=N) (fun x K=>loop_ind (w74l0 N) (fun _ _ _ _=>rfl) (fun n K ih x=>by
    have h:w74F0 N  (fun v0=>w74l0 N n (x.1,x.2.1,v0) (fun y=>K (w74X0_0 y).1 (w74X0_0 y).2) (fun y=>K (w74X0_1 y).1 (w74X0_1 y).2) (fun y=>K ((noX 2) y).1 ((noX 2) y).2)) (fun y0=>K (w74X0_0 y0).1 (w74X0_0 y0).2) (fun (_:Unit)=>K (w74X0_1 ()).1 (w74X0_1 ()).2) x.1 x.2.1 x.2.2=w74F0 N  (fun v0=>loopX (w74c N) Tryd.f74.ntmps (w74h0 N) w74b0 w74m0 w74w0 n (w74I0 (x.1,x.2.1,v0)) K) (fun y0=>K (w74X0_0 y0).1 (w74X0_0 y0).2) (fun (_:Unit)=>K (w74X0_1 ()).1 (w74X0_1 ()).2) x.1 x.2.1 x.2.2:=by rw [ show (fun v0=>w74l0 N n (x.1,x.2.1,v0) (fun y=>K (w74X0_0 y).1 (w74X0_0 y).2) (fun y=>K (w74X0_1 y).1 (w74X0_1 y).2) (fun y=>K ((noX 2) y).1 ((noX 2) y).2))=(fun v0=>loopX (w74c N) Tryd.f74.ntmps (w74h0 N) w74b0 w74m0 w74w0 n (w74I0 (x.1,x.2.1,v0)) K) from funext fun _=>ih _]
    exact h.trans (w74q0 N (fun σ=>loopX (w74c N) Tryd.f74.ntmps (w74h0 N) w74b0 w74m0 w74w0 n σ K) K x)) N x K)
def w74G [Alg] (_:Nat) (in0:(List (List UInt8))→(List (List UInt8))→Int→(Bool→O)→(Unit→O)→O) (a0:(List (List UInt8))) (b1:(List (List UInt8))):O:=
  br (decide ((↑a0.length:Int)≠(↑b1.length:Int)))
    (some (w74r0 false))
    (in0 a0 b1 ((0:Int))
      (fun z7=>
        some (w74r0 z7))
      (fun (_:Unit)=>
        some (w74r0 true)))
def w74 [Alg] (N:Nat) (a0:(List (List UInt8))) (b1:(List (List UInt8))):O:=w74G N (w74n0 N) a0 b1
noncomputable def w74h [Alg] (N:Nat):Hint:=(.seq .d (.seq .d (.seq (.seq .d (.block (.sub w74m0 _ _ _ w74X0_0 w74X0_1 (noX 2) (subL w74I0 w74u0 (w74l0 N N))))) .d)))
theorem w74hk (N:Nat) (hc:CxOk (w74c N)):HintOk (w74c N) Tryd.f74.ntmps (w74h N) w74b:=hk_of _ _ (And.intro trivial (And.intro trivial (And.intro (And.intro trivial (w74S0 N hc)) trivial)))
theorem w74q [Alg] (N:Nat) (a0:(List (List UInt8))) (b1:(List (List UInt8))):w74G N (w74s0 N) a0 b1=exec (w74c N) Tryd.f74.ntmps (w74h N) w74b ⟨argT 0 [.e (.sl (.sl .u8)) a0,.e (.sl (.sl .u8)) b1],[],100⟩ (finX (w74c N) Tryd.f74 false):=by kernel_rfl
theorem w74does {N:Nat} (hc:CxOk (w74c N)) {a0:(List (List UInt8))} {b1:(List (List UInt8))} {r:Res} (h:w74 N a0 b1=some r):DoesR Tryd.prog 74 (([.e (.sl (.sl .u8)) a0,.e (.sl (.sl .u8)) b1]:List X).map X.D) (HA []) r:=
  fun_ok hc (f:=74) (fn:=Tryd.f74) (code:=w74b) (by kernel_rfl) (by kernel_rfl) (w74hk N hc) (Nat.le_of_ble_eq_true (by kernel_rfl)) (ow:=false) ((w74q N a0 b1).symm.trans (by rw [w74e0 N];exact h))
def w74un (r:Res):Option (Bool):=match r with
  | (x0,[])=>(match ue .bo x0 with | some a0=>some a0 | _=>none)
  | _=>none
theorem w74uo {r:Res} {d:Bool} (h:w74un r=some d):r=w74r0 (d):=by
  unfold w74un at h
  split at h
  · split at h
    · rename_i h0;cases h;rw [ue_some h0];rfl
    · cases h
  · cases h
def w74z (N:Nat) (a0:(List (List UInt8))) (b1:(List (List UInt8))):Option (Bool):=(w74 N a0 b1).bind w74un
theorem w74fin {N:Nat} (hc:CxOk (w74c N)) {a0:(List (List UInt8))} {b1:(List (List UInt8))} {d:Bool} (hd:w74z N a0 b1=some d):Does Tryd.prog 74 (([.e (.sl (.sl .u8)) a0,.e (.sl (.sl .u8)) b1]:List X).map X.D) (HA []) (w74r0 (d)).1.D (HA (w74r0 (d)).2):=by
  obtain ⟨r,hr,hu⟩:=Option.bind_eq_some_iff.1 hd
  have:=w74does hc hr
  rw [w74uo hu] at this
  exact this
def w74p (N:Nat) (a0:(List (List UInt8))) (b1:(List (List UInt8))):Bool:=(w74z N a0 b1).isSome
def w74y0 (N:Nat) (a0:(List (List UInt8))) (b1:(List (List UInt8))):Bool:=((w74z N a0 b1).getD false)
def w74e (N:Nat):Ent':=E2 (.sl (.sl .u8)) (.sl (.sl .u8))  (fun x0 x1=>(w74p N x0 x1,w74r0 (w74y0 N x0 x1)))
theorem w74re {N:Nat} {a0:(List (List UInt8))} {b1:(List (List UInt8))} {d:Bool} (hd:w74z N a0 b1=some d):w74r0 (w74y0 N a0 b1)=w74r0 (d):=by unfold w74y0;rw [hd];rfl
theorem w74ok (N:Nat):EOk Tryd.prog 74 (w74e N):=EOk.e2 (fun x0 x1 h=>by
  have h:(w74z N x0 x1).isSome=true:=h
  obtain ⟨d,hd⟩:=Option.isSome_iff_exists.1 h
  have f:=w74fin (w74cx N) hd
  rw [← w74re hd] at f
  exact f)
end
end Go.Proofs
/- The examples hold. -/
namespace Go.Proofs
open Go Go.Ax
noncomputable def w41L (N:Nat):List (Nat×Ent'):=[(71,w71e N),(40,w40e N),(72,w72e N),(73,w73e N),(43,w43e N),(42,w42e N),(18,w18e N),(47,w47e N),(36,w36e N),(74,w74e N)]
noncomputable def w41c (N:Nat):Cx:=⟨Tryd.prog,25,w41L N,[]⟩
noncomputable def w41b:Code:=Tryd.f41.body.getD .skip
theorem w41cx (N:Nat):CxOk (w41c N):=ctx_ok (by kernel_rfl) (.cons (by kernel_rfl) (w71ok N) (.cons (by kernel_rfl) (w40ok N) (.cons (by kernel_rfl) (w72ok N) (.cons (by kernel_rfl) (w73ok N) (.cons (by kernel_rfl) (w43ok N) (.cons (by kernel_rfl) (w42ok N) (.cons (by kernel_rfl) (w18ok N) (.cons (by kernel_rfl) (w47ok N) (.cons (by kernel_rfl) (w36ok N) (.cons (by kernel_rfl) (w74ok N) .nil)))))))))) .nil
theorem lives41:exec (w41c 6000) Tryd.f41.ntmps .d w41b ⟨argT 0 [],[],100⟩ (finX (w41c 6000) Tryd.f41 false)=some (.e .bo true,[]):=by kernel_rfl
theorem l41ok (N:Nat):EOk Tryd.prog 41 (l41e N):=EOk.e0 (fun _=>
  fun_ok (w41cx 6000) (f:=41) (fn:=Tryd.f41) (code:=w41b) (by kernel_rfl) (by kernel_rfl) (hk_d _) (Nat.le_of_ble_eq_true (by kernel_rfl)) (ow:=false) lives41)
end Go.Proofs
