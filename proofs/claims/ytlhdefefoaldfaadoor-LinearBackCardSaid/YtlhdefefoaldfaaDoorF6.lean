/- What the law does. Conditions are in the theorems. -/
import Derived.Test.YtlhdefefoaldfaaDoorE7
import Derived.Test.YtlhdefefoaldfaaDoorProg
import Derived.KernelRfl
import Derived.Test.YtlhdefefoaldfaaDoorL1
import Derived.Test.YtlhdefefoaldfaaDoorF0
import Derived.Test.YtlhdefefoaldfaaDoorF2
import Derived.Test.YtlhdefefoaldfaaDoorF3
/- What functions do. -/
namespace Go.Proofs
noncomputable section
open Go.Ax Go.Ax.Alg Go.RowKit Go.Ab
open Go
def w11r0 (a0:Bool):Res:=(.e .bo a0,[])
noncomputable def w11L (N:Nat):List (Nat×Ent'):=[(41,l41e N),(39,w39e N),(40,w40e N),(17,w17e N),(44,w44e N),(43,w43e N),(38,w38e N),(45,w45e N),(14,w14e N),(46,w46e N),(47,w47e N)]
noncomputable def w11c (N:Nat):Cx:=⟨Tryd.prog,25,w11L N,[]⟩
noncomputable def w11b:Code:=Tryd.f11.body.getD .skip
theorem w11cx (N:Nat):CxOk (w11c N):=ctx_ok (by kernel_rfl) (.cons (by kernel_rfl) (l41ok N) (.cons (by kernel_rfl) (w39ok N) (.cons (by kernel_rfl) (w40ok N) (.cons (by kernel_rfl) (w17ok N) (.cons (by kernel_rfl) (w44ok N) (.cons (by kernel_rfl) (w43ok N) (.cons (by kernel_rfl) (w38ok N) (.cons (by kernel_rfl) (w45ok N) (.cons (by kernel_rfl) (w14ok N) (.cons (by kernel_rfl) (w46ok N) (.cons (by kernel_rfl) (w47ok N) .nil))))))))))) .nil
def w11G [Alg] (N:Nat)  (l0:(List Int)) (m1:(List Int)) (cut2:Int) (more3:(List UInt8)):O:=
 let b2:=Ex.mk (w39y0 N l0) (w39y1 N l0) (w39y2 N l0)
 let b4:=Ex.mk b2.op b2.num b2.kids
 let b0:=w40y0 N b4.op b4.num b4.kids
 let b5:=w44y0 N b0 (↑b0.length:Int)++w44y0 N more3 (30:Int)
 let b1:=Ex.mk (w43y0 N b5) (w43y1 N b5) (w43y2 N b5)
 let b6:=Ex.mk (w39y0 N m1) (w39y1 N m1) (w39y2 N m1)
 let b3:=Ex.mk b6.op b6.num b6.kids
 let b9:=Ex.mk b1.op b1.num b1.kids
 let b10:=w43y3 N b5≠(↑b0.length:Int)
 let b11:=w17y0 N b4.op b4.num b4.kids≠w40y1 N b4.op b4.num b4.kids
 let b12:=(↑b0.length:Int)=(0:Int)
 let b13:=w40y0 N b3.op b3.num b3.kids
 let b14:=some (w46y0 N cut2 (↑b0.length:Int))
 let b7:=w43y4 N (slc b0 none b14)=(3:Int)
 let b15:=w43y4 N b5≠(0:Int)
 let b8:=decide b12||decide b15||decide b10||!w38y0 N b1.op b1.num b1.kids b2.op b2.num b2.kids||!w45y0 N b0
 ck (w39p N l0) <|
 ck (w39p N m1) <|
 ck (w40p N b4.op b4.num b4.kids) <|
 ck (w40p N b3.op b3.num b3.kids) <|
 ck (w17p N b4.op b4.num b4.kids) <|
 ck (!!decide b11||w17p N b3.op b3.num b3.kids) <|
 br (decide b11||decide (w17y0 N b3.op b3.num b3.kids≠w40y1 N b3.op b3.num b3.kids))
  (some (w11r0 false))
  (br (decide (w40y1 N b4.op b4.num b4.kids≠(0:Int))||decide (w40y1 N b3.op b3.num b3.kids≠(0:Int)))
   (ck true <|
   some (w11r0 true))
   (ck (w44p N b0 (↑b0.length:Int)) <|
   ck (w44p N more3 (30:Int)) <|
   ck (lim b5.length (1:Nat)) <|
   ck (w43p N b5) <|
   ck (!!(decide b12||decide b15||decide b10)||w38p N b1.op b1.num b1.kids b2.op b2.num b2.kids) <|
   ck (!!(decide b12||decide b15||decide b10||!w38y0 N b1.op b1.num b1.kids b2.op b2.num b2.kids)||w45p N b0) <|
   ck (!!b8||w14p N b9.op b9.num b9.kids) <|
   ck (!!b8||w14p N b4.op b4.num b4.kids) <|
   br (decide b12||decide b15||decide b10||!w38y0 N b1.op b1.num b1.kids b2.op b2.num b2.kids||!w45y0 N b0||decide (w14y0 N b9.op b9.num b9.kids≠w14y0 N b4.op b4.num b4.kids))
    (some (w11r0 false))
    (ck (w46p N cut2 (↑b0.length:Int)) <|
    ck (slcOk b0.length none b14) <|
    ck (w43p N (slc b0 none b14)) <|
    ck (!decide b7||w47p N b0 b13) <|
    ck (!decide b7||w38p N b2.op b2.num b2.kids b6.op b6.num b6.kids) <|
    ck (!(decide b7&&w47y0 N b0 b13 == w38y0 N b2.op b2.num b2.kids b6.op b6.num b6.kids)||true) <|
    some (w11r0 (decide b7&&w47y0 N b0 b13 == w38y0 N b2.op b2.num b2.kids b6.op b6.num b6.kids&&true)))))
def w11 [Alg] (N:Nat) (l0:(List Int)) (m1:(List Int)) (cut2:Int) (more3:(List UInt8)):O:=w11G N  l0 m1 cut2 more3
noncomputable def w11h [Alg] (_:Nat):Hint:=.d
theorem w11hk (N:Nat):HintOk (w11c N) Tryd.f11.ntmps (w11h N) w11b:=hk_of _ _ trivial
theorem w11q [Alg] (N:Nat) (l0:(List Int)) (m1:(List Int)) (cut2:Int) (more3:(List UInt8)):w11G N  l0 m1 cut2 more3=exec (w11c N) Tryd.f11.ntmps (w11h N) w11b ⟨argT 0 [.e (.sl (.i .i64)) l0,.e (.sl (.i .i64)) m1,.e (.i .i64) cut2,.e (.sl .u8) more3],[],100⟩ (finX (w11c N) Tryd.f11 false):=by kernel_rfl
theorem w11does {N:Nat} (hc:CxOk (w11c N)) {l0:(List Int)} {m1:(List Int)} {cut2:Int} {more3:(List UInt8)} {r:Res} (h:w11 N l0 m1 cut2 more3=some r):DoesR Tryd.prog 11 (([.e (.sl (.i .i64)) l0,.e (.sl (.i .i64)) m1,.e (.i .i64) cut2,.e (.sl .u8) more3]:List X).map X.D) (HA []) r:=
 fun_ok hc (f:=11) (fn:=Tryd.f11) (code:=w11b) (by kernel_rfl) (by kernel_rfl) (w11hk N) (Nat.le_of_ble_eq_true (by kernel_rfl)) (ow:=false) ((w11q N l0 m1 cut2 more3).symm.trans (by exact h))
def w11un (r:Res):Option (Bool):=match r with
 | (x0,[])=>(match ue .bo x0 with | some a0=>some a0 | _=>none)
 | _=>none
theorem w11uo {r:Res} {d:Bool} (h:w11un r=some d):r=w11r0 (d):=by
 unfold w11un at h
 split at h
 ·split at h
  ·rename_i h0;cases h;rw [ue_some h0];rfl
  ·cases h
 ·cases h
def w11z (N:Nat) (l0:(List Int)) (m1:(List Int)) (cut2:Int) (more3:(List UInt8)):Option (Bool):=(w11 N l0 m1 cut2 more3).bind w11un
theorem w11fin {N:Nat} (hc:CxOk (w11c N)) {l0:(List Int)} {m1:(List Int)} {cut2:Int} {more3:(List UInt8)} {d:Bool} (hd:w11z N l0 m1 cut2 more3=some d):Does Tryd.prog 11 (([.e (.sl (.i .i64)) l0,.e (.sl (.i .i64)) m1,.e (.i .i64) cut2,.e (.sl .u8) more3]:List X).map X.D) (HA []) (w11r0 (d)).1.D (HA (w11r0 (d)).2):=by
 obtain ⟨r,hr,hu⟩:=Option.bind_eq_some_iff.1 hd
 have:=w11does hc hr
 rw [w11uo hu] at this
 exact this
end
end Go.Proofs
