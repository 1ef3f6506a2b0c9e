/- What the law does. Conditions are in the theorems. -/
import Derived.Test.YtlhdefefoaldfaaDoorE7
import Derived.Test.YtlhdefefoaldfaaDoorProg
import Derived.KernelRfl
import Derived.Test.YtlhdefefoaldfaaDoorF0
import Derived.Test.YtlhdefefoaldfaaDoorF5
import Derived.Test.YtlhdefefoaldfaaDoorF2
import Derived.Test.YtlhdefefoaldfaaDoorF3
import Derived.Test.YtlhdefefoaldfaaDoorF4
/- What functions do. -/
namespace Go.Proofs
noncomputable section
open Go.Ax Go.Ax.Alg Go.RowKit Go.Ab
open Go
def w4r0 (a0:Bool):Res:=(.e .bo a0,[])
noncomputable def w4L (N:Nat):List (Nat×Ent'):=[(19,l19e N),(12,w12e N),(15,w15e N),(20,w20e N),(21,w21e N),(22,w22e N),(16,w16e N),(23,w23e N),(18,w18e N),(14,w14e N)]
noncomputable def w4c (N:Nat):Cx:=⟨Tryd.prog,25,w4L N,[]⟩
noncomputable def w4b:Code:=Tryd.f4.body.getD .skip
theorem w4cx (N:Nat):CxOk (w4c N):=ctx_ok (by kernel_rfl) (.cons (by kernel_rfl) (l19ok N) (.cons (by kernel_rfl) (w12ok N) (.cons (by kernel_rfl) (w15ok N) (.cons (by kernel_rfl) (w20ok N) (.cons (by kernel_rfl) (w21ok N) (.cons (by kernel_rfl) (w22ok N) (.cons (by kernel_rfl) (w16ok N) (.cons (by kernel_rfl) (w23ok N) (.cons (by kernel_rfl) (w18ok N) (.cons (by kernel_rfl) (w14ok N) .nil)))))))))) .nil
def w4F0 [Alg] (N:Nat)  (self:Int→O) (k0:Bool→O) (k1:Unit→O) (_x0_0:(List Int)) (_x0_1:Int) (x0_3:(List (List UInt8))) (x0_2:Int):O:=
 br (decide (x0_2 < (↑x0_3.length:Int)))
  (gx x0_3 x0_2 fun y5=>
  ck (w16p N y5) <|
  gx x0_3 x0_2 fun y6=>
  ck (w23p N y6) <|
  ck (!!(decide (w16y4 N y5≠w23y4 N y6)||decide (w16y3 N y5≠w23y3 N y6))||w18p N (w16y0 N y5) (w16y1 N y5) (w16y2 N y5) (w23y0 N y6) (w23y1 N y6) (w23y2 N y6)) <|
  br (decide (w16y4 N y5≠w23y4 N y6)||decide (w16y3 N y5≠w23y3 N y6)||!w18y0 N (w16y0 N y5) (w16y1 N y5) (w16y2 N y5) (w23y0 N y6) (w23y1 N y6) (w23y2 N y6))
   (k0 false)
   (br (decide (w16y4 N y5≠(0:Int)))
    (self (IntKind.i64.wrap (x0_2+(1:Int))))
    (ck (w14p N (w16y0 N y5) (w16y1 N y5) (w16y2 N y5)) <|
    ck (w16p N (w14y0 N (w16y0 N y5) (w16y1 N y5) (w16y2 N y5))) <|
    ck (!!decide (w16y4 N (w14y0 N (w16y0 N y5) (w16y1 N y5) (w16y2 N y5))≠(0:Int))||w18p N (w16y0 N (w14y0 N (w16y0 N y5) (w16y1 N y5) (w16y2 N y5))) (w16y1 N (w14y0 N (w16y0 N y5) (w16y1 N y5) (w16y2 N y5))) (w16y2 N (w14y0 N (w16y0 N y5) (w16y1 N y5) (w16y2 N y5))) (w16y0 N y5) (w16y1 N y5) (w16y2 N y5)) <|
    br (decide (w16y4 N (w14y0 N (w16y0 N y5) (w16y1 N y5) (w16y2 N y5))≠(0:Int))||!w18y0 N (w16y0 N (w14y0 N (w16y0 N y5) (w16y1 N y5) (w16y2 N y5))) (w16y1 N (w14y0 N (w16y0 N y5) (w16y1 N y5) (w16y2 N y5))) (w16y2 N (w14y0 N (w16y0 N y5) (w16y1 N y5) (w16y2 N y5))) (w16y0 N y5) (w16y1 N y5) (w16y2 N y5))
     (k0 false)
     (self (IntKind.i64.wrap (x0_2+(1:Int)))))))
  (k1 ())
noncomputable def w4b0:Code:=atC [1,1,1,1,0,1,0,0] w4b
def w4m0:Nm:=⟨[2,3,17,18],[],[]⟩
def w4I0 (x:(List Int)×Int×Int×(List (List UInt8))):Sg:=⟨[(2,.e (.sl (.i .i64)) x.1),(3,.e (.i .i64) x.2.1),(17,.own 0),(18,.e (.i .i64) x.2.2.1)],[(0,.row 9 .tx x.2.2.2 true)],100⟩
def w4u0 (σ:Sg):(List Int)×Int×Int×(List (List UInt8)):=(lvT (.sl (.i .i64)) 2 0 σ,lvT (.i .i64) 3 0 σ,lvT (.i .i64) 18 0 σ,lvR .tx 0 σ)
theorem w4ui0:∀ x,w4u0 (w4I0 x)=x:=fun _=>by kernel_rfl
def w4X0_0 (y:Bool):Exit×Sg:=(.ret,⟨[(14,.e .bo y)],[],100⟩)
def w4v0_0 (_:Exit) (σ:Sg):Bool:=lvT .bo 14 0 σ
def w4X0_1 (_:Unit):Exit×Sg:=((.exit 0),⟨[],[],100⟩)
def w4v0_1 (_:Exit) (_:Sg):Unit:=()
def w4w0:List (Exit×Nm):=[(.ret,⟨[14],[],[]⟩),((.exit 0),⟨[],[],[]⟩)]
theorem w4o0:Outs w4v0_0 w4v0_1 (fun _ _=>()) w4X0_0 w4X0_1 (noX 2) (exC .ret) (exC (.exit 0)) (exC (.goto 2)):=⟨fun _=>by kernel_rfl,fun _=>by kernel_rfl,fun _=>by kernel_rfl,fun _=>by kernel_rfl,fun _=>by kernel_rfl,fun _=>by kernel_rfl,exNe_ok (by kernel_rfl),exNe_ok (by kernel_rfl),exNe_ok (by kernel_rfl)⟩
def w4l0 [Alg] (N:Nat):Nat→((List Int)×Int×Int×(List (List UInt8)))→((Bool)→O)→((Unit)→O)→((Unit)→O)→O
 | 0,_,_,_,_=>none
 | n+1,x,k0,k1,k2=>w4F0 N  (fun v0=>w4l0 N n (x.1,x.2.1,v0,x.2.2.2) k0 k1 k2) (fun y0=>k0 y0) (fun (_:Unit)=>k1 ()) x.1 x.2.1 x.2.2.2 x.2.2.1
def w4n0 [Alg] (N:Nat) (a0:(List Int)) (a1 a2:Int) (a3:(List (List UInt8))) (k0:Bool→O) (k1:Unit→O):O:=w4l0 N N (a0,a1,a2,a3) (fun y=>k0 y) (fun y=>k1 y) (fun _=>none)
noncomputable def w4s0 [Alg] (N:Nat) (a0:(List Int)) (a1 a2:Int) (a3:(List (List UInt8))) (k0:Bool→O) (k1:Unit→O):O:=subL w4I0 w4u0 (w4l0 N N) (w4I0 (a0,a1,a2,a3)) (fun y=>k0 y) (fun y=>k1 y) (fun _=>none)
theorem w4e0 [Alg] (N:Nat):w4s0 N=w4n0 N:=funext fun _=>funext fun _=>funext fun _=>funext fun _=>funext fun _=>funext fun _=>subL_I w4ui0 _ _ _ _
noncomputable def w4h0 [Alg] (_:Nat):Hint:=.d
theorem w4hk0 (N:Nat):HintOk (w4c N) Tryd.f4.ntmps (w4h0 N) w4b0:=hk_of _ _ trivial
theorem w4q0 [Alg] (N:Nat) (self:Sg→O) (K:Exit→Sg→O) (x:(List Int)×Int×Int×(List (List UInt8))):w4F0 N  (fun v0=>self (w4I0 (x.1,x.2.1,v0,x.2.2.2))) (fun y0=>K (w4X0_0 y0).1 (w4X0_0 y0).2) (fun (_:Unit)=>K (w4X0_1 ()).1 (w4X0_1 ()).2) x.1 x.2.1 x.2.2.2 x.2.2.1=exec (w4c N) Tryd.f4.ntmps (w4h0 N) w4b0 (w4I0 x) (roundX w4m0 w4w0 self K):=by kernel_rfl
theorem w4S0 (N:Nat) (hc:CxOk (w4c N)):SubOk (w4c N) Tryd.f4.ntmps (.loop w4b0) w4X0_0 w4X0_1 (noX 2) (subL w4I0 w4u0 (w4l0 N N)):=
 sub_loop hc (w4hk0 N) w4o0 (n:=N) (fun x K=>loop_ind (w4l0 N) (fun _ _ _ _=>rfl) (fun n K ih x=>by
  have h:w4F0 N  (fun v0=>w4l0 N n (x.1,x.2.1,v0,x.2.2.2) (fun y=>K (w4X0_0 y).1 (w4X0_0 y).2) (fun y=>K (w4X0_1 y).1 (w4X0_1 y).2) (fun y=>K ((noX 2) y).1 ((noX 2) y).2)) (fun y0=>K (w4X0_0 y0).1 (w4X0_0 y0).2) (fun (_:Unit)=>K (w4X0_1 ()).1 (w4X0_1 ()).2) x.1 x.2.1 x.2.2.2 x.2.2.1=w4F0 N  (fun v0=>loopX (w4c N) Tryd.f4.ntmps (w4h0 N) w4b0 w4m0 w4w0 n (w4I0 (x.1,x.2.1,v0,x.2.2.2)) K) (fun y0=>K (w4X0_0 y0).1 (w4X0_0 y0).2) (fun (_:Unit)=>K (w4X0_1 ()).1 (w4X0_1 ()).2) x.1 x.2.1 x.2.2.2 x.2.2.1:=by rw [ show (fun v0=>w4l0 N n (x.1,x.2.1,v0,x.2.2.2) (fun y=>K (w4X0_0 y).1 (w4X0_0 y).2) (fun y=>K (w4X0_1 y).1 (w4X0_1 y).2) (fun y=>K ((noX 2) y).1 ((noX 2) y).2))=(fun v0=>loopX (w4c N) Tryd.f4.ntmps (w4h0 N) w4b0 w4m0 w4w0 n (w4I0 (x.1,x.2.1,v0,x.2.2.2)) K) from funext fun _=>ih _]
  exact h.trans (w4q0 N (fun σ=>loopX (w4c N) Tryd.f4.ntmps (w4h0 N) w4b0 w4m0 w4w0 n σ K) K x)) N x K)
def w4G [Alg] (N:Nat) (in0:(List Int)→Int→Int→(List (List UInt8))→(Bool→O)→(Unit→O)→O) (l0:(List Int)) (depth1:Int) (m2:(List Int)) (at3 how4 by5:Int) (raw6:(List UInt8)):O:=
 ck (w12p N l0 depth1) <|
 ck (w15p N (w12y0 N l0 depth1) (w12y1 N l0 depth1) (w12y2 N l0 depth1)) <|
 ck (w20p N (w15y0 N (w12y0 N l0 depth1) (w12y1 N l0 depth1) (w12y2 N l0 depth1)) m2) <|
 ck (w21p N (w20y0 N (w15y0 N (w12y0 N l0 depth1) (w12y1 N l0 depth1) (w12y2 N l0 depth1)) m2) at3 how4 by5) <|
 ck true <|
 ck (w21p N (w21y0 N (w20y0 N (w15y0 N (w12y0 N l0 depth1) (w12y1 N l0 depth1) (w12y2 N l0 depth1)) m2) at3 how4 by5) by5 (IntKind.i64.wrap (how4.tdiv (3:Int))) at3) <|
 ck (w22p N raw6 (40:Int)) <|
 ck (decide ((↑(w20y0 N (w15y0 N (w12y0 N l0 depth1) (w12y1 N l0 depth1) (w12y2 N l0 depth1)) m2).length:Int)+(↑(w20y0 N (w15y0 N (w12y0 N l0 depth1) (w12y1 N l0 depth1) (w12y2 N l0 depth1)) m2).length:Int)≤(9223372036854775807:Int))) <|
 in0 m2 at3 ((0:Int)) [w20y0 N (w15y0 N (w12y0 N l0 depth1) (w12y1 N l0 depth1) (w12y2 N l0 depth1)) m2,w21y0 N (w20y0 N (w15y0 N (w12y0 N l0 depth1) (w12y1 N l0 depth1) (w12y2 N l0 depth1)) m2) at3 how4 by5,w21y0 N (w21y0 N (w20y0 N (w15y0 N (w12y0 N l0 depth1) (w12y1 N l0 depth1) (w12y2 N l0 depth1)) m2) at3 how4 by5) by5 (IntKind.i64.wrap (how4.tdiv (3:Int))) at3,w22y0 N raw6 (40:Int),w20y0 N (w15y0 N (w12y0 N l0 depth1) (w12y1 N l0 depth1) (w12y2 N l0 depth1)) m2++w20y0 N (w15y0 N (w12y0 N l0 depth1) (w12y1 N l0 depth1) (w12y2 N l0 depth1)) m2]
  (fun z7=>
   some (w4r0 z7))
  (fun (_:Unit)=>
   ck true <|
   some (w4r0 true))
def w4 [Alg] (N:Nat) (l0:(List Int)) (depth1:Int) (m2:(List Int)) (at3 how4 by5:Int) (raw6:(List UInt8)):O:=w4G N (w4n0 N) l0 depth1 m2 at3 how4 by5 raw6
noncomputable def w4h [Alg] (N:Nat):Hint:=(.seq .d (.seq .d (.seq .d (.seq .d (.seq (.seq .d (.block (.sub w4m0 _ _ _ w4X0_0 w4X0_1 (noX 2) (subL w4I0 w4u0 (w4l0 N N))))) .d)))))
theorem w4hk (N:Nat) (hc:CxOk (w4c N)):HintOk (w4c N) Tryd.f4.ntmps (w4h N) w4b:=hk_of _ _ (And.intro trivial (And.intro trivial (And.intro trivial (And.intro trivial (And.intro (And.intro trivial (w4S0 N hc)) trivial)))))
theorem w4q [Alg] (N:Nat) (l0:(List Int)) (depth1:Int) (m2:(List Int)) (at3 how4 by5:Int) (raw6:(List UInt8)):w4G N (w4s0 N) l0 depth1 m2 at3 how4 by5 raw6=exec (w4c N) Tryd.f4.ntmps (w4h N) w4b ⟨argT 0 [.e (.sl (.i .i64)) l0,.e (.i .i64) depth1,.e (.sl (.i .i64)) m2,.e (.i .i64) at3,.e (.i .i64) how4,.e (.i .i64) by5,.e .tx raw6],[],100⟩ (finX (w4c N) Tryd.f4 false):=by kernel_rfl
theorem w4does {N:Nat} (hc:CxOk (w4c N)) {l0:(List Int)} {depth1:Int} {m2:(List Int)} {at3 how4 by5:Int} {raw6:(List UInt8)} {r:Res} (h:w4 N l0 depth1 m2 at3 how4 by5 raw6=some r):DoesR Tryd.prog 4 (([.e (.sl (.i .i64)) l0,.e (.i .i64) depth1,.e (.sl (.i .i64)) m2,.e (.i .i64) at3,.e (.i .i64) how4,.e (.i .i64) by5,.e .tx raw6]:List X).map X.D) (HA []) r:=
 fun_ok hc (f:=4) (fn:=Tryd.f4) (code:=w4b) (by kernel_rfl) (by kernel_rfl) (w4hk N hc) (Nat.le_of_ble_eq_true (by kernel_rfl)) (ow:=false) ((w4q N l0 depth1 m2 at3 how4 by5 raw6).symm.trans (by rw [w4e0 N];exact h))
def w4un (r:Res):Option (Bool):=match r with
 | (x0,[])=>(match ue .bo x0 with | some a0=>some a0 | _=>none)
 | _=>none
theorem w4uo {r:Res} {d:Bool} (h:w4un r=some d):r=w4r0 (d):=by
 unfold w4un at h
 split at h
 ·split at h
  ·rename_i h0;cases h;rw [ue_some h0];rfl
  ·cases h
 ·cases h
def w4z (N:Nat) (l0:(List Int)) (depth1:Int) (m2:(List Int)) (at3 how4 by5:Int) (raw6:(List UInt8)):Option (Bool):=(w4 N l0 depth1 m2 at3 how4 by5 raw6).bind w4un
theorem w4fin {N:Nat} (hc:CxOk (w4c N)) {l0:(List Int)} {depth1:Int} {m2:(List Int)} {at3 how4 by5:Int} {raw6:(List UInt8)} {d:Bool} (hd:w4z N l0 depth1 m2 at3 how4 by5 raw6=some d):Does Tryd.prog 4 (([.e (.sl (.i .i64)) l0,.e (.i .i64) depth1,.e (.sl (.i .i64)) m2,.e (.i .i64) at3,.e (.i .i64) how4,.e (.i .i64) by5,.e .tx raw6]:List X).map X.D) (HA []) (w4r0 (d)).1.D (HA (w4r0 (d)).2):=by
 obtain ⟨r,hr,hu⟩:=Option.bind_eq_some_iff.1 hd
 have:=w4does hc hr
 rw [w4uo hu] at this
 exact this
end
end Go.Proofs
/- What functions do. -/
namespace Go.Proofs
noncomputable section
open Go.Ax Go.Ax.Alg Go.RowKit Go.Ab
open Go
def w5r0 (a0:Bool):Res:=(.e .bo a0,[])
def w5F0 [Alg] (_:Nat)   (k0:(List Int)→Bool→(List UInt8)→(List UInt8)→Int→Int→(List Ex)→O) (x21_0:(List Int)) (x21_1:Bool) (x21_2 x21_3:(List UInt8)) (x21_4 x21_5:Int) (x21_6:(List Ex)):O:=
 br (decide (x21_4=(10:Int)))
  (k0 x21_0 x21_1 x21_2 [(60:UInt8)] x21_4 x21_5 x21_6)
  (k0 x21_0 x21_1 x21_2 x21_3 x21_4 x21_5 x21_6)
def w5l0 [Alg] (N _:Nat) (x:(List Int)×Bool×(List UInt8)×(List UInt8)×Int×Int×(List Ex)) (k0:((List Int)×Bool×(List UInt8)×(List UInt8)×Int×Int×(List Ex))→O) (_:(Unit)→O) (_:(Unit)→O):O:=w5F0 N   (fun y0 y1 y2 y3 y4 y5 y6=>k0 (y0,y1,y2,y3,y4,y5,y6)) x.1 x.2.1 x.2.2.1 x.2.2.2.1 x.2.2.2.2.1 x.2.2.2.2.2.1 x.2.2.2.2.2.2
def w5n0 [Alg] (N:Nat) (a0:(List Int)) (a1:Bool) (a2 a3:(List UInt8)) (a4 a5:Int) (a6:(List Ex)) (k0:(List Int)→Bool→(List UInt8)→(List UInt8)→Int→Int→(List Ex)→O):O:=w5l0 N N (a0,a1,a2,a3,a4,a5,a6) (fun y=>k0 y.1 y.2.1 y.2.2.1 y.2.2.2.1 y.2.2.2.2.1 y.2.2.2.2.2.1 y.2.2.2.2.2.2) (fun _=>none) (fun _=>none)
def w5F1 [Alg] (N:Nat) (in0:(List Int)→Bool→(List UInt8)→(List UInt8)→Int→Int→(List Ex)→((List Int)→Bool→(List UInt8)→(List UInt8)→Int→Int→(List Ex)→O)→O)  (k0:Bool→O) (k1:(List Int)→Bool→(List UInt8)→(List UInt8)→Int→Int→(List Ex)→O) (x0_0:(List Int)) (x0_1:Bool) (x0_2 x0_3:(List UInt8)) (x0_4 x0_5:Int) (x0_6:(List Ex)):O:=
 br (decide (x0_4=(9:Int))||decide (x0_4=(10:Int)))
  (br (decide ((↑x0_6.length:Int)≠(2:Int)))
   (k0 false)
   (in0 x0_0 x0_1 x0_2 [(61:UInt8)] x0_4 x0_5 x0_6
    (fun z22 z23 z24 z25 z26 z27 z28=>
     gx z28 ((0:Int)) fun y29=>
     ck (w14p N y29.op y29.num y29.kids) <|
     ck (decide ((1:Int)+(↑(w14y0 N y29.op y29.num y29.kids).length:Int)≤(9223372036854775807:Int))) <|
     ck (decide ((↑([(40:UInt8)]++w14y0 N y29.op y29.num y29.kids).length:Int)+(1:Int)≤(9223372036854775807:Int))) <|
     ck (decide ((↑([(40:UInt8)]++w14y0 N y29.op y29.num y29.kids++[(41:UInt8)]).length:Int)+(↑z25.length:Int)≤(9223372036854775807:Int))) <|
     ck (decide ((↑([(40:UInt8)]++w14y0 N y29.op y29.num y29.kids++[(41:UInt8)]++z25).length:Int)+(2:Int)≤(9223372036854775807:Int))) <|
     gx z28 ((1:Int)) fun y30=>
     ck (w14p N y30.op y30.num y30.kids) <|
     ck (decide ((↑([(40:UInt8)]++w14y0 N y29.op y29.num y29.kids++[(41:UInt8)]++z25++[(40:UInt8),(40:UInt8)]).length:Int)+(↑(w14y0 N y30.op y30.num y30.kids).length:Int)≤(9223372036854775807:Int))) <|
     ck (decide ((↑([(40:UInt8)]++w14y0 N y29.op y29.num y29.kids++[(41:UInt8)]++z25++[(40:UInt8),(40:UInt8)]++w14y0 N y30.op y30.num y30.kids).length:Int)+(2:Int)≤(9223372036854775807:Int))) <|
     k1 z22 z23 z24 ([(40:UInt8)]++w14y0 N y29.op y29.num y29.kids++[(41:UInt8)]++z25++[(40:UInt8),(40:UInt8)]++w14y0 N y30.op y30.num y30.kids++[(41:UInt8),(41:UInt8)]) z26 z27 z28)))
  (k1 x0_0 x0_1 x0_2 x0_3 x0_4 x0_5 x0_6)
def w5l1 [Alg] (N _:Nat) (x:(List Int)×Bool×(List UInt8)×(List UInt8)×Int×Int×(List Ex)) (k0:(Bool)→O) (k1:((List Int)×Bool×(List UInt8)×(List UInt8)×Int×Int×(List Ex))→O) (_:(Unit)→O):O:=w5F1 N (w5n0 N)  (fun y0=>k0 y0) (fun y0 y1 y2 y3 y4 y5 y6=>k1 (y0,y1,y2,y3,y4,y5,y6)) x.1 x.2.1 x.2.2.1 x.2.2.2.1 x.2.2.2.2.1 x.2.2.2.2.2.1 x.2.2.2.2.2.2
def w5n1 [Alg] (N:Nat) (a0:(List Int)) (a1:Bool) (a2 a3:(List UInt8)) (a4 a5:Int) (a6:(List Ex)) (k0:Bool→O) (k1:(List Int)→Bool→(List UInt8)→(List UInt8)→Int→Int→(List Ex)→O):O:=w5l1 N N (a0,a1,a2,a3,a4,a5,a6) (fun y=>k0 y) (fun y=>k1 y.1 y.2.1 y.2.2.1 y.2.2.2.1 y.2.2.2.2.1 y.2.2.2.2.2.1 y.2.2.2.2.2.2) (fun _=>none)
def w5F2 [Alg] (N:Nat)  (self:Int→O) (k0:Bool→O) (k1:Unit→O) (_x39_0:(List Int)) (_x39_1:Bool) (x39_3 x39_4:Int) (x39_5:(List Ex)) (x39_6:(List (List UInt8))) (x39_2:Int):O:=
 br (decide (x39_2 < (3:Int)))
  (gx x39_6 x39_2 fun y42=>
  ck (w16p N y42) <|
  ck (!!(decide (w16y4 N y42≠(0:Int))||decide (w16y3 N y42≠(0:Int)))||w18p N (w16y0 N y42) (w16y1 N y42) (w16y2 N y42) x39_3 x39_4 x39_5) <|
  br (decide (w16y4 N y42≠(0:Int))||decide (w16y3 N y42≠(0:Int))||!w18y0 N (w16y0 N y42) (w16y1 N y42) (w16y2 N y42) x39_3 x39_4 x39_5)
   (k0 false)
   (self (IntKind.i64.wrap (x39_2+(1:Int)))))
  (k1 ())
def w5l2 [Alg] (N:Nat):Nat→((List Int)×Bool×Int×Int×Int×(List Ex)×(List (List UInt8)))→((Bool)→O)→((Unit)→O)→((Unit)→O)→O
 | 0,_,_,_,_=>none
 | n+1,x,k0,k1,k2=>w5F2 N  (fun v0=>w5l2 N n (x.1,x.2.1,v0,x.2.2.2.1,x.2.2.2.2.1,x.2.2.2.2.2.1,x.2.2.2.2.2.2) k0 k1 k2) (fun y0=>k0 y0) (fun (_:Unit)=>k1 ()) x.1 x.2.1 x.2.2.2.1 x.2.2.2.2.1 x.2.2.2.2.2.1 x.2.2.2.2.2.2 x.2.2.1
def w5n2 [Alg] (N:Nat) (a0:(List Int)) (a1:Bool) (a2 a3 a4:Int) (a5:(List Ex)) (a6:(List (List UInt8))) (k0:Bool→O) (k1:Unit→O):O:=w5l2 N N (a0,a1,a2,a3,a4,a5,a6) (fun y=>k0 y) (fun y=>k1 y) (fun _=>none)
def w5G [Alg] (N:Nat) (_in0:(List Int)→Bool→(List UInt8)→(List UInt8)→Int→Int→(List Ex)→((List Int)→Bool→(List UInt8)→(List UInt8)→Int→Int→(List Ex)→O)→O) (in1:(List Int)→Bool→(List UInt8)→(List UInt8)→Int→Int→(List Ex)→(Bool→O)→((List Int)→Bool→(List UInt8)→(List UInt8)→Int→Int→(List Ex)→O)→O) (in2:(List Int)→Bool→Int→Int→Int→(List Ex)→(List (List UInt8))→(Bool→O)→(Unit→O)→O) (l0:(List Int)) (depth1:Int) (m2:(List Int)):O:=
 ck (w12p N l0 depth1) <|
 ck (w14p N (w12y0 N l0 depth1) (w12y1 N l0 depth1) (w12y2 N l0 depth1)) <|
 ck (decide ((1:Int)+(↑(w14y0 N (w12y0 N l0 depth1) (w12y1 N l0 depth1) (w12y2 N l0 depth1)).length:Int)≤(9223372036854775807:Int))) <|
 ck (decide ((↑([(40:UInt8)]++w14y0 N (w12y0 N l0 depth1) (w12y1 N l0 depth1) (w12y2 N l0 depth1)).length:Int)+(1:Int)≤(9223372036854775807:Int))) <|
 in1 m2 false (w14y0 N (w12y0 N l0 depth1) (w12y1 N l0 depth1) (w12y2 N l0 depth1)) ([(40:UInt8)]++w14y0 N (w12y0 N l0 depth1) (w12y1 N l0 depth1) (w12y2 N l0 depth1)++[(41:UInt8)]) (w12y0 N l0 depth1) (w12y1 N l0 depth1) (w12y2 N l0 depth1)
  (fun z31=>
   some (w5r0 z31))
  (fun z32 z33 z34 z35 z36 z37 z38=>
   ck (w20p N z34 z32) <|
   ck (w20p N z35 z32) <|
   ck (decide ((1:Int)+(↑(w20y0 N z35 z32).length:Int)≤(9223372036854775807:Int))) <|
   ck (decide ((↑([(32:UInt8)]++w20y0 N z35 z32).length:Int)+(2:Int)≤(9223372036854775807:Int))) <|
   in2 z32 z33 ((0:Int)) z36 z37 z38 ([w20y0 N z34 z32,z35,[(32:UInt8)]++w20y0 N z35 z32++[(32:UInt8),(32:UInt8)]])
    (fun z43=>
     some (w5r0 z43))
    (fun (_:Unit)=>
     ck true <|
     some (w5r0 true)))
def w5 [Alg] (N:Nat) (l0:(List Int)) (depth1:Int) (m2:(List Int)):O:=w5G N (w5n0 N) (w5n1 N) (w5n2 N) l0 depth1 m2
end
end Go.Proofs
