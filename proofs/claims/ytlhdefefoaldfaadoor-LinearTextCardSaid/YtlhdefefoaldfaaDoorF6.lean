/- What the law does. Conditions are in the theorems. -/
import Derived.Test.YtlhdefefoaldfaaDoorE7
import Derived.Test.YtlhdefefoaldfaaDoorProg
import Derived.KernelRfl
import Derived.Test.YtlhdefefoaldfaaDoorL1
import Derived.Test.YtlhdefefoaldfaaDoorF0
import Derived.Test.YtlhdefefoaldfaaDoorF2
import Derived.Test.YtlhdefefoaldfaaDoorF3
/- What functions do. -/
namespace Go.Proofs
noncomputable section
open Go.Ax Go.Ax.Alg Go.RowKit Go.Ab
open Go
def w10r0 (a0:Bool):Res:=(.e .bo a0,[])
noncomputable def w10L (N:Nat):List (Nat×Ent'):=[(41,l41e N),(39,w39e N),(40,w40e N),(17,w17e N),(14,w14e N),(42,w42e N)]
noncomputable def w10c (N:Nat):Cx:=⟨Tryd.prog,25,w10L N,[]⟩
noncomputable def w10b:Code:=Tryd.f10.body.getD .skip
theorem w10cx (N:Nat):CxOk (w10c N):=ctx_ok (by kernel_rfl) (.cons (by kernel_rfl) (l41ok N) (.cons (by kernel_rfl) (w39ok N) (.cons (by kernel_rfl) (w40ok N) (.cons (by kernel_rfl) (w17ok N) (.cons (by kernel_rfl) (w14ok N) (.cons (by kernel_rfl) (w42ok N) .nil)))))) .nil
def w10F0 [Alg] (_:Nat)  (self:Int→Int→O) (k0:(List Int)→(List UInt8)→Int→Int→Int→(List Ex)→O) (x0_0:(List Int)) (_x0_1:(List UInt8)) (_x0_2:Int) (_x0_3:(List UInt8)) (x0_4:(List UInt8)) (x0_5:(List UInt8)) (x0_8:Int) (x0_9:Int) (x0_10:(List Ex)) (x0_6:Int) (x0_7:Int):O:=
 br (decide (x0_7 < (↑x0_5.length:Int)))
  (gx x0_5 x0_7 fun y13=>
  gc (decide ((48:UInt8)≤y13)) ((0:UInt8)) x0_5 x0_7 fun y14=>
  gx x0_5 x0_7 fun y15=>
  gc (decide ((97:UInt8)≤y15)) ((0:UInt8)) x0_5 x0_7 fun y16=>
  gc (!(decide ((97:UInt8)≤y15)&&decide (y16≤(122:UInt8)))&&(decide ((48:UInt8)≤y13)&&decide (y14≤(57:UInt8)))&&!decide (x0_7=(0:Int))) ((0:UInt8)) x0_5 (IntKind.i64.wrap (x0_7 - (1:Int))) fun y17=>
  gc (!(decide ((97:UInt8)≤y15)&&decide (y16≤(122:UInt8)))&&(decide ((48:UInt8)≤y13)&&decide (y14≤(57:UInt8)))&&!(decide (x0_7=(0:Int))||decide (y17 < (48:UInt8)))) ((0:UInt8)) x0_5 (IntKind.i64.wrap (x0_7 - (1:Int))) fun y18=>
  br (decide ((97:UInt8)≤y15)&&decide (y16≤(122:UInt8))||decide ((48:UInt8)≤y13)&&decide (y14≤(57:UInt8))&&(decide (x0_7=(0:Int))||decide (y17 < (48:UInt8))||decide ((57:UInt8) < y18)))
   (self (IntKind.i64.wrap (x0_6+(1:Int))) (IntKind.i64.wrap (x0_7+(1:Int))))
   (self x0_6 (IntKind.i64.wrap (x0_7+(1:Int)))))
  (k0 x0_0 x0_4 x0_6 x0_8 x0_9 x0_10)
noncomputable def w10b0:Code:=atC [1,1,1,1,1,1,0,1,0,0] w10b
def w10m0:Nm:=⟨[10,3,12,15,4,6,7,8],[],[]⟩
def w10I0 (x:(List Int)×(List UInt8)×Int×(List UInt8)×(List UInt8)×(List UInt8)×Int×Int×Int×Int×(List Ex)):Sg:=⟨[(10,.e (.sl (.i .i64)) x.1),(3,.ref 0 0),(12,.tup [.e (.sl .u8) x.2.1,.e (.i .i64) x.2.2.1]),(15,.e (.sl .u8) x.2.2.2.1),(4,.e (.sl .u8) x.2.2.2.2.1),(6,.e .tx x.2.2.2.2.2.1),(7,.e (.i .i64) x.2.2.2.2.2.2.1),(8,.e (.i .i64) x.2.2.2.2.2.2.2.1)],[(0,.box 25 [.e (.i .i64) x.2.2.2.2.2.2.2.2.1,.e (.i .i64) x.2.2.2.2.2.2.2.2.2.1,.e (.sl .ex) x.2.2.2.2.2.2.2.2.2.2])],100⟩
def w10u0 (σ:Sg):(List Int)×(List UInt8)×Int×(List UInt8)×(List UInt8)×(List UInt8)×Int×Int×Int×Int×(List Ex):=(lvT (.sl (.i .i64)) 10 0 σ,lvT (.sl .u8) 12 0 σ,lvT (.i .i64) 12 1 σ,lvT (.sl .u8) 15 0 σ,lvT (.sl .u8) 4 0 σ,lvT .tx 6 0 σ,lvT (.i .i64) 7 0 σ,lvT (.i .i64) 8 0 σ,lvH (.i .i64) 0 0 σ,lvH (.i .i64) 0 1 σ,lvH (.sl .ex) 0 2 σ)
theorem w10ui0:∀ x,w10u0 (w10I0 x)=x:=fun _=>by kernel_rfl
def w10X0_0 (y:(List Int)×(List UInt8)×Int×Int×Int×(List Ex)):Exit×Sg:=((.exit 0),⟨[(10,.e (.sl (.i .i64)) y.1),(3,.ref 0 0),(4,.e (.sl .u8) y.2.1),(7,.e (.i .i64) y.2.2.1)],[(0,.box 25 [.e (.i .i64) y.2.2.2.1,.e (.i .i64) y.2.2.2.2.1,.e (.sl .ex) y.2.2.2.2.2])],100⟩)
def w10v0_0 (_:Exit) (σ:Sg):(List Int)×(List UInt8)×Int×Int×Int×(List Ex):=(lvT (.sl (.i .i64)) 10 0 σ,lvT (.sl .u8) 4 0 σ,lvT (.i .i64) 7 0 σ,lvH (.i .i64) 0 0 σ,lvH (.i .i64) 0 1 σ,lvH (.sl .ex) 0 2 σ)
def w10w0:List (Exit×Nm):=[((.exit 0),⟨[10,3,4,7],[],[]⟩)]
theorem w10o0:Outs w10v0_0 (fun _ _=>()) (fun _ _=>()) w10X0_0 (noX 1) (noX 2) (exC (.exit 0)) (exC (.goto 1)) (exC (.goto 2)):=⟨fun _=>by kernel_rfl,fun _=>by kernel_rfl,fun _=>by kernel_rfl,fun _=>by kernel_rfl,fun _=>by kernel_rfl,fun _=>by kernel_rfl,exNe_ok (by kernel_rfl),exNe_ok (by kernel_rfl),exNe_ok (by kernel_rfl)⟩
def w10l0 [Alg] (N:Nat):Nat→((List Int)×(List UInt8)×Int×(List UInt8)×(List UInt8)×(List UInt8)×Int×Int×Int×Int×(List Ex))→(((List Int)×(List UInt8)×Int×Int×Int×(List Ex))→O)→((Unit)→O)→((Unit)→O)→O
 | 0,_,_,_,_=>none
 | n+1,x,k0,k1,k2=>w10F0 N  (fun v0 v1=>w10l0 N n (x.1,x.2.1,x.2.2.1,x.2.2.2.1,x.2.2.2.2.1,x.2.2.2.2.2.1,v0,v1,x.2.2.2.2.2.2.2.2.1,x.2.2.2.2.2.2.2.2.2.1,x.2.2.2.2.2.2.2.2.2.2) k0 k1 k2) (fun y0 y1 y2 y3 y4 y5=>k0 (y0,y1,y2,y3,y4,y5)) x.1 x.2.1 x.2.2.1 x.2.2.2.1 x.2.2.2.2.1 x.2.2.2.2.2.1 x.2.2.2.2.2.2.2.2.1 x.2.2.2.2.2.2.2.2.2.1 x.2.2.2.2.2.2.2.2.2.2 x.2.2.2.2.2.2.1 x.2.2.2.2.2.2.2.1
def w10n0 [Alg] (N:Nat) (a0:(List Int)) (a1:(List UInt8)) (a2:Int) (a3:(List UInt8)) (a4:(List UInt8)) (a5:(List UInt8)) (a6:Int) (a7:Int) (a8:Int) (a9:Int) (a10:(List Ex)) (k0:(List Int)→(List UInt8)→Int→Int→Int→(List Ex)→O):O:=w10l0 N N (a0,a1,a2,a3,a4,a5,a6,a7,a8,a9,a10) (fun y=>k0 y.1 y.2.1 y.2.2.1 y.2.2.2.1 y.2.2.2.2.1 y.2.2.2.2.2) (fun _=>none) (fun _=>none)
noncomputable def w10s0 [Alg] (N:Nat) (a0:(List Int)) (a1:(List UInt8)) (a2:Int) (a3:(List UInt8)) (a4:(List UInt8)) (a5:(List UInt8)) (a6:Int) (a7:Int) (a8:Int) (a9:Int) (a10:(List Ex)) (k0:(List Int)→(List UInt8)→Int→Int→Int→(List Ex)→O):O:=subL w10I0 w10u0 (w10l0 N N) (w10I0 (a0,a1,a2,a3,a4,a5,a6,a7,a8,a9,a10)) (fun y=>k0 y.1 y.2.1 y.2.2.1 y.2.2.2.1 y.2.2.2.2.1 y.2.2.2.2.2) (fun _=>none) (fun _=>none)
theorem w10e0 [Alg] (N:Nat):w10s0 N=w10n0 N:=funext fun _=>funext fun _=>funext fun _=>funext fun _=>funext fun _=>funext fun _=>funext fun _=>funext fun _=>funext fun _=>funext fun _=>funext fun _=>funext fun _=>subL_I w10ui0 _ _ _ _
noncomputable def w10h0 [Alg] (_:Nat):Hint:=.d
theorem w10hk0 (N:Nat):HintOk (w10c N) Tryd.f10.ntmps (w10h0 N) w10b0:=hk_of _ _ trivial
theorem w10q0 [Alg] (N:Nat) (self:Sg→O) (K:Exit→Sg→O) (x:(List Int)×(List UInt8)×Int×(List UInt8)×(List UInt8)×(List UInt8)×Int×Int×Int×Int×(List Ex)):w10F0 N  (fun v0 v1=>self (w10I0 (x.1,x.2.1,x.2.2.1,x.2.2.2.1,x.2.2.2.2.1,x.2.2.2.2.2.1,v0,v1,x.2.2.2.2.2.2.2.2.1,x.2.2.2.2.2.2.2.2.2.1,x.2.2.2.2.2.2.2.2.2.2))) (fun y0 y1 y2 y3 y4 y5=>K (w10X0_0 (y0,y1,y2,y3,y4,y5)).1 (w10X0_0 (y0,y1,y2,y3,y4,y5)).2) x.1 x.2.1 x.2.2.1 x.2.2.2.1 x.2.2.2.2.1 x.2.2.2.2.2.1 x.2.2.2.2.2.2.2.2.1 x.2.2.2.2.2.2.2.2.2.1 x.2.2.2.2.2.2.2.2.2.2 x.2.2.2.2.2.2.1 x.2.2.2.2.2.2.2.1=exec (w10c N) Tryd.f10.ntmps (w10h0 N) w10b0 (w10I0 x) (roundX w10m0 w10w0 self K):=by kernel_rfl
theorem w10S0 (N:Nat) (hc:CxOk (w10c N)):SubOk (w10c N) Tryd.f10.ntmps (.loop w10b0) w10X0_0 (noX 1) (noX 2) (subL w10I0 w10u0 (w10l0 N N)):=
 sub_loop hc (w10hk0 N) w10o0 (n:=N) (fun x K=>loop_ind (w10l0 N) (fun _ _ _ _=>rfl) (fun n K ih x=>by
  have h:w10F0 N  (fun v0 v1=>w10l0 N n (x.1,x.2.1,x.2.2.1,x.2.2.2.1,x.2.2.2.2.1,x.2.2.2.2.2.1,v0,v1,x.2.2.2.2.2.2.2.2.1,x.2.2.2.2.2.2.2.2.2.1,x.2.2.2.2.2.2.2.2.2.2) (fun y=>K (w10X0_0 y).1 (w10X0_0 y).2) (fun y=>K ((noX 1) y).1 ((noX 1) y).2) (fun y=>K ((noX 2) y).1 ((noX 2) y).2)) (fun y0 y1 y2 y3 y4 y5=>K (w10X0_0 (y0,y1,y2,y3,y4,y5)).1 (w10X0_0 (y0,y1,y2,y3,y4,y5)).2) x.1 x.2.1 x.2.2.1 x.2.2.2.1 x.2.2.2.2.1 x.2.2.2.2.2.1 x.2.2.2.2.2.2.2.2.1 x.2.2.2.2.2.2.2.2.2.1 x.2.2.2.2.2.2.2.2.2.2 x.2.2.2.2.2.2.1 x.2.2.2.2.2.2.2.1=w10F0 N  (fun v0 v1=>loopX (w10c N) Tryd.f10.ntmps (w10h0 N) w10b0 w10m0 w10w0 n (w10I0 (x.1,x.2.1,x.2.2.1,x.2.2.2.1,x.2.2.2.2.1,x.2.2.2.2.2.1,v0,v1,x.2.2.2.2.2.2.2.2.1,x.2.2.2.2.2.2.2.2.2.1,x.2.2.2.2.2.2.2.2.2.2)) K) (fun y0 y1 y2 y3 y4 y5=>K (w10X0_0 (y0,y1,y2,y3,y4,y5)).1 (w10X0_0 (y0,y1,y2,y3,y4,y5)).2) x.1 x.2.1 x.2.2.1 x.2.2.2.1 x.2.2.2.2.1 x.2.2.2.2.2.1 x.2.2.2.2.2.2.2.2.1 x.2.2.2.2.2.2.2.2.2.1 x.2.2.2.2.2.2.2.2.2.2 x.2.2.2.2.2.2.1 x.2.2.2.2.2.2.2.1:=by rw [ show (fun v0 v1=>w10l0 N n (x.1,x.2.1,x.2.2.1,x.2.2.2.1,x.2.2.2.2.1,x.2.2.2.2.2.1,v0,v1,x.2.2.2.2.2.2.2.2.1,x.2.2.2.2.2.2.2.2.2.1,x.2.2.2.2.2.2.2.2.2.2) (fun y=>K (w10X0_0 y).1 (w10X0_0 y).2) (fun y=>K ((noX 1) y).1 ((noX 1) y).2) (fun y=>K ((noX 2) y).1 ((noX 2) y).2))=(fun v0 v1=>loopX (w10c N) Tryd.f10.ntmps (w10h0 N) w10b0 w10m0 w10w0 n (w10I0 (x.1,x.2.1,x.2.2.1,x.2.2.2.1,x.2.2.2.2.1,x.2.2.2.2.2.1,v0,v1,x.2.2.2.2.2.2.2.2.1,x.2.2.2.2.2.2.2.2.2.1,x.2.2.2.2.2.2.2.2.2.2)) K) from funext fun _=>funext fun _=>ih _]
  exact h.trans (w10q0 N (fun σ=>loopX (w10c N) Tryd.f10.ntmps (w10h0 N) w10b0 w10m0 w10w0 n σ K) K x)) N x K)
def w10G [Alg] (N:Nat) (in0:(List Int)→(List UInt8)→Int→(List UInt8)→(List UInt8)→(List UInt8)→Int→Int→Int→Int→(List Ex)→((List Int)→(List UInt8)→Int→Int→Int→(List Ex)→O)→O) (l0:(List Int)):O:=
 let b3:=Ex.mk (w39y0 N l0) (w39y1 N l0) (w39y2 N l0)
 let b0:=Ex.mk b3.op b3.num b3.kids
 let b1:=w17y0 N b0.op b0.num b0.kids=w40y1 N b0.op b0.num b0.kids
 let b2:=w40y0 N b0.op b0.num b0.kids
 ck (w39p N l0) <|
 ck (w40p N b0.op b0.num b0.kids) <|
 br (decide (w40y1 N b0.op b0.num b0.kids≠(0:Int)))
  (ck (w17p N b0.op b0.num b0.kids) <|
  ck (!decide b1||true) <|
  some (w10r0 (decide b1&&true)))
  (ck (w14p N b0.op b0.num b0.kids) <|
  in0 l0 b2 (w40y1 N b0.op b0.num b0.kids) b2 b2 (w14y0 N b0.op b0.num b0.kids) (IntKind.i64.wrap ((↑(w14y0 N b0.op b0.num b0.kids).length:Int)+(1:Int))) ((0:Int)) (w39y0 N l0) (w39y1 N l0) (w39y2 N l0)
   (fun _ z20 z21 z22 z23 z24=>
    ck (!decide ((↑z20.length:Int)=z21)||w42p N (Ex.mk (Ex.mk z22 z23 z24).op (Ex.mk z22 z23 z24).num (Ex.mk z22 z23 z24).kids).op (Ex.mk (Ex.mk z22 z23 z24).op (Ex.mk z22 z23 z24).num (Ex.mk z22 z23 z24).kids).num (Ex.mk (Ex.mk z22 z23 z24).op (Ex.mk z22 z23 z24).num (Ex.mk z22 z23 z24).kids).kids) <|
    ck (!(decide ((↑z20.length:Int)=z21)&&decide (w42y0 N (Ex.mk (Ex.mk z22 z23 z24).op (Ex.mk z22 z23 z24).num (Ex.mk z22 z23 z24).kids).op (Ex.mk (Ex.mk z22 z23 z24).op (Ex.mk z22 z23 z24).num (Ex.mk z22 z23 z24).kids).num (Ex.mk (Ex.mk z22 z23 z24).op (Ex.mk z22 z23 z24).num (Ex.mk z22 z23 z24).kids).kids=z21))||true) <|
    some (w10r0 (decide ((↑z20.length:Int)=z21)&&decide (w42y0 N (Ex.mk (Ex.mk z22 z23 z24).op (Ex.mk z22 z23 z24).num (Ex.mk z22 z23 z24).kids).op (Ex.mk (Ex.mk z22 z23 z24).op (Ex.mk z22 z23 z24).num (Ex.mk z22 z23 z24).kids).num (Ex.mk (Ex.mk z22 z23 z24).op (Ex.mk z22 z23 z24).num (Ex.mk z22 z23 z24).kids).kids=z21)&&true))))
def w10 [Alg] (N:Nat) (l0:(List Int)):O:=w10G N (w10n0 N) l0
noncomputable def w10h [Alg] (N:Nat):Hint:=(.seq .d (.seq .d (.seq .d (.seq .d (.seq .d (.seq .d (.seq (.seq .d (.block (.sub w10m0 _ _ _ w10X0_0 (noX 1) (noX 2) (subL w10I0 w10u0 (w10l0 N N))))) .d)))))))
theorem w10hk (N:Nat) (hc:CxOk (w10c N)):HintOk (w10c N) Tryd.f10.ntmps (w10h N) w10b:=hk_of _ _ (And.intro trivial (And.intro trivial (And.intro trivial (And.intro trivial (And.intro trivial (And.intro trivial (And.intro (And.intro trivial (w10S0 N hc)) trivial)))))))
theorem w10q [Alg] (N:Nat) (l0:(List Int)):w10G N (w10s0 N) l0=exec (w10c N) Tryd.f10.ntmps (w10h N) w10b ⟨argT 0 [.e (.sl (.i .i64)) l0],[],100⟩ (finX (w10c N) Tryd.f10 false):=by kernel_rfl
theorem w10does {N:Nat} (hc:CxOk (w10c N)) {l0:(List Int)} {r:Res} (h:w10 N l0=some r):DoesR Tryd.prog 10 (([.e (.sl (.i .i64)) l0]:List X).map X.D) (HA []) r:=
 fun_ok hc (f:=10) (fn:=Tryd.f10) (code:=w10b) (by kernel_rfl) (by kernel_rfl) (w10hk N hc) (Nat.le_of_ble_eq_true (by kernel_rfl)) (ow:=false) ((w10q N l0).symm.trans (by rw [w10e0 N];exact h))
def w10un (r:Res):Option (Bool):=match r with
 | (x0,[])=>(match ue .bo x0 with | some a0=>some a0 | _=>none)
 | _=>none
theorem w10uo {r:Res} {d:Bool} (h:w10un r=some d):r=w10r0 (d):=by
 unfold w10un at h
 split at h
 ·split at h
  ·rename_i h0;cases h;rw [ue_some h0];rfl
  ·cases h
 ·cases h
def w10z (N:Nat) (l0:(List Int)):Option (Bool):=(w10 N l0).bind w10un
theorem w10fin {N:Nat} (hc:CxOk (w10c N)) {l0:(List Int)} {d:Bool} (hd:w10z N l0=some d):Does Tryd.prog 10 (([.e (.sl (.i .i64)) l0]:List X).map X.D) (HA []) (w10r0 (d)).1.D (HA (w10r0 (d)).2):=by
 obtain ⟨r,hr,hu⟩:=Option.bind_eq_some_iff.1 hd
 have:=w10does hc hr
 rw [w10uo hu] at this
 exact this
end
end Go.Proofs
