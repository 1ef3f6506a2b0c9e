/- Pairs of parentheses. Conditions are in the theorems. -/
import Derived.Test.YtlhdefefoaldfaaDoorE7
import Derived.Test.YtlhdefefoaldfaaDoorProg
import Derived.KernelRfl
import Derived.Test.YtlhdefefoaldfaaDoorF0
/- What functions do. -/
namespace Go.Proofs
noncomputable section
open Go.Ax Go.Ax.Alg Go.RowKit Go.Ab
open Go
def w24r0 (a0:(List (Int×Int))):Res:=(.e (.sl (.pr (.i .i64) (.i .i64))) a0,[])
noncomputable def w24L (_:Nat):List (Nat×Ent'):=[]
noncomputable def w24c (N:Nat):Cx:=⟨Tryd.prog,25,w24L N,[]⟩
noncomputable def w24b:Code:=Tryd.f24.body.getD .skip
theorem w24cx (N:Nat):CxOk (w24c N):=ctx_ok (by kernel_rfl) .nil .nil
def w24F0 [Alg] (_:Nat)   (k0:(List UInt8)→Int→(List Int)→(List (Int×Int))→O) (x149_0:(List UInt8)) (x149_1:Int) (x149_2:(List Int)) (x149_3:(List (Int×Int))):O:=
 gx x149_0 x149_1 fun y152=>
 br (decide (y152=(40:UInt8)))
  (ck (lim (x149_2++[x149_1]).length (8:Nat)) <|
  k0 x149_0 x149_1 (x149_2++[x149_1]) x149_3)
  (k0 x149_0 x149_1 x149_2 x149_3)
noncomputable def w24b0:Code:=atC [1,1,1,0,1,0,0,1,0,0,0] w24b
def w24m0:Nm:=⟨[0,2,3,4,5],[],[]⟩
def w24I0 (x:(List UInt8)×Int×(List Int)×(List (Int×Int))):Sg:=⟨[(0,.e .tx x.1),(2,.nilS),(3,.own 0),(4,.own 1),(5,.e (.i .i64) x.2.1)],[(0,.row 3 (.i .i64) x.2.2.1 false),(1,.row 44 (.pr (.i .i64) (.i .i64)) x.2.2.2 false)],100⟩
def w24u0 (σ:Sg):(List UInt8)×Int×(List Int)×(List (Int×Int)):=(lvT .tx 0 0 σ,lvT (.i .i64) 5 0 σ,lvR (.i .i64) 0 σ,lvR (.pr (.i .i64) (.i .i64)) 1 σ)
theorem w24ui0:∀ x,w24u0 (w24I0 x)=x:=fun _=>by kernel_rfl
def w24X0_0 (y:(List UInt8)×Int×(List Int)×(List (Int×Int))):Exit×Sg:=(.normal,⟨[(0,.e .tx y.1),(2,.nilS),(3,.own 0),(4,.own 1),(5,.e (.i .i64) y.2.1)],[(0,.row 3 (.i .i64) y.2.2.1 false),(1,.row 44 (.pr (.i .i64) (.i .i64)) y.2.2.2 false)],100⟩)
def w24v0_0 (_:Exit) (σ:Sg):(List UInt8)×Int×(List Int)×(List (Int×Int)):=(lvT .tx 0 0 σ,lvT (.i .i64) 5 0 σ,lvR (.i .i64) 0 σ,lvR (.pr (.i .i64) (.i .i64)) 1 σ)
def w24w0:List (Exit×Nm):=[(.normal,⟨[0,2,3,4,5],[],[]⟩)]
theorem w24o0:Outs w24v0_0 (fun _ _=>()) (fun _ _=>()) w24X0_0 (noX 1) (noX 2) (exC .normal) (exC (.goto 1)) (exC (.goto 2)):=⟨fun _=>by kernel_rfl,fun _=>by kernel_rfl,fun _=>by kernel_rfl,fun _=>by kernel_rfl,fun _=>by kernel_rfl,fun _=>by kernel_rfl,exNe_ok (by kernel_rfl),exNe_ok (by kernel_rfl),exNe_ok (by kernel_rfl)⟩
def w24l0 [Alg] (N _:Nat) (x:(List UInt8)×Int×(List Int)×(List (Int×Int))) (k0:((List UInt8)×Int×(List Int)×(List (Int×Int)))→O) (_:(Unit)→O) (_:(Unit)→O):O:=w24F0 N   (fun y0 y1 y2 y3=>k0 (y0,y1,y2,y3)) x.1 x.2.1 x.2.2.1 x.2.2.2
def w24n0 [Alg] (N:Nat) (a0:(List UInt8)) (a1:Int) (a2:(List Int)) (a3:(List (Int×Int))) (k0:(List UInt8)→Int→(List Int)→(List (Int×Int))→O):O:=w24l0 N N (a0,a1,a2,a3) (fun y=>k0 y.1 y.2.1 y.2.2.1 y.2.2.2) (fun _=>none) (fun _=>none)
noncomputable def w24s0 [Alg] (N:Nat) (a0:(List UInt8)) (a1:Int) (a2:(List Int)) (a3:(List (Int×Int))) (k0:(List UInt8)→Int→(List Int)→(List (Int×Int))→O):O:=subL w24I0 w24u0 (w24l0 N N) (w24I0 (a0,a1,a2,a3)) (fun y=>k0 y.1 y.2.1 y.2.2.1 y.2.2.2) (fun _=>none) (fun _=>none)
theorem w24e0 [Alg] (N:Nat):w24s0 N=w24n0 N:=funext fun _=>funext fun _=>funext fun _=>funext fun _=>funext fun _=>subL_I w24ui0 _ _ _ _
noncomputable def w24h0 [Alg] (_:Nat):Hint:=(.seq .d (.cond (.reg [2,3] [] []) .d))
theorem w24hk0 (N:Nat):HintOk (w24c N) Tryd.f24.ntmps (w24h0 N) w24b0:=hk_of _ _ (And.intro trivial (And.intro trivial trivial))
theorem w24q0 [Alg] (N:Nat) (K:Exit→Sg→O) (x:(List UInt8)×Int×(List Int)×(List (Int×Int))):w24F0 N   (fun y0 y1 y2 y3=>K (w24X0_0 (y0,y1,y2,y3)).1 (w24X0_0 (y0,y1,y2,y3)).2) x.1 x.2.1 x.2.2.1 x.2.2.2=exec (w24c N) Tryd.f24.ntmps (w24h0 N) w24b0 (w24I0 x) (partX w24w0 K):=by kernel_rfl
theorem w24S0 (N:Nat) (hc:CxOk (w24c N)):SubOk (w24c N) Tryd.f24.ntmps w24b0 w24X0_0 (noX 1) (noX 2) (subL w24I0 w24u0 (w24l0 N N)):=
 sub_part hc (w24hk0 N) w24o0 (fun x K=>by
  have h:w24F0 N   (fun y0 y1 y2 y3=>K (w24X0_0 (y0,y1,y2,y3)).1 (w24X0_0 (y0,y1,y2,y3)).2) x.1 x.2.1 x.2.2.1 x.2.2.2=w24F0 N   (fun y0 y1 y2 y3=>K (w24X0_0 (y0,y1,y2,y3)).1 (w24X0_0 (y0,y1,y2,y3)).2) x.1 x.2.1 x.2.2.1 x.2.2.2:=by rfl
  exact h.trans (w24q0 N K x))
def w24F1 [Alg] (_:Nat) (in0:(List UInt8)→Int→(List Int)→(List (Int×Int))→((List UInt8)→Int→(List Int)→(List (Int×Int))→O)→O)  (k0:(List UInt8)→Int→(List Int)→(List (Int×Int))→O) (x126_0:(List UInt8)) (x126_1:Int) (x126_2:(List Int)) (x126_3:(List (Int×Int))):O:=
 in0 x126_0 x126_1 x126_2 x126_3
  (fun z153 z154 z155 z156=>
   gx z153 z154 fun y157=>
   br (decide (y157=(41:UInt8))&&decide ((0:Int) < (↑z155.length:Int)))
    (ck (decide ((0:Int)≤IntKind.i64.wrap ((↑z155.length:Int) - (1:Int))∧IntKind.i64.wrap ((↑z155.length:Int) - (1:Int)) < (↑z155.length:Int))) <|
    gn z155 ((IntKind.i64.wrap ((↑z155.length:Int) - (1:Int))).toNat) fun y158=>
    ck (decide ((0:Int)≤IntKind.i64.wrap ((↑z155.length:Int) - (1:Int))∧IntKind.i64.wrap ((↑z155.length:Int) - (1:Int))≤(↑z155.length:Int))) <|
    gc (!decide (y158=(0:Int))) ((0:UInt8)) z153 (max (IntKind.i64.wrap (y158 - (1:Int))) (0:Int)) fun y159=>
    br (decide (y158=(0:Int))||decide (y159≠(82:UInt8)))
     (ck (lim (z156++[(y158,z154)]).length (16:Nat)) <|
     k0 z153 z154 (List.take (IntKind.i64.wrap ((↑z155.length:Int) - (1:Int))).toNat z155) (z156++[(y158,z154)]))
     (k0 z153 z154 (List.take (IntKind.i64.wrap ((↑z155.length:Int) - (1:Int))).toNat z155) z156))
    (k0 z153 z154 z155 z156))
noncomputable def w24b1:Code:=atC [1,1,1,0,1,0,0,1,0] w24b
def w24m1:Nm:=⟨[0,2,3,4,5],[],[]⟩
def w24I1 (x:(List UInt8)×Int×(List Int)×(List (Int×Int))):Sg:=⟨[(0,.e .tx x.1),(2,.nilS),(3,.own 0),(4,.own 1),(5,.e (.i .i64) x.2.1)],[(0,.row 3 (.i .i64) x.2.2.1 false),(1,.row 44 (.pr (.i .i64) (.i .i64)) x.2.2.2 false)],100⟩
def w24u1 (σ:Sg):(List UInt8)×Int×(List Int)×(List (Int×Int)):=(lvT .tx 0 0 σ,lvT (.i .i64) 5 0 σ,lvR (.i .i64) 0 σ,lvR (.pr (.i .i64) (.i .i64)) 1 σ)
theorem w24ui1:∀ x,w24u1 (w24I1 x)=x:=fun _=>by kernel_rfl
def w24X1_0 (y:(List UInt8)×Int×(List Int)×(List (Int×Int))):Exit×Sg:=(.normal,⟨[(0,.e .tx y.1),(2,.nilS),(3,.own 0),(4,.own 1),(5,.e (.i .i64) y.2.1)],[(0,.row 3 (.i .i64) y.2.2.1 false),(1,.row 44 (.pr (.i .i64) (.i .i64)) y.2.2.2 false)],100⟩)
def w24v1_0 (_:Exit) (σ:Sg):(List UInt8)×Int×(List Int)×(List (Int×Int)):=(lvT .tx 0 0 σ,lvT (.i .i64) 5 0 σ,lvR (.i .i64) 0 σ,lvR (.pr (.i .i64) (.i .i64)) 1 σ)
def w24w1:List (Exit×Nm):=[(.normal,⟨[0,2,3,4,5],[],[]⟩)]
theorem w24o1:Outs w24v1_0 (fun _ _=>()) (fun _ _=>()) w24X1_0 (noX 1) (noX 2) (exC .normal) (exC (.goto 1)) (exC (.goto 2)):=⟨fun _=>by kernel_rfl,fun _=>by kernel_rfl,fun _=>by kernel_rfl,fun _=>by kernel_rfl,fun _=>by kernel_rfl,fun _=>by kernel_rfl,exNe_ok (by kernel_rfl),exNe_ok (by kernel_rfl),exNe_ok (by kernel_rfl)⟩
def w24l1 [Alg] (N _:Nat) (x:(List UInt8)×Int×(List Int)×(List (Int×Int))) (k0:((List UInt8)×Int×(List Int)×(List (Int×Int)))→O) (_:(Unit)→O) (_:(Unit)→O):O:=w24F1 N (w24n0 N)  (fun y0 y1 y2 y3=>k0 (y0,y1,y2,y3)) x.1 x.2.1 x.2.2.1 x.2.2.2
def w24n1 [Alg] (N:Nat) (a0:(List UInt8)) (a1:Int) (a2:(List Int)) (a3:(List (Int×Int))) (k0:(List UInt8)→Int→(List Int)→(List (Int×Int))→O):O:=w24l1 N N (a0,a1,a2,a3) (fun y=>k0 y.1 y.2.1 y.2.2.1 y.2.2.2) (fun _=>none) (fun _=>none)
noncomputable def w24s1 [Alg] (N:Nat) (a0:(List UInt8)) (a1:Int) (a2:(List Int)) (a3:(List (Int×Int))) (k0:(List UInt8)→Int→(List Int)→(List (Int×Int))→O):O:=subL w24I1 w24u1 (w24l1 N N) (w24I1 (a0,a1,a2,a3)) (fun y=>k0 y.1 y.2.1 y.2.2.1 y.2.2.2) (fun _=>none) (fun _=>none)
theorem w24e1 [Alg] (N:Nat):w24s1 N=w24n1 N:=funext fun _=>funext fun _=>funext fun _=>funext fun _=>funext fun _=>subL_I w24ui1 _ _ _ _
noncomputable def w24h1 [Alg] (N:Nat):Hint:=(.block (.seq (.sub w24m0 _ _ _ w24X0_0 (noX 1) (noX 2) (subL w24I0 w24u0 (w24l0 N N))) (.seq .d (.cond (.seq .d (.seq (.reg [4] [] []) (.seq .d (.cond (.reg [4,5] [] []) .d)))) .d))))
theorem w24hk1 (N:Nat) (hc:CxOk (w24c N)):HintOk (w24c N) Tryd.f24.ntmps (w24h1 N) w24b1:=hk_of _ _ (And.intro (w24S0 N hc) (And.intro trivial (And.intro (And.intro trivial (And.intro trivial (And.intro trivial (And.intro trivial trivial)))) trivial)))
theorem w24q1 [Alg] (N:Nat) (K:Exit→Sg→O) (x:(List UInt8)×Int×(List Int)×(List (Int×Int))):w24F1 N (w24s0 N)  (fun y0 y1 y2 y3=>K (w24X1_0 (y0,y1,y2,y3)).1 (w24X1_0 (y0,y1,y2,y3)).2) x.1 x.2.1 x.2.2.1 x.2.2.2=exec (w24c N) Tryd.f24.ntmps (w24h1 N) w24b1 (w24I1 x) (partX w24w1 K):=by kernel_rfl
theorem w24S1 (N:Nat) (hc:CxOk (w24c N)):SubOk (w24c N) Tryd.f24.ntmps w24b1 w24X1_0 (noX 1) (noX 2) (subL w24I1 w24u1 (w24l1 N N)):=
 sub_part hc (w24hk1 N hc) w24o1 (fun x K=>by
  have h:w24F1 N (w24n0 N)  (fun y0 y1 y2 y3=>K (w24X1_0 (y0,y1,y2,y3)).1 (w24X1_0 (y0,y1,y2,y3)).2) x.1 x.2.1 x.2.2.1 x.2.2.2=w24F1 N (w24s0 N)  (fun y0 y1 y2 y3=>K (w24X1_0 (y0,y1,y2,y3)).1 (w24X1_0 (y0,y1,y2,y3)).2) x.1 x.2.1 x.2.2.1 x.2.2.2:=by rw [w24e0 N]
  exact h.trans (w24q1 N K x))
def w24F2 [Alg] (_:Nat) (_in0:(List UInt8)→Int→(List Int)→(List (Int×Int))→((List UInt8)→Int→(List Int)→(List (Int×Int))→O)→O) (in1:(List UInt8)→Int→(List Int)→(List (Int×Int))→((List UInt8)→Int→(List Int)→(List (Int×Int))→O)→O) (self:(List UInt8)→Int→(List Int)→(List (Int×Int))→O) (k0:(List (Int×Int))→O) (x0_0:(List UInt8)) (x0_1:Int) (x0_2:(List Int)) (x0_3:(List (Int×Int))):O:=
 br (decide (x0_1 < (↑x0_0.length:Int)))
  (in1 x0_0 x0_1 x0_2 x0_3
   (fun z160 z161 z162 z163=>
    self z160 (IntKind.i64.wrap (z161+(1:Int))) z162 z163))
  (k0 x0_3)
noncomputable def w24b2:Code:=atC [1,1,1,0,1,0,0] w24b
def w24m2:Nm:=⟨[0,2,3,4,5],[],[.nilR 3 (.row 3 (.i .i64) [] false),.nilR 4 (.row 44 (.pr (.i .i64) (.i .i64)) [] false)]⟩
def w24I2 (x:(List UInt8)×Int×(List Int)×(List (Int×Int))):Sg:=⟨[(0,.e .tx x.1),(2,.nilS),(3,.own 0),(4,.own 1),(5,.e (.i .i64) x.2.1)],[(0,.row 3 (.i .i64) x.2.2.1 false),(1,.row 44 (.pr (.i .i64) (.i .i64)) x.2.2.2 false)],100⟩
def w24u2 (σ:Sg):(List UInt8)×Int×(List Int)×(List (Int×Int)):=(lvT .tx 0 0 σ,lvT (.i .i64) 5 0 σ,lvR (.i .i64) 0 σ,lvR (.pr (.i .i64) (.i .i64)) 1 σ)
theorem w24ui2:∀ x,w24u2 (w24I2 x)=x:=fun _=>by kernel_rfl
def w24X2_0 (y:(List (Int×Int))):Exit×Sg:=((.exit 0),⟨[(4,.own 0)],[(0,.row 44 (.pr (.i .i64) (.i .i64)) y false)],100⟩)
def w24v2_0 (_:Exit) (σ:Sg):(List (Int×Int)):=lvR (.pr (.i .i64) (.i .i64)) 0 σ
def w24w2:List (Exit×Nm):=[((.exit 0),⟨[4],[],[]⟩)]
theorem w24o2:Outs w24v2_0 (fun _ _=>()) (fun _ _=>()) w24X2_0 (noX 1) (noX 2) (exC (.exit 0)) (exC (.goto 1)) (exC (.goto 2)):=⟨fun _=>by kernel_rfl,fun _=>by kernel_rfl,fun _=>by kernel_rfl,fun _=>by kernel_rfl,fun _=>by kernel_rfl,fun _=>by kernel_rfl,exNe_ok (by kernel_rfl),exNe_ok (by kernel_rfl),exNe_ok (by kernel_rfl)⟩
def w24l2 [Alg] (N:Nat):Nat→((List UInt8)×Int×(List Int)×(List (Int×Int)))→(((List (Int×Int)))→O)→((Unit)→O)→((Unit)→O)→O
 | 0,_,_,_,_=>none
 | n+1,x,k0,k1,k2=>w24F2 N (w24n0 N) (w24n1 N) (fun v0 v1 v2 v3=>w24l2 N n (v0,v1,v2,v3) k0 k1 k2) (fun y0=>k0 y0) x.1 x.2.1 x.2.2.1 x.2.2.2
def w24n2 [Alg] (N:Nat) (a0:(List UInt8)) (a1:Int) (a2:(List Int)) (a3:(List (Int×Int))) (k0:(List (Int×Int))→O):O:=w24l2 N N (a0,a1,a2,a3) (fun y=>k0 y) (fun _=>none) (fun _=>none)
noncomputable def w24s2 [Alg] (N:Nat) (a0:(List UInt8)) (a1:Int) (a2:(List Int)) (a3:(List (Int×Int))) (k0:(List (Int×Int))→O):O:=subL w24I2 w24u2 (w24l2 N N) (w24I2 (a0,a1,a2,a3)) (fun y=>k0 y) (fun _=>none) (fun _=>none)
theorem w24e2 [Alg] (N:Nat):w24s2 N=w24n2 N:=funext fun _=>funext fun _=>funext fun _=>funext fun _=>funext fun _=>subL_I w24ui2 _ _ _ _
noncomputable def w24h2 [Alg] (N:Nat):Hint:=(.seq .d (.seq (.sub w24m1 _ _ _ w24X1_0 (noX 1) (noX 2) (subL w24I1 w24u1 (w24l1 N N))) .d))
theorem w24hk2 (N:Nat) (hc:CxOk (w24c N)):HintOk (w24c N) Tryd.f24.ntmps (w24h2 N) w24b2:=hk_of _ _ (And.intro trivial (And.intro (w24S1 N hc) trivial))
theorem w24q2 [Alg] (N:Nat) (self:Sg→O) (K:Exit→Sg→O) (x:(List UInt8)×Int×(List Int)×(List (Int×Int))):w24F2 N (w24s0 N) (w24s1 N) (fun v0 v1 v2 v3=>self (w24I2 (v0,v1,v2,v3))) (fun y0=>K (w24X2_0 y0).1 (w24X2_0 y0).2) x.1 x.2.1 x.2.2.1 x.2.2.2=exec (w24c N) Tryd.f24.ntmps (w24h2 N) w24b2 (w24I2 x) (roundX w24m2 w24w2 self K):=by kernel_rfl
theorem w24S2 (N:Nat) (hc:CxOk (w24c N)):SubOk (w24c N) Tryd.f24.ntmps (.loop w24b2) w24X2_0 (noX 1) (noX 2) (subL w24I2 w24u2 (w24l2 N N)):=
 sub_loop hc (w24hk2 N hc) w24o2 (n:=N) (fun x K=>loop_ind (w24l2 N) (fun _ _ _ _=>rfl) (fun n K ih x=>by
  have h:w24F2 N (w24n0 N) (w24n1 N) (fun v0 v1 v2 v3=>w24l2 N n (v0,v1,v2,v3) (fun y=>K (w24X2_0 y).1 (w24X2_0 y).2) (fun y=>K ((noX 1) y).1 ((noX 1) y).2) (fun y=>K ((noX 2) y).1 ((noX 2) y).2)) (fun y0=>K (w24X2_0 y0).1 (w24X2_0 y0).2) x.1 x.2.1 x.2.2.1 x.2.2.2=w24F2 N (w24s0 N) (w24s1 N) (fun v0 v1 v2 v3=>loopX (w24c N) Tryd.f24.ntmps (w24h2 N) w24b2 w24m2 w24w2 n (w24I2 (v0,v1,v2,v3)) K) (fun y0=>K (w24X2_0 y0).1 (w24X2_0 y0).2) x.1 x.2.1 x.2.2.1 x.2.2.2:=by rw [w24e0 N,w24e1 N,show (fun v0 v1 v2 v3=>w24l2 N n (v0,v1,v2,v3) (fun y=>K (w24X2_0 y).1 (w24X2_0 y).2) (fun y=>K ((noX 1) y).1 ((noX 1) y).2) (fun y=>K ((noX 2) y).1 ((noX 2) y).2))=(fun v0 v1 v2 v3=>loopX (w24c N) Tryd.f24.ntmps (w24h2 N) w24b2 w24m2 w24w2 n (w24I2 (v0,v1,v2,v3)) K) from funext fun _=>funext fun _=>funext fun _=>funext fun _=>ih _]
  exact h.trans (w24q2 N (fun σ=>loopX (w24c N) Tryd.f24.ntmps (w24h2 N) w24b2 w24m2 w24w2 n σ K) K x)) N x K)
def w24G [Alg] (_:Nat) (_in0:(List UInt8)→Int→(List Int)→(List (Int×Int))→((List UInt8)→Int→(List Int)→(List (Int×Int))→O)→O) (_in1:(List UInt8)→Int→(List Int)→(List (Int×Int))→((List UInt8)→Int→(List Int)→(List (Int×Int))→O)→O) (in2:(List UInt8)→Int→(List Int)→(List (Int×Int))→((List (Int×Int))→O)→O) (s0:(List UInt8)):O:=
 in2 s0 ((0:Int)) [] []
  (fun z164=>
   some (w24r0 z164))
def w24 [Alg] (N:Nat) (s0:(List UInt8)):O:=w24G N (w24n0 N) (w24n1 N) (w24n2 N) s0
noncomputable def w24h [Alg] (N:Nat):Hint:=(.seq .d (.seq .d (.seq .d (.seq (.seq .d (.block (.sub w24m2 _ _ _ w24X2_0 (noX 1) (noX 2) (subL w24I2 w24u2 (w24l2 N N))))) .d))))
theorem w24hk (N:Nat) (hc:CxOk (w24c N)):HintOk (w24c N) Tryd.f24.ntmps (w24h N) w24b:=hk_of _ _ (And.intro trivial (And.intro trivial (And.intro trivial (And.intro (And.intro trivial (w24S2 N hc)) trivial))))
theorem w24q [Alg] (N:Nat) (s0:(List UInt8)):w24G N (w24s0 N) (w24s1 N) (w24s2 N) s0=exec (w24c N) Tryd.f24.ntmps (w24h N) w24b ⟨argT 0 [.e .tx s0],[],100⟩ (finX (w24c N) Tryd.f24 false):=by kernel_rfl
theorem w24does {N:Nat} (hc:CxOk (w24c N)) {s0:(List UInt8)} {r:Res} (h:w24 N s0=some r):DoesR Tryd.prog 24 (([.e .tx s0]:List X).map X.D) (HA []) r:=
 fun_ok hc (f:=24) (fn:=Tryd.f24) (code:=w24b) (by kernel_rfl) (by kernel_rfl) (w24hk N hc) (Nat.le_of_ble_eq_true (by kernel_rfl)) (ow:=false) ((w24q N s0).symm.trans (by rw [w24e0 N,w24e1 N,w24e2 N];exact h))
def w24un (r:Res):Option ((List (Int×Int))):=match r with
 | (x0,[])=>(match ue (.sl (.pr (.i .i64) (.i .i64))) x0 with | some a0=>some a0 | _=>none)
 | _=>none
theorem w24uo {r:Res} {d:(List (Int×Int))} (h:w24un r=some d):r=w24r0 (d):=by
 unfold w24un at h
 split at h
 ·split at h
  ·rename_i h0;cases h;rw [ue_some h0];rfl
  ·cases h
 ·cases h
def w24z (N:Nat) (s0:(List UInt8)):Option ((List (Int×Int))):=(w24 N s0).bind w24un
theorem w24fin {N:Nat} (hc:CxOk (w24c N)) {s0:(List UInt8)} {d:(List (Int×Int))} (hd:w24z N s0=some d):Does Tryd.prog 24 (([.e .tx s0]:List X).map X.D) (HA []) (w24r0 (d)).1.D (HA (w24r0 (d)).2):=by
 obtain ⟨r,hr,hu⟩:=Option.bind_eq_some_iff.1 hd
 have:=w24does hc hr
 rw [w24uo hu] at this
 exact this
def w24p (N:Nat) (s0:(List UInt8)):Bool:=(w24z N s0).isSome
def w24y0 (N:Nat) (s0:(List UInt8)):(List (Int×Int)):=((w24z N s0).getD [])
def w24e (N:Nat):Ent':=E1 .tx  (fun x0=>(w24p N x0,w24r0 (w24y0 N x0)))
theorem w24re {N:Nat} {s0:(List UInt8)} {d:(List (Int×Int))} (hd:w24z N s0=some d):w24r0 (w24y0 N s0)=w24r0 (d):=by unfold w24y0;rw [hd];rfl
theorem w24ok (N:Nat):EOk Tryd.prog 24 (w24e N):=EOk.e1 (fun x0 h=>by
 have h:(w24z N x0).isSome=true:=h
 obtain ⟨d,hd⟩:=Option.isSome_iff_exists.1 h
 have f:=w24fin (w24cx N) hd
 rw [← w24re hd] at f
 exact f)
end
end Go.Proofs
