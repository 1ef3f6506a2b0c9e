/- What the functions of package linear do; the examples hold. Conditions are in the theorems. -/
import Derived.Test.YtlhdefefoaldfaaGreatDoorE7
import Derived.Test.YtlhdefefoaldfaaGreatDoorProg
import Derived.KernelRfl
import Derived.Test.YtlhdefefoaldfaaGreatDoorF0
import Derived.Test.YtlhdefefoaldfaaGreatDoorF5
import Derived.Test.YtlhdefefoaldfaaGreatDoorF1
import Derived.Test.YtlhdefefoaldfaaGreatDoorF2
import Derived.Test.YtlhdefefoaldfaaGreatDoorF3
/- What functions do. -/
namespace Go.Proofs
noncomputable section
open Go.Ax Go.Ax.Alg Go.RowKit Go.Ab
open Go
abbrev YL1:=List UInt8
def w57r0 (a0:Bool):Res:=(.e .bo a0,[])
def w57L (_:Nat):List (Nat×Ent'):=[]
def w57c (N:Nat):Cx:=⟨Tryz.prog,25,w57L N,[]⟩
def w57b:Code:=Tryz.f57.body.getD .skip
theorem w57cx (N:Nat):CxOk (w57c N):=ctx_ok (by kernel_rfl) .nil .nil
def w57G [Alg] (_:Nat)  (c0:Int):O:=
  some (w57r0 (decide (48<=c0)&&decide (c0<=57)))
def w57 [Alg] (N:Nat) (c0:Int):O:=w57G N  c0
def w57h [Alg] (_:Nat):Hint:=.d
theorem w57hk (N:Nat):HintOk (w57c N) Tryz.f57.ntmps (w57h N) w57b:=hk_of _ _ trivial
theorem w57q [Alg] (N:Nat) (c0:Int):w57G N  c0=exec (w57c N) Tryz.f57.ntmps (w57h N) w57b ⟨argT 0 [.e (.i .i32) c0],[],100⟩ (finX (w57c N) Tryz.f57 false):=by kernel_rfl
def w57un (r:Res):Option (Bool):=match r with
  | (x0,[])=>(match ue .bo x0 with | some a0=>some a0 | _=>none)
  | _=>none
theorem w57uo {r:Res} {d:Bool} (h:w57un r=some d):r=w57r0 (d):=by
  unfold w57un at h
  split at h
  . split at h
    . rename_i h0;cases h;rw [ue_some h0];rfl
    . cases h
  . cases h
def w57z (N:Nat) (c0:Int):Option (Bool):=(w57 N c0).bind w57un
theorem w57fin {N:Nat} (hc:CxOk (w57c N)) {c0:Int} {d:Bool} (hd:w57z N c0=some d):Does Tryz.prog 57 (([.e (.i .i32) c0]:List X).map X.D) (HA []) (w57r0 (d)).1.D (HA (w57r0 (d)).2):=by
  obtain ⟨r,hr,hu⟩:=Option.bind_eq_some_iff.1 hd
  have:=fun_ok (r:=r) hc (f:=57) (fn:=Tryz.f57) (code:=w57b) (by kernel_rfl) (by kernel_rfl) (w57hk N) (Nat.le_of_ble_eq_true (by kernel_rfl)) (ow:=false) ((w57q N c0).symm.trans (by exact hr))
  rw [w57uo hu] at this
  exact this
def w57p (N:Nat) (c0:Int):Bool:=(w57z N c0).isSome
def w57y0 (N:Nat) (c0:Int):Bool:=((w57z N c0).getD false)
def w57e (N:Nat):Ent':=E1 (.i .i32)  (fun x0=>(w57p N x0,w57r0 (w57y0 N x0)))
theorem w57re {N:Nat} {c0:Int} {d:Bool} (hd:w57z N c0=some d):w57r0 (w57y0 N c0)=w57r0 (d):=by unfold w57y0;rw [hd];rfl
theorem w57ok (N:Nat):EOk Tryz.prog 57 (w57e N):=EOk.e1 (fun x0 h=>by
  have h:(w57z N x0).isSome=true:=h
  obtain ⟨d,hd⟩:=Option.isSome_iff_exists.1 h
  have f:=w57fin (w57cx N) hd
  rw [← w57re hd] at f
  exact f)
def w58r0 (a0:Bool):Res:=(.e .bo a0,[])
def w58L (_:Nat):List (Nat×Ent'):=[]
def w58c (N:Nat):Cx:=⟨Tryz.prog,25,w58L N,[]⟩
def w58b:Code:=Tryz.f58.body.getD .skip
theorem w58cx (N:Nat):CxOk (w58c N):=ctx_ok (by kernel_rfl) .nil .nil
def w58G [Alg] (_:Nat)  (c0:Int):O:=
  some (w58r0 (decide (97<=c0)&&decide (c0<=122)))
def w58 [Alg] (N:Nat) (c0:Int):O:=w58G N  c0
def w58h [Alg] (_:Nat):Hint:=.d
theorem w58hk (N:Nat):HintOk (w58c N) Tryz.f58.ntmps (w58h N) w58b:=hk_of _ _ trivial
theorem w58q [Alg] (N:Nat) (c0:Int):w58G N  c0=exec (w58c N) Tryz.f58.ntmps (w58h N) w58b ⟨argT 0 [.e (.i .i32) c0],[],100⟩ (finX (w58c N) Tryz.f58 false):=by kernel_rfl
def w58un (r:Res):Option (Bool):=match r with
  | (x0,[])=>(match ue .bo x0 with | some a0=>some a0 | _=>none)
  | _=>none
theorem w58uo {r:Res} {d:Bool} (h:w58un r=some d):r=w58r0 (d):=by
  unfold w58un at h
  split at h
  . split at h
    . rename_i h0;cases h;rw [ue_some h0];rfl
    . cases h
  . cases h
def w58z (N:Nat) (c0:Int):Option (Bool):=(w58 N c0).bind w58un
theorem w58fin {N:Nat} (hc:CxOk (w58c N)) {c0:Int} {d:Bool} (hd:w58z N c0=some d):Does Tryz.prog 58 (([.e (.i .i32) c0]:List X).map X.D) (HA []) (w58r0 (d)).1.D (HA (w58r0 (d)).2):=by
  obtain ⟨r,hr,hu⟩:=Option.bind_eq_some_iff.1 hd
  have:=fun_ok (r:=r) hc (f:=58) (fn:=Tryz.f58) (code:=w58b) (by kernel_rfl) (by kernel_rfl) (w58hk N) (Nat.le_of_ble_eq_true (by kernel_rfl)) (ow:=false) ((w58q N c0).symm.trans (by exact hr))
  rw [w58uo hu] at this
  exact this
def w58p (N:Nat) (c0:Int):Bool:=(w58z N c0).isSome
def w58y0 (N:Nat) (c0:Int):Bool:=((w58z N c0).getD false)
def w58e (N:Nat):Ent':=E1 (.i .i32)  (fun x0=>(w58p N x0,w58r0 (w58y0 N x0)))
theorem w58re {N:Nat} {c0:Int} {d:Bool} (hd:w58z N c0=some d):w58r0 (w58y0 N c0)=w58r0 (d):=by unfold w58y0;rw [hd];rfl
theorem w58ok (N:Nat):EOk Tryz.prog 58 (w58e N):=EOk.e1 (fun x0 h=>by
  have h:(w58z N x0).isSome=true:=h
  obtain ⟨d,hd⟩:=Option.isSome_iff_exists.1 h
  have f:=w58fin (w58cx N) hd
  rw [← w58re hd] at f
  exact f)
def w34r0 (a0:YL1) (a1:(List Int)):Res:=(.tup [.own 100,.own 101],[(100,.row 5 .u8 a0 true),(101,.row 3 (.i .i64) a1 true)])
def w34L (N:Nat):List (Nat×Ent'):=[(57,w57e N),(58,w58e N),(59,w59e N),(60,w60e N)]
def w34c (N:Nat):Cx:=⟨Tryz.prog,25,w34L N,[]⟩
def w34b:Code:=Tryz.f34.body.getD .skip
theorem w34cx (N:Nat):CxOk (w34c N):=ctx_ok (by kernel_rfl) (.cons (by kernel_rfl) (w57ok N) (.cons (by kernel_rfl) (w58ok N) (.cons (by kernel_rfl) (w59ok N) (.cons (by kernel_rfl) (w60ok N) .nil)))) .nil
def w34F0 [Alg] (N:Nat)  (self:Int->YL1->(List Int)->Int->O) (k0:YL1->(List Int)->O) (_x0_1:YL1) (x0_4:YL1) (x0_0:Int) (x0_2:YL1) (x0_3:(List Int)) (x0_5:Int):O:=
  let b0:=x0_5+(1:Int)
  br (decide (x0_5 < (↑x0_4.length:Int)))
    (gx x0_4 x0_5 fun y21=>
    ck (decide (y21.toNat < (128:Nat))) <|
    br true
      (ck (w57p N (↑y21.toNat:Int)) <|
      br (w57y0 N (↑y21.toNat:Int))
        (ck (w57p N x0_0) <|
        br (!w57y0 N x0_0)
          (ck (lim (x0_2++[(60:UInt8)]).length (1:Nat)) <|
          gx [(26:UInt8),(1:UInt8),(3:UInt8),(9:UInt8),(25:UInt8),(17:UInt8),(11:UInt8),(27:UInt8),(19:UInt8),(10:UInt8)] (IntKind.i32.wrap ((↑y21.toNat:Int) - (48:Int))) fun y22=>
          ck (lim (x0_2++[(60:UInt8)]++[y22]).length (1:Nat)) <|
          self ((↑y21.toNat:Int)) (x0_2++[(60:UInt8)]++[y22]) x0_3 b0)
          (gx [(26:UInt8),(1:UInt8),(3:UInt8),(9:UInt8),(25:UInt8),(17:UInt8),(11:UInt8),(27:UInt8),(19:UInt8),(10:UInt8)] (IntKind.i32.wrap ((↑y21.toNat:Int) - (48:Int))) fun y23=>
          ck (lim (x0_2++[y23]).length (1:Nat)) <|
          self ((↑y21.toNat:Int)) (x0_2++[y23]) x0_3 b0))
        (ck (w58p N (↑y21.toNat:Int)) <|
        br (w58y0 N (↑y21.toNat:Int))
          (gx [(1:UInt8),(3:UInt8),(9:UInt8),(25:UInt8),(17:UInt8),(11:UInt8),(27:UInt8),(19:UInt8),(10:UInt8),(26:UInt8),(5:UInt8),(7:UInt8),(13:UInt8),(29:UInt8),(21:UInt8),(15:UInt8),(31:UInt8),(23:UInt8),(14:UInt8),(30:UInt8),(37:UInt8),(39:UInt8),(58:UInt8),(45:UInt8),(61:UInt8),(53:UInt8)] (IntKind.i32.wrap ((↑y21.toNat:Int) - (97:Int))) fun y24=>
          ck (lim (x0_2++[(48:UInt8),y24]).length (1:Nat)) <|
          self ((↑y21.toNat:Int)) (x0_2++[(48:UInt8),y24]) x0_3 b0)
          (ck (w59p N [(43:UInt8),(45:UInt8),(42:UInt8),(47:UInt8),(94:UInt8),(61:UInt8),(60:UInt8),(82:UInt8),(40:UInt8),(41:UInt8)] (↑y21.toNat:Int)) <|
          gx [(22:UInt8),(36:UInt8),(33:UInt8),(12:UInt8),(24:UInt8),(54:UInt8),(42:UInt8),(28:UInt8),(55:UInt8),(62:UInt8)] (w59y0 N [(43:UInt8),(45:UInt8),(42:UInt8),(47:UInt8),(94:UInt8),(61:UInt8),(60:UInt8),(82:UInt8),(40:UInt8),(41:UInt8)] (↑y21.toNat:Int)) fun y25=>
          ck (lim (x0_2++[y25]).length (1:Nat)) <|
          ck (w60p N [(43:UInt8),(45:UInt8),(42:UInt8),(47:UInt8),(61:UInt8),(60:UInt8)] (↑y21.toNat:Int)) <|
          ck (!w60y0 N [(43:UInt8),(45:UInt8),(42:UInt8),(47:UInt8),(61:UInt8),(60:UInt8)] (↑y21.toNat:Int)||w57p N x0_0) <|
          ck (!(w60y0 N [(43:UInt8),(45:UInt8),(42:UInt8),(47:UInt8),(61:UInt8),(60:UInt8)] (↑y21.toNat:Int)&&!w57y0 N x0_0)||w58p N x0_0) <|
          br (w60y0 N [(43:UInt8),(45:UInt8),(42:UInt8),(47:UInt8),(61:UInt8),(60:UInt8)] (↑y21.toNat:Int)&&(w57y0 N x0_0||w58y0 N x0_0||decide (x0_0=41)))
            (ck (lim (x0_3++[(↑(x0_2++[y25]).length:Int)]).length (8:Nat)) <|
            self ((↑y21.toNat:Int)) (x0_2++[y25]) (x0_3++[(↑(x0_2++[y25]).length:Int)]) b0)
            (self ((↑y21.toNat:Int)) (x0_2++[y25]) x0_3 b0))))
      (k0 x0_2 x0_3))
    (br false
      (none)
      (k0 x0_2 x0_3))
def w34b0:Code:=atC [1,1,1,1,0,1,0,0] w34b
def w34m0:Nm:=⟨[2,4,5,6,9,10],[],[.nilR 4 (.row 5 .u8 [] true),.nilR 5 (.row 3 (.i .i64) [] true)]⟩
def w34I0 (x:Int×YL1×YL1×(List Int)×YL1×Int):Sg:=⟨[(2,.nilS),(4,.own 0),(5,.own 1),(6,.e (.i .i32) x.1),(9,.e .tx x.2.1),(10,.own 2)],[(0,.row 5 .u8 x.2.2.1 true),(1,.row 3 (.i .i64) x.2.2.2.1 true),(2,.it x.2.2.2.2.1 x.2.2.2.2.2)],100⟩
def w34u0 (σ:Sg):Int×YL1×YL1×(List Int)×YL1×Int:=(lvT (.i .i32) 6 0 σ,lvT .tx 9 0 σ,lvR .u8 0 σ,lvR (.i .i64) 1 σ,lvIs 2 σ,lvIp 2 σ)
theorem w34ui0:∀ x,w34u0 (w34I0 x)=x:=fun _=>by kernel_rfl
def w34X0_0 (y:YL1×(List Int)):Exit×Sg:=((.exit 0),⟨[(4,.own 0),(5,.own 1)],[(0,.row 5 .u8 y.1 true),(1,.row 3 (.i .i64) y.2 true)],100⟩)
def w34v0_0 (_:Exit) (σ:Sg):YL1×(List Int):=(lvR .u8 0 σ,lvR (.i .i64) 1 σ)
def w34w0:List (Exit×Nm):=[((.exit 0),⟨[4,5],[],[]⟩)]
theorem w34o0:Outs w34v0_0 (fun _ _=>()) (fun _ _=>()) w34X0_0 (noX 1) (noX 2) (exC (.exit 0)) (exC (.goto 1)) (exC (.goto 2)):=⟨fun _=>by kernel_rfl,fun _=>by kernel_rfl,fun _=>by kernel_rfl,fun _=>by kernel_rfl,fun _=>by kernel_rfl,fun _=>by kernel_rfl,exNe_ok (by kernel_rfl),exNe_ok (by kernel_rfl),exNe_ok (by kernel_rfl)⟩
def w34l0 [Alg] (N:Nat):Nat->(Int×YL1×YL1×(List Int)×YL1×Int)->((YL1×(List Int))->O)->((Unit)->O)->((Unit)->O)->O
  | 0,_,_,_,_=>none
  | n+1,x,k0,k1,k2=>w34F0 N  (fun v0 v1 v2 v3=>w34l0 N n (v0,x.2.1,v1,v2,x.2.2.2.2.1,v3) k0 k1 k2) (fun y0 y1=>k0 (y0,y1)) x.2.1 x.2.2.2.2.1 x.1 x.2.2.1 x.2.2.2.1 x.2.2.2.2.2
def w34n0 [Alg] (N:Nat) (a0:Int) (a1:YL1) (a2:YL1) (a3:(List Int)) (a4:YL1) (a5:Int) (k0:YL1->(List Int)->O):O:=w34l0 N N (a0,a1,a2,a3,a4,a5) (fun y=>k0 y.1 y.2) (fun _=>none) (fun _=>none)
def w34s0 [Alg] (N:Nat) (a0:Int) (a1:YL1) (a2:YL1) (a3:(List Int)) (a4:YL1) (a5:Int) (k0:YL1->(List Int)->O):O:=subL w34I0 w34u0 (w34l0 N N) (w34I0 (a0,a1,a2,a3,a4,a5)) (fun y=>k0 y.1 y.2) (fun _=>none) (fun _=>none)
theorem w34e0 [Alg] (N:Nat):w34s0 N=w34n0 N:=funext fun _=>funext fun _=>funext fun _=>funext fun _=>funext fun _=>funext fun _=>funext fun _=>subL_I w34ui0 _ _ _ _
def w34h0 [Alg] (_:Nat):Hint:=.d
theorem w34hk0 (N:Nat):HintOk (w34c N) Tryz.f34.ntmps (w34h0 N) w34b0:=hk_of _ _ trivial
theorem w34q0 [Alg] (N:Nat) (self:Sg->O) (K:Exit->Sg->O) (x:Int×YL1×YL1×(List Int)×YL1×Int):w34F0 N  (fun v0 v1 v2 v3=>self (w34I0 (v0,x.2.1,v1,v2,x.2.2.2.2.1,v3))) (fun y0 y1=>K (w34X0_0 (y0,y1)).1 (w34X0_0 (y0,y1)).2) x.2.1 x.2.2.2.2.1 x.1 x.2.2.1 x.2.2.2.1 x.2.2.2.2.2=exec (w34c N) Tryz.f34.ntmps (w34h0 N) w34b0 (w34I0 x) (roundX w34m0 w34w0 self K):=by kernel_rfl
theorem w34S0 (N:Nat) (hc:CxOk (w34c N)):SubOk (w34c N) Tryz.f34.ntmps (.loop w34b0) w34X0_0 (noX 1) (noX 2) (subL w34I0 w34u0 (w34l0 N N)):=
  sub_loop hc (w34hk0 N) w34o0 (n:=N) (fun x K=>loop_ind (w34l0 N) (fun _ _ _ _=>rfl) (fun n K ih x=>by
    refine Eq.trans ?_ (w34q0 N _ K x)
    simp only [← ih]
    rfl) N x K)
def w34G [Alg] (_:Nat) (in0:Int->YL1->YL1->(List Int)->YL1->Int->(YL1->(List Int)->O)->O) (s0:YL1):O:=
  in0 40 s0 [] [] s0 0
    (fun z26 z27=>
      ck (lim (z26++[(63:UInt8)]).length (1:Nat)) <|
      some (w34r0 (z26++[(63:UInt8)]) z27))
def w34 [Alg] (N:Nat) (s0:YL1):O:=w34G N (w34n0 N) s0
def w34h [Alg] (N:Nat):Hint:=(.seq .d (.seq .d (.seq .d (.seq .d (.seq (.seq .d (.block (.sub w34m0 _ _ _ w34X0_0 (noX 1) (noX 2) (subL w34I0 w34u0 (w34l0 N N))))) .d)))))
theorem w34hk (N:Nat) (hc:CxOk (w34c N)):HintOk (w34c N) Tryz.f34.ntmps (w34h N) w34b:=hk_of _ _ (And.intro trivial (And.intro trivial (And.intro trivial (And.intro trivial (And.intro (And.intro trivial (w34S0 N hc)) trivial)))))
theorem w34q [Alg] (N:Nat) (s0:YL1):w34G N (w34s0 N) s0=exec (w34c N) Tryz.f34.ntmps (w34h N) w34b ⟨argT 0 [.e .tx s0],[],100⟩ (finX (w34c N) Tryz.f34 true):=by kernel_rfl
def w34un (r:Res):Option (YL1×(List Int)):=match r with
  | (.tup [.own 100,.own 101],[(100,x0),(101,x1)])=>(match ur 5 .u8 true x0,ur 3 (.i .i64) true x1 with | some a0,some a1=>some (a0,a1) | _,_=>none)
  | _=>none
theorem w34uo {r:Res} {d:YL1×(List Int)} (h:w34un r=some d):r=w34r0 (d.1) (d.2):=by
  unfold w34un at h
  split at h
  . split at h
    . rename_i h0 h1;cases h;rw [ur_some h0,ur_some h1];rfl
    . cases h
  . cases h
def w34z (N:Nat) (s0:YL1):Option (YL1×(List Int)):=(w34 N s0).bind w34un
theorem w34fin {N:Nat} (hc:CxOk (w34c N)) {s0:YL1} {d:YL1×(List Int)} (hd:w34z N s0=some d):Does Tryz.prog 34 (([.e .tx s0]:List X).map X.D) (HA []) (w34r0 (d.1) (d.2)).1.D (HA (w34r0 (d.1) (d.2)).2):=by
  obtain ⟨r,hr,hu⟩:=Option.bind_eq_some_iff.1 hd
  have:=fun_ok (r:=r) hc (f:=34) (fn:=Tryz.f34) (code:=w34b) (by kernel_rfl) (by kernel_rfl) (w34hk N hc) (Nat.le_of_ble_eq_true (by kernel_rfl)) (ow:=true) ((w34q N s0).symm.trans (by rw [w34e0 N];exact hr))
  rw [w34uo hu] at this
  exact this
def w34p (N:Nat) (s0:YL1):Bool:=(w34z N s0).isSome
def w34y0 (N:Nat) (s0:YL1):YL1:=((w34z N s0).getD ([],[])).1
def w34y1 (N:Nat) (s0:YL1):(List Int):=((w34z N s0).getD ([],[])).2
def w34e (N:Nat):Ent':=E1 .tx  (fun x0=>(w34p N x0,w34r0 (w34y0 N x0) (w34y1 N x0)))
theorem w34re {N:Nat} {s0:YL1} {d:YL1×(List Int)} (hd:w34z N s0=some d):w34r0 (w34y0 N s0) (w34y1 N s0)=w34r0 (d.1) (d.2):=by unfold w34y0 w34y1;rw [hd];rfl
theorem w34ok (N:Nat):EOk Tryz.prog 34 (w34e N):=EOk.e1 (fun x0 h=>by
  have h:(w34z N x0).isSome=true:=h
  obtain ⟨d,hd⟩:=Option.isSome_iff_exists.1 h
  have f:=w34fin (w34cx N) hd
  rw [← w34re hd] at f
  exact f)
def w10r0 (a0:YL1) (a1:Int):Res:=(.tup [.e (.sl .u8) a0,.e (.i .i64) a1],[])
def w10L (N:Nat):List (Nat×Ent'):=[(29,w29e N),(35,w35e N),(34,w34e N)]
def w10c (N:Nat):Cx:=⟨Tryz.prog,25,w10L N,[]⟩
def w10b:Code:=Tryz.f10.body.getD .skip
theorem w10cx (N:Nat):CxOk (w10c N):=ctx_ok (by kernel_rfl) (.cons (by kernel_rfl) (w29ok N) (.cons (by kernel_rfl) (w35ok N) (.cons (by kernel_rfl) (w34ok N) .nil))) .nil
def w10G [Alg] (N:Nat)  (e0_0:Int) (e0_1:Int) (e0_2:(List Ex)):O:=
  let b0:=Ex.mk (Ex.mk e0_0 e0_1 e0_2).op (Ex.mk e0_0 e0_1 e0_2).num (Ex.mk e0_0 e0_1 e0_2).kids
  ck (w29p N b0.op b0.num b0.kids) <|
  br (decide (w29y0 N b0.op b0.num b0.kids≠(0:Int)))
    (some (w10r0 [] (w29y0 N b0.op b0.num b0.kids)))
    (ck (w35p N b0.op b0.num b0.kids) <|
    ck (w34p N (w35y0 N b0.op b0.num b0.kids)) <|
    some (w10r0 (w34y0 N (w35y0 N b0.op b0.num b0.kids)) 0))
def w10 [Alg] (N:Nat) (e0_0:Int) (e0_1:Int) (e0_2:(List Ex)):O:=w10G N  e0_0 e0_1 e0_2
def w10h [Alg] (_:Nat):Hint:=.d
theorem w10hk (N:Nat):HintOk (w10c N) Tryz.f10.ntmps (w10h N) w10b:=hk_of _ _ trivial
theorem w10q [Alg] (N:Nat) (e0_0:Int) (e0_1:Int) (e0_2:(List Ex)):w10G N  e0_0 e0_1 e0_2=exec (w10c N) Tryz.f10.ntmps (w10h N) w10b ⟨argT 0 [.agg [.e (.i .i64) e0_0,.e (.i .i64) e0_1,.e (.sl .ex) e0_2]],[],100⟩ (finX (w10c N) Tryz.f10 false):=by kernel_rfl
def w10un (r:Res):Option (YL1×Int):=match r with
  | (.tup [x0,x1],[])=>(match ue (.sl .u8) x0,ue (.i .i64) x1 with | some a0,some a1=>some (a0,a1) | _,_=>none)
  | _=>none
theorem w10uo {r:Res} {d:YL1×Int} (h:w10un r=some d):r=w10r0 (d.1) (d.2):=by
  unfold w10un at h
  split at h
  . split at h
    . rename_i h0 h1;cases h;rw [ue_some h0,ue_some h1];rfl
    . cases h
  . cases h
def w10z (N:Nat) (e0_0:Int) (e0_1:Int) (e0_2:(List Ex)):Option (YL1×Int):=(w10 N e0_0 e0_1 e0_2).bind w10un
theorem w10fin {N:Nat} (hc:CxOk (w10c N)) {e0_0:Int} {e0_1:Int} {e0_2:(List Ex)} {d:YL1×Int} (hd:w10z N e0_0 e0_1 e0_2=some d):Does Tryz.prog 10 (([.agg [.e (.i .i64) e0_0,.e (.i .i64) e0_1,.e (.sl .ex) e0_2]]:List X).map X.D) (HA []) (w10r0 (d.1) (d.2)).1.D (HA (w10r0 (d.1) (d.2)).2):=by
  obtain ⟨r,hr,hu⟩:=Option.bind_eq_some_iff.1 hd
  have:=fun_ok (r:=r) hc (f:=10) (fn:=Tryz.f10) (code:=w10b) (by kernel_rfl) (by kernel_rfl) (w10hk N) (Nat.le_of_ble_eq_true (by kernel_rfl)) (ow:=false) ((w10q N e0_0 e0_1 e0_2).symm.trans (by exact hr))
  rw [w10uo hu] at this
  exact this
def w10p (N:Nat) (e0_0:Int) (e0_1:Int) (e0_2:(List Ex)):Bool:=(w10z N e0_0 e0_1 e0_2).isSome
def w10y0 (N:Nat) (e0_0:Int) (e0_1:Int) (e0_2:(List Ex)):YL1:=((w10z N e0_0 e0_1 e0_2).getD ([],0)).1
def w10y1 (N:Nat) (e0_0:Int) (e0_1:Int) (e0_2:(List Ex)):Int:=((w10z N e0_0 e0_1 e0_2).getD ([],0)).2
def w10e (N:Nat):Ent':=E1 .ex  (fun x0=>(w10p N (Ex.op x0) (Ex.num x0) (Ex.kids x0),w10r0 (w10y0 N (Ex.op x0) (Ex.num x0) (Ex.kids x0)) (w10y1 N (Ex.op x0) (Ex.num x0) (Ex.kids x0))))
theorem w10re {N:Nat} {e0_0:Int} {e0_1:Int} {e0_2:(List Ex)} {d:YL1×Int} (hd:w10z N e0_0 e0_1 e0_2=some d):w10r0 (w10y0 N e0_0 e0_1 e0_2) (w10y1 N e0_0 e0_1 e0_2)=w10r0 (d.1) (d.2):=by unfold w10y0 w10y1;rw [hd];rfl
theorem w10ok (N:Nat):EOk Tryz.prog 10 (w10e N):=EOk.e1 (fun x0 h=>by
  have h:(w10z N (Ex.op x0) (Ex.num x0) (Ex.kids x0)).isSome=true:=h
  obtain ⟨d,hd⟩:=Option.isSome_iff_exists.1 h
  have f:=w10fin (w10cx N) hd
  rw [← w10re hd] at f
  exact f)
def w16r0 (a0:Int):Res:=(.e (.i .i64) a0,[])
def w16L (N:Nat):List (Nat×Ent'):=[(10,w10e N)]
def w16c (N:Nat):Cx:=⟨Tryz.prog,25,w16L N,[]⟩
def w16b:Code:=Tryz.f16.body.getD .skip
theorem w16cx (N:Nat):CxOk (w16c N):=ctx_ok (by kernel_rfl) (.cons (by kernel_rfl) (w10ok N) .nil) .nil
def w16G [Alg] (N:Nat)  (e0_0:Int) (e0_1:Int) (e0_2:(List Ex)):O:=
  let b0:=Ex.mk (Ex.mk e0_0 e0_1 e0_2).op (Ex.mk e0_0 e0_1 e0_2).num (Ex.mk e0_0 e0_1 e0_2).kids
  ck (w10p N b0.op b0.num b0.kids) <|
  some (w16r0 ((↑(w10y0 N b0.op b0.num b0.kids).length:Int)))
def w16 [Alg] (N:Nat) (e0_0:Int) (e0_1:Int) (e0_2:(List Ex)):O:=w16G N  e0_0 e0_1 e0_2
def w16h [Alg] (_:Nat):Hint:=.d
theorem w16hk (N:Nat):HintOk (w16c N) Tryz.f16.ntmps (w16h N) w16b:=hk_of _ _ trivial
theorem w16q [Alg] (N:Nat) (e0_0:Int) (e0_1:Int) (e0_2:(List Ex)):w16G N  e0_0 e0_1 e0_2=exec (w16c N) Tryz.f16.ntmps (w16h N) w16b ⟨argT 0 [.agg [.e (.i .i64) e0_0,.e (.i .i64) e0_1,.e (.sl .ex) e0_2]],[],100⟩ (finX (w16c N) Tryz.f16 false):=by kernel_rfl
def w16un (r:Res):Option (Int):=match r with
  | (x0,[])=>(match ue (.i .i64) x0 with | some a0=>some a0 | _=>none)
  | _=>none
theorem w16uo {r:Res} {d:Int} (h:w16un r=some d):r=w16r0 (d):=by
  unfold w16un at h
  split at h
  . split at h
    . rename_i h0;cases h;rw [ue_some h0];rfl
    . cases h
  . cases h
def w16z (N:Nat) (e0_0:Int) (e0_1:Int) (e0_2:(List Ex)):Option (Int):=(w16 N e0_0 e0_1 e0_2).bind w16un
theorem w16fin {N:Nat} (hc:CxOk (w16c N)) {e0_0:Int} {e0_1:Int} {e0_2:(List Ex)} {d:Int} (hd:w16z N e0_0 e0_1 e0_2=some d):Does Tryz.prog 16 (([.agg [.e (.i .i64) e0_0,.e (.i .i64) e0_1,.e (.sl .ex) e0_2]]:List X).map X.D) (HA []) (w16r0 (d)).1.D (HA (w16r0 (d)).2):=by
  obtain ⟨r,hr,hu⟩:=Option.bind_eq_some_iff.1 hd
  have:=fun_ok (r:=r) hc (f:=16) (fn:=Tryz.f16) (code:=w16b) (by kernel_rfl) (by kernel_rfl) (w16hk N) (Nat.le_of_ble_eq_true (by kernel_rfl)) (ow:=false) ((w16q N e0_0 e0_1 e0_2).symm.trans (by exact hr))
  rw [w16uo hu] at this
  exact this
def w16p (N:Nat) (e0_0:Int) (e0_1:Int) (e0_2:(List Ex)):Bool:=(w16z N e0_0 e0_1 e0_2).isSome
def w16y0 (N:Nat) (e0_0:Int) (e0_1:Int) (e0_2:(List Ex)):Int:=((w16z N e0_0 e0_1 e0_2).getD 0)
def w16e (N:Nat):Ent':=E1 .ex  (fun x0=>(w16p N (Ex.op x0) (Ex.num x0) (Ex.kids x0),w16r0 (w16y0 N (Ex.op x0) (Ex.num x0) (Ex.kids x0))))
theorem w16re {N:Nat} {e0_0:Int} {e0_1:Int} {e0_2:(List Ex)} {d:Int} (hd:w16z N e0_0 e0_1 e0_2=some d):w16r0 (w16y0 N e0_0 e0_1 e0_2)=w16r0 (d):=by unfold w16y0;rw [hd];rfl
theorem w16ok (N:Nat):EOk Tryz.prog 16 (w16e N):=EOk.e1 (fun x0 h=>by
  have h:(w16z N (Ex.op x0) (Ex.num x0) (Ex.kids x0)).isSome=true:=h
  obtain ⟨d,hd⟩:=Option.isSome_iff_exists.1 h
  have f:=w16fin (w16cx N) hd
  rw [← w16re hd] at f
  exact f)
def w12r0 (a0:Int) (a1:(List Int)):Res:=(.tup [.own 100,.e (.i .i64) a0],[(100,.row 3 (.i .i64) a1 true)])
def w12r1 (a0:Int):Res:=(.tup [.nilS,.e (.i .i64) a0],[])
def w12L (N:Nat):List (Nat×Ent'):=[(29,w29e N),(35,w35e N),(34,w34e N)]
def w12c (N:Nat):Cx:=⟨Tryz.prog,25,w12L N,[]⟩
def w12b:Code:=Tryz.f12.body.getD .skip
theorem w12cx (N:Nat):CxOk (w12c N):=ctx_ok (by kernel_rfl) (.cons (by kernel_rfl) (w29ok N) (.cons (by kernel_rfl) (w35ok N) (.cons (by kernel_rfl) (w34ok N) .nil))) .nil
def w12G [Alg] (N:Nat)  (e0_0:Int) (e0_1:Int) (e0_2:(List Ex)):O:=
  let b0:=Ex.mk (Ex.mk e0_0 e0_1 e0_2).op (Ex.mk e0_0 e0_1 e0_2).num (Ex.mk e0_0 e0_1 e0_2).kids
  ck (w29p N b0.op b0.num b0.kids) <|
  br (decide (w29y0 N b0.op b0.num b0.kids≠(0:Int)))
    (some (w12r1 (w29y0 N b0.op b0.num b0.kids)))
    (ck (w35p N b0.op b0.num b0.kids) <|
    ck (w34p N (w35y0 N b0.op b0.num b0.kids)) <|
    some (w12r0 0 (w34y1 N (w35y0 N b0.op b0.num b0.kids))))
def w12 [Alg] (N:Nat) (e0_0:Int) (e0_1:Int) (e0_2:(List Ex)):O:=w12G N  e0_0 e0_1 e0_2
def w12h [Alg] (_:Nat):Hint:=.d
theorem w12hk (N:Nat):HintOk (w12c N) Tryz.f12.ntmps (w12h N) w12b:=hk_of _ _ trivial
theorem w12q [Alg] (N:Nat) (e0_0:Int) (e0_1:Int) (e0_2:(List Ex)):w12G N  e0_0 e0_1 e0_2=exec (w12c N) Tryz.f12.ntmps (w12h N) w12b ⟨argT 0 [.agg [.e (.i .i64) e0_0,.e (.i .i64) e0_1,.e (.sl .ex) e0_2]],[],100⟩ (finX (w12c N) Tryz.f12 true):=by kernel_rfl
def w12un (r:Res):Option (Int×(List Int)):=match r with
  | (.tup [.own 100,x0],[(100,x1)])=>(match ue (.i .i64) x0,ur 3 (.i .i64) true x1 with | some a0,some a1=>some (a0,a1) | _,_=>none)
  | _=>none
theorem w12uo {r:Res} {d:Int×(List Int)} (h:w12un r=some d):r=w12r0 (d.1) (d.2):=by
  unfold w12un at h
  split at h
  . split at h
    . rename_i h0 h1;cases h;rw [ue_some h0,ur_some h1];rfl
    . cases h
  . cases h
def w12z (N:Nat) (e0_0:Int) (e0_1:Int) (e0_2:(List Ex)):Option (Int×(List Int)):=(w12 N e0_0 e0_1 e0_2).bind w12un
theorem w12fin {N:Nat} (hc:CxOk (w12c N)) {e0_0:Int} {e0_1:Int} {e0_2:(List Ex)} {d:Int×(List Int)} (hd:w12z N e0_0 e0_1 e0_2=some d):Does Tryz.prog 12 (([.agg [.e (.i .i64) e0_0,.e (.i .i64) e0_1,.e (.sl .ex) e0_2]]:List X).map X.D) (HA []) (w12r0 (d.1) (d.2)).1.D (HA (w12r0 (d.1) (d.2)).2):=by
  obtain ⟨r,hr,hu⟩:=Option.bind_eq_some_iff.1 hd
  have:=fun_ok (r:=r) hc (f:=12) (fn:=Tryz.f12) (code:=w12b) (by kernel_rfl) (by kernel_rfl) (w12hk N) (Nat.le_of_ble_eq_true (by kernel_rfl)) (ow:=true) ((w12q N e0_0 e0_1 e0_2).symm.trans (by exact hr))
  rw [w12uo hu] at this
  exact this
def w12p (N:Nat) (e0_0:Int) (e0_1:Int) (e0_2:(List Ex)):Bool:=(w12z N e0_0 e0_1 e0_2).isSome
def w12y0 (N:Nat) (e0_0:Int) (e0_1:Int) (e0_2:(List Ex)):Int:=((w12z N e0_0 e0_1 e0_2).getD (0,[])).1
def w12y1 (N:Nat) (e0_0:Int) (e0_1:Int) (e0_2:(List Ex)):(List Int):=((w12z N e0_0 e0_1 e0_2).getD (0,[])).2
def w12e (N:Nat):Ent':=E1 .ex  (fun x0=>(w12p N (Ex.op x0) (Ex.num x0) (Ex.kids x0),w12r0 (w12y0 N (Ex.op x0) (Ex.num x0) (Ex.kids x0)) (w12y1 N (Ex.op x0) (Ex.num x0) (Ex.kids x0))))
theorem w12re {N:Nat} {e0_0:Int} {e0_1:Int} {e0_2:(List Ex)} {d:Int×(List Int)} (hd:w12z N e0_0 e0_1 e0_2=some d):w12r0 (w12y0 N e0_0 e0_1 e0_2) (w12y1 N e0_0 e0_1 e0_2)=w12r0 (d.1) (d.2):=by unfold w12y0 w12y1;rw [hd];rfl
theorem w12ok (N:Nat):EOk Tryz.prog 12 (w12e N):=EOk.e1 (fun x0 h=>by
  have h:(w12z N (Ex.op x0) (Ex.num x0) (Ex.kids x0)).isSome=true:=h
  obtain ⟨d,hd⟩:=Option.isSome_iff_exists.1 h
  have f:=w12fin (w12cx N) hd
  rw [← w12re hd] at f
  exact f)
def w47r0 (a0:Bool) (a1:Int) (a2:(List Int)) (a3:Int) (a4:YL1) (a5:(List YL1)):Res:=(.e .bo a0,[(50,.box 3 [.e (.i .i64) a1]),(51,.box 22 [.e (.sl (.i .i64)) a2]),(52,.box 3 [.e (.i .i64) a3]),(53,.box 47 [.own 100]),(54,.box 28 [.e (.sl .u8) a4]),(100,.row 28 (.sl .u8) a5 true)])
def w47L (_:Nat):List (Nat×Ent'):=[]
def w47c (N:Nat):Cx:=⟨Tryz.prog,25,w47L N,[]⟩
def w47b:Code:=Tryz.f47.body.getD .skip
theorem w47cx (N:Nat):CxOk (w47c N):=ctx_ok (by kernel_rfl) .nil .nil
def w47F0 [Alg] (_:Nat)   (k0:Int->(List Int)->Int->YL1->(List YL1)->YL1->O) (x0_0:Int) (x0_1:(List Int)) (x0_2:Int) (x0_3:YL1) (x0_4:(List YL1)):O:=
  br (decide (0 < x0_0))
    (ck true <|
    ck true <|
    k0 x0_0 x0_1 x0_2 x0_3 x0_4 [(0:UInt8),(0:UInt8)])
    (k0 x0_0 x0_1 x0_2 x0_3 x0_4 [])
def w47b0:Code:=atC [1,1,0] w47b
def w47m0:Nm:=⟨[0,1,2,3,4,6],[],[]⟩
def w47I0 (x:Int×(List Int)×Int×YL1×(List YL1)):Sg:=⟨[(0,.ref 50 0),(1,.ref 51 0),(2,.ref 52 0),(3,.ref 53 0),(4,.ref 54 0),(6,.nilS)],[(50,.box 3 [.e (.i .i64) x.1]),(51,.box 22 [.e (.sl (.i .i64)) x.2.1]),(52,.box 3 [.e (.i .i64) x.2.2.1]),(53,.box 47 [.own 55]),(54,.box 28 [.e (.sl .u8) x.2.2.2.1]),(55,.row 28 (.sl .u8) x.2.2.2.2 true)],100⟩
def w47u0 (σ:Sg):Int×(List Int)×Int×YL1×(List YL1):=(lvH (.i .i64) 50 0 σ,lvH (.sl (.i .i64)) 51 0 σ,lvH (.i .i64) 52 0 σ,lvH (.sl .u8) 54 0 σ,lvR (.sl .u8) 55 σ)
theorem w47ui0:∀ x,w47u0 (w47I0 x)=x:=fun _=>by kernel_rfl
def w47X0_0 (y:Int×(List Int)×Int×YL1×(List YL1)×YL1):Exit×Sg:=(.normal,⟨[(0,.ref 50 0),(1,.ref 51 0),(2,.ref 52 0),(3,.ref 53 0),(4,.ref 54 0),(6,.own 0)],[(50,.box 3 [.e (.i .i64) y.1]),(51,.box 22 [.e (.sl (.i .i64)) y.2.1]),(52,.box 3 [.e (.i .i64) y.2.2.1]),(53,.box 47 [.own 55]),(54,.box 28 [.e (.sl .u8) y.2.2.2.1]),(55,.row 28 (.sl .u8) y.2.2.2.2.1 true),(0,.row 5 .u8 y.2.2.2.2.2 false)],100⟩)
def w47v0_0 (_:Exit) (σ:Sg):Int×(List Int)×Int×YL1×(List YL1)×YL1:=(lvH (.i .i64) 50 0 σ,lvH (.sl (.i .i64)) 51 0 σ,lvH (.i .i64) 52 0 σ,lvH (.sl .u8) 54 0 σ,lvR (.sl .u8) 55 σ,lvR .u8 0 σ)
def w47w0:List (Exit×Nm):=[(.normal,⟨[0,1,2,3,4,6],[],[.nilR 6 (.row 5 .u8 [] false)]⟩)]
theorem w47o0:Outs w47v0_0 (fun _ _=>()) (fun _ _=>()) w47X0_0 (noX 1) (noX 2) (exC .normal) (exC (.goto 1)) (exC (.goto 2)):=⟨fun _=>by kernel_rfl,fun _=>by kernel_rfl,fun _=>by kernel_rfl,fun _=>by kernel_rfl,fun _=>by kernel_rfl,fun _=>by kernel_rfl,exNe_ok (by kernel_rfl),exNe_ok (by kernel_rfl),exNe_ok (by kernel_rfl)⟩
def w47l0 [Alg] (N:Nat) (_:Nat) (x:Int×(List Int)×Int×YL1×(List YL1)) (k0:(Int×(List Int)×Int×YL1×(List YL1)×YL1)->O) (_:(Unit)->O) (_:(Unit)->O):O:=w47F0 N   (fun y0 y1 y2 y3 y4 y5=>k0 (y0,y1,y2,y3,y4,y5)) x.1 x.2.1 x.2.2.1 x.2.2.2.1 x.2.2.2.2
def w47n0 [Alg] (N:Nat) (a0:Int) (a1:(List Int)) (a2:Int) (a3:YL1) (a4:(List YL1)) (k0:Int->(List Int)->Int->YL1->(List YL1)->YL1->O):O:=w47l0 N N (a0,a1,a2,a3,a4) (fun y=>k0 y.1 y.2.1 y.2.2.1 y.2.2.2.1 y.2.2.2.2.1 y.2.2.2.2.2) (fun _=>none) (fun _=>none)
def w47s0 [Alg] (N:Nat) (a0:Int) (a1:(List Int)) (a2:Int) (a3:YL1) (a4:(List YL1)) (k0:Int->(List Int)->Int->YL1->(List YL1)->YL1->O):O:=subL w47I0 w47u0 (w47l0 N N) (w47I0 (a0,a1,a2,a3,a4)) (fun y=>k0 y.1 y.2.1 y.2.2.1 y.2.2.2.1 y.2.2.2.2.1 y.2.2.2.2.2) (fun _=>none) (fun _=>none)
theorem w47e0 [Alg] (N:Nat):w47s0 N=w47n0 N:=funext fun _=>funext fun _=>funext fun _=>funext fun _=>funext fun _=>funext fun _=>subL_I w47ui0 _ _ _ _
def w47h0 [Alg] (_:Nat):Hint:=.d
theorem w47hk0 (N:Nat):HintOk (w47c N) Tryz.f47.ntmps (w47h0 N) w47b0:=hk_of _ _ trivial
theorem w47q0 [Alg] (N:Nat) (K:Exit->Sg->O) (x:Int×(List Int)×Int×YL1×(List YL1)):w47F0 N   (fun y0 y1 y2 y3 y4 y5=>K (w47X0_0 (y0,y1,y2,y3,y4,y5)).1 (w47X0_0 (y0,y1,y2,y3,y4,y5)).2) x.1 x.2.1 x.2.2.1 x.2.2.2.1 x.2.2.2.2=exec (w47c N) Tryz.f47.ntmps (w47h0 N) w47b0 (w47I0 x) (partX w47w0 K):=by kernel_rfl
theorem w47S0 (N:Nat) (hc:CxOk (w47c N)):SubOk (w47c N) Tryz.f47.ntmps w47b0 w47X0_0 (noX 1) (noX 2) (subL w47I0 w47u0 (w47l0 N N)):=
  sub_part hc (w47hk0 N) w47o0 (fun x K=>by
    exact w47q0 N K x)
def w47F1 [Alg] (_:Nat)  (self:Int->Int->O) (k0:Int->Int->(List Int)->Int->YL1->(List YL1)->YL1->O) (x7_1:(List Int)) (x7_2:Int) (x7_4:Int) (x7_5:(List Int)) (x7_6:Int) (x7_7:YL1) (x7_8:(List YL1)) (x7_9:YL1) (x7_0:Int) (x7_3:Int):O:=
  br (decide (x7_3 < x7_2))
    (gx x7_1 x7_3 fun y10=>
    br (decide (x7_4 < y10)&&decide (IntKind.i64.wrap (IntKind.i64.wrap ((↑x7_9.length:Int)+y10) - x7_4)<=x7_6))
      (self y10 (IntKind.i64.wrap (x7_3+1)))
      (self x7_0 (IntKind.i64.wrap (x7_3+1))))
    (k0 x7_0 x7_4 x7_5 x7_6 x7_7 x7_8 x7_9)
def w47b1:Code:=atC [1,1,1,1,0,1,0,0] w47b
def w47m1:Nm:=⟨[0,2,3,4,6,7,14,15,16],[],[]⟩
def w47I1 (x:Int×(List Int)×Int×Int×Int×(List Int)×Int×YL1×(List YL1)×YL1):Sg:=⟨[(0,.ref 50 0),(2,.ref 52 0),(3,.ref 53 0),(4,.ref 54 0),(6,.own 0),(7,.e (.i .i64) x.1),(14,.e (.sl (.i .i64)) x.2.1),(15,.e (.i .i64) x.2.2.1),(16,.e (.i .i64) x.2.2.2.1)],[(50,.box 3 [.e (.i .i64) x.2.2.2.2.1]),(51,.box 22 [.e (.sl (.i .i64)) x.2.2.2.2.2.1]),(52,.box 3 [.e (.i .i64) x.2.2.2.2.2.2.1]),(53,.box 47 [.own 55]),(54,.box 28 [.e (.sl .u8) x.2.2.2.2.2.2.2.1]),(55,.row 28 (.sl .u8) x.2.2.2.2.2.2.2.2.1 true),(0,.row 5 .u8 x.2.2.2.2.2.2.2.2.2 false)],100⟩
def w47u1 (σ:Sg):Int×(List Int)×Int×Int×Int×(List Int)×Int×YL1×(List YL1)×YL1:=(lvT (.i .i64) 7 0 σ,lvT (.sl (.i .i64)) 14 0 σ,lvT (.i .i64) 15 0 σ,lvT (.i .i64) 16 0 σ,lvH (.i .i64) 50 0 σ,lvH (.sl (.i .i64)) 51 0 σ,lvH (.i .i64) 52 0 σ,lvH (.sl .u8) 54 0 σ,lvR (.sl .u8) 55 σ,lvR .u8 0 σ)
theorem w47ui1:∀ x,w47u1 (w47I1 x)=x:=fun _=>by kernel_rfl
def w47X1_0 (y:Int×Int×(List Int)×Int×YL1×(List YL1)×YL1):Exit×Sg:=((.exit 0),⟨[(0,.ref 50 0),(3,.ref 53 0),(4,.ref 54 0),(6,.own 0),(7,.e (.i .i64) y.1)],[(50,.box 3 [.e (.i .i64) y.2.1]),(51,.box 22 [.e (.sl (.i .i64)) y.2.2.1]),(52,.box 3 [.e (.i .i64) y.2.2.2.1]),(53,.box 47 [.own 55]),(54,.box 28 [.e (.sl .u8) y.2.2.2.2.1]),(55,.row 28 (.sl .u8) y.2.2.2.2.2.1 true),(0,.row 5 .u8 y.2.2.2.2.2.2 false)],100⟩)
def w47v1_0 (_:Exit) (σ:Sg):Int×Int×(List Int)×Int×YL1×(List YL1)×YL1:=(lvT (.i .i64) 7 0 σ,lvH (.i .i64) 50 0 σ,lvH (.sl (.i .i64)) 51 0 σ,lvH (.i .i64) 52 0 σ,lvH (.sl .u8) 54 0 σ,lvR (.sl .u8) 55 σ,lvR .u8 0 σ)
def w47w1:List (Exit×Nm):=[((.exit 0),⟨[0,3,4,6,7],[],[]⟩)]
theorem w47o1:Outs w47v1_0 (fun _ _=>()) (fun _ _=>()) w47X1_0 (noX 1) (noX 2) (exC (.exit 0)) (exC (.goto 1)) (exC (.goto 2)):=⟨fun _=>by kernel_rfl,fun _=>by kernel_rfl,fun _=>by kernel_rfl,fun _=>by kernel_rfl,fun _=>by kernel_rfl,fun _=>by kernel_rfl,exNe_ok (by kernel_rfl),exNe_ok (by kernel_rfl),exNe_ok (by kernel_rfl)⟩
def w47l1 [Alg] (N:Nat):Nat->(Int×(List Int)×Int×Int×Int×(List Int)×Int×YL1×(List YL1)×YL1)->((Int×Int×(List Int)×Int×YL1×(List YL1)×YL1)->O)->((Unit)->O)->((Unit)->O)->O
  | 0,_,_,_,_=>none
  | n+1,x,k0,k1,k2=>w47F1 N  (fun v0 v1=>w47l1 N n (v0,x.2.1,x.2.2.1,v1,x.2.2.2.2.1,x.2.2.2.2.2.1,x.2.2.2.2.2.2.1,x.2.2.2.2.2.2.2.1,x.2.2.2.2.2.2.2.2.1,x.2.2.2.2.2.2.2.2.2) k0 k1 k2) (fun y0 y1 y2 y3 y4 y5 y6=>k0 (y0,y1,y2,y3,y4,y5,y6)) x.2.1 x.2.2.1 x.2.2.2.2.1 x.2.2.2.2.2.1 x.2.2.2.2.2.2.1 x.2.2.2.2.2.2.2.1 x.2.2.2.2.2.2.2.2.1 x.2.2.2.2.2.2.2.2.2 x.1 x.2.2.2.1
def w47n1 [Alg] (N:Nat) (a0:Int) (a1:(List Int)) (a2:Int) (a3:Int) (a4:Int) (a5:(List Int)) (a6:Int) (a7:YL1) (a8:(List YL1)) (a9:YL1) (k0:Int->Int->(List Int)->Int->YL1->(List YL1)->YL1->O):O:=w47l1 N N (a0,a1,a2,a3,a4,a5,a6,a7,a8,a9) (fun y=>k0 y.1 y.2.1 y.2.2.1 y.2.2.2.1 y.2.2.2.2.1 y.2.2.2.2.2.1 y.2.2.2.2.2.2) (fun _=>none) (fun _=>none)
def w47s1 [Alg] (N:Nat) (a0:Int) (a1:(List Int)) (a2:Int) (a3:Int) (a4:Int) (a5:(List Int)) (a6:Int) (a7:YL1) (a8:(List YL1)) (a9:YL1) (k0:Int->Int->(List Int)->Int->YL1->(List YL1)->YL1->O):O:=subL w47I1 w47u1 (w47l1 N N) (w47I1 (a0,a1,a2,a3,a4,a5,a6,a7,a8,a9)) (fun y=>k0 y.1 y.2.1 y.2.2.1 y.2.2.2.1 y.2.2.2.2.1 y.2.2.2.2.2.1 y.2.2.2.2.2.2) (fun _=>none) (fun _=>none)
theorem w47e1 [Alg] (N:Nat):w47s1 N=w47n1 N:=funext fun _=>funext fun _=>funext fun _=>funext fun _=>funext fun _=>funext fun _=>funext fun _=>funext fun _=>funext fun _=>funext fun _=>funext fun _=>subL_I w47ui1 _ _ _ _
def w47h1 [Alg] (_:Nat):Hint:=.d
theorem w47hk1 (N:Nat):HintOk (w47c N) Tryz.f47.ntmps (w47h1 N) w47b1:=hk_of _ _ trivial
theorem w47q1 [Alg] (N:Nat) (self:Sg->O) (K:Exit->Sg->O) (x:Int×(List Int)×Int×Int×Int×(List Int)×Int×YL1×(List YL1)×YL1):w47F1 N  (fun v0 v1=>self (w47I1 (v0,x.2.1,x.2.2.1,v1,x.2.2.2.2.1,x.2.2.2.2.2.1,x.2.2.2.2.2.2.1,x.2.2.2.2.2.2.2.1,x.2.2.2.2.2.2.2.2.1,x.2.2.2.2.2.2.2.2.2))) (fun y0 y1 y2 y3 y4 y5 y6=>K (w47X1_0 (y0,y1,y2,y3,y4,y5,y6)).1 (w47X1_0 (y0,y1,y2,y3,y4,y5,y6)).2) x.2.1 x.2.2.1 x.2.2.2.2.1 x.2.2.2.2.2.1 x.2.2.2.2.2.2.1 x.2.2.2.2.2.2.2.1 x.2.2.2.2.2.2.2.2.1 x.2.2.2.2.2.2.2.2.2 x.1 x.2.2.2.1=exec (w47c N) Tryz.f47.ntmps (w47h1 N) w47b1 (w47I1 x) (roundX w47m1 w47w1 self K):=by kernel_rfl
theorem w47S1 (N:Nat) (hc:CxOk (w47c N)):SubOk (w47c N) Tryz.f47.ntmps (.loop w47b1) w47X1_0 (noX 1) (noX 2) (subL w47I1 w47u1 (w47l1 N N)):=
  sub_loop hc (w47hk1 N) w47o1 (n:=N) (fun x K=>loop_ind (w47l1 N) (fun _ _ _ _=>rfl) (fun n K ih x=>by
    refine Eq.trans ?_ (w47q1 N _ K x)
    simp only [← ih]
    rfl) N x K)
def w47G [Alg] (_:Nat) (in0:Int->(List Int)->Int->YL1->(List YL1)->(Int->(List Int)->Int->YL1->(List YL1)->YL1->O)->O) (in1:Int->(List Int)->Int->Int->Int->(List Int)->Int->YL1->(List YL1)->YL1->(Int->Int->(List Int)->Int->YL1->(List YL1)->YL1->O)->O) (h50_0:Int) (h51_0:(List Int)) (h52_0:Int) (h54_0:YL1) (h55_0:(List YL1)):O:=
  in0 h50_0 h51_0 h52_0 h54_0 h55_0
    (fun z1 z2 z3 z4 z5 z6=>
      in1 z1 z2 ((↑z2.length:Int)) 0 z1 z2 z3 z4 z5 z6
        (fun z11 z12 z13 z14 z15 z16 z17=>
          ck (slcOk z15.length (some z12) (some z11)) <|
          ck (lim (z17++slc z15 (some z12) (some z11)).length (1:Nat)) <|
          ck (lim (z16++[z17++slc z15 (some z12) (some z11)]).length (24:Nat)) <|
          some (w47r0 (decide (z12 < z11)) z11 z13 z14 z15 (z16++[z17++slc z15 (some z12) (some z11)]))))
def w47 [Alg] (N:Nat) (h50_0:Int) (h51_0:(List Int)) (h52_0:Int) (h54_0:YL1) (h55_0:(List YL1)):O:=w47G N (w47n0 N) (w47n1 N) h50_0 h51_0 h52_0 h54_0 h55_0
def w47h [Alg] (N:Nat):Hint:=(.seq .d (.seq .d (.seq (.sub w47m0 _ _ _ w47X0_0 (noX 1) (noX 2) (subL w47I0 w47u0 (w47l0 N N))) (.seq .d (.seq (.seq .d (.block (.sub w47m1 _ _ _ w47X1_0 (noX 1) (noX 2) (subL w47I1 w47u1 (w47l1 N N))))) (.seq (.reg [] [.slr 6] [[],[],[],[],[],[],[148,0],[],[164,55],[53]]) .d))))))
theorem w47hk (N:Nat) (hc:CxOk (w47c N)):HintOk (w47c N) Tryz.f47.ntmps (w47h N) w47b:=hk_of _ _ (And.intro trivial (And.intro trivial (And.intro (w47S0 N hc) (And.intro trivial (And.intro (And.intro trivial (w47S1 N hc)) (And.intro trivial trivial))))))
theorem w47q [Alg] (N:Nat) (h50_0:Int) (h51_0:(List Int)) (h52_0:Int) (h54_0:YL1) (h55_0:(List YL1)):w47G N (w47s0 N) (w47s1 N) h50_0 h51_0 h52_0 h54_0 h55_0=exec (w47c N) Tryz.f47.ntmps (w47h N) w47b ⟨argT 0 [.ref 50 0,.ref 51 0,.ref 52 0,.ref 53 0,.ref 54 0],[(50,.box 3 [.e (.i .i64) h50_0]),(51,.box 22 [.e (.sl (.i .i64)) h51_0]),(52,.box 3 [.e (.i .i64) h52_0]),(53,.box 47 [.own 55]),(54,.box 28 [.e (.sl .u8) h54_0]),(55,.row 28 (.sl .u8) h55_0 true)],100⟩ (finX (w47c N) Tryz.f47 true):=by kernel_rfl
def w47un (r:Res):Option (Bool×Int×(List Int)×Int×YL1×(List YL1)):=match r with
  | (x0,[(50,.box 3 [x1]),(51,.box 22 [x2]),(52,.box 3 [x3]),(53,.box 47 [.own 100]),(54,.box 28 [x4]),(100,x5)])=>(match ue .bo x0,ue (.i .i64) x1,ue (.sl (.i .i64)) x2,ue (.i .i64) x3,ue (.sl .u8) x4,ur 28 (.sl .u8) true x5 with | some a0,some a1,some a2,some a3,some a4,some a5=>some (a0,a1,a2,a3,a4,a5) | _,_,_,_,_,_=>none)
  | _=>none
theorem w47uo {r:Res} {d:Bool×Int×(List Int)×Int×YL1×(List YL1)} (h:w47un r=some d):r=w47r0 (d.1) (d.2.1) (d.2.2.1) (d.2.2.2.1) (d.2.2.2.2.1) (d.2.2.2.2.2):=by
  unfold w47un at h
  split at h
  . split at h
    . rename_i h0 h1 h2 h3 h4 h5;cases h;rw [ue_some h0,ue_some h1,ue_some h2,ue_some h3,ue_some h4,ur_some h5];rfl
    . cases h
  . cases h
def w47z (N:Nat) (h50_0:Int) (h51_0:(List Int)) (h52_0:Int) (h54_0:YL1) (h55_0:(List YL1)):Option (Bool×Int×(List Int)×Int×YL1×(List YL1)):=(w47 N h50_0 h51_0 h52_0 h54_0 h55_0).bind w47un
theorem w47fin {N:Nat} (hc:CxOk (w47c N)) {h50_0:Int} {h51_0:(List Int)} {h52_0:Int} {h54_0:YL1} {h55_0:(List YL1)} {d:Bool×Int×(List Int)×Int×YL1×(List YL1)} (hd:w47z N h50_0 h51_0 h52_0 h54_0 h55_0=some d):Does Tryz.prog 47 (([.ref 50 0,.ref 51 0,.ref 52 0,.ref 53 0,.ref 54 0]:List X).map X.D) (HA [(50,.box 3 [.e (.i .i64) h50_0]),(51,.box 22 [.e (.sl (.i .i64)) h51_0]),(52,.box 3 [.e (.i .i64) h52_0]),(53,.box 47 [.own 55]),(54,.box 28 [.e (.sl .u8) h54_0]),(55,.row 28 (.sl .u8) h55_0 true)]) (w47r0 (d.1) (d.2.1) (d.2.2.1) (d.2.2.2.1) (d.2.2.2.2.1) (d.2.2.2.2.2)).1.D (HA (w47r0 (d.1) (d.2.1) (d.2.2.1) (d.2.2.2.1) (d.2.2.2.2.1) (d.2.2.2.2.2)).2):=by
  obtain ⟨r,hr,hu⟩:=Option.bind_eq_some_iff.1 hd
  have:=fun_ok (r:=r) hc (f:=47) (fn:=Tryz.f47) (code:=w47b) (by kernel_rfl) (by kernel_rfl) (w47hk N hc) (Nat.le_of_ble_eq_true (by kernel_rfl)) (ow:=true) ((w47q N h50_0 h51_0 h52_0 h54_0 h55_0).symm.trans (by rw [w47e0 N,w47e1 N];exact hr))
  rw [w47uo hu] at this
  exact this
def w47p (N:Nat) (h50_0:Int) (h51_0:(List Int)) (h52_0:Int) (h54_0:YL1) (h55_0:(List YL1)):Bool:=(w47z N h50_0 h51_0 h52_0 h54_0 h55_0).isSome
def w47y0 (N:Nat) (h50_0:Int) (h51_0:(List Int)) (h52_0:Int) (h54_0:YL1) (h55_0:(List YL1)):Bool:=((w47z N h50_0 h51_0 h52_0 h54_0 h55_0).getD (false,0,[],0,[],[])).1
def w47y1 (N:Nat) (h50_0:Int) (h51_0:(List Int)) (h52_0:Int) (h54_0:YL1) (h55_0:(List YL1)):Int:=((w47z N h50_0 h51_0 h52_0 h54_0 h55_0).getD (false,0,[],0,[],[])).2.1
def w47y2 (N:Nat) (h50_0:Int) (h51_0:(List Int)) (h52_0:Int) (h54_0:YL1) (h55_0:(List YL1)):(List Int):=((w47z N h50_0 h51_0 h52_0 h54_0 h55_0).getD (false,0,[],0,[],[])).2.2.1
def w47y3 (N:Nat) (h50_0:Int) (h51_0:(List Int)) (h52_0:Int) (h54_0:YL1) (h55_0:(List YL1)):Int:=((w47z N h50_0 h51_0 h52_0 h54_0 h55_0).getD (false,0,[],0,[],[])).2.2.2.1
def w47y4 (N:Nat) (h50_0:Int) (h51_0:(List Int)) (h52_0:Int) (h54_0:YL1) (h55_0:(List YL1)):YL1:=((w47z N h50_0 h51_0 h52_0 h54_0 h55_0).getD (false,0,[],0,[],[])).2.2.2.2.1
def w47y5 (N:Nat) (h50_0:Int) (h51_0:(List Int)) (h52_0:Int) (h54_0:YL1) (h55_0:(List YL1)):(List YL1):=((w47z N h50_0 h51_0 h52_0 h54_0 h55_0).getD (false,0,[],0,[],[])).2.2.2.2.2
def w47in (xs:List X) (H:XH):Option (Int×(List Int)×Int×YL1×(List YL1)):=match xs,H with
  | [.ref 50 0,.ref 51 0,.ref 52 0,.ref 53 0,.ref 54 0],[(50,.box 3 [x0]),(51,.box 22 [x1]),(52,.box 3 [x2]),(53,.box 47 [.own 55]),(54,.box 28 [x3]),(55,x4)]=>(match ue (.i .i64) x0,ue (.sl (.i .i64)) x1,ue (.i .i64) x2,ue (.sl .u8) x3,ur 28 (.sl .u8) true x4 with | some a0,some a1,some a2,some a3,some a4=>some (a0,a1,a2,a3,a4) | _,_,_,_,_=>none)
  | _,_=>none
theorem w47io {xs:List X} {H:XH} {d:Int×(List Int)×Int×YL1×(List YL1)} (h:w47in xs H=some d):xs=[.ref 50 0,.ref 51 0,.ref 52 0,.ref 53 0,.ref 54 0]/\H=[(50,.box 3 [.e (.i .i64) (d.1)]),(51,.box 22 [.e (.sl (.i .i64)) (d.2.1)]),(52,.box 3 [.e (.i .i64) (d.2.2.1)]),(53,.box 47 [.own 55]),(54,.box 28 [.e (.sl .u8) (d.2.2.2.1)]),(55,.row 28 (.sl .u8) (d.2.2.2.2) true)]:=by
  unfold w47in at h
  split at h
  . split at h
    . rename_i h0 h1 h2 h3 h4;cases h;rw [ue_some h0,ue_some h1,ue_some h2,ue_some h3,ur_some h4];exact ⟨rfl,rfl⟩
    . cases h
  . cases h
def w47e (N:Nat):Ent':=fun xs H=>match w47in xs H with | some d=>some (w47p N (d.1) (d.2.1) (d.2.2.1) (d.2.2.2.1) (d.2.2.2.2),w47r0 (w47y0 N (d.1) (d.2.1) (d.2.2.1) (d.2.2.2.1) (d.2.2.2.2)) (w47y1 N (d.1) (d.2.1) (d.2.2.1) (d.2.2.2.1) (d.2.2.2.2)) (w47y2 N (d.1) (d.2.1) (d.2.2.1) (d.2.2.2.1) (d.2.2.2.2)) (w47y3 N (d.1) (d.2.1) (d.2.2.1) (d.2.2.2.1) (d.2.2.2.2)) (w47y4 N (d.1) (d.2.1) (d.2.2.1) (d.2.2.2.1) (d.2.2.2.2)) (w47y5 N (d.1) (d.2.1) (d.2.2.1) (d.2.2.2.1) (d.2.2.2.2))) | none=>none
theorem w47re {N:Nat} {h50_0:Int} {h51_0:(List Int)} {h52_0:Int} {h54_0:YL1} {h55_0:(List YL1)} {d:Bool×Int×(List Int)×Int×YL1×(List YL1)} (hd:w47z N h50_0 h51_0 h52_0 h54_0 h55_0=some d):w47r0 (w47y0 N h50_0 h51_0 h52_0 h54_0 h55_0) (w47y1 N h50_0 h51_0 h52_0 h54_0 h55_0) (w47y2 N h50_0 h51_0 h52_0 h54_0 h55_0) (w47y3 N h50_0 h51_0 h52_0 h54_0 h55_0) (w47y4 N h50_0 h51_0 h52_0 h54_0 h55_0) (w47y5 N h50_0 h51_0 h52_0 h54_0 h55_0)=w47r0 (d.1) (d.2.1) (d.2.2.1) (d.2.2.2.1) (d.2.2.2.2.1) (d.2.2.2.2.2):=by unfold w47y0 w47y1 w47y2 w47y3 w47y4 w47y5;rw [hd];rfl
theorem w47ok (N:Nat):EOk Tryz.prog 47 (w47e N):=fun xs H pre r he hp=>by
  unfold w47e at he
  split at he
  . rename_i d hd
    have he:=Option.some.inj he
    have h1:=congrArg Prod.fst he
    have h2:=congrArg Prod.snd he
    simp only at h1 h2
    obtain ⟨e1,e2⟩:=w47io hd
    rw [e1,e2,← h2]
    have h:(w47z N (d.1) (d.2.1) (d.2.2.1) (d.2.2.2.1) (d.2.2.2.2)).isSome=true:=h1.trans hp
    obtain ⟨d',hd'⟩:=Option.isSome_iff_exists.1 h
    have f:=w47fin (w47cx N) hd'
    rw [← w47re hd'] at f
    exact f
  . cases he
def w24r0 (a0:(List YL1)) (a1:Int):Res:=(.tup [.e (.sl (.sl .u8)) a0,.e (.i .i64) a1],[])
def w24L (N:Nat):List (Nat×Ent'):=[(47,w47e N),(10,w10e N),(12,w12e N)]
def w24c (N:Nat):Cx:=⟨Tryz.prog,25,w24L N,[]⟩
def w24b:Code:=Tryz.f24.body.getD .skip
theorem w24cx (N:Nat):CxOk (w24c N):=ctx_ok (by kernel_rfl) (.cons (by kernel_rfl) (w47ok N) (.cons (by kernel_rfl) (w10ok N) (.cons (by kernel_rfl) (w12ok N) .nil))) .nil
def w24F0 [Alg] (N:Nat)  (self:YL1->Int->(List Int)->Int->(List YL1)->O) (k0:Int->O) (k1:(List YL1)->O) (x0_0:YL1) (x0_1:Int) (x0_2:(List Int)) (x0_3:Int) (x0_4:(List YL1)):O:=
  br (decide (x0_1 < (↑x0_0.length:Int)))
    (ck (w47p N x0_1 x0_2 x0_3 x0_0 x0_4) <|
    br (!w47y0 N x0_1 x0_2 x0_3 x0_0 x0_4)
      (k0 14)
      (self (w47y4 N x0_1 x0_2 x0_3 x0_0 x0_4) (w47y1 N x0_1 x0_2 x0_3 x0_0 x0_4) (w47y2 N x0_1 x0_2 x0_3 x0_0 x0_4) (w47y3 N x0_1 x0_2 x0_3 x0_0 x0_4) (w47y5 N x0_1 x0_2 x0_3 x0_0 x0_4)))
    (k1 x0_4)
def w24b0:Code:=atC [1,1,1,1,1,1,1,1,1,0,0,0] w24b
def w24m0:Nm:=⟨[6,11,12,13],[],[]⟩
def w24I0 (x:YL1×Int×(List Int)×Int×(List YL1)):Sg:=⟨[(6,.ref 0 0),(11,.ref 1 0),(12,.ref 2 0),(13,.fn 47 [.ref 2 0,.ref 3 0,.ref 4 0,.ref 1 0,.ref 0 0])],[(0,.box 28 [.e (.sl .u8) x.1]),(1,.box 47 [.own 5]),(2,.box 3 [.e (.i .i64) x.2.1]),(3,.box 22 [.e (.sl (.i .i64)) x.2.2.1]),(4,.box 3 [.e (.i .i64) x.2.2.2.1]),(5,.row 28 (.sl .u8) x.2.2.2.2 true)],100⟩
def w24u0 (σ:Sg):YL1×Int×(List Int)×Int×(List YL1):=(lvH (.sl .u8) 0 0 σ,lvH (.i .i64) 2 0 σ,lvH (.sl (.i .i64)) 3 0 σ,lvH (.i .i64) 4 0 σ,lvR (.sl .u8) 5 σ)
theorem w24ui0:∀ x,w24u0 (w24I0 x)=x:=fun _=>by kernel_rfl
def w24X0_0 (y:Int):Exit×Sg:=(.ret,⟨[(4,.nilS),(5,.e (.i .i64) y)],[],100⟩)
def w24v0_0 (_:Exit) (σ:Sg):Int:=lvT (.i .i64) 5 0 σ
def w24X0_1 (y:(List YL1)):Exit×Sg:=((.exit 0),⟨[(11,.ref 0 0)],[(0,.box 47 [.own 1]),(1,.row 28 (.sl .u8) y true)],100⟩)
def w24v0_1 (_:Exit) (σ:Sg):(List YL1):=lvR (.sl .u8) 1 σ
def w24w0:List (Exit×Nm):=[(.ret,⟨[4,5],[],[]⟩),((.exit 0),⟨[11],[],[]⟩)]
theorem w24o0:Outs w24v0_0 w24v0_1 (fun _ _=>()) w24X0_0 w24X0_1 (noX 2) (exC .ret) (exC (.exit 0)) (exC (.goto 2)):=⟨fun _=>by kernel_rfl,fun _=>by kernel_rfl,fun _=>by kernel_rfl,fun _=>by kernel_rfl,fun _=>by kernel_rfl,fun _=>by kernel_rfl,exNe_ok (by kernel_rfl),exNe_ok (by kernel_rfl),exNe_ok (by kernel_rfl)⟩
def w24l0 [Alg] (N:Nat):Nat->(YL1×Int×(List Int)×Int×(List YL1))->((Int)->O)->(((List YL1))->O)->((Unit)->O)->O
  | 0,_,_,_,_=>none
  | n+1,x,k0,k1,k2=>w24F0 N  (fun v0 v1 v2 v3 v4=>w24l0 N n (v0,v1,v2,v3,v4) k0 k1 k2) (fun y0=>k0 y0) (fun y0=>k1 y0) x.1 x.2.1 x.2.2.1 x.2.2.2.1 x.2.2.2.2
def w24n0 [Alg] (N:Nat) (a0:YL1) (a1:Int) (a2:(List Int)) (a3:Int) (a4:(List YL1)) (k0:Int->O) (k1:(List YL1)->O):O:=w24l0 N N (a0,a1,a2,a3,a4) (fun y=>k0 y) (fun y=>k1 y) (fun _=>none)
def w24s0 [Alg] (N:Nat) (a0:YL1) (a1:Int) (a2:(List Int)) (a3:Int) (a4:(List YL1)) (k0:Int->O) (k1:(List YL1)->O):O:=subL w24I0 w24u0 (w24l0 N N) (w24I0 (a0,a1,a2,a3,a4)) (fun y=>k0 y) (fun y=>k1 y) (fun _=>none)
theorem w24e0 [Alg] (N:Nat):w24s0 N=w24n0 N:=funext fun _=>funext fun _=>funext fun _=>funext fun _=>funext fun _=>funext fun _=>funext fun _=>subL_I w24ui0 _ _ _ _
def w24h0 [Alg] (_:Nat):Hint:=.d
theorem w24hk0 (N:Nat):HintOk (w24c N) Tryz.f24.ntmps (w24h0 N) w24b0:=hk_of _ _ trivial
theorem w24q0 [Alg] (N:Nat) (self:Sg->O) (K:Exit->Sg->O) (x:YL1×Int×(List Int)×Int×(List YL1)):w24F0 N  (fun v0 v1 v2 v3 v4=>self (w24I0 (v0,v1,v2,v3,v4))) (fun y0=>K (w24X0_0 y0).1 (w24X0_0 y0).2) (fun y0=>K (w24X0_1 y0).1 (w24X0_1 y0).2) x.1 x.2.1 x.2.2.1 x.2.2.2.1 x.2.2.2.2=exec (w24c N) Tryz.f24.ntmps (w24h0 N) w24b0 (w24I0 x) (roundX w24m0 w24w0 self K):=by kernel_rfl
theorem w24S0 (N:Nat) (hc:CxOk (w24c N)):SubOk (w24c N) Tryz.f24.ntmps (.loop w24b0) w24X0_0 w24X0_1 (noX 2) (subL w24I0 w24u0 (w24l0 N N)):=
  sub_loop hc (w24hk0 N) w24o0 (n:=N) (fun x K=>loop_ind (w24l0 N) (fun _ _ _ _=>rfl) (fun n K ih x=>by
    refine Eq.trans ?_ (w24q0 N _ K x)
    simp only [← ih]
    rfl) N x K)
def w24G [Alg] (N:Nat) (in0:YL1->Int->(List Int)->Int->(List YL1)->(Int->O)->((List YL1)->O)->O) (e0_0:Int) (e0_1:Int) (e0_2:(List Ex)) (width1:Int):O:=
  let b0:=Ex.mk (Ex.mk e0_0 e0_1 e0_2).op (Ex.mk e0_0 e0_1 e0_2).num (Ex.mk e0_0 e0_1 e0_2).kids
  let b1:=w12y1 N b0.op b0.num b0.kids++[(↑(w10y0 N b0.op b0.num b0.kids).length:Int)]
  ck (w10p N b0.op b0.num b0.kids) <|
  br (decide (w10y1 N b0.op b0.num b0.kids≠(0:Int)))
    (some (w24r0 [] (w10y1 N b0.op b0.num b0.kids)))
    (br (decide (width1 < 4)||decide (40 < width1))
      (some (w24r0 [] 5))
      (ck (w12p N b0.op b0.num b0.kids) <|
      ck (lim b1.length (8:Nat)) <|
      in0 (w10y0 N b0.op b0.num b0.kids) 0 b1 width1 []
        (fun z1=>
          some (w24r0 [] z1))
        (fun z2=>
          some (w24r0 z2 0))))
def w24 [Alg] (N:Nat) (e0_0:Int) (e0_1:Int) (e0_2:(List Ex)) (width1:Int):O:=w24G N (w24n0 N) e0_0 e0_1 e0_2 width1
def w24h [Alg] (N:Nat):Hint:=(.seq .d (.seq .d (.seq .d (.seq .d (.seq .d (.seq .d (.seq .d (.seq .d (.seq (.reg [] [.cv 10 0 (.sl (.i .i64)),.nilC 11 0 (.row 28 (.sl .u8) [] true)] []) (.seq (.block (.sub w24m0 _ _ _ w24X0_0 w24X0_1 (noX 2) (subL w24I0 w24u0 (w24l0 N N)))) .d))))))))))
theorem w24hk (N:Nat) (hc:CxOk (w24c N)):HintOk (w24c N) Tryz.f24.ntmps (w24h N) w24b:=hk_of _ _ (And.intro trivial (And.intro trivial (And.intro trivial (And.intro trivial (And.intro trivial (And.intro trivial (And.intro trivial (And.intro trivial (And.intro trivial (And.intro (w24S0 N hc) trivial))))))))))
theorem w24q [Alg] (N:Nat) (e0_0:Int) (e0_1:Int) (e0_2:(List Ex)) (width1:Int):w24G N (w24s0 N) e0_0 e0_1 e0_2 width1=exec (w24c N) Tryz.f24.ntmps (w24h N) w24b ⟨argT 0 [.agg [.e (.i .i64) e0_0,.e (.i .i64) e0_1,.e (.sl .ex) e0_2],.e (.i .i64) width1],[],100⟩ (finX (w24c N) Tryz.f24 false):=by kernel_rfl
def w24un (r:Res):Option ((List YL1)×Int):=match r with
  | (.tup [x0,x1],[])=>(match ue (.sl (.sl .u8)) x0,ue (.i .i64) x1 with | some a0,some a1=>some (a0,a1) | _,_=>none)
  | _=>none
theorem w24uo {r:Res} {d:(List YL1)×Int} (h:w24un r=some d):r=w24r0 (d.1) (d.2):=by
  unfold w24un at h
  split at h
  . split at h
    . rename_i h0 h1;cases h;rw [ue_some h0,ue_some h1];rfl
    . cases h
  . cases h
def w24z (N:Nat) (e0_0:Int) (e0_1:Int) (e0_2:(List Ex)) (width1:Int):Option ((List YL1)×Int):=(w24 N e0_0 e0_1 e0_2 width1).bind w24un
theorem w24fin {N:Nat} (hc:CxOk (w24c N)) {e0_0:Int} {e0_1:Int} {e0_2:(List Ex)} {width1:Int} {d:(List YL1)×Int} (hd:w24z N e0_0 e0_1 e0_2 width1=some d):Does Tryz.prog 24 (([.agg [.e (.i .i64) e0_0,.e (.i .i64) e0_1,.e (.sl .ex) e0_2],.e (.i .i64) width1]:List X).map X.D) (HA []) (w24r0 (d.1) (d.2)).1.D (HA (w24r0 (d.1) (d.2)).2):=by
  obtain ⟨r,hr,hu⟩:=Option.bind_eq_some_iff.1 hd
  have:=fun_ok (r:=r) hc (f:=24) (fn:=Tryz.f24) (code:=w24b) (by kernel_rfl) (by kernel_rfl) (w24hk N hc) (Nat.le_of_ble_eq_true (by kernel_rfl)) (ow:=false) ((w24q N e0_0 e0_1 e0_2 width1).symm.trans (by rw [w24e0 N];exact hr))
  rw [w24uo hu] at this
  exact this
def w24p (N:Nat) (e0_0:Int) (e0_1:Int) (e0_2:(List Ex)) (width1:Int):Bool:=(w24z N e0_0 e0_1 e0_2 width1).isSome
def w24y0 (N:Nat) (e0_0:Int) (e0_1:Int) (e0_2:(List Ex)) (width1:Int):(List YL1):=((w24z N e0_0 e0_1 e0_2 width1).getD ([],0)).1
def w24y1 (N:Nat) (e0_0:Int) (e0_1:Int) (e0_2:(List Ex)) (width1:Int):Int:=((w24z N e0_0 e0_1 e0_2 width1).getD ([],0)).2
def w24e (N:Nat):Ent':=E2 .ex (.i .i64)  (fun x0 x1=>(w24p N (Ex.op x0) (Ex.num x0) (Ex.kids x0) x1,w24r0 (w24y0 N (Ex.op x0) (Ex.num x0) (Ex.kids x0) x1) (w24y1 N (Ex.op x0) (Ex.num x0) (Ex.kids x0) x1)))
theorem w24re {N:Nat} {e0_0:Int} {e0_1:Int} {e0_2:(List Ex)} {width1:Int} {d:(List YL1)×Int} (hd:w24z N e0_0 e0_1 e0_2 width1=some d):w24r0 (w24y0 N e0_0 e0_1 e0_2 width1) (w24y1 N e0_0 e0_1 e0_2 width1)=w24r0 (d.1) (d.2):=by unfold w24y0 w24y1;rw [hd];rfl
theorem w24ok (N:Nat):EOk Tryz.prog 24 (w24e N):=EOk.e2 (fun x0 x1 h=>by
  have h:(w24z N (Ex.op x0) (Ex.num x0) (Ex.kids x0) x1).isSome=true:=h
  obtain ⟨d,hd⟩:=Option.isSome_iff_exists.1 h
  have f:=w24fin (w24cx N) hd
  rw [← w24re hd] at f
  exact f)
def w73r0 (a0:YL1):Res:=(.v Value.nilIface,[(50,.box 91 [.via 50 0,.own 100]),(100,.row 5 .u8 a0 true)])
def w73L (N:Nat):List (Nat×Ent'):=[(96,w96e N)]
def w73c (N:Nat):Cx:=⟨Tryz.prog,25,w73L N,[]⟩
def w73b:Code:=Tryz.f73.body.getD .skip
theorem w73cx (N:Nat):CxOk (w73c N):=ctx_ok (by kernel_rfl) (.cons (by kernel_rfl) (w96ok N) .nil) .nil
def w73G [Alg] (_:Nat)  (c1:UInt8) (h51_0:YL1):O:=
  ck true <|
  ck (lim (h51_0++[c1]).length (1:Nat)) <|
  some (w73r0 (h51_0++[c1]))
def w73 [Alg] (N:Nat) (c1:UInt8) (h51_0:YL1):O:=w73G N  c1 h51_0
def w73h [Alg] (_:Nat):Hint:=.d
theorem w73hk (N:Nat):HintOk (w73c N) Tryz.f73.ntmps (w73h N) w73b:=hk_of _ _ trivial
theorem w73q [Alg] (N:Nat) (c1:UInt8) (h51_0:YL1):w73G N  c1 h51_0=exec (w73c N) Tryz.f73.ntmps (w73h N) w73b ⟨argT 0 [.ref 50 0,.e .u8 c1],[(50,.box 91 [.via 50 0,.own 51]),(51,.row 5 .u8 h51_0 true)],100⟩ (finX (w73c N) Tryz.f73 true):=by kernel_rfl
def w73un (r:Res):Option (YL1):=match r with
  | (.v Value.nilIface,[(50,.box 91 [.via 50 0,.own 100]),(100,x0)])=>(match ur 5 .u8 true x0 with | some a0=>some a0 | _=>none)
  | _=>none
theorem w73uo {r:Res} {d:YL1} (h:w73un r=some d):r=w73r0 (d):=by
  unfold w73un at h
  split at h
  . split at h
    . rename_i h0;cases h;rw [ur_some h0];rfl
    . cases h
  . cases h
def w73z (N:Nat) (c1:UInt8) (h51_0:YL1):Option (YL1):=(w73 N c1 h51_0).bind w73un
theorem w73fin {N:Nat} (hc:CxOk (w73c N)) {c1:UInt8} {h51_0:YL1} {d:YL1} (hd:w73z N c1 h51_0=some d):Does Tryz.prog 73 (([.ref 50 0,.e .u8 c1]:List X).map X.D) (HA [(50,.box 91 [.via 50 0,.own 51]),(51,.row 5 .u8 h51_0 true)]) (w73r0 (d)).1.D (HA (w73r0 (d)).2):=by
  obtain ⟨r,hr,hu⟩:=Option.bind_eq_some_iff.1 hd
  have:=fun_ok (r:=r) hc (f:=73) (fn:=Tryz.f73) (code:=w73b) (by kernel_rfl) (by kernel_rfl) (w73hk N) (Nat.le_of_ble_eq_true (by kernel_rfl)) (ow:=true) ((w73q N c1 h51_0).symm.trans (by exact hr))
  rw [w73uo hu] at this
  exact this
def w73p (N:Nat) (c1:UInt8) (h51_0:YL1):Bool:=(w73z N c1 h51_0).isSome
def w73y0 (N:Nat) (c1:UInt8) (h51_0:YL1):YL1:=((w73z N c1 h51_0).getD [])
def w73in (xs:List X) (H:XH):Option (UInt8×YL1):=match xs,H with
  | [.ref 50 0,x0],[(50,.box 91 [.via 50 0,.own 51]),(51,x1)]=>(match ue .u8 x0,ur 5 .u8 true x1 with | some a0,some a1=>some (a0,a1) | _,_=>none)
  | _,_=>none
theorem w73io {xs:List X} {H:XH} {d:UInt8×YL1} (h:w73in xs H=some d):xs=[.ref 50 0,.e .u8 (d.1)]/\H=[(50,.box 91 [.via 50 0,.own 51]),(51,.row 5 .u8 (d.2) true)]:=by
  unfold w73in at h
  split at h
  . split at h
    . rename_i h0 h1;cases h;rw [ue_some h0,ur_some h1];exact ⟨rfl,rfl⟩
    . cases h
  . cases h
def w73e (N:Nat):Ent':=fun xs H=>match w73in xs H with | some d=>some (w73p N (d.1) (d.2),w73r0 (w73y0 N (d.1) (d.2))) | none=>none
theorem w73re {N:Nat} {c1:UInt8} {h51_0:YL1} {d:YL1} (hd:w73z N c1 h51_0=some d):w73r0 (w73y0 N c1 h51_0)=w73r0 (d):=by unfold w73y0;rw [hd];rfl
theorem w73ok (N:Nat):EOk Tryz.prog 73 (w73e N):=fun xs H pre r he hp=>by
  unfold w73e at he
  split at he
  . rename_i d hd
    have he:=Option.some.inj he
    have h1:=congrArg Prod.fst he
    have h2:=congrArg Prod.snd he
    simp only at h1 h2
    obtain ⟨e1,e2⟩:=w73io hd
    rw [e1,e2,← h2]
    have h:(w73z N (d.1) (d.2)).isSome=true:=h1.trans hp
    obtain ⟨d',hd'⟩:=Option.isSome_iff_exists.1 h
    have f:=w73fin (w73cx N) hd'
    rw [← w73re hd'] at f
    exact f
  . cases he
def w74r0 (a0:YL1):Res:=(.e .tx a0,[])
def w74L (_:Nat):List (Nat×Ent'):=[]
def w74c (N:Nat):Cx:=⟨Tryz.prog,25,w74L N,[]⟩
def w74b:Code:=Tryz.f74.body.getD .skip
theorem w74cx (N:Nat):CxOk (w74c N):=ctx_ok (by kernel_rfl) .nil .nil
def w74G [Alg] (_:Nat)  (h51_0:YL1):O:=
  ck (decide ((↑h51_0.length:Int)=(↑h51_0.length:Int))) <|
  some (w74r0 h51_0)
def w74 [Alg] (N:Nat) (h51_0:YL1):O:=w74G N  h51_0
def w74h [Alg] (_:Nat):Hint:=(.seq .d (.seq (.reg [] [] [[],[],[],[],[],[],[],[],[],[],[51],[]]) .d))
theorem w74hk (N:Nat):HintOk (w74c N) Tryz.f74.ntmps (w74h N) w74b:=hk_of _ _ (And.intro trivial (And.intro trivial trivial))
theorem w74q [Alg] (N:Nat) (h51_0:YL1):w74G N  h51_0=exec (w74c N) Tryz.f74.ntmps (w74h N) w74b ⟨argT 0 [.ref 50 0],[(50,.box 91 [.via 50 0,.own 51]),(51,.row 5 .u8 h51_0 true)],100⟩ (finX (w74c N) Tryz.f74 true):=by kernel_rfl
def w74un (r:Res):Option (YL1):=match r with
  | (x0,[])=>(match ue .tx x0 with | some a0=>some a0 | _=>none)
  | _=>none
theorem w74uo {r:Res} {d:YL1} (h:w74un r=some d):r=w74r0 (d):=by
  unfold w74un at h
  split at h
  . split at h
    . rename_i h0;cases h;rw [ue_some h0];rfl
    . cases h
  . cases h
def w74z (N:Nat) (h51_0:YL1):Option (YL1):=(w74 N h51_0).bind w74un
theorem w74fin {N:Nat} (hc:CxOk (w74c N)) {h51_0:YL1} {d:YL1} (hd:w74z N h51_0=some d):Does Tryz.prog 74 (([.ref 50 0]:List X).map X.D) (HA [(50,.box 91 [.via 50 0,.own 51]),(51,.row 5 .u8 h51_0 true)]) (w74r0 (d)).1.D (HA (w74r0 (d)).2):=by
  obtain ⟨r,hr,hu⟩:=Option.bind_eq_some_iff.1 hd
  have:=fun_ok (r:=r) hc (f:=74) (fn:=Tryz.f74) (code:=w74b) (by kernel_rfl) (by kernel_rfl) (w74hk N) (Nat.le_of_ble_eq_true (by kernel_rfl)) (ow:=true) ((w74q N h51_0).symm.trans (by exact hr))
  rw [w74uo hu] at this
  exact this
def w74p (N:Nat) (h51_0:YL1):Bool:=(w74z N h51_0).isSome
def w74y0 (N:Nat) (h51_0:YL1):YL1:=((w74z N h51_0).getD [])
def w74in (xs:List X) (H:XH):Option (YL1):=match xs,H with
  | [.ref 50 0],[(50,.box 91 [.via 50 0,.own 51]),(51,x0)]=>(match ur 5 .u8 true x0 with | some a0=>some a0 | _=>none)
  | _,_=>none
theorem w74io {xs:List X} {H:XH} {d:YL1} (h:w74in xs H=some d):xs=[.ref 50 0]/\H=[(50,.box 91 [.via 50 0,.own 51]),(51,.row 5 .u8 (d) true)]:=by
  unfold w74in at h
  split at h
  . split at h
    . rename_i h0;cases h;rw [ur_some h0];exact ⟨rfl,rfl⟩
    . cases h
  . cases h
def w74e (N:Nat):Ent':=fun xs H=>match w74in xs H with | some d=>some (w74p N (d),w74r0 (w74y0 N (d))) | none=>none
theorem w74re {N:Nat} {h51_0:YL1} {d:YL1} (hd:w74z N h51_0=some d):w74r0 (w74y0 N h51_0)=w74r0 (d):=by unfold w74y0;rw [hd];rfl
theorem w74ok (N:Nat):EOk Tryz.prog 74 (w74e N):=fun xs H pre r he hp=>by
  unfold w74e at he
  split at he
  . rename_i d hd
    have he:=Option.some.inj he
    have h1:=congrArg Prod.fst he
    have h2:=congrArg Prod.snd he
    simp only at h1 h2
    obtain ⟨e1,e2⟩:=w74io hd
    rw [e1,e2,← h2]
    have h:(w74z N (d)).isSome=true:=h1.trans hp
    obtain ⟨d',hd'⟩:=Option.isSome_iff_exists.1 h
    have f:=w74fin (w74cx N) hd'
    rw [← w74re hd'] at f
    exact f
  . cases he
def w41r0 (a0:YL1) (a1:Bool):Res:=(.tup [.e .tx a0,.e .bo a1],[])
def w41L (N:Nat):List (Nat×Ent'):=[(40,w40e N),(73,w73e N),(74,w74e N)]
def w41c (N:Nat):Cx:=⟨Tryz.prog,25,w41L N,[]⟩
def w41b:Code:=Tryz.f41.body.getD .skip
theorem w41cx (N:Nat):CxOk (w41c N):=ctx_ok (by kernel_rfl) (.cons (by kernel_rfl) (w40ok N) (.cons (by kernel_rfl) (w73ok N) (.cons (by kernel_rfl) (w74ok N) .nil))) .nil
def w41F0 [Alg] (N:Nat)  (self:Bool->Int->YL1->O) (k0:YL1->Bool->O) (k1:YL1->O) (x0_0:YL1) (x0_1:Bool) (x0_2:Int) (x0_3:YL1):O:=
  let b0:=IntKind.i64.wrap (x0_2+1)
  br (decide (x0_2 < (↑x0_0.length:Int)))
    (gx x0_0 x0_2 fun y7=>
    ck (w40p N [(26:UInt8),(1:UInt8),(3:UInt8),(9:UInt8),(25:UInt8),(17:UInt8),(11:UInt8),(27:UInt8),(19:UInt8),(10:UInt8)] y7) <|
    br (x0_1&&decide ((0:Int)<=w40y0 N [(26:UInt8),(1:UInt8),(3:UInt8),(9:UInt8),(25:UInt8),(17:UInt8),(11:UInt8),(27:UInt8),(19:UInt8),(10:UInt8)] y7))
      (ck (w73p N (u8of (IntKind.i64.wrap ((48:Int)+w40y0 N [(26:UInt8),(1:UInt8),(3:UInt8),(9:UInt8),(25:UInt8),(17:UInt8),(11:UInt8),(27:UInt8),(19:UInt8),(10:UInt8)] y7))) x0_3) <|
      self x0_1 b0 (w73y0 N (u8of (IntKind.i64.wrap ((48:Int)+w40y0 N [(26:UInt8),(1:UInt8),(3:UInt8),(9:UInt8),(25:UInt8),(17:UInt8),(11:UInt8),(27:UInt8),(19:UInt8),(10:UInt8)] y7))) x0_3))
      (br (decide (y7=60))
        (self (decide (y7=60)) b0 x0_3)
        (br (decide (y7=48))
          (br (decide ((↑x0_0.length:Int)<=IntKind.i64.wrap (x0_2+1)))
            (k0 [] false)
            (gx x0_0 b0 fun y8=>
            ck (w40p N [(1:UInt8),(3:UInt8),(9:UInt8),(25:UInt8),(17:UInt8),(11:UInt8),(27:UInt8),(19:UInt8),(10:UInt8),(26:UInt8),(5:UInt8),(7:UInt8),(13:UInt8),(29:UInt8),(21:UInt8),(15:UInt8),(31:UInt8),(23:UInt8),(14:UInt8),(30:UInt8),(37:UInt8),(39:UInt8),(58:UInt8),(45:UInt8),(61:UInt8),(53:UInt8)] y8) <|
            br (decide (w40y0 N [(1:UInt8),(3:UInt8),(9:UInt8),(25:UInt8),(17:UInt8),(11:UInt8),(27:UInt8),(19:UInt8),(10:UInt8),(26:UInt8),(5:UInt8),(7:UInt8),(13:UInt8),(29:UInt8),(21:UInt8),(15:UInt8),(31:UInt8),(23:UInt8),(14:UInt8),(30:UInt8),(37:UInt8),(39:UInt8),(58:UInt8),(45:UInt8),(61:UInt8),(53:UInt8)] y8 < (0:Int)))
              (k0 [] false)
              (ck (w73p N (u8of (IntKind.i64.wrap ((97:Int)+w40y0 N [(1:UInt8),(3:UInt8),(9:UInt8),(25:UInt8),(17:UInt8),(11:UInt8),(27:UInt8),(19:UInt8),(10:UInt8),(26:UInt8),(5:UInt8),(7:UInt8),(13:UInt8),(29:UInt8),(21:UInt8),(15:UInt8),(31:UInt8),(23:UInt8),(14:UInt8),(30:UInt8),(37:UInt8),(39:UInt8),(58:UInt8),(45:UInt8),(61:UInt8),(53:UInt8)] y8))) x0_3) <|
              self (decide (y7=60)) (IntKind.i64.wrap (IntKind.i64.wrap (x0_2+1)+(1:Int))) (w73y0 N (u8of (IntKind.i64.wrap ((97:Int)+w40y0 N [(1:UInt8),(3:UInt8),(9:UInt8),(25:UInt8),(17:UInt8),(11:UInt8),(27:UInt8),(19:UInt8),(10:UInt8),(26:UInt8),(5:UInt8),(7:UInt8),(13:UInt8),(29:UInt8),(21:UInt8),(15:UInt8),(31:UInt8),(23:UInt8),(14:UInt8),(30:UInt8),(37:UInt8),(39:UInt8),(58:UInt8),(45:UInt8),(61:UInt8),(53:UInt8)] y8))) x0_3))))
          (ck (w40p N [(22:UInt8),(36:UInt8),(33:UInt8),(12:UInt8),(24:UInt8),(54:UInt8),(42:UInt8),(28:UInt8),(55:UInt8),(62:UInt8)] y7) <|
          br (decide (w40y0 N [(22:UInt8),(36:UInt8),(33:UInt8),(12:UInt8),(24:UInt8),(54:UInt8),(42:UInt8),(28:UInt8),(55:UInt8),(62:UInt8)] y7 < (0:Int)))
            (k0 [] false)
            (gx [(43:UInt8),(45:UInt8),(42:UInt8),(47:UInt8),(94:UInt8),(61:UInt8),(60:UInt8),(82:UInt8),(40:UInt8),(41:UInt8)] (w40y0 N [(22:UInt8),(36:UInt8),(33:UInt8),(12:UInt8),(24:UInt8),(54:UInt8),(42:UInt8),(28:UInt8),(55:UInt8),(62:UInt8)] y7) fun y9=>
            ck (w73p N y9 x0_3) <|
            self (decide (y7=60)) b0 (w73y0 N y9 x0_3))))))
    (k1 x0_3)
def w41b0:Code:=atC [1,1,1,0,1,0,0] w41b
def w41m0:Nm:=⟨[0,4,5,6],[],[]⟩
def w41I0 (x:YL1×Bool×Int×YL1):Sg:=⟨[(0,.e (.sl .u8) x.1),(4,.ref 0 0),(5,.e .bo x.2.1),(6,.e (.i .i64) x.2.2.1)],[(0,.box 91 [.via 0 0,.own 1]),(1,.row 5 .u8 x.2.2.2 true)],100⟩
def w41u0 (σ:Sg):YL1×Bool×Int×YL1:=(lvT (.sl .u8) 0 0 σ,lvT .bo 5 0 σ,lvT (.i .i64) 6 0 σ,lvR .u8 1 σ)
theorem w41ui0:∀ x,w41u0 (w41I0 x)=x:=fun _=>by kernel_rfl
def w41X0_0 (y:YL1×Bool):Exit×Sg:=(.ret,⟨[(2,.e .tx y.1),(3,.e .bo y.2)],[],100⟩)
def w41v0_0 (_:Exit) (σ:Sg):YL1×Bool:=(lvT .tx 2 0 σ,lvT .bo 3 0 σ)
def w41X0_1 (y:YL1):Exit×Sg:=((.exit 0),⟨[(4,.ref 0 0)],[(0,.box 91 [.via 0 0,.own 1]),(1,.row 5 .u8 y true)],100⟩)
def w41v0_1 (_:Exit) (σ:Sg):YL1:=lvR .u8 1 σ
def w41w0:List (Exit×Nm):=[(.ret,⟨[2,3],[],[]⟩),((.exit 0),⟨[4],[],[]⟩)]
theorem w41o0:Outs w41v0_0 w41v0_1 (fun _ _=>()) w41X0_0 w41X0_1 (noX 2) (exC .ret) (exC (.exit 0)) (exC (.goto 2)):=⟨fun _=>by kernel_rfl,fun _=>by kernel_rfl,fun _=>by kernel_rfl,fun _=>by kernel_rfl,fun _=>by kernel_rfl,fun _=>by kernel_rfl,exNe_ok (by kernel_rfl),exNe_ok (by kernel_rfl),exNe_ok (by kernel_rfl)⟩
def w41l0 [Alg] (N:Nat):Nat->(YL1×Bool×Int×YL1)->((YL1×Bool)->O)->((YL1)->O)->((Unit)->O)->O
  | 0,_,_,_,_=>none
  | n+1,x,k0,k1,k2=>w41F0 N  (fun v0 v1 v2=>w41l0 N n (x.1,v0,v1,v2) k0 k1 k2) (fun y0 y1=>k0 (y0,y1)) (fun y0=>k1 y0) x.1 x.2.1 x.2.2.1 x.2.2.2
def w41n0 [Alg] (N:Nat) (a0:YL1) (a1:Bool) (a2:Int) (a3:YL1) (k0:YL1->Bool->O) (k1:YL1->O):O:=w41l0 N N (a0,a1,a2,a3) (fun y=>k0 y.1 y.2) (fun y=>k1 y) (fun _=>none)
def w41s0 [Alg] (N:Nat) (a0:YL1) (a1:Bool) (a2:Int) (a3:YL1) (k0:YL1->Bool->O) (k1:YL1->O):O:=subL w41I0 w41u0 (w41l0 N N) (w41I0 (a0,a1,a2,a3)) (fun y=>k0 y.1 y.2) (fun y=>k1 y) (fun _=>none)
theorem w41e0 [Alg] (N:Nat):w41s0 N=w41n0 N:=funext fun _=>funext fun _=>funext fun _=>funext fun _=>funext fun _=>funext fun _=>subL_I w41ui0 _ _ _ _
def w41h0 [Alg] (_:Nat):Hint:=.d
theorem w41hk0 (N:Nat):HintOk (w41c N) Tryz.f41.ntmps (w41h0 N) w41b0:=hk_of _ _ trivial
theorem w41q0 [Alg] (N:Nat) (self:Sg->O) (K:Exit->Sg->O) (x:YL1×Bool×Int×YL1):w41F0 N  (fun v0 v1 v2=>self (w41I0 (x.1,v0,v1,v2))) (fun y0 y1=>K (w41X0_0 (y0,y1)).1 (w41X0_0 (y0,y1)).2) (fun y0=>K (w41X0_1 y0).1 (w41X0_1 y0).2) x.1 x.2.1 x.2.2.1 x.2.2.2=exec (w41c N) Tryz.f41.ntmps (w41h0 N) w41b0 (w41I0 x) (roundX w41m0 w41w0 self K):=by kernel_rfl
theorem w41S0 (N:Nat) (hc:CxOk (w41c N)):SubOk (w41c N) Tryz.f41.ntmps (.loop w41b0) w41X0_0 w41X0_1 (noX 2) (subL w41I0 w41u0 (w41l0 N N)):=
  sub_loop hc (w41hk0 N) w41o0 (n:=N) (fun x K=>loop_ind (w41l0 N) (fun _ _ _ _=>rfl) (fun n K ih x=>by
    refine Eq.trans ?_ (w41q0 N _ K x)
    simp only [← ih]
    rfl) N x K)
def w41G [Alg] (N:Nat) (in0:YL1->Bool->Int->YL1->(YL1->Bool->O)->(YL1->O)->O) (l0:YL1):O:=
  in0 l0 false 0 []
    (fun z10 z11=>
      some (w41r0 z10 z11))
    (fun z12=>
      ck (w74p N z12) <|
      some (w41r0 (w74y0 N z12) true))
def w41 [Alg] (N:Nat) (l0:YL1):O:=w41G N (w41n0 N) l0
def w41h [Alg] (N:Nat):Hint:=(.seq .d (.seq .d (.seq (.reg [] [.nilC 4 1 (.row 5 .u8 [] true)] []) (.seq (.seq .d (.block (.sub w41m0 _ _ _ w41X0_0 w41X0_1 (noX 2) (subL w41I0 w41u0 (w41l0 N N))))) .d))))
theorem w41hk (N:Nat) (hc:CxOk (w41c N)):HintOk (w41c N) Tryz.f41.ntmps (w41h N) w41b:=hk_of _ _ (And.intro trivial (And.intro trivial (And.intro trivial (And.intro (And.intro trivial (w41S0 N hc)) trivial))))
theorem w41q [Alg] (N:Nat) (l0:YL1):w41G N (w41s0 N) l0=exec (w41c N) Tryz.f41.ntmps (w41h N) w41b ⟨argT 0 [.e (.sl .u8) l0],[],100⟩ (finX (w41c N) Tryz.f41 false):=by kernel_rfl
def w41un (r:Res):Option (YL1×Bool):=match r with
  | (.tup [x0,x1],[])=>(match ue .tx x0,ue .bo x1 with | some a0,some a1=>some (a0,a1) | _,_=>none)
  | _=>none
theorem w41uo {r:Res} {d:YL1×Bool} (h:w41un r=some d):r=w41r0 (d.1) (d.2):=by
  unfold w41un at h
  split at h
  . split at h
    . rename_i h0 h1;cases h;rw [ue_some h0,ue_some h1];rfl
    . cases h
  . cases h
def w41z (N:Nat) (l0:YL1):Option (YL1×Bool):=(w41 N l0).bind w41un
theorem w41fin {N:Nat} (hc:CxOk (w41c N)) {l0:YL1} {d:YL1×Bool} (hd:w41z N l0=some d):Does Tryz.prog 41 (([.e (.sl .u8) l0]:List X).map X.D) (HA []) (w41r0 (d.1) (d.2)).1.D (HA (w41r0 (d.1) (d.2)).2):=by
  obtain ⟨r,hr,hu⟩:=Option.bind_eq_some_iff.1 hd
  have:=fun_ok (r:=r) hc (f:=41) (fn:=Tryz.f41) (code:=w41b) (by kernel_rfl) (by kernel_rfl) (w41hk N hc) (Nat.le_of_ble_eq_true (by kernel_rfl)) (ow:=false) ((w41q N l0).symm.trans (by rw [w41e0 N];exact hr))
  rw [w41uo hu] at this
  exact this
def w41p (N:Nat) (l0:YL1):Bool:=(w41z N l0).isSome
def w41y0 (N:Nat) (l0:YL1):YL1:=((w41z N l0).getD ([],false)).1
def w41y1 (N:Nat) (l0:YL1):Bool:=((w41z N l0).getD ([],false)).2
def w41e (N:Nat):Ent':=E1 (.sl .u8)  (fun x0=>(w41p N x0,w41r0 (w41y0 N x0) (w41y1 N x0)))
theorem w41re {N:Nat} {l0:YL1} {d:YL1×Bool} (hd:w41z N l0=some d):w41r0 (w41y0 N l0) (w41y1 N l0)=w41r0 (d.1) (d.2):=by unfold w41y0 w41y1;rw [hd];rfl
theorem w41ok (N:Nat):EOk Tryz.prog 41 (w41e N):=EOk.e1 (fun x0 h=>by
  have h:(w41z N x0).isSome=true:=h
  obtain ⟨d,hd⟩:=Option.isSome_iff_exists.1 h
  have f:=w41fin (w41cx N) hd
  rw [← w41re hd] at f
  exact f)
def w43r0 (a0:Bool):Res:=(.e .bo a0,[])
def w43L (_:Nat):List (Nat×Ent'):=[]
def w43c (N:Nat):Cx:=⟨Tryz.prog,25,w43L N,[]⟩
def w43b:Code:=Tryz.f43.body.getD .skip
theorem w43cx (N:Nat):CxOk (w43c N):=ctx_ok (by kernel_rfl) .nil .nil
def w43G [Alg] (_:Nat)  (a0:YL1) (b1:YL1):O:=
  some (w43r0 (decide (a0=b1)))
def w43 [Alg] (N:Nat) (a0:YL1) (b1:YL1):O:=w43G N  a0 b1
def w43h [Alg] (_:Nat):Hint:=.d
theorem w43hk (N:Nat):HintOk (w43c N) Tryz.f43.ntmps (w43h N) w43b:=hk_of _ _ trivial
theorem w43q [Alg] (N:Nat) (a0:YL1) (b1:YL1):w43G N  a0 b1=exec (w43c N) Tryz.f43.ntmps (w43h N) w43b ⟨argT 0 [.e (.sl .u8) a0,.e (.sl .u8) b1],[],100⟩ (finX (w43c N) Tryz.f43 false):=by kernel_rfl
def w43un (r:Res):Option (Bool):=match r with
  | (x0,[])=>(match ue .bo x0 with | some a0=>some a0 | _=>none)
  | _=>none
theorem w43uo {r:Res} {d:Bool} (h:w43un r=some d):r=w43r0 (d):=by
  unfold w43un at h
  split at h
  . split at h
    . rename_i h0;cases h;rw [ue_some h0];rfl
    . cases h
  . cases h
def w43z (N:Nat) (a0:YL1) (b1:YL1):Option (Bool):=(w43 N a0 b1).bind w43un
theorem w43fin {N:Nat} (hc:CxOk (w43c N)) {a0:YL1} {b1:YL1} {d:Bool} (hd:w43z N a0 b1=some d):Does Tryz.prog 43 (([.e (.sl .u8) a0,.e (.sl .u8) b1]:List X).map X.D) (HA []) (w43r0 (d)).1.D (HA (w43r0 (d)).2):=by
  obtain ⟨r,hr,hu⟩:=Option.bind_eq_some_iff.1 hd
  have:=fun_ok (r:=r) hc (f:=43) (fn:=Tryz.f43) (code:=w43b) (by kernel_rfl) (by kernel_rfl) (w43hk N) (Nat.le_of_ble_eq_true (by kernel_rfl)) (ow:=false) ((w43q N a0 b1).symm.trans (by exact hr))
  rw [w43uo hu] at this
  exact this
def w43p (N:Nat) (a0:YL1) (b1:YL1):Bool:=(w43z N a0 b1).isSome
def w43y0 (N:Nat) (a0:YL1) (b1:YL1):Bool:=((w43z N a0 b1).getD false)
def w43e (N:Nat):Ent':=E2 (.sl .u8) (.sl .u8)  (fun x0 x1=>(w43p N x0 x1,w43r0 (w43y0 N x0 x1)))
theorem w43re {N:Nat} {a0:YL1} {b1:YL1} {d:Bool} (hd:w43z N a0 b1=some d):w43r0 (w43y0 N a0 b1)=w43r0 (d):=by unfold w43y0;rw [hd];rfl
theorem w43ok (N:Nat):EOk Tryz.prog 43 (w43e N):=EOk.e2 (fun x0 x1 h=>by
  have h:(w43z N x0 x1).isSome=true:=h
  obtain ⟨d,hd⟩:=Option.isSome_iff_exists.1 h
  have f:=w43fin (w43cx N) hd
  rw [← w43re hd] at f
  exact f)
def w20r0 (a0:Int) (a1:Int) (a2:(List Ex)) (a3:Int) (a4:Int):Res:=(.tup [.agg [.e (.i .i64) a0,.e (.i .i64) a1,.e (.sl .ex) a2],.e (.i .i64) a3,.e (.i .i64) a4],[])
def w20L (N:Nat):List (Nat×Ent'):=[(40,w40e N),(41,w41e N),(42,w42e N),(10,w10e N),(43,w43e N)]
def w20c (N:Nat):Cx:=⟨Tryz.prog,25,w20L N,[]⟩
def w20b:Code:=Tryz.f20.body.getD .skip
theorem w20cx (N:Nat):CxOk (w20c N):=ctx_ok (by kernel_rfl) (.cons (by kernel_rfl) (w40ok N) (.cons (by kernel_rfl) (w41ok N) (.cons (by kernel_rfl) (w42ok N) (.cons (by kernel_rfl) (w10ok N) (.cons (by kernel_rfl) (w43ok N) .nil))))) .nil
def w20G [Alg] (N:Nat)  (l0:YL1):O:=
  let b2:=slc l0 none (some (w40y0 N l0 (63:UInt8)))
  let b0:=Ex.mk (w42y0 N (w41y0 N b2)) (w42y1 N (w41y0 N b2)) (w42y2 N (w41y0 N b2))
  let b1:=Ex.mk b0.op b0.num b0.kids
  let b3:=IntKind.i64.wrap (w40y0 N l0 (63:UInt8)+(1:Int))
  let b4:=decide (w42y4 N (w41y0 N b2)≠(0:Int))||decide (w10y1 N b1.op b1.num b1.kids≠(0:Int))
  let b5:=some (w20r0 0 0 [] 0 2)
  ck (w40p N l0 (63:UInt8)) <|
  br (decide (w40y0 N l0 (63:UInt8) < (0:Int)))
    (some (w20r0 0 0 [] 0 3))
    (ck (slcOk l0.length none (some (w40y0 N l0 (63:UInt8)))) <|
    ck (w41p N b2) <|
    br (!w41y1 N b2)
      b5
      (ck (w42p N (w41y0 N b2)) <|
      ck (w10p N b1.op b1.num b1.kids) <|
      ck (!!b4||slcOk l0.length none (some b3)) <|
      ck (!!b4||w43p N (w10y0 N b1.op b1.num b1.kids) (slc l0 none (some b3))) <|
      br (decide (w42y4 N (w41y0 N b2)≠(0:Int))||decide (w10y1 N b1.op b1.num b1.kids≠(0:Int))||!w43y0 N (w10y0 N b1.op b1.num b1.kids) (slc l0 none (some b3)))
        b5
        (some (w20r0 (b0.op) (b0.num) (b0.kids) b3 0))))
def w20 [Alg] (N:Nat) (l0:YL1):O:=w20G N  l0
def w20h [Alg] (_:Nat):Hint:=.d
theorem w20hk (N:Nat):HintOk (w20c N) Tryz.f20.ntmps (w20h N) w20b:=hk_of _ _ trivial
theorem w20q [Alg] (N:Nat) (l0:YL1):w20G N  l0=exec (w20c N) Tryz.f20.ntmps (w20h N) w20b ⟨argT 0 [.e (.sl .u8) l0],[],100⟩ (finX (w20c N) Tryz.f20 false):=by kernel_rfl
def w20un (r:Res):Option (Int×Int×(List Ex)×Int×Int):=match r with
  | (.tup [.agg [x0,x1,x2],x3,x4],[])=>(match ue (.i .i64) x0,ue (.i .i64) x1,ue (.sl .ex) x2,ue (.i .i64) x3,ue (.i .i64) x4 with | some a0,some a1,some a2,some a3,some a4=>some (a0,a1,a2,a3,a4) | _,_,_,_,_=>none)
  | _=>none
theorem w20uo {r:Res} {d:Int×Int×(List Ex)×Int×Int} (h:w20un r=some d):r=w20r0 (d.1) (d.2.1) (d.2.2.1) (d.2.2.2.1) (d.2.2.2.2):=by
  unfold w20un at h
  split at h
  . split at h
    . rename_i h0 h1 h2 h3 h4;cases h;rw [ue_some h0,ue_some h1,ue_some h2,ue_some h3,ue_some h4];rfl
    . cases h
  . cases h
def w20z (N:Nat) (l0:YL1):Option (Int×Int×(List Ex)×Int×Int):=(w20 N l0).bind w20un
theorem w20fin {N:Nat} (hc:CxOk (w20c N)) {l0:YL1} {d:Int×Int×(List Ex)×Int×Int} (hd:w20z N l0=some d):Does Tryz.prog 20 (([.e (.sl .u8) l0]:List X).map X.D) (HA []) (w20r0 (d.1) (d.2.1) (d.2.2.1) (d.2.2.2.1) (d.2.2.2.2)).1.D (HA (w20r0 (d.1) (d.2.1) (d.2.2.1) (d.2.2.2.1) (d.2.2.2.2)).2):=by
  obtain ⟨r,hr,hu⟩:=Option.bind_eq_some_iff.1 hd
  have:=fun_ok (r:=r) hc (f:=20) (fn:=Tryz.f20) (code:=w20b) (by kernel_rfl) (by kernel_rfl) (w20hk N) (Nat.le_of_ble_eq_true (by kernel_rfl)) (ow:=false) ((w20q N l0).symm.trans (by exact hr))
  rw [w20uo hu] at this
  exact this
def w20p (N:Nat) (l0:YL1):Bool:=(w20z N l0).isSome
def w20y0 (N:Nat) (l0:YL1):Int:=((w20z N l0).getD (0,0,[],0,0)).1
def w20y1 (N:Nat) (l0:YL1):Int:=((w20z N l0).getD (0,0,[],0,0)).2.1
def w20y2 (N:Nat) (l0:YL1):(List Ex):=((w20z N l0).getD (0,0,[],0,0)).2.2.1
def w20y3 (N:Nat) (l0:YL1):Int:=((w20z N l0).getD (0,0,[],0,0)).2.2.2.1
def w20y4 (N:Nat) (l0:YL1):Int:=((w20z N l0).getD (0,0,[],0,0)).2.2.2.2
def w20e (N:Nat):Ent':=E1 (.sl .u8)  (fun x0=>(w20p N x0,w20r0 (w20y0 N x0) (w20y1 N x0) (w20y2 N x0) (w20y3 N x0) (w20y4 N x0)))
theorem w20re {N:Nat} {l0:YL1} {d:Int×Int×(List Ex)×Int×Int} (hd:w20z N l0=some d):w20r0 (w20y0 N l0) (w20y1 N l0) (w20y2 N l0) (w20y3 N l0) (w20y4 N l0)=w20r0 (d.1) (d.2.1) (d.2.2.1) (d.2.2.2.1) (d.2.2.2.2):=by unfold w20y0 w20y1 w20y2 w20y3 w20y4;rw [hd];rfl
theorem w20ok (N:Nat):EOk Tryz.prog 20 (w20e N):=EOk.e1 (fun x0 h=>by
  have h:(w20z N x0).isSome=true:=h
  obtain ⟨d,hd⟩:=Option.isSome_iff_exists.1 h
  have f:=w20fin (w20cx N) hd
  rw [← w20re hd] at f
  exact f)
def w53r0 (a0:Bool):Res:=(.e .bo a0,[])
def w53L (_:Nat):List (Nat×Ent'):=[]
def w53c (N:Nat):Cx:=⟨Tryz.prog,25,w53L N,[]⟩
def w53b:Code:=Tryz.f53.body.getD .skip
theorem w53cx (N:Nat):CxOk (w53c N):=ctx_ok (by kernel_rfl) .nil .nil
def w53G [Alg] (_:Nat)  (c0:UInt8):O:=
  some (w53r0 (decide (64<=c0)))
def w53 [Alg] (N:Nat) (c0:UInt8):O:=w53G N  c0
def w53h [Alg] (_:Nat):Hint:=.d
theorem w53hk (N:Nat):HintOk (w53c N) Tryz.f53.ntmps (w53h N) w53b:=hk_of _ _ trivial
theorem w53q [Alg] (N:Nat) (c0:UInt8):w53G N  c0=exec (w53c N) Tryz.f53.ntmps (w53h N) w53b ⟨argT 0 [.e .u8 c0],[],100⟩ (finX (w53c N) Tryz.f53 false):=by kernel_rfl
def w53un (r:Res):Option (Bool):=match r with
  | (x0,[])=>(match ue .bo x0 with | some a0=>some a0 | _=>none)
  | _=>none
theorem w53uo {r:Res} {d:Bool} (h:w53un r=some d):r=w53r0 (d):=by
  unfold w53un at h
  split at h
  . split at h
    . rename_i h0;cases h;rw [ue_some h0];rfl
    . cases h
  . cases h
def w53z (N:Nat) (c0:UInt8):Option (Bool):=(w53 N c0).bind w53un
theorem w53fin {N:Nat} (hc:CxOk (w53c N)) {c0:UInt8} {d:Bool} (hd:w53z N c0=some d):Does Tryz.prog 53 (([.e .u8 c0]:List X).map X.D) (HA []) (w53r0 (d)).1.D (HA (w53r0 (d)).2):=by
  obtain ⟨r,hr,hu⟩:=Option.bind_eq_some_iff.1 hd
  have:=fun_ok (r:=r) hc (f:=53) (fn:=Tryz.f53) (code:=w53b) (by kernel_rfl) (by kernel_rfl) (w53hk N) (Nat.le_of_ble_eq_true (by kernel_rfl)) (ow:=false) ((w53q N c0).symm.trans (by exact hr))
  rw [w53uo hu] at this
  exact this
def w53p (N:Nat) (c0:UInt8):Bool:=(w53z N c0).isSome
def w53y0 (N:Nat) (c0:UInt8):Bool:=((w53z N c0).getD false)
def w53e (N:Nat):Ent':=E1 .u8  (fun x0=>(w53p N x0,w53r0 (w53y0 N x0)))
theorem w53re {N:Nat} {c0:UInt8} {d:Bool} (hd:w53z N c0=some d):w53r0 (w53y0 N c0)=w53r0 (d):=by unfold w53y0;rw [hd];rfl
theorem w53ok (N:Nat):EOk Tryz.prog 53 (w53e N):=EOk.e1 (fun x0 h=>by
  have h:(w53z N x0).isSome=true:=h
  obtain ⟨d,hd⟩:=Option.isSome_iff_exists.1 h
  have f:=w53fin (w53cx N) hd
  rw [← w53re hd] at f
  exact f)
def w84r0 (a0:Int):Res:=(.e (.i .i64) a0,[])
def w84L (N:Nat):List (Nat×Ent'):=[(53,w53e N)]
def w84c (N:Nat):Cx:=⟨Tryz.prog,25,w84L N,[]⟩
def w84b:Code:=Tryz.f84.body.getD .skip
theorem w84cx (N:Nat):CxOk (w84c N):=ctx_ok (by kernel_rfl) (.cons (by kernel_rfl) (w53ok N) .nil) .nil
def w84F0 [Alg] (N:Nat)  (self:Int->O) (k0:Int->O) (k1:Unit->O) (x0_0:YL1) (x0_1:Int) (x0_2:Int):O:=
  br (decide (x0_2 < x0_1))
    (gx x0_0 x0_2 fun y3=>
    ck (w53p N y3) <|
    br (w53y0 N y3)
      (k0 x0_2)
      (self (IntKind.i64.wrap (x0_2+1))))
    (k1 ())
def w84b0:Code:=atC [1,0,1,0,0] w84b
def w84m0:Nm:=⟨[0,1,7,8],[],[]⟩
def w84I0 (x:YL1×Int×Int):Sg:=⟨[(0,.e (.sl .u8) x.1),(1,.fn 53 []),(7,.e (.i .i64) x.2.1),(8,.e (.i .i64) x.2.2)],[],100⟩
def w84u0 (σ:Sg):YL1×Int×Int:=(lvT (.sl .u8) 0 0 σ,lvT (.i .i64) 7 0 σ,lvT (.i .i64) 8 0 σ)
theorem w84ui0:∀ x,w84u0 (w84I0 x)=x:=fun _=>by kernel_rfl
def w84X0_0 (y:Int):Exit×Sg:=(.ret,⟨[(4,.e (.i .i64) y)],[],100⟩)
def w84v0_0 (_:Exit) (σ:Sg):Int:=lvT (.i .i64) 4 0 σ
def w84X0_1 (_:Unit):Exit×Sg:=((.exit 0),⟨[],[],100⟩)
def w84v0_1 (_:Exit) (_:Sg):Unit:=()
def w84w0:List (Exit×Nm):=[(.ret,⟨[4],[],[]⟩),((.exit 0),⟨[],[],[]⟩)]
theorem w84o0:Outs w84v0_0 w84v0_1 (fun _ _=>()) w84X0_0 w84X0_1 (noX 2) (exC .ret) (exC (.exit 0)) (exC (.goto 2)):=⟨fun _=>by kernel_rfl,fun _=>by kernel_rfl,fun _=>by kernel_rfl,fun _=>by kernel_rfl,fun _=>by kernel_rfl,fun _=>by kernel_rfl,exNe_ok (by kernel_rfl),exNe_ok (by kernel_rfl),exNe_ok (by kernel_rfl)⟩
def w84l0 [Alg] (N:Nat):Nat->(YL1×Int×Int)->((Int)->O)->((Unit)->O)->((Unit)->O)->O
  | 0,_,_,_,_=>none
  | n+1,x,k0,k1,k2=>w84F0 N  (fun v0=>w84l0 N n (x.1,x.2.1,v0) k0 k1 k2) (fun y0=>k0 y0) (fun (_:Unit)=>k1 ()) x.1 x.2.1 x.2.2
def w84n0 [Alg] (N:Nat) (a0:YL1) (a1:Int) (a2:Int) (k0:Int->O) (k1:Unit->O):O:=w84l0 N N (a0,a1,a2) (fun y=>k0 y) (fun y=>k1 y) (fun _=>none)
def w84s0 [Alg] (N:Nat) (a0:YL1) (a1:Int) (a2:Int) (k0:Int->O) (k1:Unit->O):O:=subL w84I0 w84u0 (w84l0 N N) (w84I0 (a0,a1,a2)) (fun y=>k0 y) (fun y=>k1 y) (fun _=>none)
theorem w84e0 [Alg] (N:Nat):w84s0 N=w84n0 N:=funext fun _=>funext fun _=>funext fun _=>funext fun _=>funext fun _=>subL_I w84ui0 _ _ _ _
def w84h0 [Alg] (_:Nat):Hint:=.d
theorem w84hk0 (N:Nat):HintOk (w84c N) Tryz.f84.ntmps (w84h0 N) w84b0:=hk_of _ _ trivial
theorem w84q0 [Alg] (N:Nat) (self:Sg->O) (K:Exit->Sg->O) (x:YL1×Int×Int):w84F0 N  (fun v0=>self (w84I0 (x.1,x.2.1,v0))) (fun y0=>K (w84X0_0 y0).1 (w84X0_0 y0).2) (fun (_:Unit)=>K (w84X0_1 ()).1 (w84X0_1 ()).2) x.1 x.2.1 x.2.2=exec (w84c N) Tryz.f84.ntmps (w84h0 N) w84b0 (w84I0 x) (roundX w84m0 w84w0 self K):=by kernel_rfl
theorem w84S0 (N:Nat) (hc:CxOk (w84c N)):SubOk (w84c N) Tryz.f84.ntmps (.loop w84b0) w84X0_0 w84X0_1 (noX 2) (subL w84I0 w84u0 (w84l0 N N)):=
  sub_loop hc (w84hk0 N) w84o0 (n:=N) (fun x K=>loop_ind (w84l0 N) (fun _ _ _ _=>rfl) (fun n K ih x=>by
    refine Eq.trans ?_ (w84q0 N _ K x)
    simp only [← ih]
    rfl) N x K)
def w84G [Alg] (_:Nat) (in0:YL1->Int->Int->(Int->O)->(Unit->O)->O) (s0:YL1):O:=
  in0 s0 ((↑s0.length:Int)) 0
    (fun z4=>
      some (w84r0 z4))
    (fun (_:Unit)=>
      some (w84r0 ((-1:Int))))
def w84 [Alg] (N:Nat) (s0:YL1):O:=w84G N (w84n0 N) s0
def w84h [Alg] (N:Nat):Hint:=(.seq .d (.seq (.seq .d (.block (.sub w84m0 _ _ _ w84X0_0 w84X0_1 (noX 2) (subL w84I0 w84u0 (w84l0 N N))))) .d))
theorem w84hk (N:Nat) (hc:CxOk (w84c N)):HintOk (w84c N) Tryz.f84.ntmps (w84h N) w84b:=hk_of _ _ (And.intro trivial (And.intro (And.intro trivial (w84S0 N hc)) trivial))
theorem w84q [Alg] (N:Nat) (s0:YL1):w84G N (w84s0 N) s0=exec (w84c N) Tryz.f84.ntmps (w84h N) w84b ⟨argT 0 [.e (.sl .u8) s0,.fn 53 []],[],100⟩ (finX (w84c N) Tryz.f84 false):=by kernel_rfl
def w84un (r:Res):Option (Int):=match r with
  | (x0,[])=>(match ue (.i .i64) x0 with | some a0=>some a0 | _=>none)
  | _=>none
theorem w84uo {r:Res} {d:Int} (h:w84un r=some d):r=w84r0 (d):=by
  unfold w84un at h
  split at h
  . split at h
    . rename_i h0;cases h;rw [ue_some h0];rfl
    . cases h
  . cases h
def w84z (N:Nat) (s0:YL1):Option (Int):=(w84 N s0).bind w84un
theorem w84fin {N:Nat} (hc:CxOk (w84c N)) {s0:YL1} {d:Int} (hd:w84z N s0=some d):Does Tryz.prog 84 (([.e (.sl .u8) s0,.fn 53 []]:List X).map X.D) (HA []) (w84r0 (d)).1.D (HA (w84r0 (d)).2):=by
  obtain ⟨r,hr,hu⟩:=Option.bind_eq_some_iff.1 hd
  have:=fun_ok (r:=r) hc (f:=84) (fn:=Tryz.f84) (code:=w84b) (by kernel_rfl) (by kernel_rfl) (w84hk N hc) (Nat.le_of_ble_eq_true (by kernel_rfl)) (ow:=false) ((w84q N s0).symm.trans (by rw [w84e0 N];exact hr))
  rw [w84uo hu] at this
  exact this
def w84p (N:Nat) (s0:YL1):Bool:=(w84z N s0).isSome
def w84y0 (N:Nat) (s0:YL1):Int:=((w84z N s0).getD 0)
def w84e (N:Nat):Ent':=Ef1 (.sl .u8) 53 (fun x0=>(w84p N x0,w84r0 (w84y0 N x0)))
theorem w84re {N:Nat} {s0:YL1} {d:Int} (hd:w84z N s0=some d):w84r0 (w84y0 N s0)=w84r0 (d):=by unfold w84y0;rw [hd];rfl
theorem w84ok (N:Nat):EOk Tryz.prog 84 (w84e N):=EOk.f1 (fun x0 h=>by
  have h:(w84z N x0).isSome=true:=h
  obtain ⟨d,hd⟩:=Option.isSome_iff_exists.1 h
  have f:=w84fin (w84cx N) hd
  rw [← w84re hd] at f
  exact f)
def w52r0 (a0:Bool):Res:=(.e .bo a0,[])
def w52L (N:Nat):List (Nat×Ent'):=[(53,w53e N),(84,w84e N)]
def w52c (N:Nat):Cx:=⟨Tryz.prog,25,w52L N,[]⟩
def w52b:Code:=Tryz.f52.body.getD .skip
theorem w52cx (N:Nat):CxOk (w52c N):=ctx_ok (by kernel_rfl) (.cons (by kernel_rfl) (w53ok N) (.cons (by kernel_rfl) (w84ok N) .nil)) .nil
def w52G [Alg] (N:Nat)  (s0:YL1):O:=
  ck (w84p N s0) <|
  some (w52r0 (decide ((0:Int)<=w84y0 N s0)))
def w52 [Alg] (N:Nat) (s0:YL1):O:=w52G N  s0
def w52h [Alg] (_:Nat):Hint:=.d
theorem w52hk (N:Nat):HintOk (w52c N) Tryz.f52.ntmps (w52h N) w52b:=hk_of _ _ trivial
theorem w52q [Alg] (N:Nat) (s0:YL1):w52G N  s0=exec (w52c N) Tryz.f52.ntmps (w52h N) w52b ⟨argT 0 [.e (.sl .u8) s0,.fn 53 []],[],100⟩ (finX (w52c N) Tryz.f52 false):=by kernel_rfl
def w52un (r:Res):Option (Bool):=match r with
  | (x0,[])=>(match ue .bo x0 with | some a0=>some a0 | _=>none)
  | _=>none
theorem w52uo {r:Res} {d:Bool} (h:w52un r=some d):r=w52r0 (d):=by
  unfold w52un at h
  split at h
  . split at h
    . rename_i h0;cases h;rw [ue_some h0];rfl
    . cases h
  . cases h
def w52z (N:Nat) (s0:YL1):Option (Bool):=(w52 N s0).bind w52un
theorem w52fin {N:Nat} (hc:CxOk (w52c N)) {s0:YL1} {d:Bool} (hd:w52z N s0=some d):Does Tryz.prog 52 (([.e (.sl .u8) s0,.fn 53 []]:List X).map X.D) (HA []) (w52r0 (d)).1.D (HA (w52r0 (d)).2):=by
  obtain ⟨r,hr,hu⟩:=Option.bind_eq_some_iff.1 hd
  have:=fun_ok (r:=r) hc (f:=52) (fn:=Tryz.f52) (code:=w52b) (by kernel_rfl) (by kernel_rfl) (w52hk N) (Nat.le_of_ble_eq_true (by kernel_rfl)) (ow:=false) ((w52q N s0).symm.trans (by exact hr))
  rw [w52uo hu] at this
  exact this
def w52p (N:Nat) (s0:YL1):Bool:=(w52z N s0).isSome
def w52y0 (N:Nat) (s0:YL1):Bool:=((w52z N s0).getD false)
def w52e (N:Nat):Ent':=Ef1 (.sl .u8) 53 (fun x0=>(w52p N x0,w52r0 (w52y0 N x0)))
theorem w52re {N:Nat} {s0:YL1} {d:Bool} (hd:w52z N s0=some d):w52r0 (w52y0 N s0)=w52r0 (d):=by unfold w52y0;rw [hd];rfl
theorem w52ok (N:Nat):EOk Tryz.prog 52 (w52e N):=EOk.f1 (fun x0 h=>by
  have h:(w52z N x0).isSome=true:=h
  obtain ⟨d,hd⟩:=Option.isSome_iff_exists.1 h
  have f:=w52fin (w52cx N) hd
  rw [← w52re hd] at f
  exact f)
def w31r0 (a0:Bool):Res:=(.e .bo a0,[])
def w31L (N:Nat):List (Nat×Ent'):=[(52,w52e N),(53,w53e N)]
def w31c (N:Nat):Cx:=⟨Tryz.prog,25,w31L N,[]⟩
def w31b:Code:=Tryz.f31.body.getD .skip
theorem w31cx (N:Nat):CxOk (w31c N):=ctx_ok (by kernel_rfl) (.cons (by kernel_rfl) (w52ok N) (.cons (by kernel_rfl) (w53ok N) .nil)) .nil
def w31G [Alg] (N:Nat)  (l0:YL1):O:=
  ck (w52p N l0) <|
  some (w31r0 (!w52y0 N l0))
def w31 [Alg] (N:Nat) (l0:YL1):O:=w31G N  l0
def w31h [Alg] (_:Nat):Hint:=.d
theorem w31hk (N:Nat):HintOk (w31c N) Tryz.f31.ntmps (w31h N) w31b:=hk_of _ _ trivial
theorem w31q [Alg] (N:Nat) (l0:YL1):w31G N  l0=exec (w31c N) Tryz.f31.ntmps (w31h N) w31b ⟨argT 0 [.e (.sl .u8) l0],[],100⟩ (finX (w31c N) Tryz.f31 false):=by kernel_rfl
def w31un (r:Res):Option (Bool):=match r with
  | (x0,[])=>(match ue .bo x0 with | some a0=>some a0 | _=>none)
  | _=>none
theorem w31uo {r:Res} {d:Bool} (h:w31un r=some d):r=w31r0 (d):=by
  unfold w31un at h
  split at h
  . split at h
    . rename_i h0;cases h;rw [ue_some h0];rfl
    . cases h
  . cases h
def w31z (N:Nat) (l0:YL1):Option (Bool):=(w31 N l0).bind w31un
theorem w31fin {N:Nat} (hc:CxOk (w31c N)) {l0:YL1} {d:Bool} (hd:w31z N l0=some d):Does Tryz.prog 31 (([.e (.sl .u8) l0]:List X).map X.D) (HA []) (w31r0 (d)).1.D (HA (w31r0 (d)).2):=by
  obtain ⟨r,hr,hu⟩:=Option.bind_eq_some_iff.1 hd
  have:=fun_ok (r:=r) hc (f:=31) (fn:=Tryz.f31) (code:=w31b) (by kernel_rfl) (by kernel_rfl) (w31hk N) (Nat.le_of_ble_eq_true (by kernel_rfl)) (ow:=false) ((w31q N l0).symm.trans (by exact hr))
  rw [w31uo hu] at this
  exact this
def w31p (N:Nat) (l0:YL1):Bool:=(w31z N l0).isSome
def w31y0 (N:Nat) (l0:YL1):Bool:=((w31z N l0).getD false)
def w31e (N:Nat):Ent':=E1 (.sl .u8)  (fun x0=>(w31p N x0,w31r0 (w31y0 N x0)))
theorem w31re {N:Nat} {l0:YL1} {d:Bool} (hd:w31z N l0=some d):w31r0 (w31y0 N l0)=w31r0 (d):=by unfold w31y0;rw [hd];rfl
theorem w31ok (N:Nat):EOk Tryz.prog 31 (w31e N):=EOk.e1 (fun x0 h=>by
  have h:(w31z N x0).isSome=true:=h
  obtain ⟨d,hd⟩:=Option.isSome_iff_exists.1 h
  have f:=w31fin (w31cx N) hd
  rw [← w31re hd] at f
  exact f)
def w14r0 (a0:Bool):Res:=(.e .bo a0,[])
def w14L (_:Nat):List (Nat×Ent'):=[]
def w14c (N:Nat):Cx:=⟨Tryz.prog,25,w14L N,[]⟩
def w14b:Code:=Tryz.f14.body.getD .skip
theorem w14cx (N:Nat):CxOk (w14c N):=ctx_ok (by kernel_rfl) .nil .nil
def w14F0 [Alg] (_:Nat)  (self:Int->O) (k0:Bool->O) (k1:Unit->O) (x0_0:YL1) (x0_1:YL1) (x0_2:Int):O:=
  br (decide (x0_2 < (↑x0_0.length:Int)))
    (gx x0_0 x0_2 fun y5=>
    gx x0_1 x0_2 fun y6=>
    br (decide (y5≠y6))
      (k0 false)
      (self (IntKind.i64.wrap (x0_2+1))))
    (k1 ())
def w14b0:Code:=atC [1,1,0,1,0,0] w14b
def w14m0:Nm:=⟨[0,1,5],[],[]⟩
def w14I0 (x:YL1×YL1×Int):Sg:=⟨[(0,.e (.sl .u8) x.1),(1,.e (.sl .u8) x.2.1),(5,.e (.i .i64) x.2.2)],[],100⟩
def w14u0 (σ:Sg):YL1×YL1×Int:=(lvT (.sl .u8) 0 0 σ,lvT (.sl .u8) 1 0 σ,lvT (.i .i64) 5 0 σ)
theorem w14ui0:∀ x,w14u0 (w14I0 x)=x:=fun _=>by kernel_rfl
def w14X0_0 (y:Bool):Exit×Sg:=(.ret,⟨[(4,.e .bo y)],[],100⟩)
def w14v0_0 (_:Exit) (σ:Sg):Bool:=lvT .bo 4 0 σ
def w14X0_1 (_:Unit):Exit×Sg:=((.exit 0),⟨[],[],100⟩)
def w14v0_1 (_:Exit) (_:Sg):Unit:=()
def w14w0:List (Exit×Nm):=[(.ret,⟨[4],[],[]⟩),((.exit 0),⟨[],[],[]⟩)]
theorem w14o0:Outs w14v0_0 w14v0_1 (fun _ _=>()) w14X0_0 w14X0_1 (noX 2) (exC .ret) (exC (.exit 0)) (exC (.goto 2)):=⟨fun _=>by kernel_rfl,fun _=>by kernel_rfl,fun _=>by kernel_rfl,fun _=>by kernel_rfl,fun _=>by kernel_rfl,fun _=>by kernel_rfl,exNe_ok (by kernel_rfl),exNe_ok (by kernel_rfl),exNe_ok (by kernel_rfl)⟩
def w14l0 [Alg] (N:Nat):Nat->(YL1×YL1×Int)->((Bool)->O)->((Unit)->O)->((Unit)->O)->O
  | 0,_,_,_,_=>none
  | n+1,x,k0,k1,k2=>w14F0 N  (fun v0=>w14l0 N n (x.1,x.2.1,v0) k0 k1 k2) (fun y0=>k0 y0) (fun (_:Unit)=>k1 ()) x.1 x.2.1 x.2.2
def w14n0 [Alg] (N:Nat) (a0:YL1) (a1:YL1) (a2:Int) (k0:Bool->O) (k1:Unit->O):O:=w14l0 N N (a0,a1,a2) (fun y=>k0 y) (fun y=>k1 y) (fun _=>none)
def w14s0 [Alg] (N:Nat) (a0:YL1) (a1:YL1) (a2:Int) (k0:Bool->O) (k1:Unit->O):O:=subL w14I0 w14u0 (w14l0 N N) (w14I0 (a0,a1,a2)) (fun y=>k0 y) (fun y=>k1 y) (fun _=>none)
theorem w14e0 [Alg] (N:Nat):w14s0 N=w14n0 N:=funext fun _=>funext fun _=>funext fun _=>funext fun _=>funext fun _=>subL_I w14ui0 _ _ _ _
def w14h0 [Alg] (_:Nat):Hint:=.d
theorem w14hk0 (N:Nat):HintOk (w14c N) Tryz.f14.ntmps (w14h0 N) w14b0:=hk_of _ _ trivial
theorem w14q0 [Alg] (N:Nat) (self:Sg->O) (K:Exit->Sg->O) (x:YL1×YL1×Int):w14F0 N  (fun v0=>self (w14I0 (x.1,x.2.1,v0))) (fun y0=>K (w14X0_0 y0).1 (w14X0_0 y0).2) (fun (_:Unit)=>K (w14X0_1 ()).1 (w14X0_1 ()).2) x.1 x.2.1 x.2.2=exec (w14c N) Tryz.f14.ntmps (w14h0 N) w14b0 (w14I0 x) (roundX w14m0 w14w0 self K):=by kernel_rfl
theorem w14S0 (N:Nat) (hc:CxOk (w14c N)):SubOk (w14c N) Tryz.f14.ntmps (.loop w14b0) w14X0_0 w14X0_1 (noX 2) (subL w14I0 w14u0 (w14l0 N N)):=
  sub_loop hc (w14hk0 N) w14o0 (n:=N) (fun x K=>loop_ind (w14l0 N) (fun _ _ _ _=>rfl) (fun n K ih x=>by
    refine Eq.trans ?_ (w14q0 N _ K x)
    simp only [← ih]
    rfl) N x K)
def w14G [Alg] (_:Nat) (in0:YL1->YL1->Int->(Bool->O)->(Unit->O)->O) (a0:YL1) (b1:YL1):O:=
  br (decide ((↑a0.length:Int)≠(↑b1.length:Int)))
    (some (w14r0 false))
    (in0 a0 b1 0
      (fun z7=>
        some (w14r0 z7))
      (fun (_:Unit)=>
        some (w14r0 true)))
def w14 [Alg] (N:Nat) (a0:YL1) (b1:YL1):O:=w14G N (w14n0 N) a0 b1
def w14h [Alg] (N:Nat):Hint:=(.seq .d (.seq .d (.seq (.seq .d (.block (.sub w14m0 _ _ _ w14X0_0 w14X0_1 (noX 2) (subL w14I0 w14u0 (w14l0 N N))))) .d)))
theorem w14hk (N:Nat) (hc:CxOk (w14c N)):HintOk (w14c N) Tryz.f14.ntmps (w14h N) w14b:=hk_of _ _ (And.intro trivial (And.intro trivial (And.intro (And.intro trivial (w14S0 N hc)) trivial)))
theorem w14q [Alg] (N:Nat) (a0:YL1) (b1:YL1):w14G N (w14s0 N) a0 b1=exec (w14c N) Tryz.f14.ntmps (w14h N) w14b ⟨argT 0 [.e (.sl .u8) a0,.e (.sl .u8) b1],[],100⟩ (finX (w14c N) Tryz.f14 false):=by kernel_rfl
def w14un (r:Res):Option (Bool):=match r with
  | (x0,[])=>(match ue .bo x0 with | some a0=>some a0 | _=>none)
  | _=>none
theorem w14uo {r:Res} {d:Bool} (h:w14un r=some d):r=w14r0 (d):=by
  unfold w14un at h
  split at h
  . split at h
    . rename_i h0;cases h;rw [ue_some h0];rfl
    . cases h
  . cases h
def w14z (N:Nat) (a0:YL1) (b1:YL1):Option (Bool):=(w14 N a0 b1).bind w14un
theorem w14fin {N:Nat} (hc:CxOk (w14c N)) {a0:YL1} {b1:YL1} {d:Bool} (hd:w14z N a0 b1=some d):Does Tryz.prog 14 (([.e (.sl .u8) a0,.e (.sl .u8) b1]:List X).map X.D) (HA []) (w14r0 (d)).1.D (HA (w14r0 (d)).2):=by
  obtain ⟨r,hr,hu⟩:=Option.bind_eq_some_iff.1 hd
  have:=fun_ok (r:=r) hc (f:=14) (fn:=Tryz.f14) (code:=w14b) (by kernel_rfl) (by kernel_rfl) (w14hk N hc) (Nat.le_of_ble_eq_true (by kernel_rfl)) (ow:=false) ((w14q N a0 b1).symm.trans (by rw [w14e0 N];exact hr))
  rw [w14uo hu] at this
  exact this
def w14p (N:Nat) (a0:YL1) (b1:YL1):Bool:=(w14z N a0 b1).isSome
def w14y0 (N:Nat) (a0:YL1) (b1:YL1):Bool:=((w14z N a0 b1).getD false)
def w14e (N:Nat):Ent':=E2 (.sl .u8) (.sl .u8)  (fun x0 x1=>(w14p N x0 x1,w14r0 (w14y0 N x0 x1)))
theorem w14re {N:Nat} {a0:YL1} {b1:YL1} {d:Bool} (hd:w14z N a0 b1=some d):w14r0 (w14y0 N a0 b1)=w14r0 (d):=by unfold w14y0;rw [hd];rfl
theorem w14ok (N:Nat):EOk Tryz.prog 14 (w14e N):=EOk.e2 (fun x0 x1 h=>by
  have h:(w14z N x0 x1).isSome=true:=h
  obtain ⟨d,hd⟩:=Option.isSome_iff_exists.1 h
  have f:=w14fin (w14cx N) hd
  rw [← w14re hd] at f
  exact f)
def w8r0 (a0:Int) (a1:Int) (a2:(List Ex)):Res:=(.agg [.e (.i .i64) a0,.e (.i .i64) a1,.e (.sl .ex) a2],[])
def w8L (N:Nat):List (Nat×Ent'):=[(33,w33e N)]
def w8c (N:Nat):Cx:=⟨Tryz.prog,25,w8L N,[]⟩
def w8b:Code:=Tryz.f8.body.getD .skip
theorem w8cx (N:Nat):CxOk (w8c N):=ctx_ok (by kernel_rfl) (.cons (by kernel_rfl) (w33ok N) .nil) .nil
def w8G [Alg] (N:Nat)  (l0:(List Int)):O:=
  ck (w33p N l0 (4:Int)) <|
  some (w8r0 ((Ex.mk (w33y0 N l0 (4:Int)) (w33y1 N l0 (4:Int)) (w33y2 N l0 (4:Int))).op) ((Ex.mk (w33y0 N l0 (4:Int)) (w33y1 N l0 (4:Int)) (w33y2 N l0 (4:Int))).num) ((Ex.mk (w33y0 N l0 (4:Int)) (w33y1 N l0 (4:Int)) (w33y2 N l0 (4:Int))).kids))
def w8 [Alg] (N:Nat) (l0:(List Int)):O:=w8G N  l0
def w8h [Alg] (_:Nat):Hint:=.d
theorem w8hk (N:Nat):HintOk (w8c N) Tryz.f8.ntmps (w8h N) w8b:=hk_of _ _ trivial
theorem w8q [Alg] (N:Nat) (l0:(List Int)):w8G N  l0=exec (w8c N) Tryz.f8.ntmps (w8h N) w8b ⟨argT 0 [.e (.sl (.i .i64)) l0],[],100⟩ (finX (w8c N) Tryz.f8 false):=by kernel_rfl
def w8un (r:Res):Option (Int×Int×(List Ex)):=match r with
  | (.agg [x0,x1,x2],[])=>(match ue (.i .i64) x0,ue (.i .i64) x1,ue (.sl .ex) x2 with | some a0,some a1,some a2=>some (a0,a1,a2) | _,_,_=>none)
  | _=>none
theorem w8uo {r:Res} {d:Int×Int×(List Ex)} (h:w8un r=some d):r=w8r0 (d.1) (d.2.1) (d.2.2):=by
  unfold w8un at h
  split at h
  . split at h
    . rename_i h0 h1 h2;cases h;rw [ue_some h0,ue_some h1,ue_some h2];rfl
    . cases h
  . cases h
def w8z (N:Nat) (l0:(List Int)):Option (Int×Int×(List Ex)):=(w8 N l0).bind w8un
theorem w8fin {N:Nat} (hc:CxOk (w8c N)) {l0:(List Int)} {d:Int×Int×(List Ex)} (hd:w8z N l0=some d):Does Tryz.prog 8 (([.e (.sl (.i .i64)) l0]:List X).map X.D) (HA []) (w8r0 (d.1) (d.2.1) (d.2.2)).1.D (HA (w8r0 (d.1) (d.2.1) (d.2.2)).2):=by
  obtain ⟨r,hr,hu⟩:=Option.bind_eq_some_iff.1 hd
  have:=fun_ok (r:=r) hc (f:=8) (fn:=Tryz.f8) (code:=w8b) (by kernel_rfl) (by kernel_rfl) (w8hk N) (Nat.le_of_ble_eq_true (by kernel_rfl)) (ow:=false) ((w8q N l0).symm.trans (by exact hr))
  rw [w8uo hu] at this
  exact this
def w8p (N:Nat) (l0:(List Int)):Bool:=(w8z N l0).isSome
def w8y0 (N:Nat) (l0:(List Int)):Int:=((w8z N l0).getD (0,0,[])).1
def w8y1 (N:Nat) (l0:(List Int)):Int:=((w8z N l0).getD (0,0,[])).2.1
def w8y2 (N:Nat) (l0:(List Int)):(List Ex):=((w8z N l0).getD (0,0,[])).2.2
def w8e (N:Nat):Ent':=E1 (.sl (.i .i64))  (fun x0=>(w8p N x0,w8r0 (w8y0 N x0) (w8y1 N x0) (w8y2 N x0)))
theorem w8re {N:Nat} {l0:(List Int)} {d:Int×Int×(List Ex)} (hd:w8z N l0=some d):w8r0 (w8y0 N l0) (w8y1 N l0) (w8y2 N l0)=w8r0 (d.1) (d.2.1) (d.2.2):=by unfold w8y0 w8y1 w8y2;rw [hd];rfl
theorem w8ok (N:Nat):EOk Tryz.prog 8 (w8e N):=EOk.e1 (fun x0 h=>by
  have h:(w8z N x0).isSome=true:=h
  obtain ⟨d,hd⟩:=Option.isSome_iff_exists.1 h
  have f:=w8fin (w8cx N) hd
  rw [← w8re hd] at f
  exact f)
def w39r0 (a0:Int) (a1:Int) (a2:(List Ex)):Res:=(.agg [.e (.i .i64) a0,.e (.i .i64) a1,.e (.sl .ex) a2],[])
def w39L (_:Nat):List (Nat×Ent'):=[]
def w39c (N:Nat):Cx:=⟨Tryz.prog,25,w39L N,[]⟩
def w39b:Code:=Tryz.f39.body.getD .skip
theorem w39cx (N:Nat):CxOk (w39c N):=ctx_ok (by kernel_rfl) .nil .nil
def w39G [Alg] (_:Nat)   : O:=
  some (w39r0 3 0 [Ex.mk (1:Int) (0:Int) [],Ex.mk (0:Int) (12:Int) []])
def w39 [Alg] (N:Nat)  : O:=w39G N  
def w39h [Alg] (_:Nat):Hint:=.d
theorem w39hk (N:Nat):HintOk (w39c N) Tryz.f39.ntmps (w39h N) w39b:=hk_of _ _ trivial
theorem w39q [Alg] (N:Nat)  : w39G N   = exec (w39c N) Tryz.f39.ntmps (w39h N) w39b ⟨argT 0 [],[],100⟩ (finX (w39c N) Tryz.f39 false):=by kernel_rfl
def w39un (r:Res):Option (Int×Int×(List Ex)):=match r with
  | (.agg [x0,x1,x2],[])=>(match ue (.i .i64) x0,ue (.i .i64) x1,ue (.sl .ex) x2 with | some a0,some a1,some a2=>some (a0,a1,a2) | _,_,_=>none)
  | _=>none
theorem w39uo {r:Res} {d:Int×Int×(List Ex)} (h:w39un r=some d):r=w39r0 (d.1) (d.2.1) (d.2.2):=by
  unfold w39un at h
  split at h
  . split at h
    . rename_i h0 h1 h2;cases h;rw [ue_some h0,ue_some h1,ue_some h2];rfl
    . cases h
  . cases h
def w39z (N:Nat)  : Option (Int×Int×(List Ex)):=(w39 N ).bind w39un
theorem w39fin {N:Nat} (hc:CxOk (w39c N))  {d:Int×Int×(List Ex)} (hd:w39z N  = some d):Does Tryz.prog 39 (([]:List X).map X.D) (HA []) (w39r0 (d.1) (d.2.1) (d.2.2)).1.D (HA (w39r0 (d.1) (d.2.1) (d.2.2)).2):=by
  obtain ⟨r,hr,hu⟩:=Option.bind_eq_some_iff.1 hd
  have:=fun_ok (r:=r) hc (f:=39) (fn:=Tryz.f39) (code:=w39b) (by kernel_rfl) (by kernel_rfl) (w39hk N) (Nat.le_of_ble_eq_true (by kernel_rfl)) (ow:=false) ((w39q N ).symm.trans (by exact hr))
  rw [w39uo hu] at this
  exact this
def w39p (N:Nat)  : Bool:=(w39z N ).isSome
def w39y0 (N:Nat)  : Int:=((w39z N ).getD (0,0,[])).1
def w39y1 (N:Nat)  : Int:=((w39z N ).getD (0,0,[])).2.1
def w39y2 (N:Nat)  : (List Ex):=((w39z N ).getD (0,0,[])).2.2
def w39e (N:Nat):Ent':=E0   (w39p N ,w39r0 (w39y0 N ) (w39y1 N ) (w39y2 N ))
theorem w39re {N:Nat}  {d:Int×Int×(List Ex)} (hd:w39z N  = some d):w39r0 (w39y0 N ) (w39y1 N ) (w39y2 N )=w39r0 (d.1) (d.2.1) (d.2.2):=by unfold w39y0 w39y1 w39y2;rw [hd];rfl
theorem w39ok (N:Nat):EOk Tryz.prog 39 (w39e N):=EOk.e0 (fun h=>by
  have h:(w39z N ).isSome=true:=h
  obtain ⟨d,hd⟩:=Option.isSome_iff_exists.1 h
  have f:=w39fin (w39cx N) hd
  rw [← w39re hd] at f
  exact f)
def w26r0 (a0:Bool):Res:=(.e .bo a0,[])
def w26L (N:Nat):List (Nat×Ent'):=[(14,w14e N)]
def w26c (N:Nat):Cx:=⟨Tryz.prog,25,w26L N,[]⟩
def w26b:Code:=Tryz.f26.body.getD .skip
theorem w26cx (N:Nat):CxOk (w26c N):=ctx_ok (by kernel_rfl) (.cons (by kernel_rfl) (w14ok N) .nil) .nil
def w26F0 [Alg] (N:Nat)  (self:Int->O) (k0:Bool->O) (k1:Unit->O) (x0_0:(List YL1)) (x0_1:(List YL1)) (x0_2:Int):O:=
  br (decide (x0_2 < (↑x0_0.length:Int)))
    (gx x0_0 x0_2 fun y5=>
    gx x0_1 x0_2 fun y6=>
    ck (w14p N y5 y6) <|
    br (!w14y0 N y5 y6)
      (k0 false)
      (self (IntKind.i64.wrap (x0_2+1))))
    (k1 ())
def w26b0:Code:=atC [1,1,0,1,0,0] w26b
def w26m0:Nm:=⟨[0,1,5],[],[]⟩
def w26I0 (x:(List YL1)×(List YL1)×Int):Sg:=⟨[(0,.e (.sl (.sl .u8)) x.1),(1,.e (.sl (.sl .u8)) x.2.1),(5,.e (.i .i64) x.2.2)],[],100⟩
def w26u0 (σ:Sg):(List YL1)×(List YL1)×Int:=(lvT (.sl (.sl .u8)) 0 0 σ,lvT (.sl (.sl .u8)) 1 0 σ,lvT (.i .i64) 5 0 σ)
theorem w26ui0:∀ x,w26u0 (w26I0 x)=x:=fun _=>by kernel_rfl
def w26X0_0 (y:Bool):Exit×Sg:=(.ret,⟨[(4,.e .bo y)],[],100⟩)
def w26v0_0 (_:Exit) (σ:Sg):Bool:=lvT .bo 4 0 σ
def w26X0_1 (_:Unit):Exit×Sg:=((.exit 0),⟨[],[],100⟩)
def w26v0_1 (_:Exit) (_:Sg):Unit:=()
def w26w0:List (Exit×Nm):=[(.ret,⟨[4],[],[]⟩),((.exit 0),⟨[],[],[]⟩)]
theorem w26o0:Outs w26v0_0 w26v0_1 (fun _ _=>()) w26X0_0 w26X0_1 (noX 2) (exC .ret) (exC (.exit 0)) (exC (.goto 2)):=⟨fun _=>by kernel_rfl,fun _=>by kernel_rfl,fun _=>by kernel_rfl,fun _=>by kernel_rfl,fun _=>by kernel_rfl,fun _=>by kernel_rfl,exNe_ok (by kernel_rfl),exNe_ok (by kernel_rfl),exNe_ok (by kernel_rfl)⟩
def w26l0 [Alg] (N:Nat):Nat->((List YL1)×(List YL1)×Int)->((Bool)->O)->((Unit)->O)->((Unit)->O)->O
  | 0,_,_,_,_=>none
  | n+1,x,k0,k1,k2=>w26F0 N  (fun v0=>w26l0 N n (x.1,x.2.1,v0) k0 k1 k2) (fun y0=>k0 y0) (fun (_:Unit)=>k1 ()) x.1 x.2.1 x.2.2
def w26n0 [Alg] (N:Nat) (a0:(List YL1)) (a1:(List YL1)) (a2:Int) (k0:Bool->O) (k1:Unit->O):O:=w26l0 N N (a0,a1,a2) (fun y=>k0 y) (fun y=>k1 y) (fun _=>none)
def w26s0 [Alg] (N:Nat) (a0:(List YL1)) (a1:(List YL1)) (a2:Int) (k0:Bool->O) (k1:Unit->O):O:=subL w26I0 w26u0 (w26l0 N N) (w26I0 (a0,a1,a2)) (fun y=>k0 y) (fun y=>k1 y) (fun _=>none)
theorem w26e0 [Alg] (N:Nat):w26s0 N=w26n0 N:=funext fun _=>funext fun _=>funext fun _=>funext fun _=>funext fun _=>subL_I w26ui0 _ _ _ _
def w26h0 [Alg] (_:Nat):Hint:=.d
theorem w26hk0 (N:Nat):HintOk (w26c N) Tryz.f26.ntmps (w26h0 N) w26b0:=hk_of _ _ trivial
theorem w26q0 [Alg] (N:Nat) (self:Sg->O) (K:Exit->Sg->O) (x:(List YL1)×(List YL1)×Int):w26F0 N  (fun v0=>self (w26I0 (x.1,x.2.1,v0))) (fun y0=>K (w26X0_0 y0).1 (w26X0_0 y0).2) (fun (_:Unit)=>K (w26X0_1 ()).1 (w26X0_1 ()).2) x.1 x.2.1 x.2.2=exec (w26c N) Tryz.f26.ntmps (w26h0 N) w26b0 (w26I0 x) (roundX w26m0 w26w0 self K):=by kernel_rfl
theorem w26S0 (N:Nat) (hc:CxOk (w26c N)):SubOk (w26c N) Tryz.f26.ntmps (.loop w26b0) w26X0_0 w26X0_1 (noX 2) (subL w26I0 w26u0 (w26l0 N N)):=
  sub_loop hc (w26hk0 N) w26o0 (n:=N) (fun x K=>loop_ind (w26l0 N) (fun _ _ _ _=>rfl) (fun n K ih x=>by
    refine Eq.trans ?_ (w26q0 N _ K x)
    simp only [← ih]
    rfl) N x K)
def w26G [Alg] (_:Nat) (in0:(List YL1)->(List YL1)->Int->(Bool->O)->(Unit->O)->O) (a0:(List YL1)) (b1:(List YL1)):O:=
  br (decide ((↑a0.length:Int)≠(↑b1.length:Int)))
    (some (w26r0 false))
    (in0 a0 b1 0
      (fun z7=>
        some (w26r0 z7))
      (fun (_:Unit)=>
        some (w26r0 true)))
def w26 [Alg] (N:Nat) (a0:(List YL1)) (b1:(List YL1)):O:=w26G N (w26n0 N) a0 b1
def w26h [Alg] (N:Nat):Hint:=(.seq .d (.seq .d (.seq (.seq .d (.block (.sub w26m0 _ _ _ w26X0_0 w26X0_1 (noX 2) (subL w26I0 w26u0 (w26l0 N N))))) .d)))
theorem w26hk (N:Nat) (hc:CxOk (w26c N)):HintOk (w26c N) Tryz.f26.ntmps (w26h N) w26b:=hk_of _ _ (And.intro trivial (And.intro trivial (And.intro (And.intro trivial (w26S0 N hc)) trivial)))
theorem w26q [Alg] (N:Nat) (a0:(List YL1)) (b1:(List YL1)):w26G N (w26s0 N) a0 b1=exec (w26c N) Tryz.f26.ntmps (w26h N) w26b ⟨argT 0 [.e (.sl (.sl .u8)) a0,.e (.sl (.sl .u8)) b1],[],100⟩ (finX (w26c N) Tryz.f26 false):=by kernel_rfl
def w26un (r:Res):Option (Bool):=match r with
  | (x0,[])=>(match ue .bo x0 with | some a0=>some a0 | _=>none)
  | _=>none
theorem w26uo {r:Res} {d:Bool} (h:w26un r=some d):r=w26r0 (d):=by
  unfold w26un at h
  split at h
  . split at h
    . rename_i h0;cases h;rw [ue_some h0];rfl
    . cases h
  . cases h
def w26z (N:Nat) (a0:(List YL1)) (b1:(List YL1)):Option (Bool):=(w26 N a0 b1).bind w26un
theorem w26fin {N:Nat} (hc:CxOk (w26c N)) {a0:(List YL1)} {b1:(List YL1)} {d:Bool} (hd:w26z N a0 b1=some d):Does Tryz.prog 26 (([.e (.sl (.sl .u8)) a0,.e (.sl (.sl .u8)) b1]:List X).map X.D) (HA []) (w26r0 (d)).1.D (HA (w26r0 (d)).2):=by
  obtain ⟨r,hr,hu⟩:=Option.bind_eq_some_iff.1 hd
  have:=fun_ok (r:=r) hc (f:=26) (fn:=Tryz.f26) (code:=w26b) (by kernel_rfl) (by kernel_rfl) (w26hk N hc) (Nat.le_of_ble_eq_true (by kernel_rfl)) (ow:=false) ((w26q N a0 b1).symm.trans (by rw [w26e0 N];exact hr))
  rw [w26uo hu] at this
  exact this
def w26p (N:Nat) (a0:(List YL1)) (b1:(List YL1)):Bool:=(w26z N a0 b1).isSome
def w26y0 (N:Nat) (a0:(List YL1)) (b1:(List YL1)):Bool:=((w26z N a0 b1).getD false)
def w26e (N:Nat):Ent':=E2 (.sl (.sl .u8)) (.sl (.sl .u8))  (fun x0 x1=>(w26p N x0 x1,w26r0 (w26y0 N x0 x1)))
theorem w26re {N:Nat} {a0:(List YL1)} {b1:(List YL1)} {d:Bool} (hd:w26z N a0 b1=some d):w26r0 (w26y0 N a0 b1)=w26r0 (d):=by unfold w26y0;rw [hd];rfl
theorem w26ok (N:Nat):EOk Tryz.prog 26 (w26e N):=EOk.e2 (fun x0 x1 h=>by
  have h:(w26z N x0 x1).isSome=true:=h
  obtain ⟨d,hd⟩:=Option.isSome_iff_exists.1 h
  have f:=w26fin (w26cx N) hd
  rw [← w26re hd] at f
  exact f)
end
end Go.Proofs
/- The examples hold. -/

namespace Go.Proofs
open Go Go.Ax
noncomputable def w17L (N:Nat):List (Nat×Ent'):=[(39,w39e N),(10,w10e N),(12,w12e N),(24,w24e N),(20,w20e N),(16,w16e N),(22,w22e N),(14,w14e N),(15,w15e N),(26,w26e N)]
noncomputable def w17c (N:Nat):Cx:=⟨Tryz.prog,25,w17L N,[]⟩
noncomputable def w17b:Code:=Tryz.f17.body.getD .skip
theorem w17cx (N:Nat):CxOk (w17c N):=ctx_ok (by kernel_rfl) (.cons (by kernel_rfl) (w39ok N) (.cons (by kernel_rfl) (w10ok N) (.cons (by kernel_rfl) (w12ok N) (.cons (by kernel_rfl) (w24ok N) (.cons (by kernel_rfl) (w20ok N) (.cons (by kernel_rfl) (w16ok N) (.cons (by kernel_rfl) (w22ok N) (.cons (by kernel_rfl) (w14ok N) (.cons (by kernel_rfl) (w15ok N) (.cons (by kernel_rfl) (w26ok N) .nil)))))))))) .nil
theorem lives41:exec (w17c 6000) Tryz.f17.ntmps .d w17b ⟨argT 0 [],[],100⟩ (finX (w17c 6000) Tryz.f17 false)=some (.e .bo true,[]):=by kernel_rfl
theorem l17ok (N:Nat):EOk Tryz.prog 17 (l17e N):=EOk.e0 (fun _=>
  fun_ok (w17cx 6000) (f:=17) (fn:=Tryz.f17) (code:=w17b) (by kernel_rfl) (by kernel_rfl) (hk_d _) (Nat.le_of_ble_eq_true (by kernel_rfl)) (ow:=false) lives41)
end Go.Proofs
