/- What functions do. Conditions are in the theorems. -/
import Derived.Test.YtihfefggdgiodaaGreatDoorE7
import Derived.Test.YtihfefggdgiodaaGreatDoorProg
import Derived.KernelRfl
import Derived.Test.YtihfefggdgiodaaGreatDoorF0
import Derived.Test.YtihfefggdgiodaaGreatDoorF2
/- What functions do. -/
namespace Go.Proofs
noncomputable section
open Go.Ax Go.Ax.Alg Go.RowKit Go.Ab
abbrev YF3:=List UInt8
open Go
def w34r0 (a0:YF3):Res:=(.e (.sl .u8) a0,[])
def w34c (N:Nat):Cx:=⟨Tryz.prog,99999,[(56,w56e N)],[]⟩
def w34b:Code:=Tryz.f34.body.getD .skip
theorem w34cx N:CxOk (w34c N):=ctx_ok (by kernel_rfl) (.cons (by kernel_rfl) (w56ok N) .nil) .nil
def w34F0 [Alg] (_:Nat) (self:Int->Int->O) (k0:(List YF3)->Int->O) (x0_0 x0_2:(List YF3)) (x0_3 x0_1 x0_4:Int):O:=
 br (decide (x0_4 < x0_3))
  (gx x0_2 x0_4 fun y3=>
  br (decide (IntKind.i64.wrap (x0_1+(↑y3.length:Int)) < (0:Int)))
   (none)
   (self (IntKind.i64.wrap (x0_1+(↑y3.length:Int))) (IntKind.i64.wrap (x0_4+1))))
  (k0 x0_0 x0_1)
def w34b0:Code:=atC [1,1,0,1,0,0] w34b
def w34m0:Nm:=⟨[0,3,9,10,11],[],[]⟩
def w34I0 (x:(List YF3)×Int×(List YF3)×Int×Int):Sg:=⟨[(0,.e (.sl (.sl .u8)) x.1),(3,.e (.i .i64) x.2.1),(9,.e (.sl (.sl .u8)) x.2.2.1),(10,.e (.i .i64) x.2.2.2.1),(11,.e (.i .i64) x.2.2.2.2)],[],100⟩
def w34u0 (σ:Sg):(List YF3)×Int×(List YF3)×Int×Int:=(lvT (.sl (.sl .u8)) 0 0 σ,lvT (.i .i64) 3 0 σ,lvT (.sl (.sl .u8)) 9 0 σ,lvT (.i .i64) 10 0 σ,lvT (.i .i64) 11 0 σ)
theorem w34ui0:∀ x,w34u0 (w34I0 x)=x:=fun _=>by kernel_rfl
def w34X0_0 (y:(List YF3)×Int):Exit×Sg:=((.exit 0),⟨[(0,.e (.sl (.sl .u8)) y.1),(3,.e (.i .i64) y.2)],[],100⟩)
def w34v0_0 (_:Exit) (σ:Sg):(List YF3)×Int:=(lvT (.sl (.sl .u8)) 0 0 σ,lvT (.i .i64) 3 0 σ)
def w34w0:List (Exit×Nm):=[((.exit 0),⟨[0,3],[],[]⟩)]
def w34l0 [Alg] (N:Nat):Nat->((List YF3)×Int×(List YF3)×Int×Int)->(((List YF3)×Int)->O)->((Unit)->O)->((Unit)->O)->O
 | 0,_,_,_,_=>none
 | n+1,x,k0,k1,k2=>w34F0 N (fun v0 v1=>w34l0 N n (x.1,v0,x.2.2.1,x.2.2.2.1,v1) k0 k1 k2) (fun y0 y1=>k0 (y0,y1)) x.1 x.2.2.1 x.2.2.2.1 x.2.1 x.2.2.2.2
def w34n0 [Alg] N a0 a1 a2 a3 a4 (k0:(List YF3)->Int->O):=w34l0 N N (a0,a1,a2,a3,a4) (fun y=>k0 y.1 y.2) (fun _=>none) (fun _=>none)
def w34s0 [Alg] N a0 a1 a2 a3 a4 (k0:(List YF3)->Int->O):=subL w34I0 w34u0 (w34l0 N N) (w34I0 (a0,a1,a2,a3,a4)) (fun y=>k0 y.1 y.2) (fun _=>none) (fun _=>none)
theorem w34e0 [Alg] N:w34s0 N=w34n0 N:=funext fun _=>funext fun _=>funext fun _=>funext fun _=>funext fun _=>funext fun _=>subL_I w34ui0 _ _ _ _
theorem w34q0 [Alg] (N:Nat) (self:Sg->O) (K:Exit->Sg->O) (x:(List YF3)×Int×(List YF3)×Int×Int):w34F0 N (fun v0 v1=>self (w34I0 (x.1,v0,x.2.2.1,x.2.2.2.1,v1))) (fun y0 y1=>K (w34X0_0 (y0,y1)).1 (w34X0_0 (y0,y1)).2) x.1 x.2.2.1 x.2.2.2.1 x.2.1 x.2.2.2.2=exec (w34c N) Tryz.f34.ntmps .d w34b0 (w34I0 x) (roundX w34m0 w34w0 self K):=by kernel_rfl
theorem w34S0 N (hc:CxOk (w34c N)):SubOk (w34c N) Tryz.f34.ntmps (.loop w34b0) w34X0_0 (noX 1) (noX 2) (subL w34I0 w34u0 (w34l0 N N)):=
 sub_loop hc (hk_d w34b0) (oK1 w34v0_0 (.exit 0) (fun _=>by kernel_rfl) (fun _=>rfl) (by kernel_rfl)) (n:=N) (fun x K=>loop_ind (w34l0 N) (fun _ _ _ _=>rfl) (fun n K ih x=>by
  refine Eq.trans ?_ (w34q0 N _ K x);simp only [← ih];rfl) N x K)
def w34F1 [Alg] (_:Nat) (self:Int->YF3->O) (k0:YF3->O) (x6_0:(List YF3)) (x6_1 x6_2:Int) (x6_3:YF3):O:=
 br (decide (x6_2 < x6_1))
  (gx x6_0 x6_2 fun y9=>
  ck (lim (x6_3++y9).length (1:Nat)) <|
  self (IntKind.i64.wrap (x6_2+1)) (x6_3++y9))
  (k0 x6_3)
def w34b1:Code:=atC [1,1,1,1,0,1,0,0] w34b
def w34m1:Nm:=⟨[6,25,26,27],[],[]⟩
def w34I1 (x:(List YF3)×Int×Int×YF3):Sg:=⟨[(6,.own 0),(25,.e (.sl (.sl .u8)) x.1),(26,.e (.i .i64) x.2.1),(27,.e (.i .i64) x.2.2.1)],[(0,.row 5 .u8 x.2.2.2 true)],100⟩
def w34u1 (σ:Sg):(List YF3)×Int×Int×YF3:=(lvT (.sl (.sl .u8)) 25 0 σ,lvT (.i .i64) 26 0 σ,lvT (.i .i64) 27 0 σ,lvR .u8 0 σ)
theorem w34ui1:∀ x,w34u1 (w34I1 x)=x:=fun _=>by kernel_rfl
def w34X1_0 (y:YF3):Exit×Sg:=((.exit 2),⟨[(6,.own 0)],[(0,.row 5 .u8 y true)],100⟩)
def w34v1_0 (_:Exit) (σ:Sg):YF3:=lvR .u8 0 σ
def w34w1:List (Exit×Nm):=[((.exit 2),⟨[6],[],[]⟩)]
def w34l1 [Alg] (N:Nat):Nat->((List YF3)×Int×Int×YF3)->((YF3)->O)->((Unit)->O)->((Unit)->O)->O
 | 0,_,_,_,_=>none
 | n+1,x,k0,k1,k2=>w34F1 N (fun v0 v1=>w34l1 N n (x.1,x.2.1,v0,v1) k0 k1 k2) (fun y0=>k0 y0) x.1 x.2.1 x.2.2.1 x.2.2.2
def w34n1 [Alg] N a0 a1 a2 a3 (k0:YF3->O):=w34l1 N N (a0,a1,a2,a3) (fun y=>k0 y) (fun _=>none) (fun _=>none)
def w34s1 [Alg] N a0 a1 a2 a3 (k0:YF3->O):=subL w34I1 w34u1 (w34l1 N N) (w34I1 (a0,a1,a2,a3)) (fun y=>k0 y) (fun _=>none) (fun _=>none)
theorem w34e1 [Alg] N:w34s1 N=w34n1 N:=funext fun _=>funext fun _=>funext fun _=>funext fun _=>funext fun _=>subL_I w34ui1 _ _ _ _
theorem w34q1 [Alg] (N:Nat) (self:Sg->O) (K:Exit->Sg->O) (x:(List YF3)×Int×Int×YF3):w34F1 N (fun v0 v1=>self (w34I1 (x.1,x.2.1,v0,v1))) (fun y0=>K (w34X1_0 y0).1 (w34X1_0 y0).2) x.1 x.2.1 x.2.2.1 x.2.2.2=exec (w34c N) Tryz.f34.ntmps .d w34b1 (w34I1 x) (roundX w34m1 w34w1 self K):=by kernel_rfl
theorem w34S1 N (hc:CxOk (w34c N)):SubOk (w34c N) Tryz.f34.ntmps (.loop w34b1) w34X1_0 (noX 1) (noX 2) (subL w34I1 w34u1 (w34l1 N N)):=
 sub_loop hc (hk_d w34b1) (oK1 w34v1_0 (.exit 2) (fun _=>by kernel_rfl) (fun _=>rfl) (by kernel_rfl)) (n:=N) (fun x K=>loop_ind (w34l1 N) (fun _ _ _ _=>rfl) (fun n K ih x=>by
  refine Eq.trans ?_ (w34q1 N _ K x);simp only [← ih];rfl) N x K)
def w34G [Alg] (N:Nat) (in0:(List YF3)->Int->(List YF3)->Int->Int->((List YF3)->Int->O)->O) (in1:(List YF3)->Int->Int->YF3->(YF3->O)->O) (slices0:(List YF3)):O:=
 in0 slices0 0 slices0 ((↑slices0.length:Int)) 0
  (fun z4 z5=>
   ck (w56p N z5) <|
   in1 z4 ((↑z4.length:Int)) 0 []
    (fun z10=>
     some (w34r0 z10)))
def w34 [Alg] N slices0:=w34G N (w34n0 N) (w34n1 N) slices0
def w34h [Alg] (N:Nat):Hint:=(.seq .d (.seq .d (.seq (.seq .d (.block (.sub w34m0 _ _ _ w34X0_0 (noX 1) (noX 2) (subL w34I0 w34u0 (w34l0 N N))))) (.seq .d (.seq (.seq .d (.block (.sub w34m1 _ _ _ w34X1_0 (noX 1) (noX 2) (subL w34I1 w34u1 (w34l1 N N))))) .d)))))
theorem w34hk N (hc:CxOk (w34c N)):HintOk (w34c N) Tryz.f34.ntmps (w34h N) w34b:=hk_of _ _ (And.intro trivial (And.intro trivial (And.intro (And.intro trivial (w34S0 N hc)) (And.intro trivial (And.intro (And.intro trivial (w34S1 N hc)) trivial)))))
theorem w34q [Alg] N slices0:w34G N (w34s0 N) (w34s1 N) slices0=exec (w34c N) Tryz.f34.ntmps (w34h N) w34b ⟨argT 0 [.e (.sl (.sl .u8)) slices0],[],100⟩ (finX (w34c N) Tryz.f34 false):=by kernel_rfl
def w34un (r:Res):Option (YF3):=match r with
 | (x0,[])=>(match ue (.sl .u8) x0 with | some a0=>some a0 | _=>none)
 | _=>none
theorem w34uo {r d} (h:w34un r=some d):r=w34r0 (d):=by
 unfold w34un at h;split at h
 ·split at h
  ·rename_i h0;cases h;rw [ue_some h0];rfl
  ·cases h
 ·cases h
def w34z N slices0:=(w34 N slices0).bind w34un
theorem w34fin {N} (hc:CxOk (w34c N)) {slices0 d} (hd:w34z N slices0=some d):DoK Tryz.prog 34 [.e (.sl (.sl .u8)) slices0] [] (w34r0 (d)):=
 finJ hc (by kernel_rfl) (by kernel_rfl) (w34hk N hc) (by kernel_rfl) w34uo (fun hr=>(w34q N slices0).symm.trans (by rw [w34e0 N,w34e1 N];exact hr)) hd
def w34p N slices0:=(w34z N slices0).isSome
def w34y0 N slices0:=((w34z N slices0).getD [])
def w34e (N:Nat):Ent':=E1 (.sl (.sl .u8)) (fun x0=>(w34p N x0,w34r0 (w34y0 N x0)))
theorem w34ok N:EOk Tryz.prog 34 (w34e N):=EOk.e1 (fun x0 h=>okG (z:=w34z N x0) h (w34fin (w34cx N)) rfl)
def w72r0 (a0:Int):Res:=(.e (.i .i64) a0,[])
def w72c (N:Nat):Cx:=⟨Tryz.prog,99999,[(55,w55e N)],[]⟩
def w72b:Code:=Tryz.f72.body.getD .skip
theorem w72cx N:CxOk (w72c N):=ctx_ok (by kernel_rfl) (.cons (by kernel_rfl) (w55ok N) .nil) .nil
def w72F0 [Alg] (N:Nat) (self:Int->O) (k0:Int->O) (k1:Unit->O) (x0_0:YF3) (x0_1 x0_2:Int):O:=
 br (decide (x0_2 < x0_1))
  (gx x0_0 x0_2 fun y3=>
  ck (w55p N y3) <|
  br (w55y0 N y3)
   (k0 x0_2)
   (self (IntKind.i64.wrap (x0_2+1))))
  (k1 ())
def w72b0:Code:=atC [1,0,1,0,0] w72b
def w72m0:Nm:=⟨[0,1,7,8],[],[]⟩
def w72I0 (x:YF3×Int×Int):Sg:=⟨[(0,.e (.sl .u8) x.1),(1,.fn 55 []),(7,.e (.i .i64) x.2.1),(8,.e (.i .i64) x.2.2)],[],100⟩
def w72u0 (σ:Sg):YF3×Int×Int:=(lvT (.sl .u8) 0 0 σ,lvT (.i .i64) 7 0 σ,lvT (.i .i64) 8 0 σ)
theorem w72ui0:∀ x,w72u0 (w72I0 x)=x:=fun _=>by kernel_rfl
def w72X0_0 (y:Int):Exit×Sg:=(.ret,⟨[(4,.e (.i .i64) y)],[],100⟩)
def w72v0_0 (_:Exit) (σ:Sg):Int:=lvT (.i .i64) 4 0 σ
def w72X0_1 (_:Unit):Exit×Sg:=((.exit 0),⟨[],[],100⟩)
def w72v0_1 (_:Exit) (_:Sg):Unit:=()
def w72w0:List (Exit×Nm):=[(.ret,⟨[4],[],[]⟩),((.exit 0),⟨[],[],[]⟩)]
def w72l0 [Alg] (N:Nat):Nat->(YF3×Int×Int)->((Int)->O)->((Unit)->O)->((Unit)->O)->O
 | 0,_,_,_,_=>none
 | n+1,x,k0,k1,k2=>w72F0 N (fun v0=>w72l0 N n (x.1,x.2.1,v0) k0 k1 k2) (fun y0=>k0 y0) (fun (_:Unit)=>k1 ()) x.1 x.2.1 x.2.2
def w72n0 [Alg] N a0 a1 a2 (k0:Int->O) (k1:Unit->O):=w72l0 N N (a0,a1,a2) (fun y=>k0 y) (fun y=>k1 y) (fun _=>none)
def w72s0 [Alg] N a0 a1 a2 (k0:Int->O) (k1:Unit->O):=subL w72I0 w72u0 (w72l0 N N) (w72I0 (a0,a1,a2)) (fun y=>k0 y) (fun y=>k1 y) (fun _=>none)
theorem w72e0 [Alg] N:w72s0 N=w72n0 N:=funext fun _=>funext fun _=>funext fun _=>funext fun _=>funext fun _=>subL_I w72ui0 _ _ _ _
theorem w72q0 [Alg] (N:Nat) (self:Sg->O) (K:Exit->Sg->O) (x:YF3×Int×Int):w72F0 N (fun v0=>self (w72I0 (x.1,x.2.1,v0))) (fun y0=>K (w72X0_0 y0).1 (w72X0_0 y0).2) (fun (_:Unit)=>K (w72X0_1 ()).1 (w72X0_1 ()).2) x.1 x.2.1 x.2.2=exec (w72c N) Tryz.f72.ntmps .d w72b0 (w72I0 x) (roundX w72m0 w72w0 self K):=by kernel_rfl
theorem w72S0 N (hc:CxOk (w72c N)):SubOk (w72c N) Tryz.f72.ntmps (.loop w72b0) w72X0_0 w72X0_1 (noX 2) (subL w72I0 w72u0 (w72l0 N N)):=
 sub_loop hc (hk_d w72b0) (oK2 w72v0_0 w72v0_1 .ret (.exit 0) (fun _=>by kernel_rfl) (fun _=>by kernel_rfl) (fun _=>rfl) (fun _=>rfl) (by kernel_rfl)) (n:=N) (fun x K=>loop_ind (w72l0 N) (fun _ _ _ _=>rfl) (fun n K ih x=>by
  refine Eq.trans ?_ (w72q0 N _ K x);simp only [← ih];rfl) N x K)
def w72G [Alg] (_:Nat) (in0:YF3->Int->Int->(Int->O)->(Unit->O)->O) (s0:YF3):O:=
 in0 s0 ((↑s0.length:Int)) 0
  (fun z4=>
   some (w72r0 z4))
  (fun (_:Unit)=>
   some (w72r0 ((-1:Int))))
def w72 [Alg] N s0:=w72G N (w72n0 N) s0
def w72h [Alg] (N:Nat):Hint:=(.seq .d (.seq (.seq .d (.block (.sub w72m0 _ _ _ w72X0_0 w72X0_1 (noX 2) (subL w72I0 w72u0 (w72l0 N N))))) .d))
theorem w72hk N (hc:CxOk (w72c N)):HintOk (w72c N) Tryz.f72.ntmps (w72h N) w72b:=hk_of _ _ (And.intro trivial (And.intro (And.intro trivial (w72S0 N hc)) trivial))
theorem w72q [Alg] N s0:w72G N (w72s0 N) s0=exec (w72c N) Tryz.f72.ntmps (w72h N) w72b ⟨argT 0 [.e (.sl .u8) s0,.fn 55 []],[],100⟩ (finX (w72c N) Tryz.f72 false):=by kernel_rfl
def w72un (r:Res):Option (Int):=match r with
 | (x0,[])=>(match ue (.i .i64) x0 with | some a0=>some a0 | _=>none)
 | _=>none
theorem w72uo {r d} (h:w72un r=some d):r=w72r0 (d):=by
 unfold w72un at h;split at h
 ·split at h
  ·rename_i h0;cases h;rw [ue_some h0];rfl
  ·cases h
 ·cases h
def w72z N s0:=(w72 N s0).bind w72un
theorem w72fin {N} (hc:CxOk (w72c N)) {s0 d} (hd:w72z N s0=some d):DoK Tryz.prog 72 [.e (.sl .u8) s0,.fn 55 []] [] (w72r0 (d)):=
 finJ hc (by kernel_rfl) (by kernel_rfl) (w72hk N hc) (by kernel_rfl) w72uo (fun hr=>(w72q N s0).symm.trans (by rw [w72e0 N];exact hr)) hd
def w72p N s0:=(w72z N s0).isSome
def w72y0 N s0:=((w72z N s0).getD 0)
def w72e (N:Nat):Ent':=Ef1 (.sl .u8) 55 (fun x0=>(w72p N x0,w72r0 (w72y0 N x0)))
theorem w72ok N:EOk Tryz.prog 72 (w72e N):=EOk.f1 (fun x0 h=>okG (z:=w72z N x0) h (w72fin (w72cx N)) rfl)
def w53r0 (a0:Bool):Res:=(.e .bo a0,[])
def w53c (N:Nat):Cx:=⟨Tryz.prog,99999,[(55,w55e N),(72,w72e N)],[]⟩
def w53b:Code:=Tryz.f53.body.getD .skip
theorem w53cx N:CxOk (w53c N):=ctx_ok (by kernel_rfl) (.cons (by kernel_rfl) (w55ok N) (.cons (by kernel_rfl) (w72ok N) .nil)) .nil
def w53G [Alg] (N:Nat) (s0:YF3):O:=
 ck (w72p N s0) <|
 some (w53r0 (decide ((0:Int)<=w72y0 N s0)))
def w53 [Alg] N s0:=w53G N s0
def w53h [Alg] (_:Nat):Hint:=.d
theorem w53hk N:HintOk (w53c N) Tryz.f53.ntmps (w53h N) w53b:=hk_of _ _ trivial
theorem w53q [Alg] N s0:w53G N s0=exec (w53c N) Tryz.f53.ntmps (w53h N) w53b ⟨argT 0 [.e (.sl .u8) s0,.fn 55 []],[],100⟩ (finX (w53c N) Tryz.f53 false):=by kernel_rfl
def w53un (r:Res):Option (Bool):=match r with
 | (x0,[])=>(match ue .bo x0 with | some a0=>some a0 | _=>none)
 | _=>none
theorem w53uo {r d} (h:w53un r=some d):r=w53r0 (d):=by
 unfold w53un at h;split at h
 ·split at h
  ·rename_i h0;cases h;rw [ue_some h0];rfl
  ·cases h
 ·cases h
def w53z N s0:=(w53 N s0).bind w53un
theorem w53fin {N} (hc:CxOk (w53c N)) {s0 d} (hd:w53z N s0=some d):DoK Tryz.prog 53 [.e (.sl .u8) s0,.fn 55 []] [] (w53r0 (d)):=
 finJ hc (by kernel_rfl) (by kernel_rfl) (w53hk N) (by kernel_rfl) w53uo (w53q N s0).symm.trans hd
def w53p N s0:=(w53z N s0).isSome
def w53y0 N s0:=((w53z N s0).getD false)
def w53e (N:Nat):Ent':=Ef1 (.sl .u8) 55 (fun x0=>(w53p N x0,w53r0 (w53y0 N x0)))
theorem w53ok N:EOk Tryz.prog 53 (w53e N):=EOk.f1 (fun x0 h=>okG (z:=w53z N x0) h (w53fin (w53cx N)) rfl)
def w63r0 (a0:Bool):Res:=(.e .bo a0,[])
def w63c (_:Nat):Cx:=⟨Tryz.prog,99999,[],[]⟩
def w63b:Code:=Tryz.f63.body.getD .skip
theorem w63cx N:CxOk (w63c N):=ctx_ok (by kernel_rfl) .nil .nil
def w63G [Alg] (_:Nat) (s0:YF3):O:=
 some (w63r0 (decide ((80:Int) < (↑s0.length:Int))))
def w63 [Alg] N s0:=w63G N s0
def w63h [Alg] (_:Nat):Hint:=.d
theorem w63hk N:HintOk (w63c N) Tryz.f63.ntmps (w63h N) w63b:=hk_of _ _ trivial
theorem w63q [Alg] N s0:w63G N s0=exec (w63c N) Tryz.f63.ntmps (w63h N) w63b ⟨argT 0 [.e .tx s0],[],100⟩ (finX (w63c N) Tryz.f63 false):=by kernel_rfl
def w63un (r:Res):Option (Bool):=match r with
 | (x0,[])=>(match ue .bo x0 with | some a0=>some a0 | _=>none)
 | _=>none
theorem w63uo {r d} (h:w63un r=some d):r=w63r0 (d):=by
 unfold w63un at h;split at h
 ·split at h
  ·rename_i h0;cases h;rw [ue_some h0];rfl
  ·cases h
 ·cases h
def w63z N s0:=(w63 N s0).bind w63un
theorem w63fin {N} (hc:CxOk (w63c N)) {s0 d} (hd:w63z N s0=some d):DoK Tryz.prog 63 [.e .tx s0] [] (w63r0 (d)):=
 finJ hc (by kernel_rfl) (by kernel_rfl) (w63hk N) (by kernel_rfl) w63uo (w63q N s0).symm.trans hd
def w63p N s0:=(w63z N s0).isSome
def w63y0 N s0:=((w63z N s0).getD false)
def w63e (N:Nat):Ent':=E1 .tx (fun x0=>(w63p N x0,w63r0 (w63y0 N x0)))
theorem w63ok N:EOk Tryz.prog 63 (w63e N):=EOk.e1 (fun x0 h=>okG (z:=w63z N x0) h (w63fin (w63cx N)) rfl)
def w77r0 (a0:Int):Res:=(.e (.i .i64) a0,[])
def w77c (N:Nat):Cx:=⟨Tryz.prog,99999,[(63,w63e N)],[]⟩
def w77b:Code:=Tryz.f77.body.getD .skip
theorem w77cx N:CxOk (w77c N):=ctx_ok (by kernel_rfl) (.cons (by kernel_rfl) (w63ok N) .nil) .nil
def w77F0 [Alg] (N:Nat) (self:Int->O) (k0:Int->O) (k1:Unit->O) (x0_0:(List YF3)) (x0_1 x0_2:Int):O:=
 br (decide (x0_2 < x0_1))
  (gx x0_0 x0_2 fun y3=>
  ck (w63p N y3) <|
  br (w63y0 N y3)
   (k0 x0_2)
   (self (IntKind.i64.wrap (x0_2+1))))
  (k1 ())
def w77b0:Code:=atC [1,0,1,0,0] w77b
def w77m0:Nm:=⟨[0,1,7,8],[],[]⟩
def w77I0 (x:(List YF3)×Int×Int):Sg:=⟨[(0,.e (.sl .tx) x.1),(1,.fn 63 []),(7,.e (.i .i64) x.2.1),(8,.e (.i .i64) x.2.2)],[],100⟩
def w77u0 (σ:Sg):(List YF3)×Int×Int:=(lvT (.sl .tx) 0 0 σ,lvT (.i .i64) 7 0 σ,lvT (.i .i64) 8 0 σ)
theorem w77ui0:∀ x,w77u0 (w77I0 x)=x:=fun _=>by kernel_rfl
def w77X0_0 (y:Int):Exit×Sg:=(.ret,⟨[(4,.e (.i .i64) y)],[],100⟩)
def w77v0_0 (_:Exit) (σ:Sg):Int:=lvT (.i .i64) 4 0 σ
def w77X0_1 (_:Unit):Exit×Sg:=((.exit 0),⟨[],[],100⟩)
def w77v0_1 (_:Exit) (_:Sg):Unit:=()
def w77w0:List (Exit×Nm):=[(.ret,⟨[4],[],[]⟩),((.exit 0),⟨[],[],[]⟩)]
def w77l0 [Alg] (N:Nat):Nat->((List YF3)×Int×Int)->((Int)->O)->((Unit)->O)->((Unit)->O)->O
 | 0,_,_,_,_=>none
 | n+1,x,k0,k1,k2=>w77F0 N (fun v0=>w77l0 N n (x.1,x.2.1,v0) k0 k1 k2) (fun y0=>k0 y0) (fun (_:Unit)=>k1 ()) x.1 x.2.1 x.2.2
def w77n0 [Alg] N a0 a1 a2 (k0:Int->O) (k1:Unit->O):=w77l0 N N (a0,a1,a2) (fun y=>k0 y) (fun y=>k1 y) (fun _=>none)
def w77s0 [Alg] N a0 a1 a2 (k0:Int->O) (k1:Unit->O):=subL w77I0 w77u0 (w77l0 N N) (w77I0 (a0,a1,a2)) (fun y=>k0 y) (fun y=>k1 y) (fun _=>none)
theorem w77e0 [Alg] N:w77s0 N=w77n0 N:=funext fun _=>funext fun _=>funext fun _=>funext fun _=>funext fun _=>subL_I w77ui0 _ _ _ _
theorem w77q0 [Alg] (N:Nat) (self:Sg->O) (K:Exit->Sg->O) (x:(List YF3)×Int×Int):w77F0 N (fun v0=>self (w77I0 (x.1,x.2.1,v0))) (fun y0=>K (w77X0_0 y0).1 (w77X0_0 y0).2) (fun (_:Unit)=>K (w77X0_1 ()).1 (w77X0_1 ()).2) x.1 x.2.1 x.2.2=exec (w77c N) Tryz.f77.ntmps .d w77b0 (w77I0 x) (roundX w77m0 w77w0 self K):=by kernel_rfl
theorem w77S0 N (hc:CxOk (w77c N)):SubOk (w77c N) Tryz.f77.ntmps (.loop w77b0) w77X0_0 w77X0_1 (noX 2) (subL w77I0 w77u0 (w77l0 N N)):=
 sub_loop hc (hk_d w77b0) (oK2 w77v0_0 w77v0_1 .ret (.exit 0) (fun _=>by kernel_rfl) (fun _=>by kernel_rfl) (fun _=>rfl) (fun _=>rfl) (by kernel_rfl)) (n:=N) (fun x K=>loop_ind (w77l0 N) (fun _ _ _ _=>rfl) (fun n K ih x=>by
  refine Eq.trans ?_ (w77q0 N _ K x);simp only [← ih];rfl) N x K)
def w77G [Alg] (_:Nat) (in0:(List YF3)->Int->Int->(Int->O)->(Unit->O)->O) (s0:(List YF3)):O:=
 in0 s0 ((↑s0.length:Int)) 0
  (fun z4=>
   some (w77r0 z4))
  (fun (_:Unit)=>
   some (w77r0 ((-1:Int))))
def w77 [Alg] N s0:=w77G N (w77n0 N) s0
def w77h [Alg] (N:Nat):Hint:=(.seq .d (.seq (.seq .d (.block (.sub w77m0 _ _ _ w77X0_0 w77X0_1 (noX 2) (subL w77I0 w77u0 (w77l0 N N))))) .d))
theorem w77hk N (hc:CxOk (w77c N)):HintOk (w77c N) Tryz.f77.ntmps (w77h N) w77b:=hk_of _ _ (And.intro trivial (And.intro (And.intro trivial (w77S0 N hc)) trivial))
theorem w77q [Alg] N s0:w77G N (w77s0 N) s0=exec (w77c N) Tryz.f77.ntmps (w77h N) w77b ⟨argT 0 [.e (.sl .tx) s0,.fn 63 []],[],100⟩ (finX (w77c N) Tryz.f77 false):=by kernel_rfl
def w77un (r:Res):Option (Int):=match r with
 | (x0,[])=>(match ue (.i .i64) x0 with | some a0=>some a0 | _=>none)
 | _=>none
theorem w77uo {r d} (h:w77un r=some d):r=w77r0 (d):=by
 unfold w77un at h;split at h
 ·split at h
  ·rename_i h0;cases h;rw [ue_some h0];rfl
  ·cases h
 ·cases h
def w77z N s0:=(w77 N s0).bind w77un
theorem w77fin {N} (hc:CxOk (w77c N)) {s0 d} (hd:w77z N s0=some d):DoK Tryz.prog 77 [.e (.sl .tx) s0,.fn 63 []] [] (w77r0 (d)):=
 finJ hc (by kernel_rfl) (by kernel_rfl) (w77hk N hc) (by kernel_rfl) w77uo (fun hr=>(w77q N s0).symm.trans (by rw [w77e0 N];exact hr)) hd
def w77p N s0:=(w77z N s0).isSome
def w77y0 N s0:=((w77z N s0).getD 0)
def w77e (N:Nat):Ent':=Ef1 (.sl .tx) 63 (fun x0=>(w77p N x0,w77r0 (w77y0 N x0)))
theorem w77ok N:EOk Tryz.prog 77 (w77e N):=EOk.f1 (fun x0 h=>okG (z:=w77z N x0) h (w77fin (w77cx N)) rfl)
def w62r0 (a0:Bool):Res:=(.e .bo a0,[])
def w62c (N:Nat):Cx:=⟨Tryz.prog,99999,[(63,w63e N),(77,w77e N)],[]⟩
def w62b:Code:=Tryz.f62.body.getD .skip
theorem w62cx N:CxOk (w62c N):=ctx_ok (by kernel_rfl) (.cons (by kernel_rfl) (w63ok N) (.cons (by kernel_rfl) (w77ok N) .nil)) .nil
def w62G [Alg] (N:Nat) (s0:(List YF3)):O:=
 ck (w77p N s0) <|
 some (w62r0 (decide ((0:Int)<=w77y0 N s0)))
def w62 [Alg] N s0:=w62G N s0
def w62h [Alg] (_:Nat):Hint:=.d
theorem w62hk N:HintOk (w62c N) Tryz.f62.ntmps (w62h N) w62b:=hk_of _ _ trivial
theorem w62q [Alg] N s0:w62G N s0=exec (w62c N) Tryz.f62.ntmps (w62h N) w62b ⟨argT 0 [.e (.sl .tx) s0,.fn 63 []],[],100⟩ (finX (w62c N) Tryz.f62 false):=by kernel_rfl
def w62un (r:Res):Option (Bool):=match r with
 | (x0,[])=>(match ue .bo x0 with | some a0=>some a0 | _=>none)
 | _=>none
theorem w62uo {r d} (h:w62un r=some d):r=w62r0 (d):=by
 unfold w62un at h;split at h
 ·split at h
  ·rename_i h0;cases h;rw [ue_some h0];rfl
  ·cases h
 ·cases h
def w62z N s0:=(w62 N s0).bind w62un
theorem w62fin {N} (hc:CxOk (w62c N)) {s0 d} (hd:w62z N s0=some d):DoK Tryz.prog 62 [.e (.sl .tx) s0,.fn 63 []] [] (w62r0 (d)):=
 finJ hc (by kernel_rfl) (by kernel_rfl) (w62hk N) (by kernel_rfl) w62uo (w62q N s0).symm.trans hd
def w62p N s0:=(w62z N s0).isSome
def w62y0 N s0:=((w62z N s0).getD false)
def w62e (N:Nat):Ent':=Ef1 (.sl .tx) 63 (fun x0=>(w62p N x0,w62r0 (w62y0 N x0)))
theorem w62ok N:EOk Tryz.prog 62 (w62e N):=EOk.f1 (fun x0 h=>okG (z:=w62z N x0) h (w62fin (w62cx N)) rfl)
def w42r0 (a0:Bool):Res:=(.e .bo a0,[])
def w42c (_:Nat):Cx:=⟨Tryz.prog,99999,[],[]⟩
def w42b:Code:=Tryz.f42.body.getD .skip
theorem w42cx N:CxOk (w42c N):=ctx_ok (by kernel_rfl) .nil .nil
def w42G [Alg] (_:Nat) (a0 b1:YF3):O:=
 some (w42r0 (decide (a0=b1)))
def w42 [Alg] N a0 b1:=w42G N a0 b1
def w42h [Alg] (_:Nat):Hint:=.d
theorem w42hk N:HintOk (w42c N) Tryz.f42.ntmps (w42h N) w42b:=hk_of _ _ trivial
theorem w42q [Alg] N a0 b1:w42G N a0 b1=exec (w42c N) Tryz.f42.ntmps (w42h N) w42b ⟨argT 0 [.e (.sl .u8) a0,.e (.sl .u8) b1],[],100⟩ (finX (w42c N) Tryz.f42 false):=by kernel_rfl
def w42un (r:Res):Option (Bool):=match r with
 | (x0,[])=>(match ue .bo x0 with | some a0=>some a0 | _=>none)
 | _=>none
theorem w42uo {r d} (h:w42un r=some d):r=w42r0 (d):=by
 unfold w42un at h;split at h
 ·split at h
  ·rename_i h0;cases h;rw [ue_some h0];rfl
  ·cases h
 ·cases h
def w42z N a0 b1:=(w42 N a0 b1).bind w42un
theorem w42fin {N} (hc:CxOk (w42c N)) {a0 b1 d} (hd:w42z N a0 b1=some d):DoK Tryz.prog 42 [.e (.sl .u8) a0,.e (.sl .u8) b1] [] (w42r0 (d)):=
 finJ hc (by kernel_rfl) (by kernel_rfl) (w42hk N) (by kernel_rfl) w42uo (w42q N a0 b1).symm.trans hd
def w42p N a0 b1:=(w42z N a0 b1).isSome
def w42y0 N a0 b1:=((w42z N a0 b1).getD false)
def w42e (N:Nat):Ent':=E2 (.sl .u8) (.sl .u8) (fun x0 x1=>(w42p N x0 x1,w42r0 (w42y0 N x0 x1)))
theorem w42ok N:EOk Tryz.prog 42 (w42e N):=EOk.e2 (fun x0 x1 h=>okG (z:=w42z N x0 x1) h (w42fin (w42cx N)) rfl)
def w50r0 (a0:Bool):Res:=(.e .bo a0,[])
def w50c (N:Nat):Cx:=⟨Tryz.prog,99999,[(42,w42e N)],[]⟩
def w50b:Code:=Tryz.f50.body.getD .skip
theorem w50cx N:CxOk (w50c N):=ctx_ok (by kernel_rfl) (.cons (by kernel_rfl) (w42ok N) .nil) .nil
def w50F0 [Alg] (N:Nat) (self:Int->O) (k0:Bool->O) (k1:Unit->O) (x0_0 x0_1:(List YF3)) (x0_2 x0_3:Int):O:=
 br (decide (x0_3 < x0_2))
  (gx x0_1 x0_3 fun y5=>
  gx x0_0 x0_3 fun y6=>
  ck (w42p N y5 y6) <|
  br (!w42y0 N y5 y6)
   (k0 false)
   (self (IntKind.i64.wrap (x0_3+1))))
  (k1 ())
def w50b0:Code:=atC [1,1,0,1,0,0] w50b
def w50m0:Nm:=⟨[1,2,15,16,17],[],[]⟩
def w50I0 (x:(List YF3)×(List YF3)×Int×Int):Sg:=⟨[(1,.e (.sl (.sl .u8)) x.1),(2,.fn 42 []),(15,.e (.sl (.sl .u8)) x.2.1),(16,.e (.i .i64) x.2.2.1),(17,.e (.i .i64) x.2.2.2)],[],100⟩
def w50u0 (σ:Sg):(List YF3)×(List YF3)×Int×Int:=(lvT (.sl (.sl .u8)) 1 0 σ,lvT (.sl (.sl .u8)) 15 0 σ,lvT (.i .i64) 16 0 σ,lvT (.i .i64) 17 0 σ)
theorem w50ui0:∀ x,w50u0 (w50I0 x)=x:=fun _=>by kernel_rfl
def w50X0_0 (y:Bool):Exit×Sg:=(.ret,⟨[(6,.e .bo y)],[],100⟩)
def w50v0_0 (_:Exit) (σ:Sg):Bool:=lvT .bo 6 0 σ
def w50X0_1 (_:Unit):Exit×Sg:=((.exit 0),⟨[],[],100⟩)
def w50v0_1 (_:Exit) (_:Sg):Unit:=()
def w50w0:List (Exit×Nm):=[(.ret,⟨[6],[],[]⟩),((.exit 0),⟨[],[],[]⟩)]
def w50l0 [Alg] (N:Nat):Nat->((List YF3)×(List YF3)×Int×Int)->((Bool)->O)->((Unit)->O)->((Unit)->O)->O
 | 0,_,_,_,_=>none
 | n+1,x,k0,k1,k2=>w50F0 N (fun v0=>w50l0 N n (x.1,x.2.1,x.2.2.1,v0) k0 k1 k2) (fun y0=>k0 y0) (fun (_:Unit)=>k1 ()) x.1 x.2.1 x.2.2.1 x.2.2.2
def w50n0 [Alg] N a0 a1 a2 a3 (k0:Bool->O) (k1:Unit->O):=w50l0 N N (a0,a1,a2,a3) (fun y=>k0 y) (fun y=>k1 y) (fun _=>none)
def w50s0 [Alg] N a0 a1 a2 a3 (k0:Bool->O) (k1:Unit->O):=subL w50I0 w50u0 (w50l0 N N) (w50I0 (a0,a1,a2,a3)) (fun y=>k0 y) (fun y=>k1 y) (fun _=>none)
theorem w50e0 [Alg] N:w50s0 N=w50n0 N:=funext fun _=>funext fun _=>funext fun _=>funext fun _=>funext fun _=>funext fun _=>subL_I w50ui0 _ _ _ _
theorem w50q0 [Alg] (N:Nat) (self:Sg->O) (K:Exit->Sg->O) (x:(List YF3)×(List YF3)×Int×Int):w50F0 N (fun v0=>self (w50I0 (x.1,x.2.1,x.2.2.1,v0))) (fun y0=>K (w50X0_0 y0).1 (w50X0_0 y0).2) (fun (_:Unit)=>K (w50X0_1 ()).1 (w50X0_1 ()).2) x.1 x.2.1 x.2.2.1 x.2.2.2=exec (w50c N) Tryz.f50.ntmps .d w50b0 (w50I0 x) (roundX w50m0 w50w0 self K):=by kernel_rfl
theorem w50S0 N (hc:CxOk (w50c N)):SubOk (w50c N) Tryz.f50.ntmps (.loop w50b0) w50X0_0 w50X0_1 (noX 2) (subL w50I0 w50u0 (w50l0 N N)):=
 sub_loop hc (hk_d w50b0) (oK2 w50v0_0 w50v0_1 .ret (.exit 0) (fun _=>by kernel_rfl) (fun _=>by kernel_rfl) (fun _=>rfl) (fun _=>rfl) (by kernel_rfl)) (n:=N) (fun x K=>loop_ind (w50l0 N) (fun _ _ _ _=>rfl) (fun n K ih x=>by
  refine Eq.trans ?_ (w50q0 N _ K x);simp only [← ih];rfl) N x K)
def w50G [Alg] (_:Nat) (in0:(List YF3)->(List YF3)->Int->Int->(Bool->O)->(Unit->O)->O) (s10 s21:(List YF3)):O:=
 br (decide ((↑s10.length:Int)≠(↑s21.length:Int)))
  (some (w50r0 false))
  (in0 s21 s10 ((↑s10.length:Int)) 0
   (fun z7=>
    some (w50r0 z7))
   (fun (_:Unit)=>
    some (w50r0 true)))
def w50 [Alg] N s10 s21:=w50G N (w50n0 N) s10 s21
def w50h [Alg] (N:Nat):Hint:=(.seq .d (.seq .d (.seq (.seq .d (.block (.sub w50m0 _ _ _ w50X0_0 w50X0_1 (noX 2) (subL w50I0 w50u0 (w50l0 N N))))) .d)))
theorem w50hk N (hc:CxOk (w50c N)):HintOk (w50c N) Tryz.f50.ntmps (w50h N) w50b:=hk_of _ _ (And.intro trivial (And.intro trivial (And.intro (And.intro trivial (w50S0 N hc)) trivial)))
theorem w50q [Alg] N s10 s21:w50G N (w50s0 N) s10 s21=exec (w50c N) Tryz.f50.ntmps (w50h N) w50b ⟨argT 0 [.e (.sl (.sl .u8)) s10,.e (.sl (.sl .u8)) s21,.fn 42 []],[],100⟩ (finX (w50c N) Tryz.f50 false):=by kernel_rfl
def w50un (r:Res):Option (Bool):=match r with
 | (x0,[])=>(match ue .bo x0 with | some a0=>some a0 | _=>none)
 | _=>none
theorem w50uo {r d} (h:w50un r=some d):r=w50r0 (d):=by
 unfold w50un at h;split at h
 ·split at h
  ·rename_i h0;cases h;rw [ue_some h0];rfl
  ·cases h
 ·cases h
def w50z N s10 s21:=(w50 N s10 s21).bind w50un
theorem w50fin {N} (hc:CxOk (w50c N)) {s10 s21 d} (hd:w50z N s10 s21=some d):DoK Tryz.prog 50 [.e (.sl (.sl .u8)) s10,.e (.sl (.sl .u8)) s21,.fn 42 []] [] (w50r0 (d)):=
 finJ hc (by kernel_rfl) (by kernel_rfl) (w50hk N hc) (by kernel_rfl) w50uo (fun hr=>(w50q N s10 s21).symm.trans (by rw [w50e0 N];exact hr)) hd
def w50p N s10 s21:=(w50z N s10 s21).isSome
def w50y0 N s10 s21:=((w50z N s10 s21).getD false)
def w50e (N:Nat):Ent':=Ef2 (.sl (.sl .u8)) (.sl (.sl .u8)) 42 (fun x0 x1=>(w50p N x0 x1,w50r0 (w50y0 N x0 x1)))
theorem w50ok N:EOk Tryz.prog 50 (w50e N):=EOk.f2 (fun x0 x1 h=>okG (z:=w50z N x0 x1) h (w50fin (w50cx N)) rfl)
def w36r0 (a0:YF3):Res:=(.fn 58 [.ref 100 0],[(100,.box 9 [.e .tx a0])])
def w36c (_:Nat):Cx:=⟨Tryz.prog,99999,[],[]⟩
def w36b:Code:=Tryz.f36.body.getD .skip
theorem w36cx N:CxOk (w36c N):=ctx_ok (by kernel_rfl) .nil .nil
def w36G [Alg] (_:Nat) (s0:YF3):O:=
 some (w36r0 s0)
def w36 [Alg] N s0:=w36G N s0
def w36h [Alg] (_:Nat):Hint:=.d
theorem w36hk N:HintOk (w36c N) Tryz.f36.ntmps (w36h N) w36b:=hk_of _ _ trivial
theorem w36q [Alg] N s0:w36G N s0=exec (w36c N) Tryz.f36.ntmps (w36h N) w36b ⟨argT 0 [.e .tx s0],[],100⟩ (finX (w36c N) Tryz.f36 false):=by kernel_rfl
def w36un (r:Res):Option (YF3):=match r with
 | (.fn 58 [.ref 100 0],[(100,.box 9 [x0])])=>(match ue .tx x0 with | some a0=>some a0 | _=>none)
 | _=>none
theorem w36uo {r d} (h:w36un r=some d):r=w36r0 (d):=by
 unfold w36un at h;split at h
 ·split at h
  ·rename_i h0;cases h;rw [ue_some h0];rfl
  ·cases h
 ·cases h
def w36z N s0:=(w36 N s0).bind w36un
theorem w36fin {N} (hc:CxOk (w36c N)) {s0 d} (hd:w36z N s0=some d):DoK Tryz.prog 36 [.e .tx s0] [] (w36r0 (d)):=
 finJ hc (by kernel_rfl) (by kernel_rfl) (w36hk N) (by kernel_rfl) w36uo (w36q N s0).symm.trans hd
def w36p N s0:=(w36z N s0).isSome
def w36y0 N s0:=((w36z N s0).getD [])
def w36e (N:Nat):Ent':=E1 .tx (fun x0=>(w36p N x0,w36r0 (w36y0 N x0)))
theorem w36ok N:EOk Tryz.prog 36 (w36e N):=EOk.e1 (fun x0 h=>okG (z:=w36z N x0) h (w36fin (w36cx N)) rfl)
def w65r0 (a0:YF3):Res:=(.fn 78 [.ref 100 0],[(100,.box 9 [.e .tx a0])])
def w65c (_:Nat):Cx:=⟨Tryz.prog,99999,[],[]⟩
def w65b:Code:=Tryz.f65.body.getD .skip
theorem w65cx N:CxOk (w65c N):=ctx_ok (by kernel_rfl) .nil .nil
def w65G [Alg] (_:Nat) (s0:YF3):O:=
 some (w65r0 s0)
def w65 [Alg] N s0:=w65G N s0
def w65h [Alg] (_:Nat):Hint:=.d
theorem w65hk N:HintOk (w65c N) Tryz.f65.ntmps (w65h N) w65b:=hk_of _ _ trivial
theorem w65q [Alg] N s0:w65G N s0=exec (w65c N) Tryz.f65.ntmps (w65h N) w65b ⟨argT 0 [.e .tx s0],[],100⟩ (finX (w65c N) Tryz.f65 false):=by kernel_rfl
def w65un (r:Res):Option (YF3):=match r with
 | (.fn 78 [.ref 100 0],[(100,.box 9 [x0])])=>(match ue .tx x0 with | some a0=>some a0 | _=>none)
 | _=>none
theorem w65uo {r d} (h:w65un r=some d):r=w65r0 (d):=by
 unfold w65un at h;split at h
 ·split at h
  ·rename_i h0;cases h;rw [ue_some h0];rfl
  ·cases h
 ·cases h
def w65z N s0:=(w65 N s0).bind w65un
theorem w65fin {N} (hc:CxOk (w65c N)) {s0 d} (hd:w65z N s0=some d):DoK Tryz.prog 65 [.e .tx s0] [] (w65r0 (d)):=
 finJ hc (by kernel_rfl) (by kernel_rfl) (w65hk N) (by kernel_rfl) w65uo (w65q N s0).symm.trans hd
def w65p N s0:=(w65z N s0).isSome
def w65y0 N s0:=((w65z N s0).getD [])
def w65e (N:Nat):Ent':=E1 .tx (fun x0=>(w65p N x0,w65r0 (w65y0 N x0)))
theorem w65ok N:EOk Tryz.prog 65 (w65e N):=EOk.e1 (fun x0 h=>okG (z:=w65z N x0) h (w65fin (w65cx N)) rfl)
def w41r0 (a0:Bool):Res:=(.e .bo a0,[])
def w41c (N:Nat):Cx:=⟨Tryz.prog,99999,[(42,w42e N)],[]⟩
def w41b:Code:=Tryz.f41.body.getD .skip
theorem w41cx N:CxOk (w41c N):=ctx_ok (by kernel_rfl) (.cons (by kernel_rfl) (w42ok N) .nil) .nil
def w41G [Alg] (N:Nat) (s0 prefix1:YF3):O:=
 ck (!decide ((↑prefix1.length:Int)<=(↑s0.length:Int))||slcOk s0.length none (some (↑prefix1.length:Int))) <|
 ck (!decide ((↑prefix1.length:Int)<=(↑s0.length:Int))||w42p N (slc s0 none (some (↑prefix1.length:Int))) prefix1) <|
 some (w41r0 (decide ((↑prefix1.length:Int)<=(↑s0.length:Int))&&w42y0 N (slc s0 none (some (↑prefix1.length:Int))) prefix1))
def w41 [Alg] N s0 prefix1:=w41G N s0 prefix1
def w41h [Alg] (_:Nat):Hint:=.d
theorem w41hk N:HintOk (w41c N) Tryz.f41.ntmps (w41h N) w41b:=hk_of _ _ trivial
theorem w41q [Alg] N s0 prefix1:w41G N s0 prefix1=exec (w41c N) Tryz.f41.ntmps (w41h N) w41b ⟨argT 0 [.e (.sl .u8) s0,.e (.sl .u8) prefix1],[],100⟩ (finX (w41c N) Tryz.f41 false):=by kernel_rfl
def w41un (r:Res):Option (Bool):=match r with
 | (x0,[])=>(match ue .bo x0 with | some a0=>some a0 | _=>none)
 | _=>none
theorem w41uo {r d} (h:w41un r=some d):r=w41r0 (d):=by
 unfold w41un at h;split at h
 ·split at h
  ·rename_i h0;cases h;rw [ue_some h0];rfl
  ·cases h
 ·cases h
def w41z N s0 prefix1:=(w41 N s0 prefix1).bind w41un
theorem w41fin {N} (hc:CxOk (w41c N)) {s0 prefix1 d} (hd:w41z N s0 prefix1=some d):DoK Tryz.prog 41 [.e (.sl .u8) s0,.e (.sl .u8) prefix1] [] (w41r0 (d)):=
 finJ hc (by kernel_rfl) (by kernel_rfl) (w41hk N) (by kernel_rfl) w41uo (w41q N s0 prefix1).symm.trans hd
def w41p N s0 prefix1:=(w41z N s0 prefix1).isSome
def w41y0 N s0 prefix1:=((w41z N s0 prefix1).getD false)
def w41e (N:Nat):Ent':=E2 (.sl .u8) (.sl .u8) (fun x0 x1=>(w41p N x0 x1,w41r0 (w41y0 N x0 x1)))
theorem w41ok N:EOk Tryz.prog 41 (w41e N):=EOk.e2 (fun x0 x1 h=>okG (z:=w41z N x0 x1) h (w41fin (w41cx N)) rfl)
def w24r0 (a0:Bool):Res:=(.e .bo a0,[])
def w24c (_:Nat):Cx:=⟨Tryz.prog,99999,[],[]⟩
def w24b:Code:=Tryz.f24.body.getD .skip
theorem w24cx N:CxOk (w24c N):=ctx_ok (by kernel_rfl) .nil .nil
def w24F0 [Alg] (_:Nat) (self:Int->O) (k0:Bool->O) (k1:Unit->O) (x0_0 x0_1:(List Int)) (x0_2:Int):O:=
 br (decide (x0_2 < (↑x0_0.length:Int)))
  (gx x0_0 x0_2 fun y5=>
  gx x0_1 x0_2 fun y6=>
  br (decide (y5≠y6))
   (k0 false)
   (self (IntKind.i64.wrap (x0_2+1))))
  (k1 ())
def w24b0:Code:=atC [1,1,0,1,0,0] w24b
def w24m0:Nm:=⟨[0,1,5],[],[]⟩
def w24I0 (x:(List Int)×(List Int)×Int):Sg:=⟨[(0,.e (.sl (.i .i64)) x.1),(1,.e (.sl (.i .i64)) x.2.1),(5,.e (.i .i64) x.2.2)],[],100⟩
def w24u0 (σ:Sg):(List Int)×(List Int)×Int:=(lvT (.sl (.i .i64)) 0 0 σ,lvT (.sl (.i .i64)) 1 0 σ,lvT (.i .i64) 5 0 σ)
theorem w24ui0:∀ x,w24u0 (w24I0 x)=x:=fun _=>by kernel_rfl
def w24X0_0 (y:Bool):Exit×Sg:=(.ret,⟨[(4,.e .bo y)],[],100⟩)
def w24v0_0 (_:Exit) (σ:Sg):Bool:=lvT .bo 4 0 σ
def w24X0_1 (_:Unit):Exit×Sg:=((.exit 0),⟨[],[],100⟩)
def w24v0_1 (_:Exit) (_:Sg):Unit:=()
def w24w0:List (Exit×Nm):=[(.ret,⟨[4],[],[]⟩),((.exit 0),⟨[],[],[]⟩)]
def w24l0 [Alg] (N:Nat):Nat->((List Int)×(List Int)×Int)->((Bool)->O)->((Unit)->O)->((Unit)->O)->O
 | 0,_,_,_,_=>none
 | n+1,x,k0,k1,k2=>w24F0 N (fun v0=>w24l0 N n (x.1,x.2.1,v0) k0 k1 k2) (fun y0=>k0 y0) (fun (_:Unit)=>k1 ()) x.1 x.2.1 x.2.2
def w24n0 [Alg] N a0 a1 a2 (k0:Bool->O) (k1:Unit->O):=w24l0 N N (a0,a1,a2) (fun y=>k0 y) (fun y=>k1 y) (fun _=>none)
def w24s0 [Alg] N a0 a1 a2 (k0:Bool->O) (k1:Unit->O):=subL w24I0 w24u0 (w24l0 N N) (w24I0 (a0,a1,a2)) (fun y=>k0 y) (fun y=>k1 y) (fun _=>none)
theorem w24e0 [Alg] N:w24s0 N=w24n0 N:=funext fun _=>funext fun _=>funext fun _=>funext fun _=>funext fun _=>subL_I w24ui0 _ _ _ _
theorem w24q0 [Alg] (N:Nat) (self:Sg->O) (K:Exit->Sg->O) (x:(List Int)×(List Int)×Int):w24F0 N (fun v0=>self (w24I0 (x.1,x.2.1,v0))) (fun y0=>K (w24X0_0 y0).1 (w24X0_0 y0).2) (fun (_:Unit)=>K (w24X0_1 ()).1 (w24X0_1 ()).2) x.1 x.2.1 x.2.2=exec (w24c N) Tryz.f24.ntmps .d w24b0 (w24I0 x) (roundX w24m0 w24w0 self K):=by kernel_rfl
theorem w24S0 N (hc:CxOk (w24c N)):SubOk (w24c N) Tryz.f24.ntmps (.loop w24b0) w24X0_0 w24X0_1 (noX 2) (subL w24I0 w24u0 (w24l0 N N)):=
 sub_loop hc (hk_d w24b0) (oK2 w24v0_0 w24v0_1 .ret (.exit 0) (fun _=>by kernel_rfl) (fun _=>by kernel_rfl) (fun _=>rfl) (fun _=>rfl) (by kernel_rfl)) (n:=N) (fun x K=>loop_ind (w24l0 N) (fun _ _ _ _=>rfl) (fun n K ih x=>by
  refine Eq.trans ?_ (w24q0 N _ K x);simp only [← ih];rfl) N x K)
def w24G [Alg] (_:Nat) (in0:(List Int)->(List Int)->Int->(Bool->O)->(Unit->O)->O) (a0 b1:(List Int)):O:=
 br (decide ((↑a0.length:Int)≠(↑b1.length:Int)))
  (some (w24r0 false))
  (in0 a0 b1 0
   (fun z7=>
    some (w24r0 z7))
   (fun (_:Unit)=>
    some (w24r0 true)))
def w24 [Alg] N a0 b1:=w24G N (w24n0 N) a0 b1
def w24h [Alg] (N:Nat):Hint:=(.seq .d (.seq .d (.seq (.seq .d (.block (.sub w24m0 _ _ _ w24X0_0 w24X0_1 (noX 2) (subL w24I0 w24u0 (w24l0 N N))))) .d)))
theorem w24hk N (hc:CxOk (w24c N)):HintOk (w24c N) Tryz.f24.ntmps (w24h N) w24b:=hk_of _ _ (And.intro trivial (And.intro trivial (And.intro (And.intro trivial (w24S0 N hc)) trivial)))
theorem w24q [Alg] N a0 b1:w24G N (w24s0 N) a0 b1=exec (w24c N) Tryz.f24.ntmps (w24h N) w24b ⟨argT 0 [.e (.sl (.i .i64)) a0,.e (.sl (.i .i64)) b1],[],100⟩ (finX (w24c N) Tryz.f24 false):=by kernel_rfl
def w24un (r:Res):Option (Bool):=match r with
 | (x0,[])=>(match ue .bo x0 with | some a0=>some a0 | _=>none)
 | _=>none
theorem w24uo {r d} (h:w24un r=some d):r=w24r0 (d):=by
 unfold w24un at h;split at h
 ·split at h
  ·rename_i h0;cases h;rw [ue_some h0];rfl
  ·cases h
 ·cases h
def w24z N a0 b1:=(w24 N a0 b1).bind w24un
theorem w24fin {N} (hc:CxOk (w24c N)) {a0 b1 d} (hd:w24z N a0 b1=some d):DoK Tryz.prog 24 [.e (.sl (.i .i64)) a0,.e (.sl (.i .i64)) b1] [] (w24r0 (d)):=
 finJ hc (by kernel_rfl) (by kernel_rfl) (w24hk N hc) (by kernel_rfl) w24uo (fun hr=>(w24q N a0 b1).symm.trans (by rw [w24e0 N];exact hr)) hd
def w24p N a0 b1:=(w24z N a0 b1).isSome
def w24y0 N a0 b1:=((w24z N a0 b1).getD false)
def w24e (N:Nat):Ent':=E2 (.sl (.i .i64)) (.sl (.i .i64)) (fun x0 x1=>(w24p N x0 x1,w24r0 (w24y0 N x0 x1)))
theorem w24ok N:EOk Tryz.prog 24 (w24e N):=EOk.e2 (fun x0 x1 h=>okG (z:=w24z N x0 x1) h (w24fin (w24cx N)) rfl)
def w28r0 (a0:Bool):Res:=(.e .bo a0,[])
def w28c (_:Nat):Cx:=⟨Tryz.prog,99999,[],[]⟩
def w28b:Code:=Tryz.f28.body.getD .skip
theorem w28cx N:CxOk (w28c N):=ctx_ok (by kernel_rfl) .nil .nil
def w28F0 [Alg] (_:Nat) (self:Int->O) (k0:Bool->O) (k1:Unit->O) (x0_0 x0_1:(List YF3)) (x0_2:Int):O:=
 br (decide (x0_2 < (↑x0_0.length:Int)))
  (gx x0_0 x0_2 fun y5=>
  gx x0_1 x0_2 fun y6=>
  br (decide (y5≠y6))
   (k0 false)
   (self (IntKind.i64.wrap (x0_2+1))))
  (k1 ())
def w28b0:Code:=atC [1,1,0,1,0,0] w28b
def w28m0:Nm:=⟨[0,1,5],[],[]⟩
def w28I0 (x:(List YF3)×(List YF3)×Int):Sg:=⟨[(0,.e (.sl .tx) x.1),(1,.e (.sl .tx) x.2.1),(5,.e (.i .i64) x.2.2)],[],100⟩
def w28u0 (σ:Sg):(List YF3)×(List YF3)×Int:=(lvT (.sl .tx) 0 0 σ,lvT (.sl .tx) 1 0 σ,lvT (.i .i64) 5 0 σ)
theorem w28ui0:∀ x,w28u0 (w28I0 x)=x:=fun _=>by kernel_rfl
def w28X0_0 (y:Bool):Exit×Sg:=(.ret,⟨[(4,.e .bo y)],[],100⟩)
def w28v0_0 (_:Exit) (σ:Sg):Bool:=lvT .bo 4 0 σ
def w28X0_1 (_:Unit):Exit×Sg:=((.exit 0),⟨[],[],100⟩)
def w28v0_1 (_:Exit) (_:Sg):Unit:=()
def w28w0:List (Exit×Nm):=[(.ret,⟨[4],[],[]⟩),((.exit 0),⟨[],[],[]⟩)]
def w28l0 [Alg] (N:Nat):Nat->((List YF3)×(List YF3)×Int)->((Bool)->O)->((Unit)->O)->((Unit)->O)->O
 | 0,_,_,_,_=>none
 | n+1,x,k0,k1,k2=>w28F0 N (fun v0=>w28l0 N n (x.1,x.2.1,v0) k0 k1 k2) (fun y0=>k0 y0) (fun (_:Unit)=>k1 ()) x.1 x.2.1 x.2.2
def w28n0 [Alg] N a0 a1 a2 (k0:Bool->O) (k1:Unit->O):=w28l0 N N (a0,a1,a2) (fun y=>k0 y) (fun y=>k1 y) (fun _=>none)
def w28s0 [Alg] N a0 a1 a2 (k0:Bool->O) (k1:Unit->O):=subL w28I0 w28u0 (w28l0 N N) (w28I0 (a0,a1,a2)) (fun y=>k0 y) (fun y=>k1 y) (fun _=>none)
theorem w28e0 [Alg] N:w28s0 N=w28n0 N:=funext fun _=>funext fun _=>funext fun _=>funext fun _=>funext fun _=>subL_I w28ui0 _ _ _ _
theorem w28q0 [Alg] (N:Nat) (self:Sg->O) (K:Exit->Sg->O) (x:(List YF3)×(List YF3)×Int):w28F0 N (fun v0=>self (w28I0 (x.1,x.2.1,v0))) (fun y0=>K (w28X0_0 y0).1 (w28X0_0 y0).2) (fun (_:Unit)=>K (w28X0_1 ()).1 (w28X0_1 ()).2) x.1 x.2.1 x.2.2=exec (w28c N) Tryz.f28.ntmps .d w28b0 (w28I0 x) (roundX w28m0 w28w0 self K):=by kernel_rfl
theorem w28S0 N (hc:CxOk (w28c N)):SubOk (w28c N) Tryz.f28.ntmps (.loop w28b0) w28X0_0 w28X0_1 (noX 2) (subL w28I0 w28u0 (w28l0 N N)):=
 sub_loop hc (hk_d w28b0) (oK2 w28v0_0 w28v0_1 .ret (.exit 0) (fun _=>by kernel_rfl) (fun _=>by kernel_rfl) (fun _=>rfl) (fun _=>rfl) (by kernel_rfl)) (n:=N) (fun x K=>loop_ind (w28l0 N) (fun _ _ _ _=>rfl) (fun n K ih x=>by
  refine Eq.trans ?_ (w28q0 N _ K x);simp only [← ih];rfl) N x K)
def w28G [Alg] (_:Nat) (in0:(List YF3)->(List YF3)->Int->(Bool->O)->(Unit->O)->O) (a0 b1:(List YF3)):O:=
 br (decide ((↑a0.length:Int)≠(↑b1.length:Int)))
  (some (w28r0 false))
  (in0 a0 b1 0
   (fun z7=>
    some (w28r0 z7))
   (fun (_:Unit)=>
    some (w28r0 true)))
def w28 [Alg] N a0 b1:=w28G N (w28n0 N) a0 b1
def w28h [Alg] (N:Nat):Hint:=(.seq .d (.seq .d (.seq (.seq .d (.block (.sub w28m0 _ _ _ w28X0_0 w28X0_1 (noX 2) (subL w28I0 w28u0 (w28l0 N N))))) .d)))
theorem w28hk N (hc:CxOk (w28c N)):HintOk (w28c N) Tryz.f28.ntmps (w28h N) w28b:=hk_of _ _ (And.intro trivial (And.intro trivial (And.intro (And.intro trivial (w28S0 N hc)) trivial)))
theorem w28q [Alg] N a0 b1:w28G N (w28s0 N) a0 b1=exec (w28c N) Tryz.f28.ntmps (w28h N) w28b ⟨argT 0 [.e (.sl .tx) a0,.e (.sl .tx) b1],[],100⟩ (finX (w28c N) Tryz.f28 false):=by kernel_rfl
def w28un (r:Res):Option (Bool):=match r with
 | (x0,[])=>(match ue .bo x0 with | some a0=>some a0 | _=>none)
 | _=>none
theorem w28uo {r d} (h:w28un r=some d):r=w28r0 (d):=by
 unfold w28un at h;split at h
 ·split at h
  ·rename_i h0;cases h;rw [ue_some h0];rfl
  ·cases h
 ·cases h
def w28z N a0 b1:=(w28 N a0 b1).bind w28un
theorem w28fin {N} (hc:CxOk (w28c N)) {a0 b1 d} (hd:w28z N a0 b1=some d):DoK Tryz.prog 28 [.e (.sl .tx) a0,.e (.sl .tx) b1] [] (w28r0 (d)):=
 finJ hc (by kernel_rfl) (by kernel_rfl) (w28hk N hc) (by kernel_rfl) w28uo (fun hr=>(w28q N a0 b1).symm.trans (by rw [w28e0 N];exact hr)) hd
def w28p N a0 b1:=(w28z N a0 b1).isSome
def w28y0 N a0 b1:=((w28z N a0 b1).getD false)
def w28e (N:Nat):Ent':=E2 (.sl .tx) (.sl .tx) (fun x0 x1=>(w28p N x0 x1,w28r0 (w28y0 N x0 x1)))
theorem w28ok N:EOk Tryz.prog 28 (w28e N):=EOk.e2 (fun x0 x1 h=>okG (z:=w28z N x0 x1) h (w28fin (w28cx N)) rfl)
def w12r0 (a0:Bool):Res:=(.e .bo a0,[])
def w12c (_:Nat):Cx:=⟨Tryz.prog,99999,[],[]⟩
def w12b:Code:=Tryz.f12.body.getD .skip
theorem w12cx N:CxOk (w12c N):=ctx_ok (by kernel_rfl) .nil .nil
def w12F0 [Alg] (_:Nat) (self:Int->O) (k0:Bool->O) (k1:Unit->O) (x0_0 x0_1:YF3) (x0_2:Int):O:=
 br (decide (x0_2 < (↑x0_0.length:Int)))
  (gx x0_0 x0_2 fun y5=>
  gx x0_1 x0_2 fun y6=>
  br (decide (y5≠y6))
   (k0 false)
   (self (IntKind.i64.wrap (x0_2+1))))
  (k1 ())
def w12b0:Code:=atC [1,1,0,1,0,0] w12b
def w12m0:Nm:=⟨[0,1,5],[],[]⟩
def w12I0 (x:YF3×YF3×Int):Sg:=⟨[(0,.e (.sl .u8) x.1),(1,.e (.sl .u8) x.2.1),(5,.e (.i .i64) x.2.2)],[],100⟩
def w12u0 (σ:Sg):YF3×YF3×Int:=(lvT (.sl .u8) 0 0 σ,lvT (.sl .u8) 1 0 σ,lvT (.i .i64) 5 0 σ)
theorem w12ui0:∀ x,w12u0 (w12I0 x)=x:=fun _=>by kernel_rfl
def w12X0_0 (y:Bool):Exit×Sg:=(.ret,⟨[(4,.e .bo y)],[],100⟩)
def w12v0_0 (_:Exit) (σ:Sg):Bool:=lvT .bo 4 0 σ
def w12X0_1 (_:Unit):Exit×Sg:=((.exit 0),⟨[],[],100⟩)
def w12v0_1 (_:Exit) (_:Sg):Unit:=()
def w12w0:List (Exit×Nm):=[(.ret,⟨[4],[],[]⟩),((.exit 0),⟨[],[],[]⟩)]
def w12l0 [Alg] (N:Nat):Nat->(YF3×YF3×Int)->((Bool)->O)->((Unit)->O)->((Unit)->O)->O
 | 0,_,_,_,_=>none
 | n+1,x,k0,k1,k2=>w12F0 N (fun v0=>w12l0 N n (x.1,x.2.1,v0) k0 k1 k2) (fun y0=>k0 y0) (fun (_:Unit)=>k1 ()) x.1 x.2.1 x.2.2
def w12n0 [Alg] N a0 a1 a2 (k0:Bool->O) (k1:Unit->O):=w12l0 N N (a0,a1,a2) (fun y=>k0 y) (fun y=>k1 y) (fun _=>none)
def w12s0 [Alg] N a0 a1 a2 (k0:Bool->O) (k1:Unit->O):=subL w12I0 w12u0 (w12l0 N N) (w12I0 (a0,a1,a2)) (fun y=>k0 y) (fun y=>k1 y) (fun _=>none)
theorem w12e0 [Alg] N:w12s0 N=w12n0 N:=funext fun _=>funext fun _=>funext fun _=>funext fun _=>funext fun _=>subL_I w12ui0 _ _ _ _
theorem w12q0 [Alg] (N:Nat) (self:Sg->O) (K:Exit->Sg->O) (x:YF3×YF3×Int):w12F0 N (fun v0=>self (w12I0 (x.1,x.2.1,v0))) (fun y0=>K (w12X0_0 y0).1 (w12X0_0 y0).2) (fun (_:Unit)=>K (w12X0_1 ()).1 (w12X0_1 ()).2) x.1 x.2.1 x.2.2=exec (w12c N) Tryz.f12.ntmps .d w12b0 (w12I0 x) (roundX w12m0 w12w0 self K):=by kernel_rfl
theorem w12S0 N (hc:CxOk (w12c N)):SubOk (w12c N) Tryz.f12.ntmps (.loop w12b0) w12X0_0 w12X0_1 (noX 2) (subL w12I0 w12u0 (w12l0 N N)):=
 sub_loop hc (hk_d w12b0) (oK2 w12v0_0 w12v0_1 .ret (.exit 0) (fun _=>by kernel_rfl) (fun _=>by kernel_rfl) (fun _=>rfl) (fun _=>rfl) (by kernel_rfl)) (n:=N) (fun x K=>loop_ind (w12l0 N) (fun _ _ _ _=>rfl) (fun n K ih x=>by
  refine Eq.trans ?_ (w12q0 N _ K x);simp only [← ih];rfl) N x K)
def w12G [Alg] (_:Nat) (in0:YF3->YF3->Int->(Bool->O)->(Unit->O)->O) (a0 b1:YF3):O:=
 br (decide ((↑a0.length:Int)≠(↑b1.length:Int)))
  (some (w12r0 false))
  (in0 a0 b1 0
   (fun z7=>
    some (w12r0 z7))
   (fun (_:Unit)=>
    some (w12r0 true)))
def w12 [Alg] N a0 b1:=w12G N (w12n0 N) a0 b1
def w12h [Alg] (N:Nat):Hint:=(.seq .d (.seq .d (.seq (.seq .d (.block (.sub w12m0 _ _ _ w12X0_0 w12X0_1 (noX 2) (subL w12I0 w12u0 (w12l0 N N))))) .d)))
theorem w12hk N (hc:CxOk (w12c N)):HintOk (w12c N) Tryz.f12.ntmps (w12h N) w12b:=hk_of _ _ (And.intro trivial (And.intro trivial (And.intro (And.intro trivial (w12S0 N hc)) trivial)))
theorem w12q [Alg] N a0 b1:w12G N (w12s0 N) a0 b1=exec (w12c N) Tryz.f12.ntmps (w12h N) w12b ⟨argT 0 [.e (.sl .u8) a0,.e (.sl .u8) b1],[],100⟩ (finX (w12c N) Tryz.f12 false):=by kernel_rfl
def w12un (r:Res):Option (Bool):=match r with
 | (x0,[])=>(match ue .bo x0 with | some a0=>some a0 | _=>none)
 | _=>none
theorem w12uo {r d} (h:w12un r=some d):r=w12r0 (d):=by
 unfold w12un at h;split at h
 ·split at h
  ·rename_i h0;cases h;rw [ue_some h0];rfl
  ·cases h
 ·cases h
def w12z N a0 b1:=(w12 N a0 b1).bind w12un
theorem w12fin {N} (hc:CxOk (w12c N)) {a0 b1 d} (hd:w12z N a0 b1=some d):DoK Tryz.prog 12 [.e (.sl .u8) a0,.e (.sl .u8) b1] [] (w12r0 (d)):=
 finJ hc (by kernel_rfl) (by kernel_rfl) (w12hk N hc) (by kernel_rfl) w12uo (fun hr=>(w12q N a0 b1).symm.trans (by rw [w12e0 N];exact hr)) hd
def w12p N a0 b1:=(w12z N a0 b1).isSome
def w12y0 N a0 b1:=((w12z N a0 b1).getD false)
def w12e (N:Nat):Ent':=E2 (.sl .u8) (.sl .u8) (fun x0 x1=>(w12p N x0 x1,w12r0 (w12y0 N x0 x1)))
theorem w12ok N:EOk Tryz.prog 12 (w12e N):=EOk.e2 (fun x0 x1 h=>okG (z:=w12z N x0 x1) h (w12fin (w12cx N)) rfl)
def w23r0 (a0:Bool):Res:=(.e .bo a0,[])
def w23c (N:Nat):Cx:=⟨Tryz.prog,99999,[(12,w12e N)],[]⟩
def w23b:Code:=Tryz.f23.body.getD .skip
theorem w23cx N:CxOk (w23c N):=ctx_ok (by kernel_rfl) (.cons (by kernel_rfl) (w12ok N) .nil) .nil
def w23F0 [Alg] (N:Nat) (self:Int->O) (k0:Bool->O) (k1:Unit->O) (x0_0 x0_1:(List YF3)) (x0_2:Int):O:=
 br (decide (x0_2 < (↑x0_0.length:Int)))
  (gx x0_0 x0_2 fun y5=>
  gx x0_1 x0_2 fun y6=>
  ck (w12p N y5 y6) <|
  br (!w12y0 N y5 y6)
   (k0 false)
   (self (IntKind.i64.wrap (x0_2+1))))
  (k1 ())
def w23b0:Code:=atC [1,1,0,1,0,0] w23b
def w23m0:Nm:=⟨[0,1,5],[],[]⟩
def w23I0 (x:(List YF3)×(List YF3)×Int):Sg:=⟨[(0,.e (.sl (.sl .u8)) x.1),(1,.e (.sl (.sl .u8)) x.2.1),(5,.e (.i .i64) x.2.2)],[],100⟩
def w23u0 (σ:Sg):(List YF3)×(List YF3)×Int:=(lvT (.sl (.sl .u8)) 0 0 σ,lvT (.sl (.sl .u8)) 1 0 σ,lvT (.i .i64) 5 0 σ)
theorem w23ui0:∀ x,w23u0 (w23I0 x)=x:=fun _=>by kernel_rfl
def w23X0_0 (y:Bool):Exit×Sg:=(.ret,⟨[(4,.e .bo y)],[],100⟩)
def w23v0_0 (_:Exit) (σ:Sg):Bool:=lvT .bo 4 0 σ
def w23X0_1 (_:Unit):Exit×Sg:=((.exit 0),⟨[],[],100⟩)
def w23v0_1 (_:Exit) (_:Sg):Unit:=()
def w23w0:List (Exit×Nm):=[(.ret,⟨[4],[],[]⟩),((.exit 0),⟨[],[],[]⟩)]
def w23l0 [Alg] (N:Nat):Nat->((List YF3)×(List YF3)×Int)->((Bool)->O)->((Unit)->O)->((Unit)->O)->O
 | 0,_,_,_,_=>none
 | n+1,x,k0,k1,k2=>w23F0 N (fun v0=>w23l0 N n (x.1,x.2.1,v0) k0 k1 k2) (fun y0=>k0 y0) (fun (_:Unit)=>k1 ()) x.1 x.2.1 x.2.2
def w23n0 [Alg] N a0 a1 a2 (k0:Bool->O) (k1:Unit->O):=w23l0 N N (a0,a1,a2) (fun y=>k0 y) (fun y=>k1 y) (fun _=>none)
def w23s0 [Alg] N a0 a1 a2 (k0:Bool->O) (k1:Unit->O):=subL w23I0 w23u0 (w23l0 N N) (w23I0 (a0,a1,a2)) (fun y=>k0 y) (fun y=>k1 y) (fun _=>none)
theorem w23e0 [Alg] N:w23s0 N=w23n0 N:=funext fun _=>funext fun _=>funext fun _=>funext fun _=>funext fun _=>subL_I w23ui0 _ _ _ _
theorem w23q0 [Alg] (N:Nat) (self:Sg->O) (K:Exit->Sg->O) (x:(List YF3)×(List YF3)×Int):w23F0 N (fun v0=>self (w23I0 (x.1,x.2.1,v0))) (fun y0=>K (w23X0_0 y0).1 (w23X0_0 y0).2) (fun (_:Unit)=>K (w23X0_1 ()).1 (w23X0_1 ()).2) x.1 x.2.1 x.2.2=exec (w23c N) Tryz.f23.ntmps .d w23b0 (w23I0 x) (roundX w23m0 w23w0 self K):=by kernel_rfl
theorem w23S0 N (hc:CxOk (w23c N)):SubOk (w23c N) Tryz.f23.ntmps (.loop w23b0) w23X0_0 w23X0_1 (noX 2) (subL w23I0 w23u0 (w23l0 N N)):=
 sub_loop hc (hk_d w23b0) (oK2 w23v0_0 w23v0_1 .ret (.exit 0) (fun _=>by kernel_rfl) (fun _=>by kernel_rfl) (fun _=>rfl) (fun _=>rfl) (by kernel_rfl)) (n:=N) (fun x K=>loop_ind (w23l0 N) (fun _ _ _ _=>rfl) (fun n K ih x=>by
  refine Eq.trans ?_ (w23q0 N _ K x);simp only [← ih];rfl) N x K)
def w23G [Alg] (_:Nat) (in0:(List YF3)->(List YF3)->Int->(Bool->O)->(Unit->O)->O) (a0 b1:(List YF3)):O:=
 br (decide ((↑a0.length:Int)≠(↑b1.length:Int)))
  (some (w23r0 false))
  (in0 a0 b1 0
   (fun z7=>
    some (w23r0 z7))
   (fun (_:Unit)=>
    some (w23r0 true)))
def w23 [Alg] N a0 b1:=w23G N (w23n0 N) a0 b1
def w23h [Alg] (N:Nat):Hint:=(.seq .d (.seq .d (.seq (.seq .d (.block (.sub w23m0 _ _ _ w23X0_0 w23X0_1 (noX 2) (subL w23I0 w23u0 (w23l0 N N))))) .d)))
theorem w23hk N (hc:CxOk (w23c N)):HintOk (w23c N) Tryz.f23.ntmps (w23h N) w23b:=hk_of _ _ (And.intro trivial (And.intro trivial (And.intro (And.intro trivial (w23S0 N hc)) trivial)))
theorem w23q [Alg] N a0 b1:w23G N (w23s0 N) a0 b1=exec (w23c N) Tryz.f23.ntmps (w23h N) w23b ⟨argT 0 [.e (.sl (.sl .u8)) a0,.e (.sl (.sl .u8)) b1],[],100⟩ (finX (w23c N) Tryz.f23 false):=by kernel_rfl
def w23un (r:Res):Option (Bool):=match r with
 | (x0,[])=>(match ue .bo x0 with | some a0=>some a0 | _=>none)
 | _=>none
theorem w23uo {r d} (h:w23un r=some d):r=w23r0 (d):=by
 unfold w23un at h;split at h
 ·split at h
  ·rename_i h0;cases h;rw [ue_some h0];rfl
  ·cases h
 ·cases h
def w23z N a0 b1:=(w23 N a0 b1).bind w23un
theorem w23fin {N} (hc:CxOk (w23c N)) {a0 b1 d} (hd:w23z N a0 b1=some d):DoK Tryz.prog 23 [.e (.sl (.sl .u8)) a0,.e (.sl (.sl .u8)) b1] [] (w23r0 (d)):=
 finJ hc (by kernel_rfl) (by kernel_rfl) (w23hk N hc) (by kernel_rfl) w23uo (fun hr=>(w23q N a0 b1).symm.trans (by rw [w23e0 N];exact hr)) hd
def w23p N a0 b1:=(w23z N a0 b1).isSome
def w23y0 N a0 b1:=((w23z N a0 b1).getD false)
def w23e (N:Nat):Ent':=E2 (.sl (.sl .u8)) (.sl (.sl .u8)) (fun x0 x1=>(w23p N x0 x1,w23r0 (w23y0 N x0 x1)))
theorem w23ok N:EOk Tryz.prog 23 (w23e N):=EOk.e2 (fun x0 x1 h=>okG (z:=w23z N x0 x1) h (w23fin (w23cx N)) rfl)
def w54r0 (a0:Bool):Res:=(.e .bo a0,[])
def w54c (_:Nat):Cx:=⟨Tryz.prog,99999,[],[]⟩
def w54b:Code:=Tryz.f54.body.getD .skip
theorem w54cx N:CxOk (w54c N):=ctx_ok (by kernel_rfl) .nil .nil
def w54G [Alg] (_:Nat) (c0:UInt8):O:=
 some (w54r0 (decide (64<=c0)))
def w54 [Alg] N c0:=w54G N c0
def w54h [Alg] (_:Nat):Hint:=.d
theorem w54hk N:HintOk (w54c N) Tryz.f54.ntmps (w54h N) w54b:=hk_of _ _ trivial
theorem w54q [Alg] N c0:w54G N c0=exec (w54c N) Tryz.f54.ntmps (w54h N) w54b ⟨argT 0 [.e .u8 c0],[],100⟩ (finX (w54c N) Tryz.f54 false):=by kernel_rfl
def w54un (r:Res):Option (Bool):=match r with
 | (x0,[])=>(match ue .bo x0 with | some a0=>some a0 | _=>none)
 | _=>none
theorem w54uo {r d} (h:w54un r=some d):r=w54r0 (d):=by
 unfold w54un at h;split at h
 ·split at h
  ·rename_i h0;cases h;rw [ue_some h0];rfl
  ·cases h
 ·cases h
def w54z N c0:=(w54 N c0).bind w54un
theorem w54fin {N} (hc:CxOk (w54c N)) {c0 d} (hd:w54z N c0=some d):DoK Tryz.prog 54 [.e .u8 c0] [] (w54r0 (d)):=
 finJ hc (by kernel_rfl) (by kernel_rfl) (w54hk N) (by kernel_rfl) w54uo (w54q N c0).symm.trans hd
def w54p N c0:=(w54z N c0).isSome
def w54y0 N c0:=((w54z N c0).getD false)
def w54e (N:Nat):Ent':=E1 .u8 (fun x0=>(w54p N x0,w54r0 (w54y0 N x0)))
theorem w54ok N:EOk Tryz.prog 54 (w54e N):=EOk.e1 (fun x0 h=>okG (z:=w54z N x0) h (w54fin (w54cx N)) rfl)
def w33r0 (a0:Bool):Res:=(.e .bo a0,[])
def w33c (N:Nat):Cx:=⟨Tryz.prog,99999,[(53,w53e N),(55,w55e N)],[]⟩
def w33b:Code:=Tryz.f33.body.getD .skip
theorem w33cx N:CxOk (w33c N):=ctx_ok (by kernel_rfl) (.cons (by kernel_rfl) (w53ok N) (.cons (by kernel_rfl) (w55ok N) .nil)) .nil
def w33G [Alg] (N:Nat) (s0:YF3):O:=
 ck (w53p N s0) <|
 some (w33r0 (!w53y0 N s0))
def w33 [Alg] N s0:=w33G N s0
def w33h [Alg] (_:Nat):Hint:=.d
theorem w33hk N:HintOk (w33c N) Tryz.f33.ntmps (w33h N) w33b:=hk_of _ _ trivial
theorem w33q [Alg] N s0:w33G N s0=exec (w33c N) Tryz.f33.ntmps (w33h N) w33b ⟨argT 0 [.e .tx s0],[],100⟩ (finX (w33c N) Tryz.f33 false):=by kernel_rfl
def w33un (r:Res):Option (Bool):=match r with
 | (x0,[])=>(match ue .bo x0 with | some a0=>some a0 | _=>none)
 | _=>none
theorem w33uo {r d} (h:w33un r=some d):r=w33r0 (d):=by
 unfold w33un at h;split at h
 ·split at h
  ·rename_i h0;cases h;rw [ue_some h0];rfl
  ·cases h
 ·cases h
def w33z N s0:=(w33 N s0).bind w33un
theorem w33fin {N} (hc:CxOk (w33c N)) {s0 d} (hd:w33z N s0=some d):DoK Tryz.prog 33 [.e .tx s0] [] (w33r0 (d)):=
 finJ hc (by kernel_rfl) (by kernel_rfl) (w33hk N) (by kernel_rfl) w33uo (w33q N s0).symm.trans hd
def w33p N s0:=(w33z N s0).isSome
def w33y0 N s0:=((w33z N s0).getD false)
def w33e (N:Nat):Ent':=E1 .tx (fun x0=>(w33p N x0,w33r0 (w33y0 N x0)))
theorem w33ok N:EOk Tryz.prog 33 (w33e N):=EOk.e1 (fun x0 h=>okG (z:=w33z N x0) h (w33fin (w33cx N)) rfl)
def w64r0 (a0:Bool):Res:=(.e .bo a0,[])
def w64c (N:Nat):Cx:=⟨Tryz.prog,99999,[(33,w33e N)],[]⟩
def w64b:Code:=Tryz.f64.body.getD .skip
theorem w64cx N:CxOk (w64c N):=ctx_ok (by kernel_rfl) (.cons (by kernel_rfl) (w33ok N) .nil) .nil
def w64G [Alg] (N:Nat) (s0:YF3):O:=
 ck (w33p N s0) <|
 some (w64r0 (!w33y0 N s0))
def w64 [Alg] N s0:=w64G N s0
def w64h [Alg] (_:Nat):Hint:=.d
theorem w64hk N:HintOk (w64c N) Tryz.f64.ntmps (w64h N) w64b:=hk_of _ _ trivial
theorem w64q [Alg] N s0:w64G N s0=exec (w64c N) Tryz.f64.ntmps (w64h N) w64b ⟨argT 0 [.e .tx s0],[],100⟩ (finX (w64c N) Tryz.f64 false):=by kernel_rfl
def w64un (r:Res):Option (Bool):=match r with
 | (x0,[])=>(match ue .bo x0 with | some a0=>some a0 | _=>none)
 | _=>none
theorem w64uo {r d} (h:w64un r=some d):r=w64r0 (d):=by
 unfold w64un at h;split at h
 ·split at h
  ·rename_i h0;cases h;rw [ue_some h0];rfl
  ·cases h
 ·cases h
def w64z N s0:=(w64 N s0).bind w64un
theorem w64fin {N} (hc:CxOk (w64c N)) {s0 d} (hd:w64z N s0=some d):DoK Tryz.prog 64 [.e .tx s0] [] (w64r0 (d)):=
 finJ hc (by kernel_rfl) (by kernel_rfl) (w64hk N) (by kernel_rfl) w64uo (w64q N s0).symm.trans hd
def w64p N s0:=(w64z N s0).isSome
def w64y0 N s0:=((w64z N s0).getD false)
def w64e (N:Nat):Ent':=E1 .tx (fun x0=>(w64p N x0,w64r0 (w64y0 N x0)))
theorem w64ok N:EOk Tryz.prog 64 (w64e N):=EOk.e1 (fun x0 h=>okG (z:=w64z N x0) h (w64fin (w64cx N)) rfl)
def w14r0 (a0:Int):Res:=(.e (.i .i64) a0,[])
def w14c (_:Nat):Cx:=⟨Tryz.prog,99999,[],[]⟩
def w14b:Code:=Tryz.f14.body.getD .skip
theorem w14cx N:CxOk (w14c N):=ctx_ok (by kernel_rfl) .nil .nil
def w14G [Alg] (_:Nat) (n0 most1:Int):O:=
 br (decide (n0 < 0))
  (br (decide (most1 < 1))
   (some (w14r0 0))
   (ck (decide (most1≠0)) <|
   some (w14r0 ((IntKind.i64.wrap (-IntKind.i64.wrap (n0+1))).tmod most1))))
  (br (decide (most1 < 1))
   (some (w14r0 0))
   (ck (decide (most1≠0)) <|
   some (w14r0 (n0.tmod most1))))
def w14 [Alg] N n0 most1:=w14G N n0 most1
def w14h [Alg] (_:Nat):Hint:=.d
theorem w14hk N:HintOk (w14c N) Tryz.f14.ntmps (w14h N) w14b:=hk_of _ _ trivial
theorem w14q [Alg] N n0 most1:w14G N n0 most1=exec (w14c N) Tryz.f14.ntmps (w14h N) w14b ⟨argT 0 [.e (.i .i64) n0,.e (.i .i64) most1],[],100⟩ (finX (w14c N) Tryz.f14 false):=by kernel_rfl
def w14un (r:Res):Option (Int):=match r with
 | (x0,[])=>(match ue (.i .i64) x0 with | some a0=>some a0 | _=>none)
 | _=>none
theorem w14uo {r d} (h:w14un r=some d):r=w14r0 (d):=by
 unfold w14un at h;split at h
 ·split at h
  ·rename_i h0;cases h;rw [ue_some h0];rfl
  ·cases h
 ·cases h
def w14z N n0 most1:=(w14 N n0 most1).bind w14un
theorem w14fin {N} (hc:CxOk (w14c N)) {n0 most1 d} (hd:w14z N n0 most1=some d):DoK Tryz.prog 14 [.e (.i .i64) n0,.e (.i .i64) most1] [] (w14r0 (d)):=
 finJ hc (by kernel_rfl) (by kernel_rfl) (w14hk N) (by kernel_rfl) w14uo (w14q N n0 most1).symm.trans hd
def w14p N n0 most1:=(w14z N n0 most1).isSome
def w14y0 N n0 most1:=((w14z N n0 most1).getD 0)
def w14e (N:Nat):Ent':=E2 (.i .i64) (.i .i64) (fun x0 x1=>(w14p N x0 x1,w14r0 (w14y0 N x0 x1)))
theorem w14ok N:EOk Tryz.prog 14 (w14e N):=EOk.e2 (fun x0 x1 h=>okG (z:=w14z N x0 x1) h (w14fin (w14cx N)) rfl)
def w32r0 (a0:Int):Res:=(.e (.i .i64) a0,[])
def w32c (N:Nat):Cx:=⟨Tryz.prog,99999,[(14,w14e N)],[]⟩
def w32b:Code:=Tryz.f32.body.getD .skip
theorem w32cx N:CxOk (w32c N):=ctx_ok (by kernel_rfl) (.cons (by kernel_rfl) (w14ok N) .nil) .nil
def w32G [Alg] (N:Nat) (l0:(List Int)) (i1 most2:Int):O:=
 br (decide (i1 < 0)||decide ((↑l0.length:Int)<=i1))
  (some (w32r0 0))
  (gx l0 i1 fun y0=>
  ck (w14p N y0 most2) <|
  some (w32r0 (w14y0 N y0 most2)))
def w32 [Alg] N l0 i1 most2:=w32G N l0 i1 most2
def w32h [Alg] (_:Nat):Hint:=.d
theorem w32hk N:HintOk (w32c N) Tryz.f32.ntmps (w32h N) w32b:=hk_of _ _ trivial
theorem w32q [Alg] N l0 i1 most2:w32G N l0 i1 most2=exec (w32c N) Tryz.f32.ntmps (w32h N) w32b ⟨argT 0 [.e (.sl (.i .i64)) l0,.e (.i .i64) i1,.e (.i .i64) most2],[],100⟩ (finX (w32c N) Tryz.f32 false):=by kernel_rfl
def w32un (r:Res):Option (Int):=match r with
 | (x0,[])=>(match ue (.i .i64) x0 with | some a0=>some a0 | _=>none)
 | _=>none
theorem w32uo {r d} (h:w32un r=some d):r=w32r0 (d):=by
 unfold w32un at h;split at h
 ·split at h
  ·rename_i h0;cases h;rw [ue_some h0];rfl
  ·cases h
 ·cases h
def w32z N l0 i1 most2:=(w32 N l0 i1 most2).bind w32un
theorem w32fin {N} (hc:CxOk (w32c N)) {l0 i1 most2 d} (hd:w32z N l0 i1 most2=some d):DoK Tryz.prog 32 [.e (.sl (.i .i64)) l0,.e (.i .i64) i1,.e (.i .i64) most2] [] (w32r0 (d)):=
 finJ hc (by kernel_rfl) (by kernel_rfl) (w32hk N) (by kernel_rfl) w32uo (w32q N l0 i1 most2).symm.trans hd
def w32p N l0 i1 most2:=(w32z N l0 i1 most2).isSome
def w32y0 N l0 i1 most2:=((w32z N l0 i1 most2).getD 0)
def w32e (N:Nat):Ent':=E3 (.sl (.i .i64)) (.i .i64) (.i .i64) (fun x0 x1 x2=>(w32p N x0 x1 x2,w32r0 (w32y0 N x0 x1 x2)))
theorem w32ok N:EOk Tryz.prog 32 (w32e N):=EOk.e3 (fun x0 x1 x2 h=>okG (z:=w32z N x0 x1 x2) h (w32fin (w32cx N)) rfl)
def w9r0 (a0:(List YF3)):Res:=(.e (.sl .tx) a0,[])
def w9c (N:Nat):Cx:=⟨Tryz.prog,99999,[(32,w32e N)],[]⟩
def w9b:Code:=Tryz.f9.body.getD .skip
theorem w9cx N:CxOk (w9c N):=ctx_ok (by kernel_rfl) (.cons (by kernel_rfl) (w32ok N) .nil) .nil
def w9F0 [Alg] (N:Nat) (self:YF3->Int->O) (k0:(List Int)->Int->Int->Int->YF3->Int->(List YF3)->(List YF3)->O) (x36_0:(List Int)) (x36_1 x36_2:Int) (x36_3 x36_5:Int) (x36_7 x36_8:(List YF3)) (x36_4:YF3) (x36_6:Int):O:=
 br (decide (x36_6 < x36_5)&&decide ((↑x36_4.length:Int) < (70:Int)))
  (ck (w32p N x36_0 (IntKind.i64.wrap (IntKind.i64.wrap (x36_1+1)+x36_6)) (16:Int)) <|
  gx x36_7 (w32y0 N x36_0 (IntKind.i64.wrap (IntKind.i64.wrap (x36_1+1)+x36_6)) (16:Int)) fun y39=>
  ck (decide ((↑x36_4.length:Int)+(↑y39.length:Int)<=(9223372036854775807:Int))) <|
  self (x36_4++y39) (IntKind.i64.wrap (x36_6+1)))
  (k0 x36_0 x36_1 x36_2 x36_3 x36_4 x36_5 x36_7 x36_8)
def w9b0:Code:=atC [1,1,1,1,1,0,1,0,0,1,0,0,1,1,0,1,0,0] w9b
def w9m0:Nm:=⟨[0,3,4,5,6,7,8,9,10],[],[]⟩
def w9I0 (x:(List Int)×Int×Int×Int×YF3×Int×Int×(List YF3)×(List YF3)):Sg:=⟨[(0,.e (.sl (.i .i64)) x.1),(3,.own 0),(4,.own 1),(5,.e (.i .i64) x.2.1),(6,.e (.i .i64) x.2.2.1),(7,.e (.i .i64) x.2.2.2.1),(8,.e .tx x.2.2.2.2.1),(9,.e (.i .i64) x.2.2.2.2.2.1),(10,.e (.i .i64) x.2.2.2.2.2.2.1)],[(0,.row 9 .tx x.2.2.2.2.2.2.2.1 true),(1,.row 9 .tx x.2.2.2.2.2.2.2.2 true)],100⟩
def w9u0 (σ:Sg):(List Int)×Int×Int×Int×YF3×Int×Int×(List YF3)×(List YF3):=(lvT (.sl (.i .i64)) 0 0 σ,lvT (.i .i64) 5 0 σ,lvT (.i .i64) 6 0 σ,lvT (.i .i64) 7 0 σ,lvT .tx 8 0 σ,lvT (.i .i64) 9 0 σ,lvT (.i .i64) 10 0 σ,lvR .tx 0 σ,lvR .tx 1 σ)
theorem w9ui0:∀ x,w9u0 (w9I0 x)=x:=fun _=>by kernel_rfl
def w9X0_0 (y:(List Int)×Int×Int×Int×YF3×Int×(List YF3)×(List YF3)):Exit×Sg:=((.exit 2),⟨[(0,.e (.sl (.i .i64)) y.1),(3,.own 0),(4,.own 1),(5,.e (.i .i64) y.2.1),(6,.e (.i .i64) y.2.2.1),(7,.e (.i .i64) y.2.2.2.1),(8,.e .tx y.2.2.2.2.1),(9,.e (.i .i64) y.2.2.2.2.2.1)],[(0,.row 9 .tx y.2.2.2.2.2.2.1 true),(1,.row 9 .tx y.2.2.2.2.2.2.2 true)],100⟩)
def w9v0_0 (_:Exit) (σ:Sg):(List Int)×Int×Int×Int×YF3×Int×(List YF3)×(List YF3):=(lvT (.sl (.i .i64)) 0 0 σ,lvT (.i .i64) 5 0 σ,lvT (.i .i64) 6 0 σ,lvT (.i .i64) 7 0 σ,lvT .tx 8 0 σ,lvT (.i .i64) 9 0 σ,lvR .tx 0 σ,lvR .tx 1 σ)
def w9w0:List (Exit×Nm):=[((.exit 2),⟨[0,3,4,5,6,7,8,9],[],[]⟩)]
def w9l0 [Alg] (N:Nat):Nat->((List Int)×Int×Int×Int×YF3×Int×Int×(List YF3)×(List YF3))->(((List Int)×Int×Int×Int×YF3×Int×(List YF3)×(List YF3))->O)->((Unit)->O)->((Unit)->O)->O
 | 0,_,_,_,_=>none
 | n+1,x,k0,k1,k2=>w9F0 N (fun v0 v1=>w9l0 N n (x.1,x.2.1,x.2.2.1,x.2.2.2.1,v0,x.2.2.2.2.2.1,v1,x.2.2.2.2.2.2.2.1,x.2.2.2.2.2.2.2.2) k0 k1 k2) (fun y0 y1 y2 y3 y4 y5 y6 y7=>k0 (y0,y1,y2,y3,y4,y5,y6,y7)) x.1 x.2.1 x.2.2.1 x.2.2.2.1 x.2.2.2.2.2.1 x.2.2.2.2.2.2.2.1 x.2.2.2.2.2.2.2.2 x.2.2.2.2.1 x.2.2.2.2.2.2.1
def w9n0 [Alg] N a0 a1 a2 a3 a4 a5 a6 a7 a8 (k0:(List Int)->Int->Int->Int->YF3->Int->(List YF3)->(List YF3)->O):=w9l0 N N (a0,a1,a2,a3,a4,a5,a6,a7,a8) (fun y=>k0 y.1 y.2.1 y.2.2.1 y.2.2.2.1 y.2.2.2.2.1 y.2.2.2.2.2.1 y.2.2.2.2.2.2.1 y.2.2.2.2.2.2.2) (fun _=>none) (fun _=>none)
def w9s0 [Alg] N a0 a1 a2 a3 a4 a5 a6 a7 a8 (k0:(List Int)->Int->Int->Int->YF3->Int->(List YF3)->(List YF3)->O):=subL w9I0 w9u0 (w9l0 N N) (w9I0 (a0,a1,a2,a3,a4,a5,a6,a7,a8)) (fun y=>k0 y.1 y.2.1 y.2.2.1 y.2.2.2.1 y.2.2.2.2.1 y.2.2.2.2.2.1 y.2.2.2.2.2.2.1 y.2.2.2.2.2.2.2) (fun _=>none) (fun _=>none)
theorem w9e0 [Alg] N:w9s0 N=w9n0 N:=funext fun _=>funext fun _=>funext fun _=>funext fun _=>funext fun _=>funext fun _=>funext fun _=>funext fun _=>funext fun _=>funext fun _=>subL_I w9ui0 _ _ _ _
theorem w9q0 [Alg] (N:Nat) (self:Sg->O) (K:Exit->Sg->O) (x:(List Int)×Int×Int×Int×YF3×Int×Int×(List YF3)×(List YF3)):w9F0 N (fun v0 v1=>self (w9I0 (x.1,x.2.1,x.2.2.1,x.2.2.2.1,v0,x.2.2.2.2.2.1,v1,x.2.2.2.2.2.2.2.1,x.2.2.2.2.2.2.2.2))) (fun y0 y1 y2 y3 y4 y5 y6 y7=>K (w9X0_0 (y0,y1,y2,y3,y4,y5,y6,y7)).1 (w9X0_0 (y0,y1,y2,y3,y4,y5,y6,y7)).2) x.1 x.2.1 x.2.2.1 x.2.2.2.1 x.2.2.2.2.2.1 x.2.2.2.2.2.2.2.1 x.2.2.2.2.2.2.2.2 x.2.2.2.2.1 x.2.2.2.2.2.2.1=exec (w9c N) Tryz.f9.ntmps .d w9b0 (w9I0 x) (roundX w9m0 w9w0 self K):=by kernel_rfl
theorem w9S0 N (hc:CxOk (w9c N)):SubOk (w9c N) Tryz.f9.ntmps (.loop w9b0) w9X0_0 (noX 1) (noX 2) (subL w9I0 w9u0 (w9l0 N N)):=
 sub_loop hc (hk_d w9b0) (oK1 w9v0_0 (.exit 2) (fun _=>by kernel_rfl) (fun _=>rfl) (by kernel_rfl)) (n:=N) (fun x K=>loop_ind (w9l0 N) (fun _ _ _ _=>rfl) (fun n K ih x=>by
  refine Eq.trans ?_ (w9q0 N _ K x);simp only [← ih];rfl) N x K)
def w9F1 [Alg] (N:Nat) (in0:(List Int)->Int->Int->Int->YF3->Int->Int->(List YF3)->(List YF3)->((List Int)->Int->Int->Int->YF3->Int->(List YF3)->(List YF3)->O)->O) (self:(List Int)->Int->Int->Int->(List YF3)->(List YF3)->O) (k0:(List YF3)->O) (x0_0:(List Int)) (x0_1 x0_2 x0_3:Int) (x0_4 x0_5:(List YF3)):O:=
 br (decide (x0_3 < x0_2))
  (ck (w32p N x0_0 x0_1 (9:Int)) <|
  in0 x0_0 x0_1 x0_2 x0_3 [] (w32y0 N x0_0 x0_1 (9:Int)) 0 x0_4 x0_5
   (fun z40 z41 z42 z43 z44 z45 z46 z47=>
    ck (lim (z47++[z44]).length (16:Nat)) <|
    self z40 (IntKind.i64.wrap (IntKind.i64.wrap (z41+1)+z45)) z42 (IntKind.i64.wrap (z43+1)) z46 (z47++[z44])))
  (k0 x0_5)
def w9b1:Code:=atC [1,1,1,1,1,0,1,0,0] w9b
def w9m1:Nm:=⟨[0,3,4,5,6,7],[],[.nilR 4 (.row 9 .tx [] true)]⟩
def w9I1 (x:(List Int)×Int×Int×Int×(List YF3)×(List YF3)):Sg:=⟨[(0,.e (.sl (.i .i64)) x.1),(3,.own 0),(4,.own 1),(5,.e (.i .i64) x.2.1),(6,.e (.i .i64) x.2.2.1),(7,.e (.i .i64) x.2.2.2.1)],[(0,.row 9 .tx x.2.2.2.2.1 true),(1,.row 9 .tx x.2.2.2.2.2 true)],100⟩
def w9u1 (σ:Sg):(List Int)×Int×Int×Int×(List YF3)×(List YF3):=(lvT (.sl (.i .i64)) 0 0 σ,lvT (.i .i64) 5 0 σ,lvT (.i .i64) 6 0 σ,lvT (.i .i64) 7 0 σ,lvR .tx 0 σ,lvR .tx 1 σ)
theorem w9ui1:∀ x,w9u1 (w9I1 x)=x:=fun _=>by kernel_rfl
def w9X1_0 (y:(List YF3)):Exit×Sg:=((.exit 0),⟨[(4,.own 0)],[(0,.row 9 .tx y true)],100⟩)
def w9v1_0 (_:Exit) (σ:Sg):(List YF3):=lvR .tx 0 σ
def w9w1:List (Exit×Nm):=[((.exit 0),⟨[4],[],[]⟩)]
def w9l1 [Alg] (N:Nat):Nat->((List Int)×Int×Int×Int×(List YF3)×(List YF3))->(((List YF3))->O)->((Unit)->O)->((Unit)->O)->O
 | 0,_,_,_,_=>none
 | n+1,x,k0,k1,k2=>w9F1 N (w9n0 N) (fun v0 v1 v2 v3 v4 v5=>w9l1 N n (v0,v1,v2,v3,v4,v5) k0 k1 k2) (fun y0=>k0 y0) x.1 x.2.1 x.2.2.1 x.2.2.2.1 x.2.2.2.2.1 x.2.2.2.2.2
def w9n1 [Alg] N a0 a1 a2 a3 a4 a5 (k0:(List YF3)->O):=w9l1 N N (a0,a1,a2,a3,a4,a5) (fun y=>k0 y) (fun _=>none) (fun _=>none)
def w9s1 [Alg] N a0 a1 a2 a3 a4 a5 (k0:(List YF3)->O):=subL w9I1 w9u1 (w9l1 N N) (w9I1 (a0,a1,a2,a3,a4,a5)) (fun y=>k0 y) (fun _=>none) (fun _=>none)
theorem w9e1 [Alg] N:w9s1 N=w9n1 N:=funext fun _=>funext fun _=>funext fun _=>funext fun _=>funext fun _=>funext fun _=>funext fun _=>subL_I w9ui1 _ _ _ _
def w9h1 [Alg] (N:Nat):Hint:=(.seq .d (.seq (.block (.seq .d (.seq .d (.seq (.seq .d (.block (.sub w9m0 _ _ _ w9X0_0 (noX 1) (noX 2) (subL w9I0 w9u0 (w9l0 N N))))) .d)))) .d))
theorem w9hk1 N (hc:CxOk (w9c N)):HintOk (w9c N) Tryz.f9.ntmps (w9h1 N) w9b1:=hk_of _ _ (And.intro trivial (And.intro (And.intro trivial (And.intro trivial (And.intro (And.intro trivial (w9S0 N hc)) trivial))) trivial))
theorem w9q1 [Alg] (N:Nat) (self:Sg->O) (K:Exit->Sg->O) (x:(List Int)×Int×Int×Int×(List YF3)×(List YF3)):w9F1 N (w9s0 N) (fun v0 v1 v2 v3 v4 v5=>self (w9I1 (v0,v1,v2,v3,v4,v5))) (fun y0=>K (w9X1_0 y0).1 (w9X1_0 y0).2) x.1 x.2.1 x.2.2.1 x.2.2.2.1 x.2.2.2.2.1 x.2.2.2.2.2=exec (w9c N) Tryz.f9.ntmps (w9h1 N) w9b1 (w9I1 x) (roundX w9m1 w9w1 self K):=by kernel_rfl
theorem w9S1 N (hc:CxOk (w9c N)):SubOk (w9c N) Tryz.f9.ntmps (.loop w9b1) w9X1_0 (noX 1) (noX 2) (subL w9I1 w9u1 (w9l1 N N)):=
 sub_loop hc (w9hk1 N hc) (oK1 w9v1_0 (.exit 0) (fun _=>by kernel_rfl) (fun _=>rfl) (by kernel_rfl)) (n:=N) (fun x K=>loop_ind (w9l1 N) (fun _ _ _ _=>rfl) (fun n K ih x=>by
  refine Eq.trans ?_ (w9q1 N _ K x);simp only [w9e0 N,← ih];rfl) N x K)
def w9G [Alg] (N:Nat) (_in0:(List Int)->Int->Int->Int->YF3->Int->Int->(List YF3)->(List YF3)->((List Int)->Int->Int->Int->YF3->Int->(List YF3)->(List YF3)->O)->O) (in1:(List Int)->Int->Int->Int->(List YF3)->(List YF3)->((List YF3)->O)->O) (l0:(List Int)):O:=
 ck (w32p N l0 (0:Int) (5:Int)) <|
 in1 l0 1 (w32y0 N l0 (0:Int) (5:Int)) 0 [[(105:UInt8),(102:UInt8)],[(32:UInt8)],[(32:UInt8),(32:UInt8)],[(120:UInt8)],[(123:UInt8)],[(125:UInt8)],[(84:UInt8),(111:UInt8),(116:UInt8),(97:UInt8),(108:UInt8)],[(95:UInt8)],[(64:UInt8)],[(61:UInt8)],[(49:UInt8),(48:UInt8)],[(34:UInt8)],[(126:UInt8)],[(97:UInt8),(91:UInt8),(105:UInt8),(93:UInt8)],[(32:UInt8),(32:UInt8),(32:UInt8),(32:UInt8),(32:UInt8),(32:UInt8),(32:UInt8),(32:UInt8)],[(96:UInt8)]] []
  (fun z48=>
   some (w9r0 z48))
def w9 [Alg] N l0:=w9G N (w9n0 N) (w9n1 N) l0
def w9h [Alg] (N:Nat):Hint:=(.seq .d (.seq .d (.seq .d (.seq .d (.seq .d (.seq (.seq .d (.block (.sub w9m1 _ _ _ w9X1_0 (noX 1) (noX 2) (subL w9I1 w9u1 (w9l1 N N))))) .d))))))
theorem w9hk N (hc:CxOk (w9c N)):HintOk (w9c N) Tryz.f9.ntmps (w9h N) w9b:=hk_of _ _ (And.intro trivial (And.intro trivial (And.intro trivial (And.intro trivial (And.intro trivial (And.intro (And.intro trivial (w9S1 N hc)) trivial))))))
theorem w9q [Alg] N l0:w9G N (w9s0 N) (w9s1 N) l0=exec (w9c N) Tryz.f9.ntmps (w9h N) w9b ⟨argT 0 [.e (.sl (.i .i64)) l0],[],100⟩ (finX (w9c N) Tryz.f9 false):=by kernel_rfl
def w9un (r:Res):Option ((List YF3)):=match r with
 | (x0,[])=>(match ue (.sl .tx) x0 with | some a0=>some a0 | _=>none)
 | _=>none
theorem w9uo {r d} (h:w9un r=some d):r=w9r0 (d):=by
 unfold w9un at h;split at h
 ·split at h
  ·rename_i h0;cases h;rw [ue_some h0];rfl
  ·cases h
 ·cases h
def w9z N l0:=(w9 N l0).bind w9un
theorem w9fin {N} (hc:CxOk (w9c N)) {l0 d} (hd:w9z N l0=some d):DoK Tryz.prog 9 [.e (.sl (.i .i64)) l0] [] (w9r0 (d)):=
 finJ hc (by kernel_rfl) (by kernel_rfl) (w9hk N hc) (by kernel_rfl) w9uo (fun hr=>(w9q N l0).symm.trans (by rw [w9e0 N,w9e1 N];exact hr)) hd
def w9p N l0:=(w9z N l0).isSome
def w9y0 N l0:=((w9z N l0).getD [])
def w9e (N:Nat):Ent':=E1 (.sl (.i .i64)) (fun x0=>(w9p N x0,w9r0 (w9y0 N x0)))
theorem w9ok N:EOk Tryz.prog 9 (w9e N):=EOk.e1 (fun x0 h=>okG (z:=w9z N x0) h (w9fin (w9cx N)) rfl)
def w44r0 (a0:YF3):Res:=(.e .tx a0,[])
def w44c (_:Nat):Cx:=⟨Tryz.prog,99999,[],[]⟩
def w44b:Code:=Tryz.f44.body.getD .skip
theorem w44cx N:CxOk (w44c N):=ctx_ok (by kernel_rfl) .nil .nil
def w44G [Alg] (_:Nat) (s0:YF3) (most1:Int):O:=
 br (decide (most1 < (↑s0.length:Int)))
  (ck (slcOk s0.length none (some most1)) <|
  some (w44r0 (slc s0 none (some most1))))
  (some (w44r0 s0))
def w44 [Alg] N s0 most1:=w44G N s0 most1
def w44h [Alg] (_:Nat):Hint:=.d
theorem w44hk N:HintOk (w44c N) Tryz.f44.ntmps (w44h N) w44b:=hk_of _ _ trivial
theorem w44q [Alg] N s0 most1:w44G N s0 most1=exec (w44c N) Tryz.f44.ntmps (w44h N) w44b ⟨argT 0 [.e .tx s0,.e (.i .i64) most1],[],100⟩ (finX (w44c N) Tryz.f44 false):=by kernel_rfl
def w44un (r:Res):Option (YF3):=match r with
 | (x0,[])=>(match ue .tx x0 with | some a0=>some a0 | _=>none)
 | _=>none
theorem w44uo {r d} (h:w44un r=some d):r=w44r0 (d):=by
 unfold w44un at h;split at h
 ·split at h
  ·rename_i h0;cases h;rw [ue_some h0];rfl
  ·cases h
 ·cases h
def w44z N s0 most1:=(w44 N s0 most1).bind w44un
theorem w44fin {N} (hc:CxOk (w44c N)) {s0 most1 d} (hd:w44z N s0 most1=some d):DoK Tryz.prog 44 [.e .tx s0,.e (.i .i64) most1] [] (w44r0 (d)):=
 finJ hc (by kernel_rfl) (by kernel_rfl) (w44hk N) (by kernel_rfl) w44uo (w44q N s0 most1).symm.trans hd
def w44p N s0 most1:=(w44z N s0 most1).isSome
def w44y0 N s0 most1:=((w44z N s0 most1).getD [])
def w44e (N:Nat):Ent':=E2 .tx (.i .i64) (fun x0 x1=>(w44p N x0 x1,w44r0 (w44y0 N x0 x1)))
theorem w44ok N:EOk Tryz.prog 44 (w44e N):=EOk.e2 (fun x0 x1 h=>okG (z:=w44z N x0 x1) h (w44fin (w44cx N)) rfl)
def v72r0 (a0:Int):Res:=(.e (.i .i64) a0,[])
def v72L (N:Nat):List (Nat×Ent'):=[(54,w54e N)]
def v72c (N:Nat):Cx:=⟨Tryz.prog,99999,v72L N,[]⟩
def v72b:Code:=Tryz.f72.body.getD .skip
theorem v72cx N:CxOk (v72c N):=ctx_ok (by kernel_rfl) (.cons (by kernel_rfl) (w54ok N) .nil) .nil
def v72F0 [Alg] (N:Nat) (self:Int->O) (k0:Int->O) (k1:Unit->O) (x0_0:YF3) (x0_1 x0_2:Int):O:=
 br (decide (x0_2 < x0_1))
  (gx x0_0 x0_2 fun y3=>
  ck (w54p N y3) <|
  br (w54y0 N y3)
   (k0 x0_2)
   (self (IntKind.i64.wrap (x0_2+(1:Int)))))
  (k1 ())
def v72b0:Code:=atC [1,0,1,0,0] v72b
def v72m0:Nm:=⟨[0,1,7,8],[],[]⟩
def v72I0 (x:YF3×Int×Int):Sg:=⟨[(0,.e (.sl .u8) x.1),(1,.fn 54 []),(7,.e (.i .i64) x.2.1),(8,.e (.i .i64) x.2.2)],[],100⟩
def v72u0 (σ:Sg):YF3×Int×Int:=(lvT (.sl .u8) 0 0 σ,lvT (.i .i64) 7 0 σ,lvT (.i .i64) 8 0 σ)
theorem v72ui0:∀ x,v72u0 (v72I0 x)=x:=fun _=>by kernel_rfl
def v72X0_0 (y:Int):Exit×Sg:=(.ret,⟨[(4,.e (.i .i64) y)],[],100⟩)
def v72v0_0 (_:Exit) (σ:Sg):Int:=lvT (.i .i64) 4 0 σ
def v72X0_1 (_:Unit):Exit×Sg:=((.exit 0),⟨[],[],100⟩)
def v72v0_1 (_:Exit) (_:Sg):Unit:=()
def v72w0:List (Exit×Nm):=[(.ret,⟨[4],[],[]⟩),((.exit 0),⟨[],[],[]⟩)]
theorem v72o0:Outs v72v0_0 v72v0_1 (fun _ _=>()) v72X0_0 v72X0_1 (noX 2) (exC .ret) (exC (.exit 0)) (exC (.goto 2)):=⟨fun _=>by kernel_rfl,fun _=>by kernel_rfl,fun _=>by kernel_rfl,fun _=>by kernel_rfl,fun _=>by kernel_rfl,fun _=>by kernel_rfl,exNe_ok (by kernel_rfl),exNe_ok (by kernel_rfl),exNe_ok (by kernel_rfl)⟩
def v72l0 [Alg] (N:Nat):Nat->(YF3×Int×Int)->((Int)->O)->((Unit)->O)->((Unit)->O)->O
 | 0,_,_,_,_=>none
 | n+1,x,k0,k1,k2=>v72F0 N (fun v0=>v72l0 N n (x.1,x.2.1,v0) k0 k1 k2) (fun y0=>k0 y0) (fun (_:Unit)=>k1 ()) x.1 x.2.1 x.2.2
def v72n0 [Alg] N a0 a1 a2 (k0:Int->O) (k1:Unit->O):=v72l0 N N (a0,a1,a2) (fun y=>k0 y) (fun y=>k1 y) (fun _=>none)
def v72s0 [Alg] N a0 a1 a2 (k0:Int->O) (k1:Unit->O):=subL v72I0 v72u0 (v72l0 N N) (v72I0 (a0,a1,a2)) (fun y=>k0 y) (fun y=>k1 y) (fun _=>none)
theorem v72e0 [Alg] N:v72s0 N=v72n0 N:=funext fun _=>funext fun _=>funext fun _=>funext fun _=>funext fun _=>subL_I v72ui0 _ _ _ _
def v72h0 [Alg] (_:Nat):Hint:=.d
theorem v72hk0 N:HintOk (v72c N) Tryz.f72.ntmps (v72h0 N) v72b0:=hk_of _ _ trivial
theorem v72q0 [Alg] (N:Nat) (self:Sg->O) (K:Exit->Sg->O) (x:YF3×Int×Int):v72F0 N (fun v0=>self (v72I0 (x.1,x.2.1,v0))) (fun y0=>K (v72X0_0 y0).1 (v72X0_0 y0).2) (fun (_:Unit)=>K (v72X0_1 ()).1 (v72X0_1 ()).2) x.1 x.2.1 x.2.2=exec (v72c N) Tryz.f72.ntmps (v72h0 N) v72b0 (v72I0 x) (roundX v72m0 v72w0 self K):=by kernel_rfl
theorem v72S0 N (hc:CxOk (v72c N)):SubOk (v72c N) Tryz.f72.ntmps (.loop v72b0) v72X0_0 v72X0_1 (noX 2) (subL v72I0 v72u0 (v72l0 N N)):=
 sub_loop hc (v72hk0 N) v72o0 (n:=N) (fun x K=>loop_ind (v72l0 N) (fun _ _ _ _=>rfl) (fun n K ih x=>by
  have h:v72F0 N (fun v0=>v72l0 N n (x.1,x.2.1,v0) (fun y=>K (v72X0_0 y).1 (v72X0_0 y).2) (fun y=>K (v72X0_1 y).1 (v72X0_1 y).2) (fun y=>K ((noX 2) y).1 ((noX 2) y).2)) (fun y0=>K (v72X0_0 y0).1 (v72X0_0 y0).2) (fun (_:Unit)=>K (v72X0_1 ()).1 (v72X0_1 ()).2) x.1 x.2.1 x.2.2=v72F0 N (fun v0=>loopX (v72c N) Tryz.f72.ntmps (v72h0 N) v72b0 v72m0 v72w0 n (v72I0 (x.1,x.2.1,v0)) K) (fun y0=>K (v72X0_0 y0).1 (v72X0_0 y0).2) (fun (_:Unit)=>K (v72X0_1 ()).1 (v72X0_1 ()).2) x.1 x.2.1 x.2.2:=by rw [ show (fun v0=>v72l0 N n (x.1,x.2.1,v0) (fun y=>K (v72X0_0 y).1 (v72X0_0 y).2) (fun y=>K (v72X0_1 y).1 (v72X0_1 y).2) (fun y=>K ((noX 2) y).1 ((noX 2) y).2))=(fun v0=>loopX (v72c N) Tryz.f72.ntmps (v72h0 N) v72b0 v72m0 v72w0 n (v72I0 (x.1,x.2.1,v0)) K) from funext fun _=>ih _]
  exact h.trans (v72q0 N (fun σ=>loopX (v72c N) Tryz.f72.ntmps (v72h0 N) v72b0 v72m0 v72w0 n σ K) K x)) N x K)
def v72G [Alg] (_:Nat) (in0:YF3->Int->Int->(Int->O)->(Unit->O)->O) (s0:YF3):O:=
 in0 s0 ((↑s0.length:Int)) ((0:Int))
  (fun z4=>
   some (v72r0 z4))
  (fun (_:Unit)=>
   some (v72r0 ((-1:Int))))
def v72 [Alg] N s0:=v72G N (v72n0 N) s0
def v72h [Alg] (N:Nat):Hint:=(.seq .d (.seq (.seq .d (.block (.sub v72m0 _ _ _ v72X0_0 v72X0_1 (noX 2) (subL v72I0 v72u0 (v72l0 N N))))) .d))
theorem v72hk N (hc:CxOk (v72c N)):HintOk (v72c N) Tryz.f72.ntmps (v72h N) v72b:=hk_of _ _ (And.intro trivial (And.intro (And.intro trivial (v72S0 N hc)) trivial))
theorem v72q [Alg] N s0:v72G N (v72s0 N) s0=exec (v72c N) Tryz.f72.ntmps (v72h N) v72b ⟨argT 0 [.e (.sl .u8) s0,.fn 54 []],[],100⟩ (finX (v72c N) Tryz.f72 false):=by kernel_rfl
theorem v72does {N:Nat} (hc:CxOk (v72c N)) {s0:YF3} {r:Res} (h:v72 N s0=some r):DoesR Tryz.prog 72 (([.e (.sl .u8) s0,.fn 54 []]:List X).map X.D) (HA []) r:=
 fun_ok hc (f:=72) (fn:=Tryz.f72) (code:=v72b) (by kernel_rfl) (by kernel_rfl) (v72hk N hc) (Nat.le_of_ble_eq_true (by kernel_rfl)) (ow:=false) ((v72q N s0).symm.trans (by rw [v72e0 N];exact h))
def v72un (r:Res):Option (Int):=match r with
 | (x0,[])=>(match ue (.i .i64) x0 with | some a0=>some a0 | _=>none)
 | _=>none
theorem v72uo {r d} (h:v72un r=some d):r=v72r0 (d):=by
 unfold v72un at h;split at h
 ·split at h
  ·rename_i h0;cases h;rw [ue_some h0];rfl
  ·cases h
 ·cases h
def v72z N s0:=(v72 N s0).bind v72un
theorem v72fin {N} (hc:CxOk (v72c N)) {s0 d} (hd:v72z N s0=some d):DoK Tryz.prog 72 [.e (.sl .u8) s0,.fn 54 []] [] (v72r0 (d)):=by
 obtain ⟨r,hr,hu⟩:=Option.bind_eq_some_iff.1 hd;have:=v72does hc hr;rw [v72uo hu] at this;exact this
def v72p N s0:=(v72z N s0).isSome
def v72y0 N s0:=((v72z N s0).getD 0)
def v72e (N:Nat):Ent':=Ef1 (.sl .u8) 54 (fun x0=>(v72p N x0,v72r0 (v72y0 N x0)))
theorem v72re {N s0 d} (hd:v72z N s0=some d):v72r0 (v72y0 N s0)=v72r0 (d):=by unfold v72y0;rw [hd];rfl
theorem v72ok N:EOk Tryz.prog 72 (v72e N):=EOk.f1 (fun x0 h=>by
 have h:(v72z N x0).isSome=true:=h;obtain ⟨d,hd⟩:=Option.isSome_iff_exists.1 h;have f:=v72fin (v72cx N) hd;rw [← v72re hd] at f;exact f)
def v53r0 (a0:Bool):Res:=(.e .bo a0,[])
def v53L (N:Nat):List (Nat×Ent'):=[(54,w54e N),(72,v72e N)]
def v53c (N:Nat):Cx:=⟨Tryz.prog,99999,v53L N,[]⟩
def v53b:Code:=Tryz.f53.body.getD .skip
theorem v53cx N:CxOk (v53c N):=ctx_ok (by kernel_rfl) (.cons (by kernel_rfl) (w54ok N) (.cons (by kernel_rfl) (v72ok N) .nil)) .nil
def v53G [Alg] (N:Nat) (s0:YF3):O:=
 ck (v72p N s0) <|
 some (v53r0 (decide ((0:Int)<=v72y0 N s0)))
def v53 [Alg] N s0:=v53G N s0
def v53h [Alg] (_:Nat):Hint:=.d
theorem v53hk N:HintOk (v53c N) Tryz.f53.ntmps (v53h N) v53b:=hk_of _ _ trivial
theorem v53q [Alg] N s0:v53G N s0=exec (v53c N) Tryz.f53.ntmps (v53h N) v53b ⟨argT 0 [.e (.sl .u8) s0,.fn 54 []],[],100⟩ (finX (v53c N) Tryz.f53 false):=by kernel_rfl
theorem v53does {N:Nat} (hc:CxOk (v53c N)) {s0:YF3} {r:Res} (h:v53 N s0=some r):DoesR Tryz.prog 53 (([.e (.sl .u8) s0,.fn 54 []]:List X).map X.D) (HA []) r:=
 fun_ok hc (f:=53) (fn:=Tryz.f53) (code:=v53b) (by kernel_rfl) (by kernel_rfl) (v53hk N) (Nat.le_of_ble_eq_true (by kernel_rfl)) (ow:=false) ((v53q N s0).symm.trans (by exact h))
def v53un (r:Res):Option (Bool):=match r with
 | (x0,[])=>(match ue .bo x0 with | some a0=>some a0 | _=>none)
 | _=>none
theorem v53uo {r d} (h:v53un r=some d):r=v53r0 (d):=by
 unfold v53un at h;split at h
 ·split at h
  ·rename_i h0;cases h;rw [ue_some h0];rfl
  ·cases h
 ·cases h
def v53z N s0:=(v53 N s0).bind v53un
theorem v53fin {N} (hc:CxOk (v53c N)) {s0 d} (hd:v53z N s0=some d):DoK Tryz.prog 53 [.e (.sl .u8) s0,.fn 54 []] [] (v53r0 (d)):=by
 obtain ⟨r,hr,hu⟩:=Option.bind_eq_some_iff.1 hd;have:=v53does hc hr;rw [v53uo hu] at this;exact this
def v53p N s0:=(v53z N s0).isSome
def v53y0 N s0:=((v53z N s0).getD false)
def v53e (N:Nat):Ent':=Ef1 (.sl .u8) 54 (fun x0=>(v53p N x0,v53r0 (v53y0 N x0)))
theorem v53re {N s0 d} (hd:v53z N s0=some d):v53r0 (v53y0 N s0)=v53r0 (d):=by unfold v53y0;rw [hd];rfl
theorem v53ok N:EOk Tryz.prog 53 (v53e N):=EOk.f1 (fun x0 h=>by
 have h:(v53z N x0).isSome=true:=h;obtain ⟨d,hd⟩:=Option.isSome_iff_exists.1 h;have f:=v53fin (v53cx N) hd;rw [← v53re hd] at f;exact f)
def v77r0 (a0:Int):Res:=(.e (.i .i64) a0,[])
def v77L (N:Nat):List (Nat×Ent'):=[(64,w64e N)]
def v77c (N:Nat):Cx:=⟨Tryz.prog,99999,v77L N,[]⟩
def v77b:Code:=Tryz.f77.body.getD .skip
theorem v77cx N:CxOk (v77c N):=ctx_ok (by kernel_rfl) (.cons (by kernel_rfl) (w64ok N) .nil) .nil
def v77F0 [Alg] (N:Nat) (self:Int->O) (k0:Int->O) (k1:Unit->O) (x0_0:(List YF3)) (x0_1 x0_2:Int):O:=
 br (decide (x0_2 < x0_1))
  (gx x0_0 x0_2 fun y3=>
  ck (w64p N y3) <|
  br (w64y0 N y3)
   (k0 x0_2)
   (self (IntKind.i64.wrap (x0_2+(1:Int)))))
  (k1 ())
def v77b0:Code:=atC [1,0,1,0,0] v77b
def v77m0:Nm:=⟨[0,1,7,8],[],[]⟩
def v77I0 (x:(List YF3)×Int×Int):Sg:=⟨[(0,.e (.sl .tx) x.1),(1,.fn 64 []),(7,.e (.i .i64) x.2.1),(8,.e (.i .i64) x.2.2)],[],100⟩
def v77u0 (σ:Sg):(List YF3)×Int×Int:=(lvT (.sl .tx) 0 0 σ,lvT (.i .i64) 7 0 σ,lvT (.i .i64) 8 0 σ)
theorem v77ui0:∀ x,v77u0 (v77I0 x)=x:=fun _=>by kernel_rfl
def v77X0_0 (y:Int):Exit×Sg:=(.ret,⟨[(4,.e (.i .i64) y)],[],100⟩)
def v77v0_0 (_:Exit) (σ:Sg):Int:=lvT (.i .i64) 4 0 σ
def v77X0_1 (_:Unit):Exit×Sg:=((.exit 0),⟨[],[],100⟩)
def v77v0_1 (_:Exit) (_:Sg):Unit:=()
def v77w0:List (Exit×Nm):=[(.ret,⟨[4],[],[]⟩),((.exit 0),⟨[],[],[]⟩)]
theorem v77o0:Outs v77v0_0 v77v0_1 (fun _ _=>()) v77X0_0 v77X0_1 (noX 2) (exC .ret) (exC (.exit 0)) (exC (.goto 2)):=⟨fun _=>by kernel_rfl,fun _=>by kernel_rfl,fun _=>by kernel_rfl,fun _=>by kernel_rfl,fun _=>by kernel_rfl,fun _=>by kernel_rfl,exNe_ok (by kernel_rfl),exNe_ok (by kernel_rfl),exNe_ok (by kernel_rfl)⟩
def v77l0 [Alg] (N:Nat):Nat->((List YF3)×Int×Int)->((Int)->O)->((Unit)->O)->((Unit)->O)->O
 | 0,_,_,_,_=>none
 | n+1,x,k0,k1,k2=>v77F0 N (fun v0=>v77l0 N n (x.1,x.2.1,v0) k0 k1 k2) (fun y0=>k0 y0) (fun (_:Unit)=>k1 ()) x.1 x.2.1 x.2.2
def v77n0 [Alg] N a0 a1 a2 (k0:Int->O) (k1:Unit->O):=v77l0 N N (a0,a1,a2) (fun y=>k0 y) (fun y=>k1 y) (fun _=>none)
def v77s0 [Alg] N a0 a1 a2 (k0:Int->O) (k1:Unit->O):=subL v77I0 v77u0 (v77l0 N N) (v77I0 (a0,a1,a2)) (fun y=>k0 y) (fun y=>k1 y) (fun _=>none)
theorem v77e0 [Alg] N:v77s0 N=v77n0 N:=funext fun _=>funext fun _=>funext fun _=>funext fun _=>funext fun _=>subL_I v77ui0 _ _ _ _
def v77h0 [Alg] (_:Nat):Hint:=.d
theorem v77hk0 N:HintOk (v77c N) Tryz.f77.ntmps (v77h0 N) v77b0:=hk_of _ _ trivial
theorem v77q0 [Alg] (N:Nat) (self:Sg->O) (K:Exit->Sg->O) (x:(List YF3)×Int×Int):v77F0 N (fun v0=>self (v77I0 (x.1,x.2.1,v0))) (fun y0=>K (v77X0_0 y0).1 (v77X0_0 y0).2) (fun (_:Unit)=>K (v77X0_1 ()).1 (v77X0_1 ()).2) x.1 x.2.1 x.2.2=exec (v77c N) Tryz.f77.ntmps (v77h0 N) v77b0 (v77I0 x) (roundX v77m0 v77w0 self K):=by kernel_rfl
theorem v77S0 N (hc:CxOk (v77c N)):SubOk (v77c N) Tryz.f77.ntmps (.loop v77b0) v77X0_0 v77X0_1 (noX 2) (subL v77I0 v77u0 (v77l0 N N)):=
 sub_loop hc (v77hk0 N) v77o0 (n:=N) (fun x K=>loop_ind (v77l0 N) (fun _ _ _ _=>rfl) (fun n K ih x=>by
  have h:v77F0 N (fun v0=>v77l0 N n (x.1,x.2.1,v0) (fun y=>K (v77X0_0 y).1 (v77X0_0 y).2) (fun y=>K (v77X0_1 y).1 (v77X0_1 y).2) (fun y=>K ((noX 2) y).1 ((noX 2) y).2)) (fun y0=>K (v77X0_0 y0).1 (v77X0_0 y0).2) (fun (_:Unit)=>K (v77X0_1 ()).1 (v77X0_1 ()).2) x.1 x.2.1 x.2.2=v77F0 N (fun v0=>loopX (v77c N) Tryz.f77.ntmps (v77h0 N) v77b0 v77m0 v77w0 n (v77I0 (x.1,x.2.1,v0)) K) (fun y0=>K (v77X0_0 y0).1 (v77X0_0 y0).2) (fun (_:Unit)=>K (v77X0_1 ()).1 (v77X0_1 ()).2) x.1 x.2.1 x.2.2:=by rw [ show (fun v0=>v77l0 N n (x.1,x.2.1,v0) (fun y=>K (v77X0_0 y).1 (v77X0_0 y).2) (fun y=>K (v77X0_1 y).1 (v77X0_1 y).2) (fun y=>K ((noX 2) y).1 ((noX 2) y).2))=(fun v0=>loopX (v77c N) Tryz.f77.ntmps (v77h0 N) v77b0 v77m0 v77w0 n (v77I0 (x.1,x.2.1,v0)) K) from funext fun _=>ih _]
  exact h.trans (v77q0 N (fun σ=>loopX (v77c N) Tryz.f77.ntmps (v77h0 N) v77b0 v77m0 v77w0 n σ K) K x)) N x K)
def v77G [Alg] (_:Nat) (in0:(List YF3)->Int->Int->(Int->O)->(Unit->O)->O) (s0:(List YF3)):O:=
 in0 s0 ((↑s0.length:Int)) ((0:Int))
  (fun z4=>
   some (v77r0 z4))
  (fun (_:Unit)=>
   some (v77r0 ((-1:Int))))
def v77 [Alg] N s0:=v77G N (v77n0 N) s0
def v77h [Alg] (N:Nat):Hint:=(.seq .d (.seq (.seq .d (.block (.sub v77m0 _ _ _ v77X0_0 v77X0_1 (noX 2) (subL v77I0 v77u0 (v77l0 N N))))) .d))
theorem v77hk N (hc:CxOk (v77c N)):HintOk (v77c N) Tryz.f77.ntmps (v77h N) v77b:=hk_of _ _ (And.intro trivial (And.intro (And.intro trivial (v77S0 N hc)) trivial))
theorem v77q [Alg] N s0:v77G N (v77s0 N) s0=exec (v77c N) Tryz.f77.ntmps (v77h N) v77b ⟨argT 0 [.e (.sl .tx) s0,.fn 64 []],[],100⟩ (finX (v77c N) Tryz.f77 false):=by kernel_rfl
theorem v77does {N:Nat} (hc:CxOk (v77c N)) {s0:(List YF3)} {r:Res} (h:v77 N s0=some r):DoesR Tryz.prog 77 (([.e (.sl .tx) s0,.fn 64 []]:List X).map X.D) (HA []) r:=
 fun_ok hc (f:=77) (fn:=Tryz.f77) (code:=v77b) (by kernel_rfl) (by kernel_rfl) (v77hk N hc) (Nat.le_of_ble_eq_true (by kernel_rfl)) (ow:=false) ((v77q N s0).symm.trans (by rw [v77e0 N];exact h))
def v77un (r:Res):Option (Int):=match r with
 | (x0,[])=>(match ue (.i .i64) x0 with | some a0=>some a0 | _=>none)
 | _=>none
theorem v77uo {r d} (h:v77un r=some d):r=v77r0 (d):=by
 unfold v77un at h;split at h
 ·split at h
  ·rename_i h0;cases h;rw [ue_some h0];rfl
  ·cases h
 ·cases h
def v77z N s0:=(v77 N s0).bind v77un
theorem v77fin {N} (hc:CxOk (v77c N)) {s0 d} (hd:v77z N s0=some d):DoK Tryz.prog 77 [.e (.sl .tx) s0,.fn 64 []] [] (v77r0 (d)):=by
 obtain ⟨r,hr,hu⟩:=Option.bind_eq_some_iff.1 hd;have:=v77does hc hr;rw [v77uo hu] at this;exact this
def v77p N s0:=(v77z N s0).isSome
def v77y0 N s0:=((v77z N s0).getD 0)
def v77e (N:Nat):Ent':=Ef1 (.sl .tx) 64 (fun x0=>(v77p N x0,v77r0 (v77y0 N x0)))
theorem v77re {N s0 d} (hd:v77z N s0=some d):v77r0 (v77y0 N s0)=v77r0 (d):=by unfold v77y0;rw [hd];rfl
theorem v77ok N:EOk Tryz.prog 77 (v77e N):=EOk.f1 (fun x0 h=>by
 have h:(v77z N x0).isSome=true:=h;obtain ⟨d,hd⟩:=Option.isSome_iff_exists.1 h;have f:=v77fin (v77cx N) hd;rw [← v77re hd] at f;exact f)
def v62r0 (a0:Bool):Res:=(.e .bo a0,[])
def v62L (N:Nat):List (Nat×Ent'):=[(64,w64e N),(77,v77e N)]
def v62c (N:Nat):Cx:=⟨Tryz.prog,99999,v62L N,[]⟩
def v62b:Code:=Tryz.f62.body.getD .skip
theorem v62cx N:CxOk (v62c N):=ctx_ok (by kernel_rfl) (.cons (by kernel_rfl) (w64ok N) (.cons (by kernel_rfl) (v77ok N) .nil)) .nil
def v62G [Alg] (N:Nat) (s0:(List YF3)):O:=
 ck (v77p N s0) <|
 some (v62r0 (decide ((0:Int)<=v77y0 N s0)))
def v62 [Alg] N s0:=v62G N s0
def v62h [Alg] (_:Nat):Hint:=.d
theorem v62hk N:HintOk (v62c N) Tryz.f62.ntmps (v62h N) v62b:=hk_of _ _ trivial
theorem v62q [Alg] N s0:v62G N s0=exec (v62c N) Tryz.f62.ntmps (v62h N) v62b ⟨argT 0 [.e (.sl .tx) s0,.fn 64 []],[],100⟩ (finX (v62c N) Tryz.f62 false):=by kernel_rfl
theorem v62does {N:Nat} (hc:CxOk (v62c N)) {s0:(List YF3)} {r:Res} (h:v62 N s0=some r):DoesR Tryz.prog 62 (([.e (.sl .tx) s0,.fn 64 []]:List X).map X.D) (HA []) r:=
 fun_ok hc (f:=62) (fn:=Tryz.f62) (code:=v62b) (by kernel_rfl) (by kernel_rfl) (v62hk N) (Nat.le_of_ble_eq_true (by kernel_rfl)) (ow:=false) ((v62q N s0).symm.trans (by exact h))
def v62un (r:Res):Option (Bool):=match r with
 | (x0,[])=>(match ue .bo x0 with | some a0=>some a0 | _=>none)
 | _=>none
theorem v62uo {r d} (h:v62un r=some d):r=v62r0 (d):=by
 unfold v62un at h;split at h
 ·split at h
  ·rename_i h0;cases h;rw [ue_some h0];rfl
  ·cases h
 ·cases h
def v62z N s0:=(v62 N s0).bind v62un
theorem v62fin {N} (hc:CxOk (v62c N)) {s0 d} (hd:v62z N s0=some d):DoK Tryz.prog 62 [.e (.sl .tx) s0,.fn 64 []] [] (v62r0 (d)):=by
 obtain ⟨r,hr,hu⟩:=Option.bind_eq_some_iff.1 hd;have:=v62does hc hr;rw [v62uo hu] at this;exact this
def v62p N s0:=(v62z N s0).isSome
def v62y0 N s0:=((v62z N s0).getD false)
def v62e (N:Nat):Ent':=Ef1 (.sl .tx) 64 (fun x0=>(v62p N x0,v62r0 (v62y0 N x0)))
theorem v62re {N s0 d} (hd:v62z N s0=some d):v62r0 (v62y0 N s0)=v62r0 (d):=by unfold v62y0;rw [hd];rfl
theorem v62ok N:EOk Tryz.prog 62 (v62e N):=EOk.f1 (fun x0 h=>by
 have h:(v62z N x0).isSome=true:=h;obtain ⟨d,hd⟩:=Option.isSome_iff_exists.1 h;have f:=v62fin (v62cx N) hd;rw [← v62re hd] at f;exact f)
def v18r0 (a0:(List (List YF3))):Res:=(.own 100,[(100,.row 24 (.sl .tx) a0 true)])
def v18G [Alg] (N:Nat) (l0:(List Int)) (raw1:YF3):O:=
 ck (w9p N l0) <|
 ck (lim ([]++w9y0 N l0).length (16:Nat)) <|
 ck (w44p N raw1 (90:Int)) <|
 ck (lim ([]++w9y0 N l0++[w44y0 N raw1 (90:Int)]).length (16:Nat)) <|
 some (v18r0 ([w9y0 N l0,[]++w9y0 N l0++[w44y0 N raw1 (90:Int)]]))
def v18 [Alg] N l0 raw1:=v18G N l0 raw1
def v18un (r:Res):Option ((List (List YF3))):=match r with
 | (.own 100,[(100,x0)])=>(match ur 24 (.sl .tx) true x0 with | some a0=>some a0 | _=>none)
 | _=>none
def v18z N l0 raw1:=(v18 N l0 raw1).bind v18un
def v18p N l0 raw1:=(v18z N l0 raw1).isSome
def v18y0 N l0 raw1:=((v18z N l0 raw1).getD [])
def l62e (N:Nat):Ent':=Eor (w62e N) (v62e N)
theorem l62ok (N:Nat):EOk Tryz.prog 62 (l62e N):=EOk.or (w62ok N) (v62ok N)
def l53e (N:Nat):Ent':=v53e N
theorem l53ok (N:Nat):EOk Tryz.prog 53 (l53e N):=v53ok N
end
end Go.Proofs
