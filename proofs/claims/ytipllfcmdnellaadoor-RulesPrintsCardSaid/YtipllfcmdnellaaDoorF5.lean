/- The text of rules, by the reference. Conditions are in the theorems. -/
import Derived.Test.YtipllfcmdnellaaDoorE7
import Derived.Test.YtipllfcmdnellaaDoorProg
import Derived.KernelRfl
import Derived.Test.YtipllfcmdnellaaDoorF4
/- What functions do. -/
namespace Go.Proofs
noncomputable section
open Go.Ax Go.Ax.Alg Go.RowKit Go.Ab
open Go
abbrev YF5:=List UInt8
abbrev lF5x0:List UInt8:=[(97:UInt8),(108:UInt8),(119:UInt8),(97:UInt8),(121:UInt8),(115:UInt8)]
abbrev lF5x1:List UInt8:=[(108:UInt8),(101:UInt8),(97:UInt8),(115:UInt8),(116:UInt8)]
abbrev lF5x2:List UInt8:=[(109:UInt8),(111:UInt8),(115:UInt8),(116:UInt8)]
abbrev lF5x3:List UInt8:=[(110:UInt8),(111:UInt8),(116:UInt8)]
def w54r0 (a0:YF5):Res:=(.e .tx a0,[])
def w54L (N:(Nat×(Int->Option (YF5)))):List (Nat×Ent'):=[(54,E1 (.i .i64) (fun x0=>((N.2 x0).isSome,w54r0 (((N.2 x0).getD [])))))]
def w54c (N:(Nat×(Int->Option (YF5)))):Cx:=⟨Tryd.prog,99999,w54L N,[]⟩
def w54b:Code:=Tryd.f54.body.getD .skip
theorem w54cx (N:(Nat×(Int->Option (YF5)))) (hs:EOk Tryd.prog 54 (E1 (.i .i64) (fun x0=>((N.2 x0).isSome,w54r0 (((N.2 x0).getD [])))))):CxOk (w54c N):=ctx_ok (by kernel_rfl) (.cons (by kernel_rfl) hs .nil) .nil
def w54G [Alg] (N:(Nat×(Int->Option (YF5)))) (n0:Int):O:=
 br (decide (n0 < 10))
  (some (w54r0 [u8of (IntKind.i64.wrap ((48:Int)+n0))]))
  (ck true <|
  ck ((N.2 (IntKind.i64.wrap (n0.tdiv (10:Int)))).isSome) <|
  ck true <|
  ck (decide ((↑((N.2 (IntKind.i64.wrap (n0.tdiv (10:Int)))).getD []).length:Int)+(↑[u8of (IntKind.i64.wrap ((48:Int)+n0.tmod (10:Int)))].length:Int)<=(9223372036854775807:Int))) <|
  some (w54r0 ((N.2 (IntKind.i64.wrap (n0.tdiv (10:Int)))).getD []++[u8of (IntKind.i64.wrap ((48:Int)+n0.tmod (10:Int)))])))
def w54 [Alg] N n0:=w54G N n0
def w54h [Alg] (_:(Nat×(Int->Option (YF5)))):Hint:=.d
theorem w54hk (N:(Nat×(Int->Option (YF5)))):HintOk (w54c N) Tryd.f54.ntmps (w54h N) w54b:=hk_of _ _ trivial
theorem w54q [Alg] N n0:w54G N n0=exec (w54c N) Tryd.f54.ntmps (w54h N) w54b ⟨argT 0 [.e (.i .i64) n0],[],100⟩ (finX (w54c N) Tryd.f54 false):=by kernel_rfl
def w54un (r:Res):Option (YF5):=match r with
 | (x0,[])=>(match ue .tx x0 with | some a0=>some a0 | _=>none)
 | _=>none
theorem w54uo {r d} (h:w54un r=some d):r=w54r0 (d):=by
 unfold w54un at h;split at h
 ·split at h
  ·rename_i h0;cases h;rw [ue_some h0];rfl
  ·cases h
 ·cases h
def w54z N n0:=(w54 N n0).bind w54un
theorem w54fin {N} (hc:CxOk (w54c N)) {n0 d} (hd:w54z N n0=some d):DoK Tryd.prog 54 [.e (.i .i64) n0] [] (w54r0 (d)):=
 finJ hc (by kernel_rfl) (by kernel_rfl) (w54hk N) (by kernel_rfl) w54uo (w54q N n0).symm.trans hd
def w54Y (N:Nat):Nat->Int->Option (YF5)
 | 0,_=>none
 | n+1,n0=>w54z (N,w54Y N n) n0
theorem w54Yok (N:Nat):∀ n,EOk Tryd.prog 54 (E1 (.i .i64) (fun x0=>((w54Y N n x0).isSome,w54r0 (((w54Y N n x0).getD [])))))
 | 0=>EOk.e1 (fun _ h=>by cases h)
 | n+1=>EOk.e1 (fun x0 h=>by
   obtain ⟨d,hd⟩:=Option.isSome_iff_exists.1 h;have hd':w54Y N (n+1) x0=some d:=hd;have e:w54r0 (((w54Y N (n+1) x0).getD []))=w54r0 (d):=by rw [hd'];rfl
   show Does _ _ _ _ (w54r0 (((w54Y N (n+1) x0).getD []))).1.D (HA (w54r0 (((w54Y N (n+1) x0).getD []))).2);rw [e];exact w54fin (N:=(N,w54Y N n)) (w54cx (N,w54Y N n) (w54Yok N n)) hd')
def w54p N n0:=(w54Y N N n0).isSome
def w54y0 N n0:=((w54Y N N n0).getD [])
def w54e (N:Nat):Ent':=E1 (.i .i64) (fun x0=>(w54p N x0,w54r0 (w54y0 N x0)))
theorem w54ok N:EOk Tryd.prog 54 (w54e N):=w54Yok N N
def w40r0 (a0:(List YF5)):Res:=(.e (.sl .tx) a0,[])
def w40c (N:Nat):Cx:=⟨Tryd.prog,99999,[(43,w43e N),(54,w54e N)],[]⟩
def w40b:Code:=Tryd.f40.body.getD .skip
theorem w40cx N:CxOk (w40c N):=ctx_ok (by kernel_rfl) (.cons (by kernel_rfl) (w43ok N) (.cons (by kernel_rfl) (w54ok N) .nil)) .nil
def w40F0 [Alg] (_:Nat) (k0:Int->YF5->(List Int)->Int->Int->(List YF5)->O) (x30_0:Int) (x30_1:YF5) (x30_2:(List Int)) (x30_3 x30_4:Int) (x30_5:(List YF5)):O:=
 br (decide (x30_0=0))
  (k0 x30_0 [(105:UInt8),(102:UInt8)] x30_2 x30_3 x30_4 x30_5)
  (k0 x30_0 x30_1 x30_2 x30_3 x30_4 x30_5)
def w40b0:Code:=atC [1,1,0,1,0,0,1,0,0,1,0] w40b
def w40m0:Nm:=⟨[1,3,4,5],[],[]⟩
def w40I0 (x:Int×YF5×(List Int)×Int×Int×(List YF5)):Sg:=⟨[(1,.ref 0 0),(3,.own 1),(4,.e (.i .i64) x.1),(5,.e .tx x.2.1)],[(0,.box 49 [.e (.sl (.i .i64)) x.2.2.1,.e (.i .i64) x.2.2.2.1,.e (.i .i64) x.2.2.2.2.1]),(1,.row 9 .tx x.2.2.2.2.2 true)],100⟩
def w40u0 (σ:Sg):Int×YF5×(List Int)×Int×Int×(List YF5):=(lvT (.i .i64) 4 0 σ,lvT .tx 5 0 σ,lvH (.sl (.i .i64)) 0 0 σ,lvH (.i .i64) 0 1 σ,lvH (.i .i64) 0 2 σ,lvR .tx 1 σ)
theorem w40ui0:∀ x,w40u0 (w40I0 x)=x:=fun _=>by kernel_rfl
def w40X0_0 (y:Int×YF5×(List Int)×Int×Int×(List YF5)):Exit×Sg:=(.normal,⟨[(1,.ref 0 0),(3,.own 1),(4,.e (.i .i64) y.1),(5,.e .tx y.2.1)],[(0,.box 49 [.e (.sl (.i .i64)) y.2.2.1,.e (.i .i64) y.2.2.2.1,.e (.i .i64) y.2.2.2.2.1]),(1,.row 9 .tx y.2.2.2.2.2 true)],100⟩)
def w40v0_0 (_:Exit) (σ:Sg):Int×YF5×(List Int)×Int×Int×(List YF5):=(lvT (.i .i64) 4 0 σ,lvT .tx 5 0 σ,lvH (.sl (.i .i64)) 0 0 σ,lvH (.i .i64) 0 1 σ,lvH (.i .i64) 0 2 σ,lvR .tx 1 σ)
def w40w0:List (Exit×Nm):=[(.normal,⟨[1,3,4,5],[],[]⟩)]
def w40l0 [Alg] (N:Nat) (_:Nat) (x:Int×YF5×(List Int)×Int×Int×(List YF5)) (k0:(Int×YF5×(List Int)×Int×Int×(List YF5))->O) (_:(Unit)->O) (_:(Unit)->O):O:=w40F0 N (fun y0 y1 y2 y3 y4 y5=>k0 (y0,y1,y2,y3,y4,y5)) x.1 x.2.1 x.2.2.1 x.2.2.2.1 x.2.2.2.2.1 x.2.2.2.2.2
def w40n0 [Alg] N a0 a1 a2 a3 a4 a5 (k0:Int->YF5->(List Int)->Int->Int->(List YF5)->O):=w40l0 N N (a0,a1,a2,a3,a4,a5) (fun y=>k0 y.1 y.2.1 y.2.2.1 y.2.2.2.1 y.2.2.2.2.1 y.2.2.2.2.2) (fun _=>none) (fun _=>none)
def w40s0 [Alg] N a0 a1 a2 a3 a4 a5 (k0:Int->YF5->(List Int)->Int->Int->(List YF5)->O):=subL w40I0 w40u0 (w40l0 N N) (w40I0 (a0,a1,a2,a3,a4,a5)) (fun y=>k0 y.1 y.2.1 y.2.2.1 y.2.2.2.1 y.2.2.2.2.1 y.2.2.2.2.2) (fun _=>none) (fun _=>none)
theorem w40e0 [Alg] N:w40s0 N=w40n0 N:=funext fun _=>funext fun _=>funext fun _=>funext fun _=>funext fun _=>funext fun _=>funext fun _=>subL_I w40ui0 _ _ _ _
theorem w40q0 [Alg] (N:Nat) (K:Exit->Sg->O) (x:Int×YF5×(List Int)×Int×Int×(List YF5)):w40F0 N (fun y0 y1 y2 y3 y4 y5=>K (w40X0_0 (y0,y1,y2,y3,y4,y5)).1 (w40X0_0 (y0,y1,y2,y3,y4,y5)).2) x.1 x.2.1 x.2.2.1 x.2.2.2.1 x.2.2.2.2.1 x.2.2.2.2.2=exec (w40c N) Tryd.f40.ntmps .d w40b0 (w40I0 x) (partX w40w0 K):=by kernel_rfl
theorem w40S0 N (hc:CxOk (w40c N)):SubOk (w40c N) Tryd.f40.ntmps w40b0 w40X0_0 (noX 1) (noX 2) (subL w40I0 w40u0 (w40l0 N N)):=
 sub_part hc (hk_d w40b0) (oK1 w40v0_0 .normal (fun _=>by kernel_rfl) (fun _=>rfl) (by kernel_rfl)) (fun x K=>by
  exact w40q0 N K x)
def w40F1 [Alg] (N:Nat) (in0:Int->YF5->(List Int)->Int->Int->(List YF5)->(Int->YF5->(List Int)->Int->Int->(List YF5)->O)->O) (self:Int->(List Int)->Int->Int->(List YF5)->O) (k0:(List Int)->Int->Int->(List YF5)->O) (x0_0:Int) (x0_1:(List Int)) (x0_2 x0_3:Int) (x0_4:(List YF5)):O:=
 br (decide (x0_0 < (↑x0_1.length:Int)))
  (in0 x0_0 [(97:UInt8),(110:UInt8),(100:UInt8)] x0_1 x0_2 x0_3 x0_4
   (fun z31 z32 z33 z34 z35 z36=>
    ck (lim (z36++[z32]).length (16:Nat)) <|
    gx z33 z31 fun y37=>
    br (decide (y37 < 0))
     (ck (lim (z36++[z32]++[lF5x3]).length (16:Nat)) <|
     gx z33 z31 fun y38=>
     ck (w43p N y38) <|
     ck (w54p N (w43y0 N y38)) <|
     ck (decide ((1:Int)+(↑(w54y0 N (w43y0 N y38)).length:Int)<=(9223372036854775807:Int))) <|
     ck (lim (z36++[z32]++[lF5x3]++[[(102:UInt8)]++w54y0 N (w43y0 N y38)]).length (16:Nat)) <|
     self (IntKind.i64.wrap (z31+1)) z33 z34 z35 (z36++[z32]++[lF5x3]++[[(102:UInt8)]++w54y0 N (w43y0 N y38)]))
     (gx z33 z31 fun y39=>
     ck (w43p N y39) <|
     ck (w54p N (w43y0 N y39)) <|
     ck (decide ((1:Int)+(↑(w54y0 N (w43y0 N y39)).length:Int)<=(9223372036854775807:Int))) <|
     ck (lim (z36++[z32]++[[(102:UInt8)]++w54y0 N (w43y0 N y39)]).length (16:Nat)) <|
     self (IntKind.i64.wrap (z31+1)) z33 z34 z35 (z36++[z32]++[[(102:UInt8)]++w54y0 N (w43y0 N y39)]))))
  (k0 x0_1 x0_2 x0_3 x0_4)
def w40b1:Code:=atC [1,1,0,1,0,0] w40b
def w40m1:Nm:=⟨[1,3,4],[],[.nilR 3 (.row 9 .tx [] true)]⟩
def w40I1 (x:Int×(List Int)×Int×Int×(List YF5)):Sg:=⟨[(1,.ref 0 0),(3,.own 1),(4,.e (.i .i64) x.1)],[(0,.box 49 [.e (.sl (.i .i64)) x.2.1,.e (.i .i64) x.2.2.1,.e (.i .i64) x.2.2.2.1]),(1,.row 9 .tx x.2.2.2.2 true)],100⟩
def w40u1 (σ:Sg):Int×(List Int)×Int×Int×(List YF5):=(lvT (.i .i64) 4 0 σ,lvH (.sl (.i .i64)) 0 0 σ,lvH (.i .i64) 0 1 σ,lvH (.i .i64) 0 2 σ,lvR .tx 1 σ)
theorem w40ui1:∀ x,w40u1 (w40I1 x)=x:=fun _=>by kernel_rfl
def w40X1_0 (y:(List Int)×Int×Int×(List YF5)):Exit×Sg:=((.exit 0),⟨[(1,.ref 0 0),(3,.own 1)],[(0,.box 49 [.e (.sl (.i .i64)) y.1,.e (.i .i64) y.2.1,.e (.i .i64) y.2.2.1]),(1,.row 9 .tx y.2.2.2 true)],100⟩)
def w40v1_0 (_:Exit) (σ:Sg):(List Int)×Int×Int×(List YF5):=(lvH (.sl (.i .i64)) 0 0 σ,lvH (.i .i64) 0 1 σ,lvH (.i .i64) 0 2 σ,lvR .tx 1 σ)
def w40w1:List (Exit×Nm):=[((.exit 0),⟨[1,3],[],[]⟩)]
def w40l1 [Alg] (N:Nat):Nat->(Int×(List Int)×Int×Int×(List YF5))->(((List Int)×Int×Int×(List YF5))->O)->((Unit)->O)->((Unit)->O)->O
 | 0,_,_,_,_=>none
 | n+1,x,k0,k1,k2=>w40F1 N (w40n0 N) (fun v0 v1 v2 v3 v4=>w40l1 N n (v0,v1,v2,v3,v4) k0 k1 k2) (fun y0 y1 y2 y3=>k0 (y0,y1,y2,y3)) x.1 x.2.1 x.2.2.1 x.2.2.2.1 x.2.2.2.2
def w40n1 [Alg] N a0 a1 a2 a3 a4 (k0:(List Int)->Int->Int->(List YF5)->O):=w40l1 N N (a0,a1,a2,a3,a4) (fun y=>k0 y.1 y.2.1 y.2.2.1 y.2.2.2) (fun _=>none) (fun _=>none)
def w40s1 [Alg] N a0 a1 a2 a3 a4 (k0:(List Int)->Int->Int->(List YF5)->O):=subL w40I1 w40u1 (w40l1 N N) (w40I1 (a0,a1,a2,a3,a4)) (fun y=>k0 y.1 y.2.1 y.2.2.1 y.2.2.2) (fun _=>none) (fun _=>none)
theorem w40e1 [Alg] N:w40s1 N=w40n1 N:=funext fun _=>funext fun _=>funext fun _=>funext fun _=>funext fun _=>funext fun _=>subL_I w40ui1 _ _ _ _
def w40h1 [Alg] (N:Nat):Hint:=(.seq .d (.seq (.block (.seq .d (.seq (.sub w40m0 _ _ _ w40X0_0 (noX 1) (noX 2) (subL w40I0 w40u0 (w40l0 N N))) .d))) .d))
theorem w40hk1 N (hc:CxOk (w40c N)):HintOk (w40c N) Tryd.f40.ntmps (w40h1 N) w40b1:=hk_of _ _ (And.intro trivial (And.intro (And.intro trivial (And.intro (w40S0 N hc) trivial)) trivial))
theorem w40q1 [Alg] (N:Nat) (self:Sg->O) (K:Exit->Sg->O) (x:Int×(List Int)×Int×Int×(List YF5)):w40F1 N (w40s0 N) (fun v0 v1 v2 v3 v4=>self (w40I1 (v0,v1,v2,v3,v4))) (fun y0 y1 y2 y3=>K (w40X1_0 (y0,y1,y2,y3)).1 (w40X1_0 (y0,y1,y2,y3)).2) x.1 x.2.1 x.2.2.1 x.2.2.2.1 x.2.2.2.2=exec (w40c N) Tryd.f40.ntmps (w40h1 N) w40b1 (w40I1 x) (roundX w40m1 w40w1 self K):=by kernel_rfl
theorem w40S1 N (hc:CxOk (w40c N)):SubOk (w40c N) Tryd.f40.ntmps (.loop w40b1) w40X1_0 (noX 1) (noX 2) (subL w40I1 w40u1 (w40l1 N N)):=
 sub_loop hc (w40hk1 N hc) (oK1 w40v1_0 (.exit 0) (fun _=>by kernel_rfl) (fun _=>rfl) (by kernel_rfl)) (n:=N) (fun x K=>loop_ind (w40l1 N) (fun _ _ _ _=>rfl) (fun n K ih x=>by
  refine Eq.trans ?_ (w40q1 N _ K x);simp only [w40e0 N,← ih];rfl) N x K)
def w40F2 [Alg] (_:Nat) (k0:(List Int)->Int->Int->(List YF5)->O) (x44_0:(List Int)) (x44_1 x44_2:Int) (x44_3:(List YF5)):O:=
 br (decide ((↑x44_3.length:Int)=(0:Int)))
  (ck (lim (x44_3++[lF5x0]).length (16:Nat)) <|
  k0 x44_0 x44_1 x44_2 (x44_3++[lF5x0]))
  (k0 x44_0 x44_1 x44_2 x44_3)
def w40b2:Code:=atC [1,1,1,0] w40b
def w40m2:Nm:=⟨[1,3],[],[]⟩
def w40I2 (x:(List Int)×Int×Int×(List YF5)):Sg:=⟨[(1,.ref 0 0),(3,.own 1)],[(0,.box 49 [.e (.sl (.i .i64)) x.1,.e (.i .i64) x.2.1,.e (.i .i64) x.2.2.1]),(1,.row 9 .tx x.2.2.2 true)],100⟩
def w40u2 (σ:Sg):(List Int)×Int×Int×(List YF5):=(lvH (.sl (.i .i64)) 0 0 σ,lvH (.i .i64) 0 1 σ,lvH (.i .i64) 0 2 σ,lvR .tx 1 σ)
theorem w40ui2:∀ x,w40u2 (w40I2 x)=x:=fun _=>by kernel_rfl
def w40X2_0 (y:(List Int)×Int×Int×(List YF5)):Exit×Sg:=(.normal,⟨[(1,.ref 0 0),(3,.own 1)],[(0,.box 49 [.e (.sl (.i .i64)) y.1,.e (.i .i64) y.2.1,.e (.i .i64) y.2.2.1]),(1,.row 9 .tx y.2.2.2 true)],100⟩)
def w40v2_0 (_:Exit) (σ:Sg):(List Int)×Int×Int×(List YF5):=(lvH (.sl (.i .i64)) 0 0 σ,lvH (.i .i64) 0 1 σ,lvH (.i .i64) 0 2 σ,lvR .tx 1 σ)
def w40w2:List (Exit×Nm):=[(.normal,⟨[1,3],[],[]⟩)]
def w40l2 [Alg] (N:Nat) (_:Nat) (x:(List Int)×Int×Int×(List YF5)) (k0:((List Int)×Int×Int×(List YF5))->O) (_:(Unit)->O) (_:(Unit)->O):O:=w40F2 N (fun y0 y1 y2 y3=>k0 (y0,y1,y2,y3)) x.1 x.2.1 x.2.2.1 x.2.2.2
def w40n2 [Alg] N a0 a1 a2 a3 (k0:(List Int)->Int->Int->(List YF5)->O):=w40l2 N N (a0,a1,a2,a3) (fun y=>k0 y.1 y.2.1 y.2.2.1 y.2.2.2) (fun _=>none) (fun _=>none)
def w40s2 [Alg] N a0 a1 a2 a3 (k0:(List Int)->Int->Int->(List YF5)->O):=subL w40I2 w40u2 (w40l2 N N) (w40I2 (a0,a1,a2,a3)) (fun y=>k0 y.1 y.2.1 y.2.2.1 y.2.2.2) (fun _=>none) (fun _=>none)
theorem w40e2 [Alg] N:w40s2 N=w40n2 N:=funext fun _=>funext fun _=>funext fun _=>funext fun _=>funext fun _=>subL_I w40ui2 _ _ _ _
theorem w40q2 [Alg] (N:Nat) (K:Exit->Sg->O) (x:(List Int)×Int×Int×(List YF5)):w40F2 N (fun y0 y1 y2 y3=>K (w40X2_0 (y0,y1,y2,y3)).1 (w40X2_0 (y0,y1,y2,y3)).2) x.1 x.2.1 x.2.2.1 x.2.2.2=exec (w40c N) Tryd.f40.ntmps .d w40b2 (w40I2 x) (partX w40w2 K):=by kernel_rfl
theorem w40S2 N (hc:CxOk (w40c N)):SubOk (w40c N) Tryd.f40.ntmps w40b2 w40X2_0 (noX 1) (noX 2) (subL w40I2 w40u2 (w40l2 N N)):=
 sub_part hc (hk_d w40b2) (oK1 w40v2_0 .normal (fun _=>by kernel_rfl) (fun _=>rfl) (by kernel_rfl)) (fun x K=>by
  exact w40q2 N K x)
def w40G [Alg] (N:Nat) (_in0:Int->YF5->(List Int)->Int->Int->(List YF5)->(Int->YF5->(List Int)->Int->Int->(List YF5)->O)->O) (in1:Int->(List Int)->Int->Int->(List YF5)->((List Int)->Int->Int->(List YF5)->O)->O) (in2:(List Int)->Int->Int->(List YF5)->((List Int)->Int->Int->(List YF5)->O)->O) (r0_0:(List Int)) (r0_1 r0_2:Int):O:=
 in1 0 r0_0 r0_1 r0_2 []
  (fun z40 z41 z42 z43=>
   in2 z40 z41 z42 z43
    (fun _ z46 z47 z48=>
     gx [[(115:UInt8),(116:UInt8),(114:UInt8),(105:UInt8),(107:UInt8),(101:UInt8)],[(114:UInt8),(101:UInt8),(115:UInt8),(116:UInt8),(111:UInt8),(114:UInt8),(101:UInt8)],[(114:UInt8),(101:UInt8),(116:UInt8),(97:UInt8),(107:UInt8),(101:UInt8)]] z46 fun y49=>
     ck (lim (z48++[y49]).length (16:Nat)) <|
     br (decide (z47 < 0))
      (ck (w54p N (IntKind.i64.wrap ((-1:Int) - z47))) <|
      ck (lim (z48++[y49]++[lF5x2,w54y0 N (IntKind.i64.wrap ((-1:Int) - z47))]).length (16:Nat)) <|
      some (w40r0 (z48++[y49]++[lF5x2,w54y0 N (IntKind.i64.wrap ((-1:Int) - z47))])))
      (ck (w54p N z47) <|
      ck (lim (z48++[y49]++[lF5x1,w54y0 N z47]).length (16:Nat)) <|
      some (w40r0 (z48++[y49]++[lF5x1,w54y0 N z47])))))
def w40 [Alg] N r0_0 r0_1 r0_2:=w40G N (w40n0 N) (w40n1 N) (w40n2 N) r0_0 r0_1 r0_2
def w40h [Alg] (N:Nat):Hint:=(.seq .d (.seq .d (.seq (.seq .d (.block (.sub w40m1 _ _ _ w40X1_0 (noX 1) (noX 2) (subL w40I1 w40u1 (w40l1 N N))))) (.seq (.sub w40m2 _ _ _ w40X2_0 (noX 1) (noX 2) (subL w40I2 w40u2 (w40l2 N N))) .d))))
theorem w40hk N (hc:CxOk (w40c N)):HintOk (w40c N) Tryd.f40.ntmps (w40h N) w40b:=hk_of _ _ (And.intro trivial (And.intro trivial (And.intro (And.intro trivial (w40S1 N hc)) (And.intro (w40S2 N hc) trivial))))
theorem w40q [Alg] N r0_0 r0_1 r0_2:w40G N (w40s0 N) (w40s1 N) (w40s2 N) r0_0 r0_1 r0_2=exec (w40c N) Tryd.f40.ntmps (w40h N) w40b ⟨argT 0 [.agg [.e (.sl (.i .i64)) r0_0,.e (.i .i64) r0_1,.e (.i .i64) r0_2]],[],100⟩ (finX (w40c N) Tryd.f40 false):=by kernel_rfl
def w40un (r:Res):Option ((List YF5)):=match r with
 | (x0,[])=>(match ue (.sl .tx) x0 with | some a0=>some a0 | _=>none)
 | _=>none
theorem w40uo {r d} (h:w40un r=some d):r=w40r0 (d):=by
 unfold w40un at h;split at h
 ·split at h
  ·rename_i h0;cases h;rw [ue_some h0];rfl
  ·cases h
 ·cases h
def w40z N r0_0 r0_1 r0_2:=(w40 N r0_0 r0_1 r0_2).bind w40un
theorem w40fin {N} (hc:CxOk (w40c N)) {r0_0 r0_1 r0_2 d} (hd:w40z N r0_0 r0_1 r0_2=some d):DoK Tryd.prog 40 [.agg [.e (.sl (.i .i64)) r0_0,.e (.i .i64) r0_1,.e (.i .i64) r0_2]] [] (w40r0 (d)):=
 finJ hc (by kernel_rfl) (by kernel_rfl) (w40hk N hc) (by kernel_rfl) w40uo (fun hr=>(w40q N r0_0 r0_1 r0_2).symm.trans (by rw [w40e0 N,w40e1 N,w40e2 N];exact hr)) hd
def w40p N r0_0 r0_1 r0_2:=(w40z N r0_0 r0_1 r0_2).isSome
def w40y0 N r0_0 r0_1 r0_2:=((w40z N r0_0 r0_1 r0_2).getD [])
def w40e (N:Nat):Ent':=E1 (.pr (.sl (.i .i64)) (.pr (.i .i64) (.i .i64))) (fun x0=>(w40p N x0.1 x0.2.1 x0.2.2,w40r0 (w40y0 N x0.1 x0.2.1 x0.2.2)))
theorem w40ok N:EOk Tryd.prog 40 (w40e N):=EOk.e1 (fun x0 h=>okG (z:=w40z N x0.1 x0.2.1 x0.2.2) h (w40fin (w40cx N)) rfl)
def w23r0 (a0:YF5):Res:=(.e .tx a0,[])
def w23c (N:Nat):Cx:=⟨Tryd.prog,99999,[(25,w25e N),(40,w40e N)],[]⟩
def w23b:Code:=Tryd.f23.body.getD .skip
theorem w23cx N:CxOk (w23c N):=ctx_ok (by kernel_rfl) (.cons (by kernel_rfl) (w25ok N) (.cons (by kernel_rfl) (w40ok N) .nil)) .nil
def w23F0 [Alg] (_:Nat) (self:YF5->Int->O) (k0:(List ((List Int)×(Int×Int)))->YF5->Int->O) (x24_0:(List ((List Int)×(Int×Int)))) (x24_2:Int) (x24_3:(List YF5)) (x24_1:YF5) (x24_4:Int):O:=
 br (decide (x24_4 < (↑x24_3.length:Int)))
  (br (decide (0 < x24_4))
   (ck (decide ((↑x24_1.length:Int)+(1:Int)<=(9223372036854775807:Int))) <|
   gx x24_3 x24_4 fun y29=>
   ck (decide ((↑(x24_1++[(32:UInt8)]).length:Int)+(↑y29.length:Int)<=(9223372036854775807:Int))) <|
   self (x24_1++[(32:UInt8)]++y29) (IntKind.i64.wrap (x24_4+1)))
   (gx x24_3 x24_4 fun y30=>
   ck (decide ((↑x24_1.length:Int)+(↑y30.length:Int)<=(9223372036854775807:Int))) <|
   self (x24_1++y30) (IntKind.i64.wrap (x24_4+1))))
  (k0 x24_0 x24_1 x24_2)
def w23b0:Code:=atC [1,1,1,0,1,0,0,1,0,0,1,0,1,0,0] w23b
def w23m0:Nm:=⟨[0,3,4,5,6],[],[]⟩
def w23I0 (x:(List ((List Int)×(Int×Int)))×YF5×Int×(List YF5)×Int):Sg:=⟨[(0,.e (.sl (.pr (.sl (.i .i64)) (.pr (.i .i64) (.i .i64)))) x.1),(3,.e .tx x.2.1),(4,.e (.i .i64) x.2.2.1),(5,.e (.sl .tx) x.2.2.2.1),(6,.e (.i .i64) x.2.2.2.2)],[],100⟩
def w23u0 (σ:Sg):(List ((List Int)×(Int×Int)))×YF5×Int×(List YF5)×Int:=(lvT (.sl (.pr (.sl (.i .i64)) (.pr (.i .i64) (.i .i64)))) 0 0 σ,lvT .tx 3 0 σ,lvT (.i .i64) 4 0 σ,lvT (.sl .tx) 5 0 σ,lvT (.i .i64) 6 0 σ)
theorem w23ui0:∀ x,w23u0 (w23I0 x)=x:=fun _=>by kernel_rfl
def w23X0_0 (y:(List ((List Int)×(Int×Int)))×YF5×Int):Exit×Sg:=((.exit 2),⟨[(0,.e (.sl (.pr (.sl (.i .i64)) (.pr (.i .i64) (.i .i64)))) y.1),(3,.e .tx y.2.1),(4,.e (.i .i64) y.2.2)],[],100⟩)
def w23v0_0 (_:Exit) (σ:Sg):(List ((List Int)×(Int×Int)))×YF5×Int:=(lvT (.sl (.pr (.sl (.i .i64)) (.pr (.i .i64) (.i .i64)))) 0 0 σ,lvT .tx 3 0 σ,lvT (.i .i64) 4 0 σ)
def w23w0:List (Exit×Nm):=[((.exit 2),⟨[0,3,4],[],[]⟩)]
def w23l0 [Alg] (N:Nat):Nat->((List ((List Int)×(Int×Int)))×YF5×Int×(List YF5)×Int)->(((List ((List Int)×(Int×Int)))×YF5×Int)->O)->((Unit)->O)->((Unit)->O)->O
 | 0,_,_,_,_=>none
 | n+1,x,k0,k1,k2=>w23F0 N (fun v0 v1=>w23l0 N n (x.1,v0,x.2.2.1,x.2.2.2.1,v1) k0 k1 k2) (fun y0 y1 y2=>k0 (y0,y1,y2)) x.1 x.2.2.1 x.2.2.2.1 x.2.1 x.2.2.2.2
def w23n0 [Alg] N a0 a1 a2 a3 a4 (k0:(List ((List Int)×(Int×Int)))->YF5->Int->O):=w23l0 N N (a0,a1,a2,a3,a4) (fun y=>k0 y.1 y.2.1 y.2.2) (fun _=>none) (fun _=>none)
def w23s0 [Alg] N a0 a1 a2 a3 a4 (k0:(List ((List Int)×(Int×Int)))->YF5->Int->O):=subL w23I0 w23u0 (w23l0 N N) (w23I0 (a0,a1,a2,a3,a4)) (fun y=>k0 y.1 y.2.1 y.2.2) (fun _=>none) (fun _=>none)
theorem w23e0 [Alg] N:w23s0 N=w23n0 N:=funext fun _=>funext fun _=>funext fun _=>funext fun _=>funext fun _=>funext fun _=>subL_I w23ui0 _ _ _ _
theorem w23q0 [Alg] (N:Nat) (self:Sg->O) (K:Exit->Sg->O) (x:(List ((List Int)×(Int×Int)))×YF5×Int×(List YF5)×Int):w23F0 N (fun v0 v1=>self (w23I0 (x.1,v0,x.2.2.1,x.2.2.2.1,v1))) (fun y0 y1 y2=>K (w23X0_0 (y0,y1,y2)).1 (w23X0_0 (y0,y1,y2)).2) x.1 x.2.2.1 x.2.2.2.1 x.2.1 x.2.2.2.2=exec (w23c N) Tryd.f23.ntmps .d w23b0 (w23I0 x) (roundX w23m0 w23w0 self K):=by kernel_rfl
theorem w23S0 N (hc:CxOk (w23c N)):SubOk (w23c N) Tryd.f23.ntmps (.loop w23b0) w23X0_0 (noX 1) (noX 2) (subL w23I0 w23u0 (w23l0 N N)):=
 sub_loop hc (hk_d w23b0) (oK1 w23v0_0 (.exit 2) (fun _=>by kernel_rfl) (fun _=>rfl) (by kernel_rfl)) (n:=N) (fun x K=>loop_ind (w23l0 N) (fun _ _ _ _=>rfl) (fun n K ih x=>by
  refine Eq.trans ?_ (w23q0 N _ K x);simp only [← ih];rfl) N x K)
def w23F1 [Alg] (N:Nat) (in0:(List ((List Int)×(Int×Int)))->YF5->Int->(List YF5)->Int->((List ((List Int)×(Int×Int)))->YF5->Int->O)->O) (self:(List ((List Int)×(Int×Int)))->YF5->Int->O) (k0:YF5->O) (x0_0:(List ((List Int)×(Int×Int)))) (x0_1:YF5) (x0_2:Int):O:=
 br (decide (x0_2 < (↑x0_0.length:Int)))
  (gx x0_0 x0_2 fun y23=>
  ck (w40p N y23.1 y23.2.1 y23.2.2) <|
  in0 x0_0 x0_1 x0_2 (w40y0 N y23.1 y23.2.1 y23.2.2) 0
   (fun z31 z32 z33=>
    ck (decide ((↑z32.length:Int)+(1:Int)<=(9223372036854775807:Int))) <|
    self z31 (z32++[(10:UInt8)]) (IntKind.i64.wrap (z33+1))))
  (k0 x0_1)
def w23b1:Code:=atC [1,1,1,0,1,0,0] w23b
def w23m1:Nm:=⟨[0,3,4],[],[]⟩
def w23I1 (x:(List ((List Int)×(Int×Int)))×YF5×Int):Sg:=⟨[(0,.e (.sl (.pr (.sl (.i .i64)) (.pr (.i .i64) (.i .i64)))) x.1),(3,.e .tx x.2.1),(4,.e (.i .i64) x.2.2)],[],100⟩
def w23u1 (σ:Sg):(List ((List Int)×(Int×Int)))×YF5×Int:=(lvT (.sl (.pr (.sl (.i .i64)) (.pr (.i .i64) (.i .i64)))) 0 0 σ,lvT .tx 3 0 σ,lvT (.i .i64) 4 0 σ)
theorem w23ui1:∀ x,w23u1 (w23I1 x)=x:=fun _=>by kernel_rfl
def w23X1_0 (y:YF5):Exit×Sg:=((.exit 0),⟨[(3,.e .tx y)],[],100⟩)
def w23v1_0 (_:Exit) (σ:Sg):YF5:=lvT .tx 3 0 σ
def w23w1:List (Exit×Nm):=[((.exit 0),⟨[3],[],[]⟩)]
def w23l1 [Alg] (N:Nat):Nat->((List ((List Int)×(Int×Int)))×YF5×Int)->((YF5)->O)->((Unit)->O)->((Unit)->O)->O
 | 0,_,_,_,_=>none
 | n+1,x,k0,k1,k2=>w23F1 N (w23n0 N) (fun v0 v1 v2=>w23l1 N n (v0,v1,v2) k0 k1 k2) (fun y0=>k0 y0) x.1 x.2.1 x.2.2
def w23n1 [Alg] N a0 a1 a2 (k0:YF5->O):=w23l1 N N (a0,a1,a2) (fun y=>k0 y) (fun _=>none) (fun _=>none)
def w23s1 [Alg] N a0 a1 a2 (k0:YF5->O):=subL w23I1 w23u1 (w23l1 N N) (w23I1 (a0,a1,a2)) (fun y=>k0 y) (fun _=>none) (fun _=>none)
theorem w23e1 [Alg] N:w23s1 N=w23n1 N:=funext fun _=>funext fun _=>funext fun _=>funext fun _=>subL_I w23ui1 _ _ _ _
def w23h1 [Alg] (N:Nat):Hint:=(.seq .d (.seq (.block (.seq .d (.seq (.seq .d (.block (.sub w23m0 _ _ _ w23X0_0 (noX 1) (noX 2) (subL w23I0 w23u0 (w23l0 N N))))) .d))) .d))
theorem w23hk1 N (hc:CxOk (w23c N)):HintOk (w23c N) Tryd.f23.ntmps (w23h1 N) w23b1:=hk_of _ _ (And.intro trivial (And.intro (And.intro trivial (And.intro (And.intro trivial (w23S0 N hc)) trivial)) trivial))
theorem w23q1 [Alg] (N:Nat) (self:Sg->O) (K:Exit->Sg->O) (x:(List ((List Int)×(Int×Int)))×YF5×Int):w23F1 N (w23s0 N) (fun v0 v1 v2=>self (w23I1 (v0,v1,v2))) (fun y0=>K (w23X1_0 y0).1 (w23X1_0 y0).2) x.1 x.2.1 x.2.2=exec (w23c N) Tryd.f23.ntmps (w23h1 N) w23b1 (w23I1 x) (roundX w23m1 w23w1 self K):=by kernel_rfl
theorem w23S1 N (hc:CxOk (w23c N)):SubOk (w23c N) Tryd.f23.ntmps (.loop w23b1) w23X1_0 (noX 1) (noX 2) (subL w23I1 w23u1 (w23l1 N N)):=
 sub_loop hc (w23hk1 N hc) (oK1 w23v1_0 (.exit 0) (fun _=>by kernel_rfl) (fun _=>rfl) (by kernel_rfl)) (n:=N) (fun x K=>loop_ind (w23l1 N) (fun _ _ _ _=>rfl) (fun n K ih x=>by
  refine Eq.trans ?_ (w23q1 N _ K x);simp only [w23e0 N,← ih];rfl) N x K)
def w23G [Alg] (N:Nat) (_in0:(List ((List Int)×(Int×Int)))->YF5->Int->(List YF5)->Int->((List ((List Int)×(Int×Int)))->YF5->Int->O)->O) (in1:(List ((List Int)×(Int×Int)))->YF5->Int->(YF5->O)->O) (l0:(List ((List Int)×(Int×Int)))):O:=
 ck (w25p N l0) <|
 br (decide (w25y0 N l0≠(0:Int)))
  (some (w23r0 []))
  (in1 l0 [] 0
   (fun z34=>
    some (w23r0 z34)))
def w23 [Alg] N l0:=w23G N (w23n0 N) (w23n1 N) l0
def w23h [Alg] (N:Nat):Hint:=(.seq .d (.seq .d (.seq .d (.seq (.seq .d (.block (.sub w23m1 _ _ _ w23X1_0 (noX 1) (noX 2) (subL w23I1 w23u1 (w23l1 N N))))) .d))))
theorem w23hk N (hc:CxOk (w23c N)):HintOk (w23c N) Tryd.f23.ntmps (w23h N) w23b:=hk_of _ _ (And.intro trivial (And.intro trivial (And.intro trivial (And.intro (And.intro trivial (w23S1 N hc)) trivial))))
theorem w23q [Alg] N l0:w23G N (w23s0 N) (w23s1 N) l0=exec (w23c N) Tryd.f23.ntmps (w23h N) w23b ⟨argT 0 [.e (.sl (.pr (.sl (.i .i64)) (.pr (.i .i64) (.i .i64)))) l0],[],100⟩ (finX (w23c N) Tryd.f23 false):=by kernel_rfl
def w23un (r:Res):Option (YF5):=match r with
 | (x0,[])=>(match ue .tx x0 with | some a0=>some a0 | _=>none)
 | _=>none
theorem w23uo {r d} (h:w23un r=some d):r=w23r0 (d):=by
 unfold w23un at h;split at h
 ·split at h
  ·rename_i h0;cases h;rw [ue_some h0];rfl
  ·cases h
 ·cases h
def w23z N l0:=(w23 N l0).bind w23un
theorem w23fin {N} (hc:CxOk (w23c N)) {l0 d} (hd:w23z N l0=some d):DoK Tryd.prog 23 [.e (.sl (.pr (.sl (.i .i64)) (.pr (.i .i64) (.i .i64)))) l0] [] (w23r0 (d)):=
 finJ hc (by kernel_rfl) (by kernel_rfl) (w23hk N hc) (by kernel_rfl) w23uo (fun hr=>(w23q N l0).symm.trans (by rw [w23e0 N,w23e1 N];exact hr)) hd
def w23p N l0:=(w23z N l0).isSome
def w23y0 N l0:=((w23z N l0).getD [])
def w23e (N:Nat):Ent':=E1 (.sl (.pr (.sl (.i .i64)) (.pr (.i .i64) (.i .i64)))) (fun x0=>(w23p N x0,w23r0 (w23y0 N x0)))
theorem w23ok N:EOk Tryd.prog 23 (w23e N):=EOk.e1 (fun x0 h=>okG (z:=w23z N x0) h (w23fin (w23cx N)) rfl)
end
end Go.Proofs
