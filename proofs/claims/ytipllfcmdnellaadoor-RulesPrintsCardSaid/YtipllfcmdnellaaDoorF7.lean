/- What Print does: words, and a loop over a map. Conditions are in the theorems. -/
import Derived.Test.YtipllfcmdnellaaDoorE7
import Derived.Test.YtipllfcmdnellaaDoorProg
import Derived.KernelRfl
import Derived.Test.YtipllfcmdnellaaDoorF5
import Derived.Test.YtipllfcmdnellaaDoorF6
import Derived.Maps.RangeRun
import Derived.LoopN
import Derived.Test.YtipllfcmdnellaaDoorG1
/- What functions do. -/
namespace Go.Proofs
noncomputable section
open Go.Ax Go.Ax.Alg Go.RowKit Go.Ab
open Go
abbrev YF7:=List UInt8
abbrev lF7x0:List UInt8:=[(114:UInt8),(101:UInt8),(115:UInt8),(116:UInt8),(111:UInt8),(114:UInt8),(101:UInt8)]
abbrev lF7x1:List UInt8:=[(115:UInt8),(116:UInt8),(114:UInt8),(105:UInt8),(107:UInt8),(101:UInt8)]
abbrev lF7x2:List UInt8:=[(114:UInt8),(101:UInt8),(116:UInt8),(97:UInt8),(107:UInt8),(101:UInt8)]
def w37r0 (a0:Int) (a1:YF7):Res:=(.tup [.e (.i .i64) a0,.v Value.nilIface],[(50,.box 74 [.via 50 0,.own 100]),(100,.row 5 .u8 a1 true)])
def w37c (N:Nat):Cx:=⟨Tryd.prog,99999,[(52,w52e N)],[]⟩
def w37b:Code:=Tryd.f37.body.getD .skip
theorem w37cx N:CxOk (w37c N):=ctx_ok (by kernel_rfl) (.cons (by kernel_rfl) (w52ok N) .nil) .nil
def w37G [Alg] (_:Nat) (s1 h51_0:YF7):O:=
 ck true <|
 ck (lim (h51_0.length+s1.length) (1:Nat)) <|
 some (w37r0 ((↑s1.length:Int)) (h51_0++s1))
def w37 [Alg] N s1 h51_0:=w37G N s1 h51_0
def w37h [Alg] (_:Nat):Hint:=.d
theorem w37hk N:HintOk (w37c N) Tryd.f37.ntmps (w37h N) w37b:=hk_of _ _ trivial
theorem w37q [Alg] N s1 h51_0:w37G N s1 h51_0=exec (w37c N) Tryd.f37.ntmps (w37h N) w37b ⟨argT 0 [.ref 50 0,.e .tx s1],[(50,.box 74 [.via 50 0,.own 51]),(51,.row 5 .u8 h51_0 true)],100⟩ (finX (w37c N) Tryd.f37 true):=by kernel_rfl
def w37un (r:Res):Option (Int×YF7):=match r with
 | (.tup [x0,.v Value.nilIface],[(50,.box 74 [.via 50 0,.own 100]),(100,x1)])=>(match ue (.i .i64) x0,ur 5 .u8 true x1 with | some a0,some a1=>some (a0,a1) | _,_=>none)
 | _=>none
theorem w37uo {r d} (h:w37un r=some d):r=w37r0 d.1 d.2:=by
 unfold w37un at h;split at h
 ·split at h
  ·rename_i h0 h1;cases h;rw [ue_some h0,ur_some h1];rfl
  ·cases h
 ·cases h
def w37z N s1 h51_0:=(w37 N s1 h51_0).bind w37un
theorem w37fin {N} (hc:CxOk (w37c N)) {s1 h51_0 d} (hd:w37z N s1 h51_0=some d):DoK Tryd.prog 37 [.ref 50 0,.e .tx s1] [(50,.box 74 [.via 50 0,.own 51]),(51,.row 5 .u8 h51_0 true)] (w37r0 d.1 d.2):=
 finJ hc (by kernel_rfl) (by kernel_rfl) (w37hk N) (by kernel_rfl) w37uo (w37q N s1 h51_0).symm.trans hd
def w37p N s1 h51_0:=(w37z N s1 h51_0).isSome
def w37y0 N s1 h51_0:=((w37z N s1 h51_0).getD (0,[])).1
def w37y1 N s1 h51_0:=((w37z N s1 h51_0).getD (0,[])).2
def w37in (xs:List X) (H:XH):Option (YF7×YF7):=match xs,H with
 | [.ref 50 0,x0],[(50,.box 74 [.via 50 0,.own 51]),(51,x1)]=>(match ue .tx x0,ur 5 .u8 true x1 with | some a0,some a1=>some (a0,a1) | _,_=>none)
 | _,_=>none
theorem w37io {xs H d} (h:w37in xs H=some d):xs=[.ref 50 0,.e .tx d.1]/\H=[(50,.box 74 [.via 50 0,.own 51]),(51,.row 5 .u8 d.2 true)]:=by
 unfold w37in at h;split at h
 ·split at h
  ·rename_i h0 h1;cases h;rw [ue_some h0,ur_some h1];exact ⟨rfl,rfl⟩
  ·cases h
 ·cases h
def w37e (N:Nat):Ent':=entR w37in (fun d=>w37p N d.1 d.2) (fun d=>w37r0 (w37y0 N d.1 d.2) (w37y1 N d.1 d.2))
theorem w37ok N:EOk Tryd.prog 37 (w37e N):=entR_ok w37io (fun d h=>okG (z:=w37z N d.1 d.2) h (w37fin (w37cx N)) rfl)
def w39r0 (a0:YF7):Res:=(.e .tx a0,[])
def w39c (_:Nat):Cx:=⟨Tryd.prog,99999,[],[]⟩
def w39b:Code:=Tryd.f39.body.getD .skip
theorem w39cx N:CxOk (w39c N):=ctx_ok (by kernel_rfl) .nil .nil
def w39G [Alg] (_:Nat) (h51_0:YF7):O:=
 ck (decide ((↑h51_0.length:Int)=(↑h51_0.length:Int))) <|
 some (w39r0 h51_0)
def w39 [Alg] N h51_0:=w39G N h51_0
def w39h [Alg] (_:Nat):Hint:=(.seq .d (.seq (.reg [] [] [[],[],[],[],[],[],[],[],[],[],[51],[]]) .d))
theorem w39hk N:HintOk (w39c N) Tryd.f39.ntmps (w39h N) w39b:=hk_of _ _ (And.intro trivial (And.intro trivial trivial))
theorem w39q [Alg] N h51_0:w39G N h51_0=exec (w39c N) Tryd.f39.ntmps (w39h N) w39b ⟨argT 0 [.ref 50 0],[(50,.box 74 [.via 50 0,.own 51]),(51,.row 5 .u8 h51_0 true)],100⟩ (finX (w39c N) Tryd.f39 true):=by kernel_rfl
def w39un (r:Res):Option (YF7):=match r with
 | (x0,[])=>(match ue .tx x0 with | some a0=>some a0 | _=>none)
 | _=>none
theorem w39uo {r d} (h:w39un r=some d):r=w39r0 (d):=by
 unfold w39un at h;split at h
 ·split at h
  ·rename_i h0;cases h;rw [ue_some h0];rfl
  ·cases h
 ·cases h
def w39z N h51_0:=(w39 N h51_0).bind w39un
theorem w39fin {N} (hc:CxOk (w39c N)) {h51_0 d} (hd:w39z N h51_0=some d):DoK Tryd.prog 39 [.ref 50 0] [(50,.box 74 [.via 50 0,.own 51]),(51,.row 5 .u8 h51_0 true)] (w39r0 (d)):=
 finJ hc (by kernel_rfl) (by kernel_rfl) (w39hk N) (by kernel_rfl) w39uo (w39q N h51_0).symm.trans hd
def w39p N h51_0:=(w39z N h51_0).isSome
def w39y0 N h51_0:=((w39z N h51_0).getD [])
def w39in (xs:List X) (H:XH):Option (YF7):=match xs,H with
 | [.ref 50 0],[(50,.box 74 [.via 50 0,.own 51]),(51,x0)]=>(match ur 5 .u8 true x0 with | some a0=>some a0 | _=>none)
 | _,_=>none
theorem w39io {xs H d} (h:w39in xs H=some d):xs=[.ref 50 0]/\H=[(50,.box 74 [.via 50 0,.own 51]),(51,.row 5 .u8 (d) true)]:=by
 unfold w39in at h;split at h
 ·split at h
  ·rename_i h0;cases h;rw [ur_some h0];exact ⟨rfl,rfl⟩
  ·cases h
 ·cases h
def w39e (N:Nat):Ent':=entR w39in (fun d=>w39p N (d)) (fun d=>w39r0 (w39y0 N (d)))
theorem w39ok N:EOk Tryd.prog 39 (w39e N):=entR_ok w39io (fun d h=>okG (z:=w39z N (d)) h (w39fin (w39cx N)) rfl)
def w38r0 (a0:YF7):Res:=(.e .tx a0,[])
def w38c (N:Nat):Cx:=⟨Tryd.prog,64,[(53,w53e N),(37,w37e N),(39,w39e N)],[]⟩
def w38b:Code:=Tryd.f38.body.getD .skip
theorem w38cx N:CxOk (w38c N):=ctx_ok (by kernel_rfl) (.cons (by kernel_rfl) (w53ok N) (.cons (by kernel_rfl) (w37ok N) (.cons (by kernel_rfl) (w39ok N) .nil))) .nil
def w38F0 [Alg] (_:Nat) (k0:(List YF7)->YF7->Int->O) (x1_0:(List YF7)) (x1_1:YF7) (x1_2:Int):O:=
 br (decide ((0:Int) < (↑x1_1.length:Int)))
  (ck (decide (IntKind.i64.wrap ((↑x1_0.length:Int) - (1:Int))≠(0:Int))) <|
  br (decide (IntKind.i64.wrap (Int.tdiv (9223372036854775807:Int) (IntKind.i64.wrap ((↑x1_0.length:Int) - (1:Int))))<=(↑x1_1.length:Int)))
   (none)
   (k0 x1_0 x1_1 (IntKind.i64.wrap (x1_2+IntKind.i64.wrap ((↑x1_1.length:Int) * IntKind.i64.wrap ((↑x1_0.length:Int) - (1:Int)))))))
  (k0 x1_0 x1_1 x1_2)
def w38b0:Code:=atC [1,1,1,0] w38b
def w38m0:Nm:=⟨[0,1,5],[],[]⟩
def w38I0 (x:(List YF7)×YF7×Int):Sg:=⟨[(0,.e (.sl .tx) x.1),(1,.e .tx x.2.1),(5,.e (.i .i64) x.2.2)],[],100⟩
def w38u0 (σ:Sg):(List YF7)×YF7×Int:=(lvT (.sl .tx) 0 0 σ,lvT .tx 1 0 σ,lvT (.i .i64) 5 0 σ)
theorem w38ui0:∀ x,w38u0 (w38I0 x)=x:=fun _=>by kernel_rfl
def w38X0_0 (y:(List YF7)×YF7×Int):Exit×Sg:=(.normal,⟨[(0,.e (.sl .tx) y.1),(1,.e .tx y.2.1),(5,.e (.i .i64) y.2.2)],[],100⟩)
def w38v0_0 (_:Exit) (σ:Sg):(List YF7)×YF7×Int:=(lvT (.sl .tx) 0 0 σ,lvT .tx 1 0 σ,lvT (.i .i64) 5 0 σ)
def w38w0:List (Exit×Nm):=[(.normal,⟨[0,1,5],[],[]⟩)]
def w38l0 [Alg] (N:Nat) (_:Nat) (x:(List YF7)×YF7×Int) (k0:((List YF7)×YF7×Int)->O) (_:(Unit)->O) (_:(Unit)->O):O:=w38F0 N (fun y0 y1 y2=>k0 (y0,y1,y2)) x.1 x.2.1 x.2.2
def w38n0 [Alg] N a0 a1 a2 (k0:(List YF7)->YF7->Int->O):=w38l0 N N (a0,a1,a2) (fun y=>k0 y.1 y.2.1 y.2.2) (fun _=>none) (fun _=>none)
def w38s0 [Alg] N a0 a1 a2 (k0:(List YF7)->YF7->Int->O):=subL w38I0 w38u0 (w38l0 N N) (w38I0 (a0,a1,a2)) (fun y=>k0 y.1 y.2.1 y.2.2) (fun _=>none) (fun _=>none)
theorem w38e0 [Alg] N:w38s0 N=w38n0 N:=funext fun _=>funext fun _=>funext fun _=>funext fun _=>subL_I w38ui0 _ _ _ _
theorem w38q0 [Alg] (N:Nat) (K:Exit->Sg->O) (x:(List YF7)×YF7×Int):w38F0 N (fun y0 y1 y2=>K (w38X0_0 (y0,y1,y2)).1 (w38X0_0 (y0,y1,y2)).2) x.1 x.2.1 x.2.2=exec (w38c N) Tryd.f38.ntmps .d w38b0 (w38I0 x) (partX w38w0 K):=by kernel_rfl
theorem w38S0 N (hc:CxOk (w38c N)):SubOk (w38c N) Tryd.f38.ntmps w38b0 w38X0_0 (noX 1) (noX 2) (subL w38I0 w38u0 (w38l0 N N)):=
 sub_part hc (hk_d w38b0) (oK1 w38v0_0 .normal (fun _=>by kernel_rfl) (fun _=>rfl) (by kernel_rfl)) (fun x K=>by
  exact w38q0 N K x)
def w38F1 [Alg] (_:Nat) (self:Int->Int->O) (k0:(List YF7)->YF7->Int->O) (x5_0:(List YF7)) (x5_1:YF7) (x5_3:(List YF7)) (x5_4 x5_2 x5_5:Int):O:=
 br (decide (x5_5 < x5_4))
  (gx x5_3 x5_5 fun y8=>
  br (decide (IntKind.i64.wrap ((9223372036854775807:Int) - x5_2) < (↑y8.length:Int)))
   (none)
   (self (IntKind.i64.wrap (x5_2+(↑y8.length:Int))) (IntKind.i64.wrap (x5_5+1))))
  (k0 x5_0 x5_1 x5_2)
def w38b1:Code:=atC [1,1,1,1,0,1,0,0] w38b
def w38m1:Nm:=⟨[0,1,5,39,40,41],[],[]⟩
def w38I1 (x:(List YF7)×YF7×Int×(List YF7)×Int×Int):Sg:=⟨[(0,.e (.sl .tx) x.1),(1,.e .tx x.2.1),(5,.e (.i .i64) x.2.2.1),(39,.e (.sl .tx) x.2.2.2.1),(40,.e (.i .i64) x.2.2.2.2.1),(41,.e (.i .i64) x.2.2.2.2.2)],[],100⟩
def w38u1 (σ:Sg):(List YF7)×YF7×Int×(List YF7)×Int×Int:=(lvT (.sl .tx) 0 0 σ,lvT .tx 1 0 σ,lvT (.i .i64) 5 0 σ,lvT (.sl .tx) 39 0 σ,lvT (.i .i64) 40 0 σ,lvT (.i .i64) 41 0 σ)
theorem w38ui1:∀ x,w38u1 (w38I1 x)=x:=fun _=>by kernel_rfl
def w38X1_0 (y:(List YF7)×YF7×Int):Exit×Sg:=((.exit 1),⟨[(0,.e (.sl .tx) y.1),(1,.e .tx y.2.1),(5,.e (.i .i64) y.2.2)],[],100⟩)
def w38v1_0 (_:Exit) (σ:Sg):(List YF7)×YF7×Int:=(lvT (.sl .tx) 0 0 σ,lvT .tx 1 0 σ,lvT (.i .i64) 5 0 σ)
def w38w1:List (Exit×Nm):=[((.exit 1),⟨[0,1,5],[],[]⟩)]
def w38l1 [Alg] (N:Nat):Nat->((List YF7)×YF7×Int×(List YF7)×Int×Int)->(((List YF7)×YF7×Int)->O)->((Unit)->O)->((Unit)->O)->O
 | 0,_,_,_,_=>none
 | n+1,x,k0,k1,k2=>w38F1 N (fun v0 v1=>w38l1 N n (x.1,x.2.1,v0,x.2.2.2.1,x.2.2.2.2.1,v1) k0 k1 k2) (fun y0 y1 y2=>k0 (y0,y1,y2)) x.1 x.2.1 x.2.2.2.1 x.2.2.2.2.1 x.2.2.1 x.2.2.2.2.2
def w38n1 [Alg] N a0 a1 a2 a3 a4 a5 (k0:(List YF7)->YF7->Int->O):=w38l1 N N (a0,a1,a2,a3,a4,a5) (fun y=>k0 y.1 y.2.1 y.2.2) (fun _=>none) (fun _=>none)
def w38s1 [Alg] N a0 a1 a2 a3 a4 a5 (k0:(List YF7)->YF7->Int->O):=subL w38I1 w38u1 (w38l1 N N) (w38I1 (a0,a1,a2,a3,a4,a5)) (fun y=>k0 y.1 y.2.1 y.2.2) (fun _=>none) (fun _=>none)
theorem w38e1 [Alg] N:w38s1 N=w38n1 N:=funext fun _=>funext fun _=>funext fun _=>funext fun _=>funext fun _=>funext fun _=>funext fun _=>subL_I w38ui1 _ _ _ _
theorem w38q1 [Alg] (N:Nat) (self:Sg->O) (K:Exit->Sg->O) (x:(List YF7)×YF7×Int×(List YF7)×Int×Int):w38F1 N (fun v0 v1=>self (w38I1 (x.1,x.2.1,v0,x.2.2.2.1,x.2.2.2.2.1,v1))) (fun y0 y1 y2=>K (w38X1_0 (y0,y1,y2)).1 (w38X1_0 (y0,y1,y2)).2) x.1 x.2.1 x.2.2.2.1 x.2.2.2.2.1 x.2.2.1 x.2.2.2.2.2=exec (w38c N) Tryd.f38.ntmps .d w38b1 (w38I1 x) (roundX w38m1 w38w1 self K):=by kernel_rfl
theorem w38S1 N (hc:CxOk (w38c N)):SubOk (w38c N) Tryd.f38.ntmps (.loop w38b1) w38X1_0 (noX 1) (noX 2) (subL w38I1 w38u1 (w38l1 N N)):=
 sub_loop hc (hk_d w38b1) (oK1 w38v1_0 (.exit 1) (fun _=>by kernel_rfl) (fun _=>rfl) (by kernel_rfl)) (n:=N) (fun x K=>loop_ind (w38l1 N) (fun _ _ _ _=>rfl) (fun n K ih x=>by
  refine Eq.trans ?_ (w38q1 N _ K x);simp only [← ih];rfl) N x K)
def w38F2 [Alg] (N:Nat) (self:Int->YF7->O) (k0:YF7->O) (x13_0:YF7) (x13_1:(List YF7)) (x13_2 x13_3:Int) (x13_4:YF7):O:=
 br (decide (x13_3 < x13_2))
  (gx x13_1 x13_3 fun y16=>
  ck (w37p N x13_0 x13_4) <|
  ck (w37p N y16 (w37y1 N x13_0 x13_4)) <|
  self (IntKind.i64.wrap (x13_3+1)) (w37y1 N y16 (w37y1 N x13_0 x13_4)))
  (k0 x13_4)
def w38b2:Code:=atC [1,1,1,1,1,1,1,1,0,1,0,0] w38b
def w38m2:Nm:=⟨[1,8,63,64,65],[],[]⟩
def w38I2 (x:YF7×(List YF7)×Int×Int×YF7):Sg:=⟨[(1,.e .tx x.1),(8,.ref 0 0),(63,.e (.sl .tx) x.2.1),(64,.e (.i .i64) x.2.2.1),(65,.e (.i .i64) x.2.2.2.1)],[(0,.box 74 [.via 0 0,.own 1]),(1,.row 5 .u8 x.2.2.2.2 true)],100⟩
def w38u2 (σ:Sg):YF7×(List YF7)×Int×Int×YF7:=(lvT .tx 1 0 σ,lvT (.sl .tx) 63 0 σ,lvT (.i .i64) 64 0 σ,lvT (.i .i64) 65 0 σ,lvR .u8 1 σ)
theorem w38ui2:∀ x,w38u2 (w38I2 x)=x:=fun _=>by kernel_rfl
def w38X2_0 (y:YF7):Exit×Sg:=((.exit 3),⟨[(8,.ref 0 0)],[(0,.box 74 [.via 0 0,.own 1]),(1,.row 5 .u8 y true)],100⟩)
def w38v2_0 (_:Exit) (σ:Sg):YF7:=lvR .u8 1 σ
def w38w2:List (Exit×Nm):=[((.exit 3),⟨[8],[],[]⟩)]
def w38l2 [Alg] (N:Nat):Nat->(YF7×(List YF7)×Int×Int×YF7)->((YF7)->O)->((Unit)->O)->((Unit)->O)->O
 | 0,_,_,_,_=>none
 | n+1,x,k0,k1,k2=>w38F2 N (fun v0 v1=>w38l2 N n (x.1,x.2.1,x.2.2.1,v0,v1) k0 k1 k2) (fun y0=>k0 y0) x.1 x.2.1 x.2.2.1 x.2.2.2.1 x.2.2.2.2
def w38n2 [Alg] N a0 a1 a2 a3 a4 (k0:YF7->O):=w38l2 N N (a0,a1,a2,a3,a4) (fun y=>k0 y) (fun _=>none) (fun _=>none)
def w38s2 [Alg] N a0 a1 a2 a3 a4 (k0:YF7->O):=subL w38I2 w38u2 (w38l2 N N) (w38I2 (a0,a1,a2,a3,a4)) (fun y=>k0 y) (fun _=>none) (fun _=>none)
theorem w38e2 [Alg] N:w38s2 N=w38n2 N:=funext fun _=>funext fun _=>funext fun _=>funext fun _=>funext fun _=>funext fun _=>subL_I w38ui2 _ _ _ _
theorem w38q2 [Alg] (N:Nat) (self:Sg->O) (K:Exit->Sg->O) (x:YF7×(List YF7)×Int×Int×YF7):w38F2 N (fun v0 v1=>self (w38I2 (x.1,x.2.1,x.2.2.1,v0,v1))) (fun y0=>K (w38X2_0 y0).1 (w38X2_0 y0).2) x.1 x.2.1 x.2.2.1 x.2.2.2.1 x.2.2.2.2=exec (w38c N) Tryd.f38.ntmps .d w38b2 (w38I2 x) (roundX w38m2 w38w2 self K):=by kernel_rfl
theorem w38S2 N (hc:CxOk (w38c N)):SubOk (w38c N) Tryd.f38.ntmps (.loop w38b2) w38X2_0 (noX 1) (noX 2) (subL w38I2 w38u2 (w38l2 N N)):=
 sub_loop hc (hk_d w38b2) (oK1 w38v2_0 (.exit 3) (fun _=>by kernel_rfl) (fun _=>rfl) (by kernel_rfl)) (n:=N) (fun x K=>loop_ind (w38l2 N) (fun _ _ _ _=>rfl) (fun n K ih x=>by
  refine Eq.trans ?_ (w38q2 N _ K x);simp only [← ih];rfl) N x K)
def w38G [Alg] (N:Nat) (in0:(List YF7)->YF7->Int->((List YF7)->YF7->Int->O)->O) (in1:(List YF7)->YF7->Int->(List YF7)->Int->Int->((List YF7)->YF7->Int->O)->O) (in2:YF7->(List YF7)->Int->Int->YF7->(YF7->O)->O) (elems0:(List YF7)) (sep1:YF7):O:=
 br (decide ((↑elems0.length:Int)=(0:Int)))
  (some (w38r0 []))
  (br (decide ((↑elems0.length:Int)=(1:Int)))
   (gx elems0 0 fun y0=>
   some (w38r0 y0))
   (in0 elems0 sep1 0
    (fun z2 z3 z4=>
     in1 z2 z3 z4 z2 ((↑z2.length:Int)) 0
      (fun z9 z10 z11=>
       ck (decide ((0:Int) < z11/\z11<=(140737488355328:Int))) <|
       gx z9 0 fun y12=>
       ck (w37p N y12 []) <|
       ck (slcOk z9.length (some (1:Int)) none) <|
       in2 z10 (slc z9 (some (1:Int)) none) ((↑(slc z9 (some (1:Int)) none).length:Int)) 0 (w37y1 N y12 [])
        (fun z17=>
         ck (w39p N z17) <|
         some (w38r0 (w39y0 N z17)))))))
def w38 [Alg] N elems0 sep1:=w38G N (w38n0 N) (w38n1 N) (w38n2 N) elems0 sep1
def w38h [Alg] (N:Nat):Hint:=(.seq .d (.seq .d (.seq .d (.seq (.sub w38m0 _ _ _ w38X0_0 (noX 1) (noX 2) (subL w38I0 w38u0 (w38l0 N N))) (.seq (.seq .d (.block (.sub w38m1 _ _ _ w38X1_0 (noX 1) (noX 2) (subL w38I1 w38u1 (w38l1 N N))))) (.seq .d (.seq .d (.seq .d (.seq (.seq .d (.block (.sub w38m2 _ _ _ w38X2_0 (noX 1) (noX 2) (subL w38I2 w38u2 (w38l2 N N))))) .d)))))))))
theorem w38hk N (hc:CxOk (w38c N)):HintOk (w38c N) Tryd.f38.ntmps (w38h N) w38b:=hk_of _ _ (And.intro trivial (And.intro trivial (And.intro trivial (And.intro (w38S0 N hc) (And.intro (And.intro trivial (w38S1 N hc)) (And.intro trivial (And.intro trivial (And.intro trivial (And.intro (And.intro trivial (w38S2 N hc)) trivial)))))))))
theorem w38q [Alg] N elems0 sep1:w38G N (w38s0 N) (w38s1 N) (w38s2 N) elems0 sep1=exec (w38c N) Tryd.f38.ntmps (w38h N) w38b ⟨argT 0 [.e (.sl .tx) elems0,.e .tx sep1],[],100⟩ (finX (w38c N) Tryd.f38 false):=by kernel_rfl
def w38un (r:Res):Option (YF7):=match r with
 | (x0,[])=>(match ue .tx x0 with | some a0=>some a0 | _=>none)
 | _=>none
theorem w38uo {r d} (h:w38un r=some d):r=w38r0 (d):=by
 unfold w38un at h;split at h
 ·split at h
  ·rename_i h0;cases h;rw [ue_some h0];rfl
  ·cases h
 ·cases h
def w38z N elems0 sep1:=(w38 N elems0 sep1).bind w38un
theorem w38fin {N} (hc:CxOk (w38c N)) {elems0 sep1 d} (hd:w38z N elems0 sep1=some d):DoK Tryd.prog 38 [.e (.sl .tx) elems0,.e .tx sep1] [] (w38r0 (d)):=
 finJ hc (by kernel_rfl) (by kernel_rfl) (w38hk N hc) (by kernel_rfl) w38uo (fun hr=>(w38q N elems0 sep1).symm.trans (by rw [w38e0 N,w38e1 N,w38e2 N];exact hr)) hd
def w38p N elems0 sep1:=(w38z N elems0 sep1).isSome
def w38y0 N elems0 sep1:=((w38z N elems0 sep1).getD [])
def w38e (N:Nat):Ent':=E2 (.sl .tx) .tx (fun x0 x1=>(w38p N x0 x1,w38r0 (w38y0 N x0 x1)))
theorem w38ok N:EOk Tryd.prog 38 (w38e N):=EOk.e2 (fun x0 x1 h=>okG (z:=w38z N x0 x1) h (w38fin (w38cx N)) rfl)
def w22r0 (a0:YF7):Res:=(.e .tx a0,[])
def w22c (N:Nat):Cx:=⟨Tryd.prog,99999,[(29,w29e N),(34,w34e N),(36,w36e N),(35,w35e N),(38,w38e N),(37,w37e N),(39,w39e N)],[]⟩
def w22b:Code:=Tryd.f22.body.getD .skip
theorem w22cx N:CxOk (w22c N):=ctx_ok (by kernel_rfl) (.cons (by kernel_rfl) (w29ok N) (.cons (by kernel_rfl) (w34ok N) (.cons (by kernel_rfl) (w36ok N) (.cons (by kernel_rfl) (w35ok N) (.cons (by kernel_rfl) (w38ok N) (.cons (by kernel_rfl) (w37ok N) (.cons (by kernel_rfl) (w39ok N) .nil))))))) .nil
def w22F0 [Alg] (_:Nat) (k0:(List ((List Int)×(Int×Int)))->(List YF7)->O) (x0_0:(List ((List Int)×(Int×Int)))) (x0_1:(List YF7)):O:=
 ck (decide ((0:Int)<=(0:Int)/\(0:Int) < (↑x0_1.length:Int))) <|
 gn x0_1 0 fun _=>
 ck (decide ((0:Int)<=(1:Int)/\(1:Int) < (↑(x0_1.set (0:Nat) lF7x1).length:Int))) <|
 gn (x0_1.set (0:Nat) lF7x1) 1 fun _=>
 ck (decide ((0:Int)<=(2:Int)/\(2:Int) < (↑((x0_1.set (0:Nat) lF7x1).set (1:Nat) lF7x0).length:Int))) <|
 gn ((x0_1.set (0:Nat) lF7x1).set (1:Nat) lF7x0) 2 fun _=>
 k0 x0_0 (((x0_1.set (0:Nat) lF7x1).set (1:Nat) lF7x0).set (2:Nat) lF7x2)
def w22b0:Code:=atC [1,1,1,0] w22b
def w22m0:Nm:=⟨[0,3],[],[]⟩
def w22I0 (x:(List ((List Int)×(Int×Int)))×(List YF7)):Sg:=⟨[(0,.e (.sl (.pr (.sl (.i .i64)) (.pr (.i .i64) (.i .i64)))) x.1),(3,.own 0)],[(0,.row 9 .tx x.2 false)],100⟩
def w22u0 (σ:Sg):(List ((List Int)×(Int×Int)))×(List YF7):=(lvT (.sl (.pr (.sl (.i .i64)) (.pr (.i .i64) (.i .i64)))) 0 0 σ,lvR .tx 0 σ)
theorem w22ui0:∀ x,w22u0 (w22I0 x)=x:=fun _=>by kernel_rfl
def w22X0_0 (y:(List ((List Int)×(Int×Int)))×(List YF7)):Exit×Sg:=(.normal,⟨[(0,.e (.sl (.pr (.sl (.i .i64)) (.pr (.i .i64) (.i .i64)))) y.1),(3,.own 0)],[(0,.row 9 .tx y.2 false)],100⟩)
def w22l0 [Alg] (N:Nat) (_:Nat) (x:(List ((List Int)×(Int×Int)))×(List YF7)) (k0:((List ((List Int)×(Int×Int)))×(List YF7))->O) (_:(Unit)->O) (_:(Unit)->O):O:=w22F0 N (fun y0 y1=>k0 (y0,y1)) x.1 x.2
def w22n0 [Alg] N a0 a1 (k0:(List ((List Int)×(Int×Int)))->(List YF7)->O):=w22l0 N N (a0,a1) (fun y=>k0 y.1 y.2) (fun _=>none) (fun _=>none)
def w22s0 [Alg] N a0 a1 (k0:(List ((List Int)×(Int×Int)))->(List YF7)->O):=subL w22I0 w22u0 (w22l0 N N) (w22I0 (a0,a1)) (fun y=>k0 y.1 y.2) (fun _=>none) (fun _=>none)
theorem w22e0 [Alg] N:w22s0 N=w22n0 N:=funext fun _=>funext fun _=>funext fun _=>subL_I w22ui0 _ _ _ _
end
end Go.Proofs
/- A loop over a map whose rounds write: what the machine keeps. -/
namespace Go.Ax
open Go Go.RowKit Go.Ab Go.ChangeMaps
theorem eval_put {a:Act} {t:Nat} {v:Value} (h:t < a.tmps.size):(a.put (some t) v).eval (.tmp t)=v:=by
 simp [Act.eval,Act.put,Array.getD_eq_getD_getElem?,h]
theorem eval_put_ne {a:Act} {t t':Nat} {v:Value} (h:t≠t'):(a.put (some t) v).eval (.tmp t')=a.eval (.tmp t'):=by
 simp [Act.eval,Act.put,Array.getD_eq_getD_getElem?,Array.getElem?_setIfInBounds_ne h]
theorem put_size (a:Act) (d:Option Tmp) (v:Value):(a.put d v).tmps.size=a.tmps.size:=by cases d <;> simp [Act.put]
theorem wpl_val {P:Program} {ops:Array Oper} {rest:List Oper} {o:Oper} {a:Act} {w w':World} {v:Value} {Q:Exit->Act->World->Prop} (hg:o.guard=none) (hr:(execOp a.eval o).run P w = .ok (.value v) w') (h:wpList P ops Q rest (a.put o.dst v) w'):wpList P ops Q (o::rest) a w:=by
 refine wpList_plain hg fun K hK=>?_
 unfold Oper.wp;rw [hr,Oper.upon_value];exact hK _ _ h
theorem Inv.skip {E:Env} {σ:St} {ν:Nat->Value} {G:Lim} {w:World} {a:Act} (I:Inv E σ ν G w a.tmps) {t:Nat} (ht:σ.T t=none) (v:Value):Inv E σ ν G w (a.put (some t) v).tmps where
 kept:=I.kept
 keep:=I.keep
 pin:=I.pin
 g0:=I.g0
 sz:=(put_size ..).trans I.sz
 T:=fun t' d h=>by
  obtain ⟨u,hu,hd⟩:=I.T t' d h;refine ⟨u,?_,hd⟩;have hne:t≠t':=fun e=>by rw [e] at ht;rw [ht] at h;cases h
  simp only [Act.put];rw [Array.getElem?_setIfInBounds_ne hne];exact hu
 H:=I.H
 dis:=I.dis
theorem Inv.le {E:Env} {σ σ':St} {ν:Nat->Value} {G:Lim} {w:World} {tm:Array Value} (I:Inv E σ ν G w tm) (hT:∀ t d,σ'.T t=some d->σ.T t=some d) (hH:∀ k o,σ'.H k=some o->σ.H k=some o) (hn:∀ k,σ.nm k=true->σ'.nm k=true):Inv E σ' ν G w tm where
 kept:=I.kept
 keep:=I.keep
 pin:=I.pin
 g0:=I.g0
 sz:=I.sz
 T:=fun t d h=>let ⟨u,hu,hd⟩:=I.T t d (hT t d h);⟨u,hu,hd.mono (fun k hk=>⟨hn k hk,rfl⟩) (fun _ _ _ h=>h)⟩
 H:=fun k o h=>let ⟨h1,h2⟩:=I.H k o (hH k o h);⟨hn k h1,h2.mono h1 (fun k hk=>⟨hn k hk,rfl⟩) (fun _ _ _ h=>h) (fun _ _=>⟨rfl,rfl⟩)⟩
 dis:=fun k o k' o' h h'=>I.dis k o k' o' (hH k o h) (hH k' o' h')
theorem Inv.other {E:Env} {σ:St} {ν:Nat->Value} {G:Lim} {w w':World} {tm:Array Value} (I:Inv E σ ν G w tm) {r:Nat} (hr:E.w0.heap.size<=r) (hf:∀ k o,σ.H k=some o->¬ foot w (ν k) o r) (hc:∀ i,w.cell? ⟨r,i,none⟩=none)
    (s1:w'.os=w.os) (s2:w'.tape=w.tape) (s3:w'.output=w.output) (s4:w'.heap.size=w.heap.size) (s5:∀ b,b≠r->w'.heap[b]?=w.heap[b]?):Inv E σ ν G w' tm:=by
 have hcell:∀ b i u,Cell w G b i u->Cell w' G b i u:=fun b i u h=>by
  have hne:b≠r:=fun e=>by have:=h.1;rw [e,hc] at this;cases this
  exact ⟨(World.cell?_of_block (a:=⟨b,i,none⟩) (s5 b hne)).trans h.1,h.2⟩
 have hft:∀ k o,σ.H k=some o->∀ g,foot w' (ν k) o g ↔ foot w (ν k) o g:=fun k o h g=>foot_of fun b hb=>s5 b fun e=>hf k o h (by rw [← e];exact foot_blk hb)
 refine ⟨⟨s1.trans I.kept.os,s2.trans I.kept.tape,s3.trans I.kept.output,by rw [s4];exact I.kept.size,fun b hb hX=>(s5 b (by omega)).trans (I.kept.block b hb hX)⟩,fun b i u h=>hcell b i u (I.keep b i u h),I.pin,I.g0,I.sz,fun t d h=>?_,fun k o h=>?_,fun k o k' o' h h' hne g hg hg'=>?_⟩
 ·obtain ⟨u,hu,hd⟩:=I.T t d h
  exact ⟨u,hu,hd.mono (fun _ h=>⟨h,rfl⟩) hcell⟩
 ·obtain ⟨h1,h2⟩:=I.H k o h
  exact ⟨h1,h2.mono h1 (fun _ h=>⟨h,rfl⟩) hcell (fun g hg=>⟨s5 g fun e=>hf k o h (by rw [← e];exact hg),rfl⟩)⟩
 ·exact I.dis k o k' o' h h' hne g ((hft k o h g).1 hg) ((hft k' o' h' g).1 hg')
theorem ObjOk.env {E E':Env} {ν:Nat->Value} {nm:Nat->Bool} {w:World} {G:Lim} {k:Nat} {o:AObj} (h:ObjOk E ν nm w G k o) (hE:∀ g,foot w (ν k) o g->E.may g->E'.may g):ObjOk E' ν nm w G k o:=by
 cases o with
 | box e ds=>obtain ⟨g,cur,h1,h2,h3⟩:=h;exact ⟨g,cur,h1,hE g (foot_blk (by rw [h1];rfl)) h2,h3⟩
 | row e s n ts st=>obtain ⟨xs,h1,h2,h3,h4⟩:=h;exact ⟨xs,h1,h2,h3,fun g hg=>⟨hE g (foot_blk hg) (h4 g hg).1,(h4 g hg).2⟩⟩
 | it s pos=>obtain ⟨g,h1,h2,h3⟩:=h;exact ⟨g,h1,hE g (foot_blk (by rw [h1];rfl)) h2,h3⟩
 | mp l=>obtain ⟨g,es,clock,h1,h2,h3⟩:=h;exact ⟨g,es,clock,h1,hE g (foot_blk (by rw [h1];rfl)) h2,h3⟩
 | nest e e' s ls=>
   obtain ⟨xs,h1,h2,h3,h4,h5⟩:=h;refine ⟨xs,h1,fun i x p hx hp=>?_,h3,h4,fun g hg=>⟨hE g (foot_blk hg) (h5 g hg).1,(h5 g hg).2⟩⟩;obtain ⟨ys,y1,y2,y3,y4⟩:=h2 i x p hx hp;have hi:i < ls.length:=(List.getElem?_eq_some_iff.1 hp).1;refine ⟨ys,y1,y2,y3,fun g hg=>⟨hE g ?_ (y4 g hg).1,(y4 g hg).2⟩⟩;rcases h1.2 with ⟨_,h0⟩ | ⟨g0,cap,cur,hv,_⟩
   ·omega
   ·exact .inr ⟨g0,i,x,by rw [hv];rfl,hi,by rw [outer_cell h1 (by rw [hv];rfl) hi];exact hx,hg⟩
 | nst e e' m s n cs=>
   obtain ⟨xs,h1,hxl,hd,h2,h3,h4,h5⟩:=h;refine ⟨xs,h1,hxl,hd,fun i x q ts hx hc=>?_,h3,h4,fun g hg=>⟨hE g (foot_blk hg) (h5 g hg).1,(h5 g hg).2⟩⟩;obtain ⟨ys,y1,y2,y3,y4⟩:=h2 i x q ts hx hc;refine ⟨ys,y1,y2,y3,fun g hg=>⟨hE g ?_ (y4 g hg).1,(y4 g hg).2⟩⟩;have hi:=(List.getElem?_eq_some_iff.1 hx).1;rcases h1.2 with ⟨_,h0⟩ | ⟨g0,cap,cur,hv,_⟩
   ·rw [h1.1,h0] at hi;omega
   ·exact .inr ⟨g0,i,x,q,ts,by rw [hv];rfl,hc,by rw [row_cell h1 (by rw [hv];rfl) hi];exact hx,hg⟩
def envAt (E:Env) {σ:St} {ν:Nat->Value} {G:Lim} {w:World} {tm:Array Value} (I:Inv E σ ν G w tm):Env where
 m:=E.m
 w0:=w
 G0:=G
 X:=fun g=>∃ k o,σ.H k=some o/\foot w (ν k) o g
 ν0:=ν
 tab:=E.tab.keep I.kept.size I.kept.block fun _ ⟨k,o,h,hf⟩=>((I.H k o h).2.ft hf).2
 tg:=I.tg
 ds:=E.ds
theorem inv_at {E:Env} {σ:St} {ν:Nat->Value} {G:Lim} {w:World} {tm:Array Value} (I:Inv E σ ν G w tm):Inv (envAt E I) σ ν G w tm:=
 ⟨⟨rfl,rfl,rfl,Nat.le_refl _,fun _ _ _=>rfl⟩,fun _ _ _ h=>h,fun _ _ _=>rfl,fun _ _ _=>rfl,I.sz,I.T,fun k o h=>⟨(I.H k o h).1,ObjOk.env (I.H k o h).2 fun _ hg _=>.inr ⟨k,o,h,hg⟩⟩,I.dis⟩
theorem inv_from {E:Env} {σ:St} {ν:Nat->Value} {G:Lim} {w:World} {tm:Array Value} (I:Inv E σ ν G w tm) {s:St} {ν':Nat->Value} {G':Lim} {w':World} {tm':Array Value} (J:Inv (envAt E I) s ν' G' w' tm'):Inv E s ν' G' w' tm':=by
 have hX:∀ b,b < E.w0.heap.size->¬ E.X b->¬ (envAt E I).X b:=fun b hb hx ⟨k,o,h,hf⟩=>by
  rcases ((I.H k o h).2.ft hf).2 with h | h
  ·omega
  ·exact hx h
 have hl:∀ b,b < E.w0.heap.size->b < w.heap.size:=fun b hb=>Nat.lt_of_lt_of_le hb I.kept.size
 refine ⟨⟨J.kept.os.trans I.kept.os,J.kept.tape.trans I.kept.tape,J.kept.output.trans I.kept.output,Nat.le_trans I.kept.size J.kept.size,fun b hb hx=>(J.kept.block b (hl b hb) (hX b hb hx)).trans (I.kept.block b hb hx)⟩,fun b i u h=>J.keep b i u (I.keep b i u h),fun k h1 h2=>(J.pin k h1 h2).trans (I.pin k h1 h2),fun b hb hx=>(J.g0 b (hl b hb) (hX b hb hx)).trans (I.g0 b hb hx),J.sz,J.T,fun k o h=>⟨(J.H k o h).1,ObjOk.env (J.H k o h).2 fun g _ hm=>?_⟩,J.dis⟩;rcases hm with h | ⟨k,o,h,hf⟩
 ·exact .inl (Nat.le_trans I.kept.size h)
 ·exact ((I.H k o h).2.ft hf).2
theorem at_wp {P:Program} {code:Code} {E:Env} {σ:St} {ν:Nat->Value} {G:Lim} {w:World} {a:Act} {Q:Env->Exit->St->Prop} (I:Inv E σ ν G w a.tmps) (hA:∀ E':Env,E'.m=E.m->AWp P E' code (Q E') σ) (hd:a.defers=E.ds)
    {Z:Exit->Act->World->Prop} (hZ:∀ e s ν' G' a' w',Q (envAt E I) e s->Inv (envAt E I) s ν' G' w' a'.tmps->a'.defers=E.ds->Z e a' w'):code.wp P Z a w:=
 wp_mono (hA (envAt E I) rfl a w hd ⟨ν,G,inv_at I⟩) fun e a' w' ⟨h1,s,h2,ν',G',h3⟩=>hZ e s ν' G' a' w' h2 h3 h1
theorem at_block {E:Env} {σ:St} {ν:Nat->Value} {G:Lim} {w:World} {tm:Array Value} (I:Inv E σ ν G w tm) {s:St} {ν':Nat->Value} {G':Lim} {w':World} {tm':Array Value} (J:Inv (envAt E I) s ν' G' w' tm') {b:Nat} (hb:b < w.heap.size) (hf:∀ k o,σ.H k=some o->¬ foot w (ν k) o b):w'.heap[b]?=w.heap[b]?/\∀ k o,s.H k=some o->¬ foot w' (ν' k) o b:=by
 refine ⟨J.kept.block b hb fun ⟨k,o,h,h'⟩=>hf k o h h',fun k o h h'=>?_⟩;rcases ((J.H k o h).2.ft h').2 with h1 | ⟨k1,o1,h1,h2⟩
 ·have h1:w.heap.size<=b:=h1
  omega
 ·exact hf k1 o1 h1 h2
end Go.Ax
/- A loop over a map whose rounds write: Print's words. -/
namespace Go.Proofs
open Go Go.Ax Go.Ax.Alg Go.RowKit Go.Ab Go.ChangeMaps
abbrev o40 : Oper := { dst := some 17, op := Op.call { callee := Callee.value (Operand.func 34), args := #[], argTypes := #[] }, type := 69, pos := "rules.go:78", after := #[], guard := none }
abbrev o41 : Oper := { dst := some 18, op := Op.range 69 (Operand.tmp 17), type := 0, pos := "rules.go:78", after := #[{ on := 0, ground := Ground.data }], guard := none }
abbrev o50 : Oper := { dst := some 19, op := Op.next (Operand.tmp 18) false, type := 0, pos := "rules.go:78", after := #[], guard := none }
abbrev o51 : Oper := { dst := some 20, op := Op.extract (Operand.tmp 19) 0, type := 4, pos := "rules.go:78", after := #[{ on := 0, ground := Ground.data }], guard := none }
noncomputable def r6:List Oper:=match atC [1,0,1,1,0,0] (atC [1] w22b0) with | .region _ ops _=>ops.toList | _=>[]
noncomputable def c7:Code:=atC [1,0,0,1,1,0,1] w22b0
noncomputable def c6:Code:=atC [1,0,0,1,1,0,0] w22b0
abbrev o60 : Oper := { dst := some 21, op := Op.entry (Operand.tmp 18), type := 0, pos := "rules.go:78", after := #[], guard := none }
abbrev o61 : Oper := { dst := some 22, op := Op.extract (Operand.tmp 21) 0, type := 9, pos := "rules.go:78", after := #[{ on := 0, ground := Ground.data }], guard := none }
abbrev o62 : Oper := { dst := some 23, op := Op.extract (Operand.tmp 21) 1, type := 3, pos := "rules.go:78", after := #[{ on := 0, ground := Ground.data }, { on := 3, ground := Ground.gcOnly Departure.lateStores }], guard := none }
abbrev o63 : Oper := { dst := some 4, op := Op.assign (Operand.tmp 22), type := 9, pos := "rules.go:78", after := #[{ on := 1, ground := Ground.data }, { on := 0, ground := Ground.phase }, { on := 1, ground := Ground.phase }, { on := 2, ground := Ground.textOnly Departure.lateStores }], guard := none }
abbrev o64 : Oper := { dst := some 5, op := Op.assign (Operand.tmp 23), type := 3, pos := "rules.go:78", after := #[{ on := 2, ground := Ground.data }, { on := 3, ground := Ground.chain }, { on := 0, ground := Ground.phase }, { on := 1, ground := Ground.phase }, { on := 2, ground := Ground.phase }, { on := 3, ground := Ground.phase }], guard := none }
theorem b0_eq:w22b0 = .seq (.region 4 [o40,o41].toArray false) (.block 0 (.loop (.seq (.region 5 [o50,o51].toArray false) (.seq (.cond (.tmp 20) .skip (.exit 0)) (.block 1 (.seq (.region 6 [o60,o61,o62,o63,o64].toArray false) c7)))))):=by kernel_rfl
abbrev RL:=List ((List Int)×(Int×Int))
abbrev TL:=List YF7
def pit (it:Nat):Value:=.pointer (some ⟨it,0,none⟩)
def SL (l:RL) (it:Nat) (W:TL):Sg:=⟨[(0,.e (.sl (.pr (.sl (.i .i64)) (.pr (.i .i64) (.i .i64)))) l),(3,.own 0),(18,.v (pit it))],[(0,.row 9 .tx W false)],100⟩
def S7 (l:RL) (it:Nat) (W:TL) (s:List UInt8) (v:Int):Sg:=⟨[(0,.e (.sl (.pr (.sl (.i .i64)) (.pr (.i .i64) (.i .i64)))) l),(3,.own 0),(18,.v (pit it)),(4,.e .tx s),(5,.e (.i .i64) v)],[(0,.row 9 .tx W false)],100⟩
theorem q7 (N:Nat) (l:RL) (it:Nat) (W:TL) (s:List UInt8) (v:Int) (K:Exit->Sg->O):(ck (decide (0<=v/\v < (↑W.length:Int))) <| gn W v.toNat fun _=>K .normal (SL l it (W.set v.toNat s)))=exec (w22c N) Tryd.f22.ntmps .d c7 (S7 l it W s v) (partX [(.normal,⟨[0,3,18],[],[]⟩)] K):=by kernel_rfl
open Classical in
theorem r7_ok {N:Nat} (hc:CxOk (w22c N)) (l:RL) (it:Nat) (W:TL) (s:List UInt8) {v:Int} (h0:0<=v) (h1:v < W.length) {E:Env} (hE:E.m=Tryd.f22.ntmps):
    AWp Tryd.prog E c7 (fun e s'=>e = .normal/\Ent E s' (denS (SL l it (W.set v.toNat s)))) (denS (S7 l it W s v)):=by
 have hg:W[v.toNat]?=some W[v.toNat]:=List.getElem?_eq_getElem (by omega);have hq:=q7 N l it W s v (fun e σ'=>if e = .normal/\σ'=SL l it (W.set v.toNat s) then some (w22r0 []) else none);rw [ck_of (decide_eq_true ⟨h0,h1⟩),gn_of hg,if_pos ⟨rfl,rfl⟩] at hq;have:=partX_ok hc (hk_d c7) hq.symm (Nat.le_refl _) E hE;refine aw_mono this ?_;rintro e s' ⟨σ',⟨_,hk⟩,hent⟩;split at hk
 ·rename_i h
  obtain ⟨rfl,rfl⟩:=h;exact ⟨rfl,hent⟩
 ·cases hk
def mpo:XO:=.mp .tx [(lF7x1,.e (.i .i64) (0:Int)),(lF7x0,.e (.i .i64) (1:Int)),(lF7x2,.e (.i .i64) (2:Int))]
theorem q40 (N:Nat) (l:RL) (W:TL):stepX (w22c N) (w22I0 (l,W)).vw 100 false o40 (fun y V=>some (y,V.map fun p=>(p.1,p.2.getD (.row 0 .bo [] false))))=some (.own 100,[(100,mpo)]):=by kernel_rfl
set_option maxRecDepth 100000 in
theorem o40_ok {N:Nat} (hc:CxOk (w22c N)) (l:RL) (W:TL):OpOk Tryd.prog o40 (w22I0 (l,W)).vw.den 100 (.own 100) [(100,some mpo.A)]:=by
 have hok:Vw.Ok (w22I0 (l,W)).vw (fun _=>false):=⟨fun t x h=>pl_good (plB_get (T:=(w22I0 (l,W)).T) (by kernel_rfl) t x h),fun key c h=>by cases h⟩;obtain ⟨x,V,h,_,hop⟩:=hc.step _ _ _ _ _ _ _ hok (q40 N l W);have hop:=hop (fun key c h=>by cases h);injection h with h;injection h with h1 h2;subst h1
 match V,h2,hop with
 | [],h2,_=>cases h2
 | [(k,none)],h2,_=>
   injection h2 with h2 _;injection h2 with _ h2;cases h2
 | [(k,some o)],h2,hop=>
   injection h2 with h2 _;injection h2 with h2 h3;subst h2;have h3:o=mpo:=h3;subst h3;exact hop
 | _::_::_,h2,_=>injection h2 with _ h2;cases h2
def wS:Nat->List UInt8
 | 0=>[115,116,114,105,107,101]
 | 1=>[114,101,115,116,111,114,101]
 | _=>[114,101,116,97,107,101]
def WD (W:TL) (d0 d1 d2:Bool):TL:=(if d2 then (if d1 then (if d0 then W.set 0 (wS 0) else W).set 1 (wS 1) else (if d0 then W.set 0 (wS 0) else W)).set 2 (wS 2) else (if d1 then (if d0 then W.set 0 (wS 0) else W).set 1 (wS 1) else (if d0 then W.set 0 (wS 0) else W)))
theorem WD_len (W:TL) (d0 d1 d2:Bool):(WD W d0 d1 d2).length=W.length:=by cases d0 <;> cases d1 <;> cases d2 <;> simp [WD]
theorem WD_0 (W:TL) (d1 d2:Bool):(WD W false d1 d2).set 0 (wS 0)=WD W true d1 d2:=by
 cases d1 <;> cases d2 <;> simp [WD]
 ·rw [List.set_comm _ _ (by decide)]
 ·rw [List.set_comm _ _ (by decide)]
 ·rw [List.set_comm _ _ (by decide),List.set_comm (i:=1) (j:=0) _ _ (by decide)]
theorem WD_1 (W:TL) (d0 d2:Bool):(WD W d0 false d2).set 1 (wS 1)=WD W d0 true d2:=by
 cases d0 <;> cases d2 <;> simp [WD]
 ·rw [List.set_comm _ _ (by decide)]
 ·rw [List.set_comm _ _ (by decide)]
theorem WD_2 (W:TL) (d0 d1:Bool):(WD W d0 d1 false).set 2 (wS 2)=WD W d0 d1 true:=by
 cases d0 <;> cases d1 <;> simp [WD]
theorem ex_v {s:Sem Value} {P:Program} {w w':World} {v:Value} (h:s.run P w = .ok v w'):((do pure (Next.value (← s))):Sem Next).run P w = .ok (.value v) w':=by
 rw [Sem.run_bind,h];rfl
structure Ents (es:Array MapEntry) (clock:Nat) (e0 e1 e2:MapEntry):Prop where
 eq:es.toList=[e0,e1,e2]
 k0:e0.key = .string ⟨⟨wS 0⟩⟩
 k1:e1.key = .string ⟨⟨wS 1⟩⟩
 k2:e2.key = .string ⟨⟨wS 2⟩⟩
 v0:e0.val = .int .i64 0
 v1:e1.val = .int .i64 1
 v2:e2.val = .int .i64 2
 lt:∀ x ∈ es.toList,x.born < clock
 nd:(es.toList.map (·.born)).Nodup
structure J (E:Env) (l:RL) (W:TL) (es:Array MapEntry) (bm it clock:Nat) (e0 e1 e2:MapEntry) (d0 d1 d2:Bool) (a:Act) (w:World):Prop where
 ds:a.defers=E.ds
 ex:∃ ν G seen c0,Inv E (denS (SL l it (WD W d0 d1 d2))) ν G w a.tmps/\w.heap[it]?=some (.mapIter (some bm) clock seen c0)/\clock<=c0/\w.heap[bm]?=some (.map es clock) /\
  (∀ k o,(denS (SL l it (WD W d0 d1 d2))).H k=some o->¬ foot w (ν k) o it/\¬ foot w (ν k) o bm)/\(d0=seen.contains e0.born)/\(d1=seen.contains e1.born)/\d2=seen.contains e2.born
def lf (d:Bool):Nat:=if d then 0 else 1
theorem setB_same {w:World} {b:Nat} {o:Obj} (h:b < w.heap.size):(setBlock w b o).heap[b]?=some o:=by simp [setBlock,h]
theorem setB_ne {w:World} {b c:Nat} {o:Obj} (h:c≠b):(setBlock w b o).heap[c]?=w.heap[c]?:=by
 simp [setBlock,Ne.symm h]
section
variable {N:Nat} (hc:CxOk (w22c N)) {E:Env} (hE:E.m=Tryd.f22.ntmps) {l:RL} {W:TL} (h3:3<=W.length) {es:Array MapEntry} {bm it clock:Nat} {e0 e1 e2:MapEntry} (F:Ents es clock e0 e1 e2) (hne:bm≠it) (hit:E.w0.heap.size<=it)
include hc hE h3 F hne hit
theorem one_round {d0 d1 d2:Bool} {a:Act} {w:World} (hJ:J E l W es bm it clock e0 e1 e2 d0 d1 d2 a w) {Q:Exit->Act->World->Prop}
    (hQ:∀ a' w',d0=true->d1=true->d2=true->J E l W es bm it clock e0 e1 e2 d0 d1 d2 a' w'->Q (.exit 0) a' w')
    (h0:∀ a' w',d0=false->J E l W es bm it clock e0 e1 e2 true d1 d2 a' w'->Q .normal a' w')
    (h1:∀ a' w',d1=false->J E l W es bm it clock e0 e1 e2 d0 true d2 a' w'->Q .normal a' w')
    (h2:∀ a' w',d2=false->J E l W es bm it clock e0 e1 e2 d0 d1 true a' w'->Q .normal a' w'):
    (Code.seq (.region 5 [o50,o51].toArray false) (.seq (.cond (.tmp 20) .skip (.exit 0)) (.block 1 (.seq (.region 6 [o60,o61,o62,o63,o64].toArray false) c7)))).wp Tryd.prog Q a w:=by
 obtain ⟨hds,ν,G,seen,c0,I,hwi,hcc,hwb,hfr,q0,q1,q2⟩:=hJ;have hm:Tryd.f22.ntmps=97:=by kernel_rfl
 have hsz:a.tmps.size=97:=I.sz.trans (hE.trans hm);have h18:a.eval (.tmp 18)=pit it:=bool_of (I.ev (x:=.tmp 18) (d:=.t (.v (pit it))) rfl);have hlt:it < w.heap.size:=(Array.getElem?_eq_some_iff.1 hwi).1;have hnc:∀ i,w.cell? ⟨it,i,none⟩=none:=fun i=>by simp [World.cell?,hwi]
 refine wp_seq (wp_region_lit ?_);rcases run_next_at (P:=Tryd.prog) w 0 it bm clock c0 seen es clock hwi hwb F.lt hcc with ⟨hL,hrun⟩ | ⟨e,he,w1,hw1,hrun⟩
 ·have hr1:(execOp a.eval o50).run Tryd.prog w = .ok (.value (.tuple #[.bool false])) w:=ex_v (s:=Instr.next (a.eval (.tmp 18)) false 0) (by rw [h18];exact hrun)
  refine wpl_val rfl hr1 ?_;have ht19:(a.put (some 19) (.tuple #[.bool false])).eval (.tmp 19) = .tuple #[.bool false]:=eval_put (by omega);have hr2:(execOp (a.put (some 19) (.tuple #[.bool false])).eval o51).run Tryd.prog w = .ok (.value (.bool false)) w:=ex_v (s:=Instr.extract ((a.put (some 19) (.tuple #[.bool false])).eval (.tmp 19)) 0) (by rw [ht19];rfl);refine wpl_val rfl hr2 (wpList_nil ?_);have ht20:((a.put (some 19) (.tuple #[.bool false])).put (some 20) (.bool false)).eval (.tmp 20) = .bool false:=eval_put (by rw [put_size];omega);refine wp_seq (wp_cond (t:=false) ht20 (wp_exit ?_));have I2:=Go.Ax.Inv.skip (a:=a.put (some 19) (.tuple #[.bool false])) (Go.Ax.Inv.skip (a:=a) I (t:=19) rfl (.tuple #[.bool false])) (t:=20) rfl (.bool false);have hnil:leftOf es seen = #[]:=Array.eq_empty_of_size_eq_zero hL;have hall:∀ x ∈ es.toList,seen.contains x.born=true:=fun x hx=>by
   unfold leftOf at hnil;rw [Array.filter_eq_empty_iff] at hnil;have:=hnil x (by simpa using hx);simpa using this
  have g0:d0=true:=by rw [q0];exact hall e0 (by rw [F.eq];simp)
  have g1:d1=true:=by rw [q1];exact hall e1 (by rw [F.eq];simp)
  have g2:d2=true:=by rw [q2];exact hall e2 (by rw [F.eq];simp)
  exact hQ _ _ g0 g1 g2 ⟨(put_defers ..).trans ((put_defers ..).trans hds),ν,G,seen,c0,I2,hwi,hcc,hwb,hfr,q0,q1,q2⟩
 ·have hr1:(execOp a.eval o50).run Tryd.prog w = .ok (.value (.tuple #[.bool true,e.key,e.val])) (setBlock w1 it (.mapIter (some bm) clock (seen.push e.born) clock)):=ex_v (s:=Instr.next (a.eval (.tmp 18)) false 0) (by rw [h18];exact hrun)
  refine wpl_val rfl hr1 ?_;have hmem:e ∈ es.toList/\seen.contains e.born=false:=by
   unfold leftOf at he;simp only [Array.toList_filter,List.mem_filter,Bool.not_eq_true'] at he;exact he
  generalize hw2:setBlock w1 it (.mapIter (some bm) clock (seen.push e.born) clock)=w2;have hs1:w1.heap=w.heap:=by rcases hw1 with rfl | rfl <;> rfl
  have hwi2:w2.heap[it]?=some (.mapIter (some bm) clock (seen.push e.born) clock):=by rw [← hw2];exact setB_same (by rw [hs1];exact hlt)
  have hwo:∀ b,b≠it->w2.heap[b]?=w.heap[b]?:=fun b hb=>by rw [← hw2,setB_ne hb,hs1]
  have hwb2:w2.heap[bm]?=some (.map es clock):=(hwo bm hne).trans hwb;have I2:Inv E (denS (SL l it (WD W d0 d1 d2))) ν G w2 a.tmps:=Go.Ax.Inv.other I hit (fun k o h=>(hfr k o h).1) hnc (by rw [← hw2];rcases hw1 with rfl | rfl <;> rfl) (by rw [← hw2];rcases hw1 with rfl | rfl <;> rfl) (by rw [← hw2];rcases hw1 with rfl | rfl <;> rfl) (by rw [← hw2];simp [setBlock,hs1]) hwo;have hfr2:∀ k o,(denS (SL l it (WD W d0 d1 d2))).H k=some o->¬ foot w2 (ν k) o it/\¬ foot w2 (ν k) o bm:=fun k o h=>by
   have hft:∀ g,foot w2 (ν k) o g ↔ foot w (ν k) o g:=fun g=>foot_of fun b hb=>hwo b fun e'=>(hfr k o h).1 (by rw [← e'];exact foot_blk hb)
   exact ⟨fun h'=>(hfr k o h).1 ((hft _).1 h'),fun h'=>(hfr k o h).2 ((hft _).1 h')⟩
  have ht19:(a.put (some 19) (.tuple #[.bool true,e.key,e.val])).eval (.tmp 19) = .tuple #[.bool true,e.key,e.val]:=eval_put (by omega);have hr2:(execOp (a.put (some 19) (.tuple #[.bool true,e.key,e.val])).eval o51).run Tryd.prog w2 = .ok (.value (.bool true)) w2:=ex_v (s:=Instr.extract ((a.put (some 19) (.tuple #[.bool true,e.key,e.val])).eval (.tmp 19)) 0) (by rw [ht19];rfl);refine wpl_val rfl hr2 (wpList_nil ?_);have I3:=Go.Ax.Inv.skip (a:=a.put (some 19) (.tuple #[.bool true,e.key,e.val])) (Go.Ax.Inv.skip (a:=a) I2 (t:=19) rfl (.tuple #[.bool true,e.key,e.val])) (t:=20) rfl (.bool true);have hd3:((a.put (some 19) (.tuple #[.bool true,e.key,e.val])).put (some 20) (.bool true)).defers=E.ds:=(put_defers ..).trans ((put_defers ..).trans hds);have hz3:((a.put (some 19) (.tuple #[.bool true,e.key,e.val])).put (some 20) (.bool true)).tmps.size=97:=by rw [put_size,put_size];exact hsz
  have ht20:((a.put (some 19) (.tuple #[.bool true,e.key,e.val])).put (some 20) (.bool true)).eval (.tmp 20) = .bool true:=eval_put (by rw [put_size];omega);refine wp_seq (wp_cond (t:=true) ht20 (wp_skip ?_));generalize (a.put (some 19) (.tuple #[.bool true,e.key,e.val])).put (some 20) (.bool true)=b at I3 hd3 hz3;clear ht20 hr2 ht19 hr1 hrun I2 I hds h18 hsz;have h18:b.eval (.tmp 18)=pit it:=bool_of (I3.ev (x:=.tmp 18) (d:=.t (.v (pit it))) rfl);show (Code.block 1 _).wp Tryd.prog _ b w2;refine wp_block (wp_seq (wp_region_lit ?_));have hr1:(execOp b.eval o60).run Tryd.prog w2 = .ok (.value (.tuple #[e.key,e.val])) w2:=ex_v (s:=Instr.entry (b.eval (.tmp 18))) (by rw [h18];exact run_entry_at w2 it bm clock seen es clock e hwi2 hwb2 hmem.1 F.nd);refine wpl_val rfl hr1 ?_;have I4:=Go.Ax.Inv.skip (a:=b) I3 (t:=21) rfl (.tuple #[e.key,e.val]);have hz4:(b.put (some 21) (.tuple #[e.key,e.val])).tmps.size=97:=by rw [put_size];exact hz3
  have hd4:(b.put (some 21) (.tuple #[e.key,e.val])).defers=E.ds:=(put_defers ..).trans hd3;have t21:(b.put (some 21) (.tuple #[e.key,e.val])).eval (.tmp 21) = .tuple #[e.key,e.val]:=eval_put (by omega);generalize b.put (some 21) (.tuple #[e.key,e.val])=b4 at I4 hz4 hd4 t21;refine wpl_val rfl (v:=e.key) (w':=w2) (ex_v (s:=Instr.extract (b4.eval (.tmp 21)) 0) (by rw [t21];rfl)) ?_;have I5:=Go.Ax.Inv.skip (a:=b4) I4 (t:=22) rfl e.key;have hz5:(b4.put (some 22) e.key).tmps.size=97:=by rw [put_size];exact hz4
  have hd5:(b4.put (some 22) e.key).defers=E.ds:=(put_defers ..).trans hd4;have t21':(b4.put (some 22) e.key).eval (.tmp 21) = .tuple #[e.key,e.val]:=(eval_put_ne (by omega)).trans t21;have t22:(b4.put (some 22) e.key).eval (.tmp 22)=e.key:=eval_put (by omega);generalize b4.put (some 22) e.key=b5 at I5 hz5 hd5 t21' t22;refine wpl_val rfl (v:=e.val) (w':=w2) (ex_v (s:=Instr.extract (b5.eval (.tmp 21)) 1) (by rw [t21'];rfl)) ?_;have I6:=Go.Ax.Inv.skip (a:=b5) I5 (t:=23) rfl e.val;have hz6:(b5.put (some 23) e.val).tmps.size=97:=by rw [put_size];exact hz5
  have hd6:(b5.put (some 23) e.val).defers=E.ds:=(put_defers ..).trans hd5;have t22':(b5.put (some 23) e.val).eval (.tmp 22)=e.key:=(eval_put_ne (by omega)).trans t22;have t23:(b5.put (some 23) e.val).eval (.tmp 23)=e.val:=eval_put (by omega);generalize b5.put (some 23) e.val=b6 at I6 hz6 hd6 t22' t23;refine wpl_val rfl (v:=e.key) (w':=w2) (by show Result.ok (Next.value (b6.eval (.tmp 22))) w2=_;rw [t22']) ?_;have key:∀ (i:Nat) (D:TL),e.key = .string ⟨⟨wS i⟩⟩->e.val = .int .i64 (i:Int)->i < 3->(WD W d0 d1 d2).set i (wS i)=D->
      (∀ a' w' ν G,a'.defers=E.ds->Inv E (denS (SL l it D)) ν G w' a'.tmps->w'.heap[it]?=some (.mapIter (some bm) clock (seen.push e.born) clock)->w'.heap[bm]?=some (.map es clock)->
       (∀ k o,(denS (SL l it D)).H k=some o->¬ foot w' (ν k) o it/\¬ foot w' (ν k) o bm)->Q .normal a' w')->
      wpList Tryd.prog [o60,o61,o62,o63,o64].toArray (Exit.then (c7.wp Tryd.prog (Exit.inBlock 1 Q)) (Exit.inBlock 1 Q)) [o64] (b6.put (some 4) e.key) w2:=fun i D hk hv hi hD hfin=>by
   have t23':(b6.put (some 4) e.key).eval (.tmp 23)=e.val:=(eval_put_ne (by omega)).trans t23;refine wpl_val rfl (v:=e.val) (w':=w2) (by show Result.ok (Next.value ((b6.put (some 4) e.key).eval (.tmp 23))) w2=_;rw [t23']) (wpList_nil ?_);have P1:=I6.put (dst:=some 4) (v:=e.key) (d:=(X.e .tx (wS i)).D) (by rw [hk];exact .t (.v _ rfl)) (fun t ht=>by cases ht;rw [hE,hm];decide) 0 b6 rfl;have P2:=P1.put (dst:=some 5) (v:=e.val) (d:=(X.e (.i .i64) (i:Int)).D) (by rw [hv];exact .t (.v _ rfl)) (fun t ht=>by cases ht;rw [hE,hm];decide) 0 (b6.put (some 4) e.key) rfl;have hd7:((b6.put (some 4) e.key).put (some 5) e.val).defers=E.ds:=(put_defers ..).trans ((put_defers ..).trans hd6);have P3:Inv E (denS (S7 l it (WD W d0 d1 d2) (wS i) (i:Int))) ν G w2 ((b6.put (some 4) e.key).put (some 5) e.val).tmps:=Go.Ax.Inv.le P2 (fun t d h=>by
       obtain ⟨x,hx,rfl⟩:=Option.map_eq_some_iff.1 (show (lk t (S7 l it (WD W d0 d1 d2) (wS i) (i:Int)).T).map X.D=some d from h);have hx:=lk_mem hx;unfold S7 at hx;simp only [List.mem_cons,List.not_mem_nil,or_false,Prod.mk.injEq] at hx;rcases hx with ⟨rfl,rfl⟩ | ⟨rfl,rfl⟩ | ⟨rfl,rfl⟩ | ⟨rfl,rfl⟩ | ⟨rfl,rfl⟩ <;> rfl) (fun k o h=>h) (fun k h=>by
       have h:(decide (k < 100)||(decide (0<=k)&&decide (k < 0+8))||(decide (0<=k)&&decide (k < 0+8)))=true:=h;show decide (k < 100)=true;simp at h ⊢;omega)
   generalize (b6.put (some 4) e.key).put (some 5) e.val=b7 at P3 hd7;have hlen:=WD_len W d0 d1 d2;have hcn:((i:Int)).toNat=i:=Int.toNat_natCast i;refine at_wp P3 (Q:=fun E' e s'=>e = .normal/\Ent E' s' (denS (SL l it ((WD W d0 d1 d2).set ((i:Int)).toNat (wS i))))) (fun E' hE'=>r7_ok hc l it (WD W d0 d1 d2) (wS i) (by omega) (by rw [hlen];omega) (hE'.trans hE)) hd7 ?_;rintro e' s' ν' G' a' w' ⟨rfl,hent⟩ J1 hds';rw [hcn,hD] at hent;obtain ⟨ν2,G2,J2⟩:=hent _ _ ⟨ν',G',J1⟩;have k1:=at_block P3 J2 (b:=it) (Array.getElem?_eq_some_iff.1 hwi2).1 (fun k o h=>(hfr2 k o h).1);have k2:=at_block P3 J2 (b:=bm) (Array.getElem?_eq_some_iff.1 hwb2).1 (fun k o h=>(hfr2 k o h).2);exact hfin a' w' ν2 G2 hds' (inv_from P3 J2) (k1.1.trans hwi2) (k2.1.trans hwb2) (fun k o h=>⟨k1.2 k o h,k2.2 k o h⟩)
  have hpush:∀ x:Nat,(seen.push e.born).contains x=(seen.contains x||decide (x=e.born)):=fun x=>by rw [Bool.eq_iff_iff];simp [or_comm]
  have hnd:e0.born≠e1.born/\e0.born≠e2.born/\e1.born≠e2.born:=by
   have:=F.nd;rw [F.eq] at this;simpa [and_assoc] using this
  have hm:=hmem.1;rw [F.eq] at hm;have hps:(seen.push e.born).contains e.born=true:=by rw [hpush];simp
  have hpn:∀ x:Nat,x≠e.born->(seen.push e.born).contains x=seen.contains x:=fun x hx=>by rw [hpush,decide_eq_false hx,Bool.or_false]
  rcases List.mem_cons.1 hm with rfl | hm
  ·have g:d0=false:=q0.trans hmem.2
   exact key 0 (WD W true d1 d2) F.k0 F.v0 (by decide) (by rw [g];exact WD_0 ..) (fun a' w' ν G h1 h2 h3 h4 h5=>h0 a' w' g ⟨h1,ν,G,_,clock,h2,h3,Nat.le_refl _,h4,h5,hps.symm,by rw [hpn _ (Ne.symm hnd.1)];exact q1,by rw [hpn _ (Ne.symm hnd.2.1)];exact q2⟩)
  rcases List.mem_cons.1 hm with rfl | hm
  ·have g:d1=false:=q1.trans hmem.2
   exact key 1 (WD W d0 true d2) F.k1 F.v1 (by decide) (by rw [g];exact WD_1 ..) (fun a' w' ν G h1' h2 h3 h4 h5=>h1 a' w' g ⟨h1',ν,G,_,clock,h2,h3,Nat.le_refl _,h4,h5,by rw [hpn _ hnd.1];exact q0,hps.symm,by rw [hpn _ (Ne.symm hnd.2.2)];exact q2⟩)
  ·have hm:=List.mem_singleton.1 hm
   subst hm;have g:d2=false:=q2.trans hmem.2;exact key 2 (WD W d0 d1 true) F.k2 F.v2 (by decide) (by rw [g];exact WD_2 ..) (fun a' w' ν G h1' h2' h3 h4 h5=>h2 a' w' g ⟨h1',ν,G,_,clock,h2',h3,Nat.le_refl _,h4,h5,by rw [hpn _ hnd.2.1];exact q0,by rw [hpn _ hnd.2.2];exact q1,hps.symm⟩)
theorem all_rounds {Q:Exit->Act->World->Prop} (hQ:∀ a' w',J E l W es bm it clock e0 e1 e2 true true true a' w'->Q (.exit 0) a' w'):∀ (n:Nat) (d0 d1 d2:Bool) (a:Act) (w:World),lf d0+lf d1+lf d2 < n->J E l W es bm it clock e0 e1 e2 d0 d1 d2 a w->
    Code.rounds Tryd.prog (Code.seq (.region 5 [o50,o51].toArray false) (.seq (.cond (.tmp 20) .skip (.exit 0)) (.block 1 (.seq (.region 6 [o60,o61,o62,o63,o64].toArray false) c7)))) Q n a w
 | 0,_,_,_,_,_,h,_=>by omega
 | n+1,d0,d1,d2,a,w,h,hJ=>by
   rw [rounds_succ];refine one_round hc hE h3 F hne hit hJ ?_ ?_ ?_ ?_
   ·rintro a' w' rfl rfl rfl hJ';exact hQ a' w' hJ'
   ·rintro a' w' rfl hJ';exact all_rounds hQ n true d1 d2 a' w' (by simp [lf] at h ⊢;omega) hJ'
   ·rintro a' w' rfl hJ';exact all_rounds hQ n d0 true d2 a' w' (by simp [lf] at h ⊢;omega) hJ'
   ·rintro a' w' rfl hJ';exact all_rounds hQ n d0 d1 true a' w' (by simp [lf] at h ⊢;omega) hJ'
end
def SA (l:RL) (it:Nat) (W:TL):Sg:=⟨[(18,.v (pit it)),(17,.own 100),(0,.e (.sl (.pr (.sl (.i .i64)) (.pr (.i .i64) (.i .i64)))) l),(3,.own 0)],[(100,mpo),(0,.row 9 .tx W false)],108⟩
theorem qA (l:RL) (it:Nat) (W:TL) (K:Sg->O):normX ⟨[0,3,18],[],[]⟩ (SA l it W) K=K (SL l it W):=by kernel_rfl
open Classical in
theorem entA (l:RL) (it:Nat) (W:TL) (E:Env):Ent E (denS (SA l it W)) (denS (SL l it W)):=by
 obtain ⟨σ',h1,_,h3⟩:=normX_ok (k:=fun σ'=>if σ'=SL l it W then some (w22r0 []) else none) ((qA l it W _).trans (if_pos rfl)) (show 100<=(SA l it W).N from (by decide:(100:Nat)<=108));split at h1
 ·rename_i h;rw [← h];exact h3 E
 ·cases h1
set_option maxRecDepth 100000 in
theorem w22aw {N:Nat} (hc:CxOk (w22c N)) {E:Env} (hE:E.m=Tryd.f22.ntmps) (l:RL) (W:TL) (h3:3<=W.length):
    AWp Tryd.prog E w22b0 (fun e s'=>e = .normal/\Ent E s' (denS (w22X0_0 (l,WD W true true true)).2)) (denS (w22I0 (l,W))):=by
 intro a w hds hR;have hm:Tryd.f22.ntmps=97:=by kernel_rfl
 rw [b0_eq];refine wp_seq (wp_region_lit ?_);refine wpList_plain rfl fun K hK=>?_
 refine Oper.wp_mono ?_ (o40_ok hc l W E (denS (w22I0 (l,W))) a w (fun t d h=>h) (fun k o h=>h) (Nat.le_refl _) (fun k h1 h2=>decide_eq_false (show ¬ k < 100 by omega)) (fun t ht=>by cases ht;rw [hE,hm];decide) hR _);rintro b w1 ⟨hd1,ν,G,I⟩;refine hK _ _ ?_;obtain ⟨v,hv,hdv⟩:=I.T 17 (.own 100) rfl;obtain ⟨hn,g,es,clock,n1,n2,n3,n4,n5,n6,n7⟩:=I.H 100 mpo.A rfl;have h17:b.eval (.tmp 17) = .map (some g):=by
  have:v=ν 100:=by cases hdv;rfl
  rw [this,n1] at hv;simp [Act.eval,Array.getD_eq_getD_getElem?,hv]
 have hr1:(execOp b.eval o41).run Tryd.prog w1 = .ok (.value (pit w1.heap.size)) (w1.alloc (.mapIter (some g) clock #[] clock)):=ex_v (s:=Instr.range 69 (b.eval (.tmp 17))) (by rw [h17];exact run_range_map w1 69 9 3 g es clock (by kernel_rfl) n3);refine wpl_val rfl hr1 (wpList_nil ?_);have hgl:g < w1.heap.size:=(Array.getElem?_eq_some_iff.1 n3).1;have I2:=(I.aft (w':=w1.alloc (.mapIter (some g) clock #[] clock)) (G':=G) ((Aft.refl w1).alloc _) (fun _ _=>rfl)).put (dst:=some 18) (v:=pit w1.heap.size) (d:=.t (.v (pit w1.heap.size))) (.t (.v _ rfl)) (fun t ht=>by cases ht;rw [hE,hm];decide) 100 b rfl;have I3:Inv E (denS (SA l w1.heap.size W)) ν G (w1.alloc (.mapIter (some g) clock #[] clock)) (b.put (some 18) (pit w1.heap.size)).tmps:=Go.Ax.Inv.le I2 (fun t d h=>by
     obtain ⟨x,hx,rfl⟩:=Option.map_eq_some_iff.1 (show (lk t (SA l w1.heap.size W).T).map X.D=some d from h);have hx:=lk_mem hx;unfold SA at hx;simp only [List.mem_cons,List.not_mem_nil,or_false,Prod.mk.injEq] at hx;rcases hx with ⟨rfl,rfl⟩ | ⟨rfl,rfl⟩ | ⟨rfl,rfl⟩ | ⟨rfl,rfl⟩ <;> rfl) (fun k o h=>by
     obtain ⟨x,hx,rfl⟩:=Option.map_eq_some_iff.1 (show (lk k (SA l w1.heap.size W).H).map XO.A=some o from h);have hx:=lk_mem hx;unfold SA at hx;simp only [List.mem_cons,List.not_mem_nil,or_false,Prod.mk.injEq] at hx;rcases hx with ⟨rfl,rfl⟩ | ⟨rfl,rfl⟩ <;> rfl) (fun k h=>by
     have h:((decide (k < 100)||(decide (100<=k)&&decide (k < 100+8)))||(decide (100<=k)&&decide (k < 100+8)))=true:=h;show decide (k < 108)=true;simp at h ⊢;omega)
 obtain ⟨ν2,G2,I4⟩:=entA l w1.heap.size W E _ _ ⟨ν,G,I3⟩;have hd4:(b.put (some 18) (pit w1.heap.size)).defers=E.ds:=(put_defers ..).trans (hd1.trans hds);have hν:ν2 0=ν 0:=by
  obtain ⟨u,hu,hdu⟩:=I3.T 3 (.own 0) rfl;obtain ⟨u',hu',hdu'⟩:=I4.T 3 (.own 0) rfl;rw [hu] at hu';cases hu';have e1:u=ν 0:=by cases hdu;rfl
  have e2:u=ν2 0:=by cases hdu';rfl
  exact e2.symm.trans e1
 have hro:∀ x,blk (ν 0)=some x->x < w1.heap.size/\x≠g:=fun x hx=>by
  have h0:=I.H 0 (XO.row 9 .tx W false).A rfl;refine ⟨h0.2.blk_lt hx,fun e=>?_⟩;subst e;exact I.dis 0 _ 100 _ rfl (show _=some mpo.A from rfl) (by decide) x (foot_blk hx) (foot_blk (by rw [n1];rfl))
 have hes:es.size=3:=n6;have hg0:es[0]?=some es[0]:=Array.getElem?_eq_getElem (by omega);have hg1:es[1]?=some es[1]:=Array.getElem?_eq_getElem (by omega);have hg2:es[2]?=some es[2]:=Array.getElem?_eq_getElem (by omega);have f0:=n7 0 _ _ hg0 rfl;have f1:=n7 1 _ _ hg1 rfl;have f2:=n7 2 _ _ hg2 rfl;have F:Ents es clock es[0] es[1] es[2]:=by
  refine ⟨?_,f0.1,f1.1,f2.1,bool_of f0.2,bool_of f1.2,bool_of f2.2,n5.1,n5.2⟩;obtain ⟨L⟩:=es
  match L,hes with
  | [a,b,c],_=>rfl
 generalize es[0]=e0 at F;generalize es[1]=e1 at F;generalize es[2]=e2 at F;refine wp_block (wp_loop_rounds 4 (all_rounds hc hE h3 F (bm:=g) (it:=w1.heap.size) (by omega) I.kept.size ?_ 4 false false false _ _ (by decide) ⟨hd4,ν2,G2,#[],clock,I4,heap_alloc_new w1 _,Nat.le_refl _,(heap_alloc_old w1 _ hgl).trans n3,?_,by simp,by simp,by simp⟩))
 ·rintro a' w' ⟨q1,ν',G',_,_,q2,_⟩
  show a'.defers=E.ds/\_;refine ⟨q1,denS (SL l w1.heap.size (WD W true true true)),⟨rfl,?_⟩,ν',G',q2⟩;refine ent_sub (fun t d h=>?_) (fun k o h=>h);obtain ⟨x,hx,rfl⟩:=Option.map_eq_some_iff.1 h;have hx:=lk_mem hx;unfold w22X0_0 at hx;simp only [List.mem_cons,List.not_mem_nil,or_false,Prod.mk.injEq] at hx;rcases hx with ⟨rfl,rfl⟩ | ⟨rfl,rfl⟩ <;> rfl
 ·intro k o h
  obtain ⟨x,hx,rfl⟩:=Option.map_eq_some_iff.1 (show (lk k (SL l w1.heap.size W).H).map XO.A=some o from h);have hx:=lk_mem hx;unfold SL at hx;simp only [List.mem_cons,List.not_mem_nil,or_false,Prod.mk.injEq] at hx;obtain ⟨rfl,rfl⟩:=hx;rw [hν];exact ⟨fun h'=>by have:=(hro _ h').1;omega,fun h'=>(hro _ h').2 rfl⟩
theorem w22S0 (N:Nat) (hc:CxOk (w22c N)):SubOk (w22c N) Tryd.f22.ntmps w22b0 w22X0_0 (noX 1) (noX 2) (subL w22I0 w22u0 (w22l0 N N)):=by
 intro σ k1 k2 k3 r h hN E hE;unfold subL at h;split at h
 case isFalse=>cases h
 rename_i hσ;rw [hσ];generalize w22u0 σ=x at h;obtain ⟨l,W⟩:=x;have h:w22F0 N (fun y0 y1=>k1 (y0,y1)) l W=some r:=h;have h3:3<=W.length:=by
  unfold w22F0 at h;obtain ⟨_,h⟩:=ck_some h;obtain ⟨_,_,h⟩:=gn_some h;obtain ⟨_,h⟩:=ck_some h;obtain ⟨_,_,h⟩:=gn_some h;obtain ⟨h3,_⟩:=ck_some h;have h3:=of_decide_eq_true h3;rw [List.length_set,List.length_set] at h3;omega
 have hk:k1 (l,WD W true true true)=some r:=by
  unfold w22F0 at h;obtain ⟨_,h⟩:=ck_some h;obtain ⟨_,_,h⟩:=gn_some h;obtain ⟨_,h⟩:=ck_some h;obtain ⟨_,_,h⟩:=gn_some h;obtain ⟨_,h⟩:=ck_some h;obtain ⟨_,_,h⟩:=gn_some h;exact h
 refine aw_mono (w22aw hc hE l W h3) ?_;rintro e s ⟨rfl,hent⟩;exact ⟨_,⟨Nat.le_refl _,.inl ⟨_,hk,rfl⟩⟩,hent⟩
end Go.Proofs
