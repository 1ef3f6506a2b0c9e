/- What functions do. Conditions are in the theorems. -/
import Derived.Test.YtihfefggdgiodaaGreatDoorE7
import Derived.Test.YtihfefggdgiodaaGreatDoorProg
import Derived.KernelRfl
import Derived.Test.YtihfefggdgiodaaGreatDoorF4
/- What functions do. -/
namespace Go.Proofs
noncomputable section
open Go.Ax Go.Ax.Alg Go.RowKit Go.Ab
abbrev YF5:=List UInt8
open Go
def w52r0 (a0:YF5):Res:=(.e .tx a0,[])
def w52L (N:(Nat×(Int->Option (YF5)))):List (Nat×Ent'):=[(52,E1 (.i .i64) (fun x0=>((N.2 x0).isSome,w52r0 (((N.2 x0).getD [])))))]
def w52c (N:(Nat×(Int->Option (YF5)))):Cx:=⟨Tryz.prog,99999,w52L N,[]⟩
def w52b:Code:=Tryz.f52.body.getD .skip
theorem w52cx (N:(Nat×(Int->Option (YF5)))) (hs:EOk Tryz.prog 52 (E1 (.i .i64) (fun x0=>((N.2 x0).isSome,w52r0 (((N.2 x0).getD [])))))):CxOk (w52c N):=ctx_ok (by kernel_rfl) (.cons (by kernel_rfl) hs .nil) .nil
def w52G [Alg] (N:(Nat×(Int->Option (YF5)))) (n0:Int):O:=
 br (decide (n0 < 10))
  (some (w52r0 [u8of (IntKind.i64.wrap ((48:Int)+n0))]))
  (ck true <|
  ck ((N.2 (IntKind.i64.wrap (n0.tdiv (10:Int)))).isSome) <|
  ck true <|
  ck (decide ((↑((N.2 (IntKind.i64.wrap (n0.tdiv (10:Int)))).getD []).length:Int)+(↑[u8of (IntKind.i64.wrap ((48:Int)+n0.tmod (10:Int)))].length:Int)<=(9223372036854775807:Int))) <|
  some (w52r0 ((N.2 (IntKind.i64.wrap (n0.tdiv (10:Int)))).getD []++[u8of (IntKind.i64.wrap ((48:Int)+n0.tmod (10:Int)))])))
def w52 [Alg] N n0:=w52G N n0
def w52h [Alg] (_:(Nat×(Int->Option (YF5)))):Hint:=.d
theorem w52hk (N:(Nat×(Int->Option (YF5)))):HintOk (w52c N) Tryz.f52.ntmps (w52h N) w52b:=hk_of _ _ trivial
theorem w52q [Alg] N n0:w52G N n0=exec (w52c N) Tryz.f52.ntmps (w52h N) w52b ⟨argT 0 [.e (.i .i64) n0],[],100⟩ (finX (w52c N) Tryz.f52 false):=by kernel_rfl
def w52un (r:Res):Option (YF5):=match r with
 | (x0,[])=>(match ue .tx x0 with | some a0=>some a0 | _=>none)
 | _=>none
theorem w52uo {r d} (h:w52un r=some d):r=w52r0 (d):=by
 unfold w52un at h;split at h
 ·split at h
  ·rename_i h0;cases h;rw [ue_some h0];rfl
  ·cases h
 ·cases h
def w52z N n0:=(w52 N n0).bind w52un
theorem w52fin {N} (hc:CxOk (w52c N)) {n0 d} (hd:w52z N n0=some d):DoK Tryz.prog 52 [.e (.i .i64) n0] [] (w52r0 (d)):=
 finJ hc (by kernel_rfl) (by kernel_rfl) (w52hk N) (by kernel_rfl) w52uo (w52q N n0).symm.trans hd
def w52Y (N:Nat):Nat->Int->Option (YF5)
 | 0,_=>none
 | n+1,n0=>w52z (N,w52Y N n) n0
theorem w52Yok (N:Nat):∀ n,EOk Tryz.prog 52 (E1 (.i .i64) (fun x0=>((w52Y N n x0).isSome,w52r0 (((w52Y N n x0).getD [])))))
 | 0=>EOk.e1 (fun _ h=>by cases h)
 | n+1=>EOk.e1 (fun x0 h=>by
   obtain ⟨d,hd⟩:=Option.isSome_iff_exists.1 h;have hd':w52Y N (n+1) x0=some d:=hd;have e:w52r0 (((w52Y N (n+1) x0).getD []))=w52r0 (d):=by rw [hd'];rfl
   show Does _ _ _ _ (w52r0 (((w52Y N (n+1) x0).getD []))).1.D (HA (w52r0 (((w52Y N (n+1) x0).getD []))).2);rw [e];exact w52fin (N:=(N,w52Y N n)) (w52cx (N,w52Y N n) (w52Yok N n)) hd')
def w52p N n0:=(w52Y N N n0).isSome
def w52y0 N n0:=((w52Y N N n0).getD [])
def w52e (N:Nat):Ent':=E1 (.i .i64) (fun x0=>(w52p N x0,w52r0 (w52y0 N x0)))
theorem w52ok N:EOk Tryz.prog 52 (w52e N):=w52Yok N N
def w30r0 (a0:(List YF5)):Res:=(.e (.sl (.sl .u8)) a0,[])
def w30c (N:Nat):Cx:=⟨Tryz.prog,99999,[(39,v39e N),(52,w52e N)],[]⟩
def w30b:Code:=Tryz.f30.body.getD .skip
theorem w30cx N:CxOk (w30c N):=ctx_ok (by kernel_rfl) (.cons (by kernel_rfl) (v39ok N) (.cons (by kernel_rfl) (w52ok N) .nil)) .nil
def w30F0 [Alg] (_:Nat) (self:Int->O) (k0:YF5->Int->O) (x0_0:YF5) (x0_1:Int):O:=
 gc (decide (x0_1 < (↑x0_0.length:Int))) 0 x0_0 x0_1 fun y3=>
 br (decide (x0_1 < (↑x0_0.length:Int))&&decide (y3=32))
  (self (IntKind.i64.wrap (x0_1+1)))
  (k0 x0_0 x0_1)
def w30b0:Code:=atC [1,1,0,0,0] w30b
def w30m0:Nm:=⟨[0,3],[],[]⟩
def w30I0 (x:YF5×Int):Sg:=⟨[(0,.e .tx x.1),(3,.e (.i .i64) x.2)],[],100⟩
def w30u0 (σ:Sg):YF5×Int:=(lvT .tx 0 0 σ,lvT (.i .i64) 3 0 σ)
theorem w30ui0:∀ x,w30u0 (w30I0 x)=x:=fun _=>by kernel_rfl
def w30X0_0 (y:YF5×Int):Exit×Sg:=((.exit 0),⟨[(0,.e .tx y.1),(3,.e (.i .i64) y.2)],[],100⟩)
def w30v0_0 (_:Exit) (σ:Sg):YF5×Int:=(lvT .tx 0 0 σ,lvT (.i .i64) 3 0 σ)
def w30w0:List (Exit×Nm):=[((.exit 0),⟨[0,3],[],[]⟩)]
def w30l0 [Alg] (N:Nat):Nat->(YF5×Int)->((YF5×Int)->O)->((Unit)->O)->((Unit)->O)->O
 | 0,_,_,_,_=>none
 | n+1,x,k0,k1,k2=>w30F0 N (fun v0=>w30l0 N n (x.1,v0) k0 k1 k2) (fun y0 y1=>k0 (y0,y1)) x.1 x.2
def w30n0 [Alg] N a0 a1 (k0:YF5->Int->O):=w30l0 N N (a0,a1) (fun y=>k0 y.1 y.2) (fun _=>none) (fun _=>none)
def w30s0 [Alg] N a0 a1 (k0:YF5->Int->O):=subL w30I0 w30u0 (w30l0 N N) (w30I0 (a0,a1)) (fun y=>k0 y.1 y.2) (fun _=>none) (fun _=>none)
theorem w30e0 [Alg] N:w30s0 N=w30n0 N:=funext fun _=>funext fun _=>funext fun _=>subL_I w30ui0 _ _ _ _
theorem w30q0 [Alg] (N:Nat) (self:Sg->O) (K:Exit->Sg->O) (x:YF5×Int):w30F0 N (fun v0=>self (w30I0 (x.1,v0))) (fun y0 y1=>K (w30X0_0 (y0,y1)).1 (w30X0_0 (y0,y1)).2) x.1 x.2=exec (w30c N) Tryz.f30.ntmps .d w30b0 (w30I0 x) (roundX w30m0 w30w0 self K):=by kernel_rfl
theorem w30S0 N (hc:CxOk (w30c N)):SubOk (w30c N) Tryz.f30.ntmps (.loop w30b0) w30X0_0 (noX 1) (noX 2) (subL w30I0 w30u0 (w30l0 N N)):=
 sub_loop hc (hk_d w30b0) (oK1 w30v0_0 (.exit 0) (fun _=>by kernel_rfl) (fun _=>rfl) (by kernel_rfl)) (n:=N) (fun x K=>loop_ind (w30l0 N) (fun _ _ _ _=>rfl) (fun n K ih x=>by
  refine Eq.trans ?_ (w30q0 N _ K x);simp only [← ih];rfl) N x K)
def w30G [Alg] (N:Nat) (in0:YF5->Int->(YF5->Int->O)->O) (s0:YF5):O:=
 in0 s0 0
  (fun z4 z5=>
   ck (w52p N z5) <|
   ck (v39p N (w52y0 N z5)) <|
   br (decide (z5=(↑z4.length:Int)))
    (some (w30r0 (v39y0 N (w52y0 N z5))))
    (ck (lim (v39y0 N (w52y0 N z5)++[[(0:UInt8)]]).length (24:Nat)) <|
    ck (slcOk z4.length (some z5) none) <|
    ck (v39p N (slc z4 (some z5) none)) <|
    ck (lim (v39y0 N (w52y0 N z5)++[[(0:UInt8)]]++v39y0 N (slc z4 (some z5) none)).length (24:Nat)) <|
    some (w30r0 (v39y0 N (w52y0 N z5)++[[(0:UInt8)]]++v39y0 N (slc z4 (some z5) none)))))
def w30 [Alg] N s0:=w30G N (w30n0 N) s0
def w30h [Alg] (N:Nat):Hint:=(.seq .d (.seq .d (.seq (.block (.sub w30m0 _ _ _ w30X0_0 (noX 1) (noX 2) (subL w30I0 w30u0 (w30l0 N N)))) .d)))
theorem w30hk N (hc:CxOk (w30c N)):HintOk (w30c N) Tryz.f30.ntmps (w30h N) w30b:=hk_of _ _ (And.intro trivial (And.intro trivial (And.intro (w30S0 N hc) trivial)))
theorem w30q [Alg] N s0:w30G N (w30s0 N) s0=exec (w30c N) Tryz.f30.ntmps (w30h N) w30b ⟨argT 0 [.e .tx s0],[],100⟩ (finX (w30c N) Tryz.f30 false):=by kernel_rfl
def w30un (r:Res):Option ((List YF5)):=match r with
 | (x0,[])=>(match ue (.sl (.sl .u8)) x0 with | some a0=>some a0 | _=>none)
 | _=>none
theorem w30uo {r d} (h:w30un r=some d):r=w30r0 (d):=by
 unfold w30un at h;split at h
 ·split at h
  ·rename_i h0;cases h;rw [ue_some h0];rfl
  ·cases h
 ·cases h
def w30z N s0:=(w30 N s0).bind w30un
theorem w30fin {N} (hc:CxOk (w30c N)) {s0 d} (hd:w30z N s0=some d):DoK Tryz.prog 30 [.e .tx s0] [] (w30r0 (d)):=
 finJ hc (by kernel_rfl) (by kernel_rfl) (w30hk N hc) (by kernel_rfl) w30uo (fun hr=>(w30q N s0).symm.trans (by rw [w30e0 N];exact hr)) hd
def w30p N s0:=(w30z N s0).isSome
def w30y0 N s0:=((w30z N s0).getD [])
def w30e (N:Nat):Ent':=E1 .tx (fun x0=>(w30p N x0,w30r0 (w30y0 N x0)))
theorem w30ok N:EOk Tryz.prog 30 (w30e N):=EOk.e1 (fun x0 h=>okG (z:=w30z N x0) h (w30fin (w30cx N)) rfl)
def w38r0 (a0:YF5):Res:=(.e (.sl .u8) a0,[])
def w38c (_:Nat):Cx:=⟨Tryz.prog,99999,[],[]⟩
def w38b:Code:=Tryz.f38.body.getD .skip
theorem w38cx N:CxOk (w38c N):=ctx_ok (by kernel_rfl) .nil .nil
def w38F0 [Alg] (_:Nat) (self:Int->YF5->O) (k0:YF5->O) (x0_0:(List YF5)) (x0_1:Int) (x0_2:YF5):O:=
 br (decide (x0_1 < (↑x0_0.length:Int)))
  (gx x0_0 x0_1 fun y4=>
  ck (lim (x0_2++y4).length (1:Nat)) <|
  self (IntKind.i64.wrap (x0_1+1)) (x0_2++y4))
  (k0 x0_2)
def w38b0:Code:=atC [1,1,0,1,0,0] w38b
def w38m0:Nm:=⟨[0,3,4],[],[.nilR 3 (.row 5 .u8 [] true)]⟩
def w38I0 (x:(List YF5)×Int×YF5):Sg:=⟨[(0,.e (.sl (.sl .u8)) x.1),(3,.own 0),(4,.e (.i .i64) x.2.1)],[(0,.row 5 .u8 x.2.2 true)],100⟩
def w38u0 (σ:Sg):(List YF5)×Int×YF5:=(lvT (.sl (.sl .u8)) 0 0 σ,lvT (.i .i64) 4 0 σ,lvR .u8 0 σ)
theorem w38ui0:∀ x,w38u0 (w38I0 x)=x:=fun _=>by kernel_rfl
def w38X0_0 (y:YF5):Exit×Sg:=((.exit 0),⟨[(3,.own 0)],[(0,.row 5 .u8 y true)],100⟩)
def w38v0_0 (_:Exit) (σ:Sg):YF5:=lvR .u8 0 σ
def w38w0:List (Exit×Nm):=[((.exit 0),⟨[3],[],[]⟩)]
def w38l0 [Alg] (N:Nat):Nat->((List YF5)×Int×YF5)->((YF5)->O)->((Unit)->O)->((Unit)->O)->O
 | 0,_,_,_,_=>none
 | n+1,x,k0,k1,k2=>w38F0 N (fun v0 v1=>w38l0 N n (x.1,v0,v1) k0 k1 k2) (fun y0=>k0 y0) x.1 x.2.1 x.2.2
def w38n0 [Alg] N a0 a1 a2 (k0:YF5->O):=w38l0 N N (a0,a1,a2) (fun y=>k0 y) (fun _=>none) (fun _=>none)
def w38s0 [Alg] N a0 a1 a2 (k0:YF5->O):=subL w38I0 w38u0 (w38l0 N N) (w38I0 (a0,a1,a2)) (fun y=>k0 y) (fun _=>none) (fun _=>none)
theorem w38e0 [Alg] N:w38s0 N=w38n0 N:=funext fun _=>funext fun _=>funext fun _=>funext fun _=>subL_I w38ui0 _ _ _ _
theorem w38q0 [Alg] (N:Nat) (self:Sg->O) (K:Exit->Sg->O) (x:(List YF5)×Int×YF5):w38F0 N (fun v0 v1=>self (w38I0 (x.1,v0,v1))) (fun y0=>K (w38X0_0 y0).1 (w38X0_0 y0).2) x.1 x.2.1 x.2.2=exec (w38c N) Tryz.f38.ntmps .d w38b0 (w38I0 x) (roundX w38m0 w38w0 self K):=by kernel_rfl
theorem w38S0 N (hc:CxOk (w38c N)):SubOk (w38c N) Tryz.f38.ntmps (.loop w38b0) w38X0_0 (noX 1) (noX 2) (subL w38I0 w38u0 (w38l0 N N)):=
 sub_loop hc (hk_d w38b0) (oK1 w38v0_0 (.exit 0) (fun _=>by kernel_rfl) (fun _=>rfl) (by kernel_rfl)) (n:=N) (fun x K=>loop_ind (w38l0 N) (fun _ _ _ _=>rfl) (fun n K ih x=>by
  refine Eq.trans ?_ (w38q0 N _ K x);simp only [← ih];rfl) N x K)
def w38G [Alg] (_:Nat) (in0:(List YF5)->Int->YF5->(YF5->O)->O) (l0:(List YF5)):O:=
 in0 l0 0 []
  (fun z5=>
   some (w38r0 z5))
def w38 [Alg] N l0:=w38G N (w38n0 N) l0
def w38h [Alg] (N:Nat):Hint:=(.seq .d (.seq .d (.seq (.seq .d (.block (.sub w38m0 _ _ _ w38X0_0 (noX 1) (noX 2) (subL w38I0 w38u0 (w38l0 N N))))) .d)))
theorem w38hk N (hc:CxOk (w38c N)):HintOk (w38c N) Tryz.f38.ntmps (w38h N) w38b:=hk_of _ _ (And.intro trivial (And.intro trivial (And.intro (And.intro trivial (w38S0 N hc)) trivial)))
theorem w38q [Alg] N l0:w38G N (w38s0 N) l0=exec (w38c N) Tryz.f38.ntmps (w38h N) w38b ⟨argT 0 [.e (.sl (.sl .u8)) l0],[],100⟩ (finX (w38c N) Tryz.f38 false):=by kernel_rfl
def w38un (r:Res):Option (YF5):=match r with
 | (x0,[])=>(match ue (.sl .u8) x0 with | some a0=>some a0 | _=>none)
 | _=>none
theorem w38uo {r d} (h:w38un r=some d):r=w38r0 (d):=by
 unfold w38un at h;split at h
 ·split at h
  ·rename_i h0;cases h;rw [ue_some h0];rfl
  ·cases h
 ·cases h
def w38z N l0:=(w38 N l0).bind w38un
theorem w38fin {N} (hc:CxOk (w38c N)) {l0 d} (hd:w38z N l0=some d):DoK Tryz.prog 38 [.e (.sl (.sl .u8)) l0] [] (w38r0 (d)):=
 finJ hc (by kernel_rfl) (by kernel_rfl) (w38hk N hc) (by kernel_rfl) w38uo (fun hr=>(w38q N l0).symm.trans (by rw [w38e0 N];exact hr)) hd
def w38p N l0:=(w38z N l0).isSome
def w38y0 N l0:=((w38z N l0).getD [])
def w38e (N:Nat):Ent':=E1 (.sl (.sl .u8)) (fun x0=>(w38p N x0,w38r0 (w38y0 N x0)))
theorem w38ok N:EOk Tryz.prog 38 (w38e N):=EOk.e1 (fun x0 h=>okG (z:=w38z N x0) h (w38fin (w38cx N)) rfl)
def w48r0 (a0:(List YF5)):Res:=(.e (.sl (.sl .u8)) a0,[])
def w48c (N:Nat):Cx:=⟨Tryz.prog,99999,[(30,w30e N),(38,w38e N)],[]⟩
def w48b:Code:=Tryz.f48.body.getD .skip
theorem w48cx N:CxOk (w48c N):=ctx_ok (by kernel_rfl) (.cons (by kernel_rfl) (w30ok N) (.cons (by kernel_rfl) (w38ok N) .nil)) .nil
def w48F0 [Alg] (_:Nat) (self:(List YF5)->YF5->O) (k0:Int->(List YF5)->(List YF5)->YF5->O) (x39_0:Int) (x39_2 x39_1:(List YF5)) (x39_3:YF5):O:=
 gx x39_1 0 fun y46=>
 br (decide (IntKind.i64.wrap (IntKind.i64.wrap ((↑x39_3.length:Int)+(↑y46.length:Int))+(1:Int))<=x39_0))
  (gx x39_1 0 fun y47=>
  ck (lim (x39_3++y47).length (1:Nat)) <|
  ck (slcOk x39_1.length (some (1:Int)) none) <|
  self (slc x39_1 (some (1:Int)) none) (x39_3++y47))
  (k0 x39_0 x39_1 x39_2 x39_3)
def w48b0:Code:=atC [1,1,1,0,0,0,1,0,1,0,0,0] w48b
def w48m0:Nm:=⟨[1,5,6,7],[],[.nilR 7 (.row 5 .u8 [] true)]⟩
def w48I0 (x:Int×(List YF5)×(List YF5)×YF5):Sg:=⟨[(1,.e (.i .i64) x.1),(5,.e (.sl (.sl .u8)) x.2.1),(6,.own 0),(7,.own 1)],[(0,.row 23 (.sl .u8) x.2.2.1 true),(1,.row 5 .u8 x.2.2.2 true)],100⟩
def w48u0 (σ:Sg):Int×(List YF5)×(List YF5)×YF5:=(lvT (.i .i64) 1 0 σ,lvT (.sl (.sl .u8)) 5 0 σ,lvR (.sl .u8) 0 σ,lvR .u8 1 σ)
theorem w48ui0:∀ x,w48u0 (w48I0 x)=x:=fun _=>by kernel_rfl
def w48X0_0 (y:Int×(List YF5)×(List YF5)×YF5):Exit×Sg:=((.exit 2),⟨[(1,.e (.i .i64) y.1),(5,.e (.sl (.sl .u8)) y.2.1),(6,.own 0),(7,.own 1)],[(0,.row 23 (.sl .u8) y.2.2.1 true),(1,.row 5 .u8 y.2.2.2 true)],100⟩)
def w48v0_0 (_:Exit) (σ:Sg):Int×(List YF5)×(List YF5)×YF5:=(lvT (.i .i64) 1 0 σ,lvT (.sl (.sl .u8)) 5 0 σ,lvR (.sl .u8) 0 σ,lvR .u8 1 σ)
def w48w0:List (Exit×Nm):=[((.exit 2),⟨[1,5,6,7],[],[]⟩)]
def w48l0 [Alg] (N:Nat):Nat->(Int×(List YF5)×(List YF5)×YF5)->((Int×(List YF5)×(List YF5)×YF5)->O)->((Unit)->O)->((Unit)->O)->O
 | 0,_,_,_,_=>none
 | n+1,x,k0,k1,k2=>w48F0 N (fun v0 v1=>w48l0 N n (x.1,v0,x.2.2.1,v1) k0 k1 k2) (fun y0 y1 y2 y3=>k0 (y0,y1,y2,y3)) x.1 x.2.2.1 x.2.1 x.2.2.2
def w48n0 [Alg] N a0 a1 a2 a3 (k0:Int->(List YF5)->(List YF5)->YF5->O):=w48l0 N N (a0,a1,a2,a3) (fun y=>k0 y.1 y.2.1 y.2.2.1 y.2.2.2) (fun _=>none) (fun _=>none)
def w48s0 [Alg] N a0 a1 a2 a3 (k0:Int->(List YF5)->(List YF5)->YF5->O):=subL w48I0 w48u0 (w48l0 N N) (w48I0 (a0,a1,a2,a3)) (fun y=>k0 y.1 y.2.1 y.2.2.1 y.2.2.2) (fun _=>none) (fun _=>none)
theorem w48e0 [Alg] N:w48s0 N=w48n0 N:=funext fun _=>funext fun _=>funext fun _=>funext fun _=>funext fun _=>subL_I w48ui0 _ _ _ _
theorem w48q0 [Alg] (N:Nat) (self:Sg->O) (K:Exit->Sg->O) (x:Int×(List YF5)×(List YF5)×YF5):w48F0 N (fun v0 v1=>self (w48I0 (x.1,v0,x.2.2.1,v1))) (fun y0 y1 y2 y3=>K (w48X0_0 (y0,y1,y2,y3)).1 (w48X0_0 (y0,y1,y2,y3)).2) x.1 x.2.2.1 x.2.1 x.2.2.2=exec (w48c N) Tryz.f48.ntmps .d w48b0 (w48I0 x) (roundX w48m0 w48w0 self K):=by kernel_rfl
theorem w48S0 N (hc:CxOk (w48c N)):SubOk (w48c N) Tryz.f48.ntmps (.loop w48b0) w48X0_0 (noX 1) (noX 2) (subL w48I0 w48u0 (w48l0 N N)):=
 sub_loop hc (hk_d w48b0) (oK1 w48v0_0 (.exit 2) (fun _=>by kernel_rfl) (fun _=>rfl) (by kernel_rfl)) (n:=N) (fun x K=>loop_ind (w48l0 N) (fun _ _ _ _=>rfl) (fun n K ih x=>by
  refine Eq.trans ?_ (w48q0 N _ K x);simp only [← ih];rfl) N x K)
def w48F1 [Alg] (N:Nat) (in0:Int->(List YF5)->(List YF5)->YF5->(Int->(List YF5)->(List YF5)->YF5->O)->O) (self:Int->(List YF5)->(List YF5)->O) (k0:(List YF5)->(List YF5)->O) (x0_0:Int) (x0_1 x0_2:(List YF5)):O:=
 ck (w38p N x0_1) <|
 br (decide (x0_0 < (↑(w38y0 N x0_1).length:Int)))
  (in0 x0_0 x0_1 x0_2 []
   (fun z48 z49 z50 z51=>
    ck (lim (z51++[(63:UInt8)]).length (1:Nat)) <|
    ck (lim (z50++[z51++[(63:UInt8)]]).length (24:Nat)) <|
    self z48 z49 (z50++[z51++[(63:UInt8)]])))
  (k0 x0_1 x0_2)
def w48b1:Code:=atC [1,1,1,0,0,0] w48b
def w48m1:Nm:=⟨[1,5,6],[],[.nilR 6 (.row 23 (.sl .u8) [] true)]⟩
def w48I1 (x:Int×(List YF5)×(List YF5)):Sg:=⟨[(1,.e (.i .i64) x.1),(5,.e (.sl (.sl .u8)) x.2.1),(6,.own 0)],[(0,.row 23 (.sl .u8) x.2.2 true)],100⟩
def w48u1 (σ:Sg):Int×(List YF5)×(List YF5):=(lvT (.i .i64) 1 0 σ,lvT (.sl (.sl .u8)) 5 0 σ,lvR (.sl .u8) 0 σ)
theorem w48ui1:∀ x,w48u1 (w48I1 x)=x:=fun _=>by kernel_rfl
def w48X1_0 (y:(List YF5)×(List YF5)):Exit×Sg:=((.exit 0),⟨[(5,.e (.sl (.sl .u8)) y.1),(6,.own 0)],[(0,.row 23 (.sl .u8) y.2 true)],100⟩)
def w48v1_0 (_:Exit) (σ:Sg):(List YF5)×(List YF5):=(lvT (.sl (.sl .u8)) 5 0 σ,lvR (.sl .u8) 0 σ)
def w48w1:List (Exit×Nm):=[((.exit 0),⟨[5,6],[],[]⟩)]
def w48l1 [Alg] (N:Nat):Nat->(Int×(List YF5)×(List YF5))->(((List YF5)×(List YF5))->O)->((Unit)->O)->((Unit)->O)->O
 | 0,_,_,_,_=>none
 | n+1,x,k0,k1,k2=>w48F1 N (w48n0 N) (fun v0 v1 v2=>w48l1 N n (v0,v1,v2) k0 k1 k2) (fun y0 y1=>k0 (y0,y1)) x.1 x.2.1 x.2.2
def w48n1 [Alg] N a0 a1 a2 (k0:(List YF5)->(List YF5)->O):=w48l1 N N (a0,a1,a2) (fun y=>k0 y.1 y.2) (fun _=>none) (fun _=>none)
def w48s1 [Alg] N a0 a1 a2 (k0:(List YF5)->(List YF5)->O):=subL w48I1 w48u1 (w48l1 N N) (w48I1 (a0,a1,a2)) (fun y=>k0 y.1 y.2) (fun _=>none) (fun _=>none)
theorem w48e1 [Alg] N:w48s1 N=w48n1 N:=funext fun _=>funext fun _=>funext fun _=>funext fun _=>subL_I w48ui1 _ _ _ _
def w48h1 [Alg] (N:Nat):Hint:=(.seq .d (.block (.seq .d (.seq (.block (.sub w48m0 _ _ _ w48X0_0 (noX 1) (noX 2) (subL w48I0 w48u0 (w48l0 N N)))) .d))))
theorem w48hk1 N (hc:CxOk (w48c N)):HintOk (w48c N) Tryz.f48.ntmps (w48h1 N) w48b1:=hk_of _ _ (And.intro trivial (And.intro trivial (And.intro (w48S0 N hc) trivial)))
theorem w48q1 [Alg] (N:Nat) (self:Sg->O) (K:Exit->Sg->O) (x:Int×(List YF5)×(List YF5)):w48F1 N (w48s0 N) (fun v0 v1 v2=>self (w48I1 (v0,v1,v2))) (fun y0 y1=>K (w48X1_0 (y0,y1)).1 (w48X1_0 (y0,y1)).2) x.1 x.2.1 x.2.2=exec (w48c N) Tryz.f48.ntmps (w48h1 N) w48b1 (w48I1 x) (roundX w48m1 w48w1 self K):=by kernel_rfl
theorem w48S1 N (hc:CxOk (w48c N)):SubOk (w48c N) Tryz.f48.ntmps (.loop w48b1) w48X1_0 (noX 1) (noX 2) (subL w48I1 w48u1 (w48l1 N N)):=
 sub_loop hc (w48hk1 N hc) (oK1 w48v1_0 (.exit 0) (fun _=>by kernel_rfl) (fun _=>rfl) (by kernel_rfl)) (n:=N) (fun x K=>loop_ind (w48l1 N) (fun _ _ _ _=>rfl) (fun n K ih x=>by
  refine Eq.trans ?_ (w48q1 N _ K x);simp only [w48e0 N,← ih];rfl) N x K)
def w48G [Alg] (N:Nat) (_in0:Int->(List YF5)->(List YF5)->YF5->(Int->(List YF5)->(List YF5)->YF5->O)->O) (in1:Int->(List YF5)->(List YF5)->((List YF5)->(List YF5)->O)->O) (s0:YF5) (width1:Int):O:=
 ck (w30p N s0) <|
 in1 width1 (w30y0 N s0) []
  (fun z52 z53=>
   ck (w38p N z52) <|
   ck (lim (z53++[w38y0 N z52]).length (24:Nat)) <|
   some (w48r0 (z53++[w38y0 N z52])))
def w48 [Alg] N s0 width1:=w48G N (w48n0 N) (w48n1 N) s0 width1
def w48h [Alg] (N:Nat):Hint:=(.seq .d (.seq .d (.seq .d (.seq (.block (.sub w48m1 _ _ _ w48X1_0 (noX 1) (noX 2) (subL w48I1 w48u1 (w48l1 N N)))) .d))))
theorem w48hk N (hc:CxOk (w48c N)):HintOk (w48c N) Tryz.f48.ntmps (w48h N) w48b:=hk_of _ _ (And.intro trivial (And.intro trivial (And.intro trivial (And.intro (w48S1 N hc) trivial))))
theorem w48q [Alg] N s0 width1:w48G N (w48s0 N) (w48s1 N) s0 width1=exec (w48c N) Tryz.f48.ntmps (w48h N) w48b ⟨argT 0 [.e .tx s0,.e (.i .i64) width1],[],100⟩ (finX (w48c N) Tryz.f48 false):=by kernel_rfl
def w48un (r:Res):Option ((List YF5)):=match r with
 | (x0,[])=>(match ue (.sl (.sl .u8)) x0 with | some a0=>some a0 | _=>none)
 | _=>none
theorem w48uo {r d} (h:w48un r=some d):r=w48r0 (d):=by
 unfold w48un at h;split at h
 ·split at h
  ·rename_i h0;cases h;rw [ue_some h0];rfl
  ·cases h
 ·cases h
def w48z N s0 width1:=(w48 N s0 width1).bind w48un
theorem w48fin {N} (hc:CxOk (w48c N)) {s0 width1 d} (hd:w48z N s0 width1=some d):DoK Tryz.prog 48 [.e .tx s0,.e (.i .i64) width1] [] (w48r0 (d)):=
 finJ hc (by kernel_rfl) (by kernel_rfl) (w48hk N hc) (by kernel_rfl) w48uo (fun hr=>(w48q N s0 width1).symm.trans (by rw [w48e0 N,w48e1 N];exact hr)) hd
def w48p N s0 width1:=(w48z N s0 width1).isSome
def w48y0 N s0 width1:=((w48z N s0 width1).getD [])
def w48e (N:Nat):Ent':=E2 .tx (.i .i64) (fun x0 x1=>(w48p N x0 x1,w48r0 (w48y0 N x0 x1)))
theorem w48ok N:EOk Tryz.prog 48 (w48e N):=EOk.e2 (fun x0 x1 h=>okG (z:=w48z N x0 x1) h (w48fin (w48cx N)) rfl)
def w18r0 (a0:(List (List YF5))):Res:=(.e (.sl (.sl .tx)) a0,[])
def w18G [Alg] (N:Nat) (l0:(List Int)) (raw1:YF5):O:=
 ck (w9p N l0) <|
 ck (lim ([]++w9y0 N l0).length (16:Nat)) <|
 ck (w44p N raw1 (90:Int)) <|
 ck (lim ([]++w9y0 N l0++[w44y0 N raw1 (90:Int)]).length (16:Nat)) <|
 some (w18r0 ([w9y0 N l0,[]++w9y0 N l0++[w44y0 N raw1 (90:Int)]]))
def w18 [Alg] N l0 raw1:=w18G N l0 raw1
def w18un (r:Res):Option ((List (List YF5))):=match r with
 | (x0,[])=>(match ue (.sl (.sl .tx)) x0 with | some a0=>some a0 | _=>none)
 | _=>none
def w18z N l0 raw1:=(w18 N l0 raw1).bind w18un
def w18p N l0 raw1:=(w18z N l0 raw1).isSome
def w18y0 N l0 raw1:=((w18z N l0 raw1).getD [])
def w47r0 (a0:Int):Res:=(.e (.i .i64) a0,[])
def w47c (N:Nat):Cx:=⟨Tryz.prog,99999,[(37,w37e N)],[]⟩
def w47b:Code:=Tryz.f47.body.getD .skip
theorem w47cx N:CxOk (w47c N):=ctx_ok (by kernel_rfl) (.cons (by kernel_rfl) (w37ok N) .nil) .nil
def w47F0 [Alg] (_:Nat) (self:Int->O) (k0:Int->O) (k1:(List YF5)->Int->O) (x0_0:(List YF5)) (x0_1 x0_2:Int):O:=
 br (decide (x0_2 < (↑x0_0.length:Int)))
  (gx x0_0 x0_2 fun y3=>
  br (decide ((80:Int) < (↑y3.length:Int)))
   (k0 4)
   (self (IntKind.i64.wrap (x0_2+1))))
  (k1 x0_0 x0_1)
def w47b0:Code:=atC [1,1,0,1,0,0] w47b
def w47m0:Nm:=⟨[0,1,5],[],[]⟩
def w47I0 (x:(List YF5)×Int×Int):Sg:=⟨[(0,.e (.sl .tx) x.1),(1,.e (.i .i64) x.2.1),(5,.e (.i .i64) x.2.2)],[],100⟩
def w47u0 (σ:Sg):(List YF5)×Int×Int:=(lvT (.sl .tx) 0 0 σ,lvT (.i .i64) 1 0 σ,lvT (.i .i64) 5 0 σ)
theorem w47ui0:∀ x,w47u0 (w47I0 x)=x:=fun _=>by kernel_rfl
def w47X0_0 (y:Int):Exit×Sg:=(.ret,⟨[(4,.e (.i .i64) y)],[],100⟩)
def w47v0_0 (_:Exit) (σ:Sg):Int:=lvT (.i .i64) 4 0 σ
def w47X0_1 (y:(List YF5)×Int):Exit×Sg:=((.exit 0),⟨[(0,.e (.sl .tx) y.1),(1,.e (.i .i64) y.2)],[],100⟩)
def w47v0_1 (_:Exit) (σ:Sg):(List YF5)×Int:=(lvT (.sl .tx) 0 0 σ,lvT (.i .i64) 1 0 σ)
def w47w0:List (Exit×Nm):=[(.ret,⟨[4],[],[]⟩),((.exit 0),⟨[0,1],[],[]⟩)]
def w47l0 [Alg] (N:Nat):Nat->((List YF5)×Int×Int)->((Int)->O)->(((List YF5)×Int)->O)->((Unit)->O)->O
 | 0,_,_,_,_=>none
 | n+1,x,k0,k1,k2=>w47F0 N (fun v0=>w47l0 N n (x.1,x.2.1,v0) k0 k1 k2) (fun y0=>k0 y0) (fun y0 y1=>k1 (y0,y1)) x.1 x.2.1 x.2.2
def w47n0 [Alg] N a0 a1 a2 (k0:Int->O) (k1:(List YF5)->Int->O):=w47l0 N N (a0,a1,a2) (fun y=>k0 y) (fun y=>k1 y.1 y.2) (fun _=>none)
def w47s0 [Alg] N a0 a1 a2 (k0:Int->O) (k1:(List YF5)->Int->O):=subL w47I0 w47u0 (w47l0 N N) (w47I0 (a0,a1,a2)) (fun y=>k0 y) (fun y=>k1 y.1 y.2) (fun _=>none)
theorem w47e0 [Alg] N:w47s0 N=w47n0 N:=funext fun _=>funext fun _=>funext fun _=>funext fun _=>funext fun _=>subL_I w47ui0 _ _ _ _
theorem w47q0 [Alg] (N:Nat) (self:Sg->O) (K:Exit->Sg->O) (x:(List YF5)×Int×Int):w47F0 N (fun v0=>self (w47I0 (x.1,x.2.1,v0))) (fun y0=>K (w47X0_0 y0).1 (w47X0_0 y0).2) (fun y0 y1=>K (w47X0_1 (y0,y1)).1 (w47X0_1 (y0,y1)).2) x.1 x.2.1 x.2.2=exec (w47c N) Tryz.f47.ntmps .d w47b0 (w47I0 x) (roundX w47m0 w47w0 self K):=by kernel_rfl
theorem w47S0 N (hc:CxOk (w47c N)):SubOk (w47c N) Tryz.f47.ntmps (.loop w47b0) w47X0_0 w47X0_1 (noX 2) (subL w47I0 w47u0 (w47l0 N N)):=
 sub_loop hc (hk_d w47b0) (oK2 w47v0_0 w47v0_1 .ret (.exit 0) (fun _=>by kernel_rfl) (fun _=>by kernel_rfl) (fun _=>rfl) (fun _=>rfl) (by kernel_rfl)) (n:=N) (fun x K=>loop_ind (w47l0 N) (fun _ _ _ _=>rfl) (fun n K ih x=>by
  refine Eq.trans ?_ (w47q0 N _ K x);simp only [← ih];rfl) N x K)
def w47F1 [Alg] (N:Nat) (self:Int->O) (k0:Int->O) (k1:Int->O) (x7_0:(List YF5)) (x7_1 x7_2:Int):O:=
 br (decide (x7_2 < (↑x7_0.length:Int)))
  (gx x7_0 x7_2 fun y10=>
  ck (w37p N y10) <|
  br (!w37y0 N y10)
   (k0 1)
   (self (IntKind.i64.wrap (x7_2+1))))
  (k1 x7_1)
def w47b1:Code:=atC [1,1,1,0,1,0,0] w47b
def w47m1:Nm:=⟨[0,1,6],[],[]⟩
def w47I1 (x:(List YF5)×Int×Int):Sg:=⟨[(0,.e (.sl .tx) x.1),(1,.e (.i .i64) x.2.1),(6,.e (.i .i64) x.2.2)],[],100⟩
def w47u1 (σ:Sg):(List YF5)×Int×Int:=(lvT (.sl .tx) 0 0 σ,lvT (.i .i64) 1 0 σ,lvT (.i .i64) 6 0 σ)
theorem w47ui1:∀ x,w47u1 (w47I1 x)=x:=fun _=>by kernel_rfl
def w47X1_0 (y:Int):Exit×Sg:=(.ret,⟨[(4,.e (.i .i64) y)],[],100⟩)
def w47v1_0 (_:Exit) (σ:Sg):Int:=lvT (.i .i64) 4 0 σ
def w47X1_1 (y:Int):Exit×Sg:=((.exit 2),⟨[(1,.e (.i .i64) y)],[],100⟩)
def w47v1_1 (_:Exit) (σ:Sg):Int:=lvT (.i .i64) 1 0 σ
def w47w1:List (Exit×Nm):=[(.ret,⟨[4],[],[]⟩),((.exit 2),⟨[1],[],[]⟩)]
def w47l1 [Alg] (N:Nat):Nat->((List YF5)×Int×Int)->((Int)->O)->((Int)->O)->((Unit)->O)->O
 | 0,_,_,_,_=>none
 | n+1,x,k0,k1,k2=>w47F1 N (fun v0=>w47l1 N n (x.1,x.2.1,v0) k0 k1 k2) (fun y0=>k0 y0) (fun y0=>k1 y0) x.1 x.2.1 x.2.2
def w47n1 [Alg] N a0 a1 a2 (k0:Int->O) (k1:Int->O):=w47l1 N N (a0,a1,a2) (fun y=>k0 y) (fun y=>k1 y) (fun _=>none)
def w47s1 [Alg] N a0 a1 a2 (k0:Int->O) (k1:Int->O):=subL w47I1 w47u1 (w47l1 N N) (w47I1 (a0,a1,a2)) (fun y=>k0 y) (fun y=>k1 y) (fun _=>none)
theorem w47e1 [Alg] N:w47s1 N=w47n1 N:=funext fun _=>funext fun _=>funext fun _=>funext fun _=>funext fun _=>subL_I w47ui1 _ _ _ _
theorem w47q1 [Alg] (N:Nat) (self:Sg->O) (K:Exit->Sg->O) (x:(List YF5)×Int×Int):w47F1 N (fun v0=>self (w47I1 (x.1,x.2.1,v0))) (fun y0=>K (w47X1_0 y0).1 (w47X1_0 y0).2) (fun y0=>K (w47X1_1 y0).1 (w47X1_1 y0).2) x.1 x.2.1 x.2.2=exec (w47c N) Tryz.f47.ntmps .d w47b1 (w47I1 x) (roundX w47m1 w47w1 self K):=by kernel_rfl
theorem w47S1 N (hc:CxOk (w47c N)):SubOk (w47c N) Tryz.f47.ntmps (.loop w47b1) w47X1_0 w47X1_1 (noX 2) (subL w47I1 w47u1 (w47l1 N N)):=
 sub_loop hc (hk_d w47b1) (oK2 w47v1_0 w47v1_1 .ret (.exit 2) (fun _=>by kernel_rfl) (fun _=>by kernel_rfl) (fun _=>rfl) (fun _=>rfl) (by kernel_rfl)) (n:=N) (fun x K=>loop_ind (w47l1 N) (fun _ _ _ _=>rfl) (fun n K ih x=>by
  refine Eq.trans ?_ (w47q1 N _ K x);simp only [← ih];rfl) N x K)
def w47G [Alg] (_:Nat) (in0:(List YF5)->Int->Int->(Int->O)->((List YF5)->Int->O)->O) (in1:(List YF5)->Int->Int->(Int->O)->(Int->O)->O) (l0:(List YF5)) (width1:Int):O:=
 br (decide ((64:Int) < (↑l0.length:Int)))
  (some (w47r0 4))
  (in0 l0 width1 0
   (fun z4=>
    some (w47r0 z4))
   (fun z5 z6=>
    in1 z5 z6 0
     (fun z11=>
      some (w47r0 z11))
     (fun z12=>
      br (decide (z12 < 4)||decide (40 < z12))
       (some (w47r0 5))
       (some (w47r0 0)))))
def w47 [Alg] N l0 width1:=w47G N (w47n0 N) (w47n1 N) l0 width1
def w47h [Alg] (N:Nat):Hint:=(.seq .d (.seq .d (.seq (.seq .d (.block (.sub w47m0 _ _ _ w47X0_0 w47X0_1 (noX 2) (subL w47I0 w47u0 (w47l0 N N))))) (.seq (.seq .d (.block (.sub w47m1 _ _ _ w47X1_0 w47X1_1 (noX 2) (subL w47I1 w47u1 (w47l1 N N))))) .d))))
theorem w47hk N (hc:CxOk (w47c N)):HintOk (w47c N) Tryz.f47.ntmps (w47h N) w47b:=hk_of _ _ (And.intro trivial (And.intro trivial (And.intro (And.intro trivial (w47S0 N hc)) (And.intro (And.intro trivial (w47S1 N hc)) trivial))))
theorem w47q [Alg] N l0 width1:w47G N (w47s0 N) (w47s1 N) l0 width1=exec (w47c N) Tryz.f47.ntmps (w47h N) w47b ⟨argT 0 [.e (.sl .tx) l0,.e (.i .i64) width1],[],100⟩ (finX (w47c N) Tryz.f47 false):=by kernel_rfl
def w47un (r:Res):Option (Int):=match r with
 | (x0,[])=>(match ue (.i .i64) x0 with | some a0=>some a0 | _=>none)
 | _=>none
theorem w47uo {r d} (h:w47un r=some d):r=w47r0 (d):=by
 unfold w47un at h;split at h
 ·split at h
  ·rename_i h0;cases h;rw [ue_some h0];rfl
  ·cases h
 ·cases h
def w47z N l0 width1:=(w47 N l0 width1).bind w47un
theorem w47fin {N} (hc:CxOk (w47c N)) {l0 width1 d} (hd:w47z N l0 width1=some d):DoK Tryz.prog 47 [.e (.sl .tx) l0,.e (.i .i64) width1] [] (w47r0 (d)):=
 finJ hc (by kernel_rfl) (by kernel_rfl) (w47hk N hc) (by kernel_rfl) w47uo (fun hr=>(w47q N l0 width1).symm.trans (by rw [w47e0 N,w47e1 N];exact hr)) hd
def w47p N l0 width1:=(w47z N l0 width1).isSome
def w47y0 N l0 width1:=((w47z N l0 width1).getD 0)
def w47e (N:Nat):Ent':=E2 (.sl .tx) (.i .i64) (fun x0 x1=>(w47p N x0 x1,w47r0 (w47y0 N x0 x1)))
theorem w47ok N:EOk Tryz.prog 47 (w47e N):=EOk.e2 (fun x0 x1 h=>okG (z:=w47z N x0 x1) h (w47fin (w47cx N)) rfl)
def w20r0 (a0:(List YF5)) (a1:Int):Res:=(.tup [.e (.sl (.sl .u8)) a0,.e (.i .i64) a1],[])
def w20c (N:Nat):Cx:=⟨Tryz.prog,99999,[(47,w47e N),(48,w48e N)],[]⟩
def w20b:Code:=Tryz.f20.body.getD .skip
theorem w20cx N:CxOk (w20c N):=ctx_ok (by kernel_rfl) (.cons (by kernel_rfl) (w47ok N) (.cons (by kernel_rfl) (w48ok N) .nil)) .nil
def w20F0 [Alg] (N:Nat) (self:Int->(List YF5)->O) (k0:(List YF5)->O) (x0_0:(List YF5)) (x0_1 x0_2:Int) (x0_3:(List YF5)):O:=
 br (decide (x0_2 < (↑x0_0.length:Int)))
  (gx x0_0 x0_2 fun y4=>
  ck (w48p N y4 x0_1) <|
  ck (lim (x0_3++w48y0 N y4 x0_1).length (24:Nat)) <|
  self (IntKind.i64.wrap (x0_2+1)) (x0_3++w48y0 N y4 x0_1))
  (k0 x0_3)
def w20b0:Code:=atC [1,1,1,1,0,1,0,0] w20b
def w20m0:Nm:=⟨[0,1,7,8],[],[.nilR 7 (.row 23 (.sl .u8) [] true)]⟩
def w20I0 (x:(List YF5)×Int×Int×(List YF5)):Sg:=⟨[(0,.e (.sl .tx) x.1),(1,.e (.i .i64) x.2.1),(7,.own 0),(8,.e (.i .i64) x.2.2.1)],[(0,.row 23 (.sl .u8) x.2.2.2 true)],100⟩
def w20u0 (σ:Sg):(List YF5)×Int×Int×(List YF5):=(lvT (.sl .tx) 0 0 σ,lvT (.i .i64) 1 0 σ,lvT (.i .i64) 8 0 σ,lvR (.sl .u8) 0 σ)
theorem w20ui0:∀ x,w20u0 (w20I0 x)=x:=fun _=>by kernel_rfl
def w20X0_0 (y:(List YF5)):Exit×Sg:=((.exit 0),⟨[(7,.own 0)],[(0,.row 23 (.sl .u8) y true)],100⟩)
def w20v0_0 (_:Exit) (σ:Sg):(List YF5):=lvR (.sl .u8) 0 σ
def w20w0:List (Exit×Nm):=[((.exit 0),⟨[7],[],[]⟩)]
def w20l0 [Alg] (N:Nat):Nat->((List YF5)×Int×Int×(List YF5))->(((List YF5))->O)->((Unit)->O)->((Unit)->O)->O
 | 0,_,_,_,_=>none
 | n+1,x,k0,k1,k2=>w20F0 N (fun v0 v1=>w20l0 N n (x.1,x.2.1,v0,v1) k0 k1 k2) (fun y0=>k0 y0) x.1 x.2.1 x.2.2.1 x.2.2.2
def w20n0 [Alg] N a0 a1 a2 a3 (k0:(List YF5)->O):=w20l0 N N (a0,a1,a2,a3) (fun y=>k0 y) (fun _=>none) (fun _=>none)
def w20s0 [Alg] N a0 a1 a2 a3 (k0:(List YF5)->O):=subL w20I0 w20u0 (w20l0 N N) (w20I0 (a0,a1,a2,a3)) (fun y=>k0 y) (fun _=>none) (fun _=>none)
theorem w20e0 [Alg] N:w20s0 N=w20n0 N:=funext fun _=>funext fun _=>funext fun _=>funext fun _=>funext fun _=>subL_I w20ui0 _ _ _ _
theorem w20q0 [Alg] (N:Nat) (self:Sg->O) (K:Exit->Sg->O) (x:(List YF5)×Int×Int×(List YF5)):w20F0 N (fun v0 v1=>self (w20I0 (x.1,x.2.1,v0,v1))) (fun y0=>K (w20X0_0 y0).1 (w20X0_0 y0).2) x.1 x.2.1 x.2.2.1 x.2.2.2=exec (w20c N) Tryz.f20.ntmps .d w20b0 (w20I0 x) (roundX w20m0 w20w0 self K):=by kernel_rfl
theorem w20S0 N (hc:CxOk (w20c N)):SubOk (w20c N) Tryz.f20.ntmps (.loop w20b0) w20X0_0 (noX 1) (noX 2) (subL w20I0 w20u0 (w20l0 N N)):=
 sub_loop hc (hk_d w20b0) (oK1 w20v0_0 (.exit 0) (fun _=>by kernel_rfl) (fun _=>rfl) (by kernel_rfl)) (n:=N) (fun x K=>loop_ind (w20l0 N) (fun _ _ _ _=>rfl) (fun n K ih x=>by
  refine Eq.trans ?_ (w20q0 N _ K x);simp only [← ih];rfl) N x K)
def w20G [Alg] (N:Nat) (in0:(List YF5)->Int->Int->(List YF5)->((List YF5)->O)->O) (l0:(List YF5)) (width1:Int):O:=
 ck (w47p N l0 width1) <|
 br (decide (w47y0 N l0 width1≠(0:Int)))
  (some (w20r0 [] (w47y0 N l0 width1)))
  (in0 l0 width1 0 []
   (fun z5=>
    some (w20r0 z5 0)))
def w20 [Alg] N l0 width1:=w20G N (w20n0 N) l0 width1
def w20h [Alg] (N:Nat):Hint:=(.seq .d (.seq .d (.seq .d (.seq .d (.seq (.seq .d (.block (.sub w20m0 _ _ _ w20X0_0 (noX 1) (noX 2) (subL w20I0 w20u0 (w20l0 N N))))) .d)))))
theorem w20hk N (hc:CxOk (w20c N)):HintOk (w20c N) Tryz.f20.ntmps (w20h N) w20b:=hk_of _ _ (And.intro trivial (And.intro trivial (And.intro trivial (And.intro trivial (And.intro (And.intro trivial (w20S0 N hc)) trivial)))))
theorem w20q [Alg] N l0 width1:w20G N (w20s0 N) l0 width1=exec (w20c N) Tryz.f20.ntmps (w20h N) w20b ⟨argT 0 [.e (.sl .tx) l0,.e (.i .i64) width1],[],100⟩ (finX (w20c N) Tryz.f20 false):=by kernel_rfl
def w20un (r:Res):Option ((List YF5)×Int):=match r with
 | (.tup [x0,x1],[])=>(match ue (.sl (.sl .u8)) x0,ue (.i .i64) x1 with | some a0,some a1=>some (a0,a1) | _,_=>none)
 | _=>none
theorem w20uo {r d} (h:w20un r=some d):r=w20r0 d.1 d.2:=by
 unfold w20un at h;split at h
 ·split at h
  ·rename_i h0 h1;cases h;rw [ue_some h0,ue_some h1];rfl
  ·cases h
 ·cases h
def w20z N l0 width1:=(w20 N l0 width1).bind w20un
theorem w20fin {N} (hc:CxOk (w20c N)) {l0 width1 d} (hd:w20z N l0 width1=some d):DoK Tryz.prog 20 [.e (.sl .tx) l0,.e (.i .i64) width1] [] (w20r0 d.1 d.2):=
 finJ hc (by kernel_rfl) (by kernel_rfl) (w20hk N hc) (by kernel_rfl) w20uo (fun hr=>(w20q N l0 width1).symm.trans (by rw [w20e0 N];exact hr)) hd
def w20p N l0 width1:=(w20z N l0 width1).isSome
def w20y0 N l0 width1:=((w20z N l0 width1).getD ([],0)).1
def w20y1 N l0 width1:=((w20z N l0 width1).getD ([],0)).2
def w20e (N:Nat):Ent':=E2 (.sl .tx) (.i .i64) (fun x0 x1=>(w20p N x0 x1,w20r0 (w20y0 N x0 x1) (w20y1 N x0 x1)))
theorem w20ok N:EOk Tryz.prog 20 (w20e N):=EOk.e2 (fun x0 x1 h=>okG (z:=w20z N x0 x1) h (w20fin (w20cx N)) rfl)
def w22r0 (a0:(List Int)) (a1:Int):Res:=(.tup [.e (.sl (.i .i64)) a0,.e (.i .i64) a1],[])
def w22c (N:Nat):Cx:=⟨Tryz.prog,99999,[(47,w47e N),(48,w48e N)],[]⟩
def w22b:Code:=Tryz.f22.body.getD .skip
theorem w22cx N:CxOk (w22c N):=ctx_ok (by kernel_rfl) (.cons (by kernel_rfl) (w47ok N) (.cons (by kernel_rfl) (w48ok N) .nil)) .nil
def w22F0 [Alg] (N:Nat) (self:Int->(List Int)->O) (k0:(List Int)->O) (x0_0:(List YF5)) (x0_1 x0_2:Int) (x0_3:(List Int)):O:=
 br (decide (x0_2 < (↑x0_0.length:Int)))
  (gx x0_0 x0_2 fun y4=>
  ck (w48p N y4 x0_1) <|
  ck (lim (x0_3++[(↑(w48y0 N y4 x0_1).length:Int)]).length (8:Nat)) <|
  self (IntKind.i64.wrap (x0_2+1)) (x0_3++[(↑(w48y0 N y4 x0_1).length:Int)]))
  (k0 x0_3)
def w22b0:Code:=atC [1,1,1,1,0,1,0,0] w22b
def w22m0:Nm:=⟨[0,1,7,8],[],[.nilR 7 (.row 3 (.i .i64) [] true)]⟩
def w22I0 (x:(List YF5)×Int×Int×(List Int)):Sg:=⟨[(0,.e (.sl .tx) x.1),(1,.e (.i .i64) x.2.1),(7,.own 0),(8,.e (.i .i64) x.2.2.1)],[(0,.row 3 (.i .i64) x.2.2.2 true)],100⟩
def w22u0 (σ:Sg):(List YF5)×Int×Int×(List Int):=(lvT (.sl .tx) 0 0 σ,lvT (.i .i64) 1 0 σ,lvT (.i .i64) 8 0 σ,lvR (.i .i64) 0 σ)
theorem w22ui0:∀ x,w22u0 (w22I0 x)=x:=fun _=>by kernel_rfl
def w22X0_0 (y:(List Int)):Exit×Sg:=((.exit 0),⟨[(7,.own 0)],[(0,.row 3 (.i .i64) y true)],100⟩)
def w22v0_0 (_:Exit) (σ:Sg):(List Int):=lvR (.i .i64) 0 σ
def w22w0:List (Exit×Nm):=[((.exit 0),⟨[7],[],[]⟩)]
def w22l0 [Alg] (N:Nat):Nat->((List YF5)×Int×Int×(List Int))->(((List Int))->O)->((Unit)->O)->((Unit)->O)->O
 | 0,_,_,_,_=>none
 | n+1,x,k0,k1,k2=>w22F0 N (fun v0 v1=>w22l0 N n (x.1,x.2.1,v0,v1) k0 k1 k2) (fun y0=>k0 y0) x.1 x.2.1 x.2.2.1 x.2.2.2
def w22n0 [Alg] N a0 a1 a2 a3 (k0:(List Int)->O):=w22l0 N N (a0,a1,a2,a3) (fun y=>k0 y) (fun _=>none) (fun _=>none)
def w22s0 [Alg] N a0 a1 a2 a3 (k0:(List Int)->O):=subL w22I0 w22u0 (w22l0 N N) (w22I0 (a0,a1,a2,a3)) (fun y=>k0 y) (fun _=>none) (fun _=>none)
theorem w22e0 [Alg] N:w22s0 N=w22n0 N:=funext fun _=>funext fun _=>funext fun _=>funext fun _=>funext fun _=>subL_I w22ui0 _ _ _ _
theorem w22q0 [Alg] (N:Nat) (self:Sg->O) (K:Exit->Sg->O) (x:(List YF5)×Int×Int×(List Int)):w22F0 N (fun v0 v1=>self (w22I0 (x.1,x.2.1,v0,v1))) (fun y0=>K (w22X0_0 y0).1 (w22X0_0 y0).2) x.1 x.2.1 x.2.2.1 x.2.2.2=exec (w22c N) Tryz.f22.ntmps .d w22b0 (w22I0 x) (roundX w22m0 w22w0 self K):=by kernel_rfl
theorem w22S0 N (hc:CxOk (w22c N)):SubOk (w22c N) Tryz.f22.ntmps (.loop w22b0) w22X0_0 (noX 1) (noX 2) (subL w22I0 w22u0 (w22l0 N N)):=
 sub_loop hc (hk_d w22b0) (oK1 w22v0_0 (.exit 0) (fun _=>by kernel_rfl) (fun _=>rfl) (by kernel_rfl)) (n:=N) (fun x K=>loop_ind (w22l0 N) (fun _ _ _ _=>rfl) (fun n K ih x=>by
  refine Eq.trans ?_ (w22q0 N _ K x);simp only [← ih];rfl) N x K)
def w22G [Alg] (N:Nat) (in0:(List YF5)->Int->Int->(List Int)->((List Int)->O)->O) (l0:(List YF5)) (width1:Int):O:=
 ck (w47p N l0 width1) <|
 br (decide (w47y0 N l0 width1≠(0:Int)))
  (some (w22r0 [] (w47y0 N l0 width1)))
  (in0 l0 width1 0 []
   (fun z5=>
    some (w22r0 z5 0)))
def w22 [Alg] N l0 width1:=w22G N (w22n0 N) l0 width1
def w22h [Alg] (N:Nat):Hint:=(.seq .d (.seq .d (.seq .d (.seq .d (.seq (.seq .d (.block (.sub w22m0 _ _ _ w22X0_0 (noX 1) (noX 2) (subL w22I0 w22u0 (w22l0 N N))))) .d)))))
theorem w22hk N (hc:CxOk (w22c N)):HintOk (w22c N) Tryz.f22.ntmps (w22h N) w22b:=hk_of _ _ (And.intro trivial (And.intro trivial (And.intro trivial (And.intro trivial (And.intro (And.intro trivial (w22S0 N hc)) trivial)))))
theorem w22q [Alg] N l0 width1:w22G N (w22s0 N) l0 width1=exec (w22c N) Tryz.f22.ntmps (w22h N) w22b ⟨argT 0 [.e (.sl .tx) l0,.e (.i .i64) width1],[],100⟩ (finX (w22c N) Tryz.f22 false):=by kernel_rfl
def w22un (r:Res):Option ((List Int)×Int):=match r with
 | (.tup [x0,x1],[])=>(match ue (.sl (.i .i64)) x0,ue (.i .i64) x1 with | some a0,some a1=>some (a0,a1) | _,_=>none)
 | _=>none
theorem w22uo {r d} (h:w22un r=some d):r=w22r0 d.1 d.2:=by
 unfold w22un at h;split at h
 ·split at h
  ·rename_i h0 h1;cases h;rw [ue_some h0,ue_some h1];rfl
  ·cases h
 ·cases h
def w22z N l0 width1:=(w22 N l0 width1).bind w22un
theorem w22fin {N} (hc:CxOk (w22c N)) {l0 width1 d} (hd:w22z N l0 width1=some d):DoK Tryz.prog 22 [.e (.sl .tx) l0,.e (.i .i64) width1] [] (w22r0 d.1 d.2):=
 finJ hc (by kernel_rfl) (by kernel_rfl) (w22hk N hc) (by kernel_rfl) w22uo (fun hr=>(w22q N l0 width1).symm.trans (by rw [w22e0 N];exact hr)) hd
def w22p N l0 width1:=(w22z N l0 width1).isSome
def w22y0 N l0 width1:=((w22z N l0 width1).getD ([],0)).1
def w22y1 N l0 width1:=((w22z N l0 width1).getD ([],0)).2
def w22e (N:Nat):Ent':=E2 (.sl .tx) (.i .i64) (fun x0 x1=>(w22p N x0 x1,w22r0 (w22y0 N x0 x1) (w22y1 N x0 x1)))
theorem w22ok N:EOk Tryz.prog 22 (w22e N):=EOk.e2 (fun x0 x1 h=>okG (z:=w22z N x0 x1) h (w22fin (w22cx N)) rfl)
end
end Go.Proofs
