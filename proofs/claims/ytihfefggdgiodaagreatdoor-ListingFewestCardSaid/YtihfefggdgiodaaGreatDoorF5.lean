/- What functions do. Conditions are in the theorems. -/
import Derived.Test.YtihfefggdgiodaaGreatDoorE7
import Derived.Test.YtihfefggdgiodaaGreatDoorProg
import Derived.KernelRfl
import Derived.Test.YtihfefggdgiodaaGreatDoorF4
/- What functions do. -/
namespace Go.Proofs
noncomputable section
open Go.Ax Go.Ax.Alg Go.RowKit Go.Ab
abbrev YF5:=List UInt8
open Go
def w52r0 (a0:YF5):Res:=(.e .tx a0,[])
def w52L (N:(Nat×(Int->Option (YF5)))):List (Nat×Ent'):=[(52,E1 (.i .i64) (fun x0=>((N.2 x0).isSome,w52r0 (((N.2 x0).getD [])))))]
def w52c (N:(Nat×(Int->Option (YF5)))):Cx:=⟨Tryz.prog,99999,w52L N,[]⟩
def w52b:Code:=Tryz.f52.body.getD .skip
theorem w52cx (N:(Nat×(Int->Option (YF5)))) (hs:EOk Tryz.prog 52 (E1 (.i .i64) (fun x0=>((N.2 x0).isSome,w52r0 (((N.2 x0).getD [])))))):CxOk (w52c N):=ctx_ok (by kernel_rfl) (.cons (by kernel_rfl) hs .nil) .nil
def w52G [Alg] (N:(Nat×(Int->Option (YF5)))) (n0:Int):O:=
 br (decide (n0 < 10))
  (some (w52r0 [u8of (IntKind.i64.wrap ((48:Int)+n0))]))
  (ck true <|
  ck ((N.2 (IntKind.i64.wrap (n0.tdiv (10:Int)))).isSome) <|
  ck true <|
  ck (decide ((↑((N.2 (IntKind.i64.wrap (n0.tdiv (10:Int)))).getD []).length:Int)+(↑[u8of (IntKind.i64.wrap ((48:Int)+n0.tmod (10:Int)))].length:Int)<=(9223372036854775807:Int))) <|
  some (w52r0 ((N.2 (IntKind.i64.wrap (n0.tdiv (10:Int)))).getD []++[u8of (IntKind.i64.wrap ((48:Int)+n0.tmod (10:Int)))])))
def w52 [Alg] N n0:=w52G N n0
def w52h [Alg] (_:(Nat×(Int->Option (YF5)))):Hint:=.d
theorem w52hk (N:(Nat×(Int->Option (YF5)))):HintOk (w52c N) Tryz.f52.ntmps (w52h N) w52b:=hk_of _ _ trivial
theorem w52q [Alg] N n0:w52G N n0=exec (w52c N) Tryz.f52.ntmps (w52h N) w52b ⟨argT 0 [.e (.i .i64) n0],[],100⟩ (finX (w52c N) Tryz.f52 false):=by kernel_rfl
def w52un (r:Res):Option (YF5):=match r with
 | (x0,[])=>(match ue .tx x0 with | some a0=>some a0 | _=>none)
 | _=>none
theorem w52uo {r d} (h:w52un r=some d):r=w52r0 (d):=by
 unfold w52un at h;split at h
 ·split at h
  ·rename_i h0;cases h;rw [ue_some h0];rfl
  ·cases h
 ·cases h
def w52z N n0:=(w52 N n0).bind w52un
theorem w52fin {N} (hc:CxOk (w52c N)) {n0 d} (hd:w52z N n0=some d):DoK Tryz.prog 52 [.e (.i .i64) n0] [] (w52r0 (d)):=
 finJ hc (by kernel_rfl) (by kernel_rfl) (w52hk N) (by kernel_rfl) w52uo (w52q N n0).symm.trans hd
def w52Y (N:Nat):Nat->Int->Option (YF5)
 | 0,_=>none
 | n+1,n0=>w52z (N,w52Y N n) n0
theorem w52Yok (N:Nat):∀ n,EOk Tryz.prog 52 (E1 (.i .i64) (fun x0=>((w52Y N n x0).isSome,w52r0 (((w52Y N n x0).getD [])))))
 | 0=>EOk.e1 (fun _ h=>by cases h)
 | n+1=>EOk.e1 (fun x0 h=>by
   obtain ⟨d,hd⟩:=Option.isSome_iff_exists.1 h;have hd':w52Y N (n+1) x0=some d:=hd;have e:w52r0 (((w52Y N (n+1) x0).getD []))=w52r0 (d):=by rw [hd'];rfl
   show Does _ _ _ _ (w52r0 (((w52Y N (n+1) x0).getD []))).1.D (HA (w52r0 (((w52Y N (n+1) x0).getD []))).2);rw [e];exact w52fin (N:=(N,w52Y N n)) (w52cx (N,w52Y N n) (w52Yok N n)) hd')
def w52p N n0:=(w52Y N N n0).isSome
def w52y0 N n0:=((w52Y N N n0).getD [])
def w52e (N:Nat):Ent':=E1 (.i .i64) (fun x0=>(w52p N x0,w52r0 (w52y0 N x0)))
theorem w52ok N:EOk Tryz.prog 52 (w52e N):=w52Yok N N
def w30r0 (a0:(List YF5)):Res:=(.e (.sl (.sl .u8)) a0,[])
def w30c (N:Nat):Cx:=⟨Tryz.prog,99999,[(39,v39e N),(52,w52e N)],[]⟩
def w30b:Code:=Tryz.f30.body.getD .skip
theorem w30cx N:CxOk (w30c N):=ctx_ok (by kernel_rfl) (.cons (by kernel_rfl) (v39ok N) (.cons (by kernel_rfl) (w52ok N) .nil)) .nil
def w30F0 [Alg] (_:Nat) (self:Int->O) (k0:YF5->Int->O) (x0_0:YF5) (x0_1:Int):O:=
 gc (decide (x0_1 < (↑x0_0.length:Int))) 0 x0_0 x0_1 fun y3=>
 br (decide (x0_1 < (↑x0_0.length:Int))&&decide (y3=32))
  (self (IntKind.i64.wrap (x0_1+1)))
  (k0 x0_0 x0_1)
def w30b0:Code:=atC [1,1,0,0,0] w30b
def w30m0:Nm:=⟨[0,3],[],[]⟩
def w30I0 (x:YF5×Int):Sg:=⟨[(0,.e .tx x.1),(3,.e (.i .i64) x.2)],[],100⟩
def w30u0 (σ:Sg):YF5×Int:=(lvT .tx 0 0 σ,lvT (.i .i64) 3 0 σ)
theorem w30ui0:∀ x,w30u0 (w30I0 x)=x:=fun _=>by kernel_rfl
def w30X0_0 (y:YF5×Int):Exit×Sg:=((.exit 0),⟨[(0,.e .tx y.1),(3,.e (.i .i64) y.2)],[],100⟩)
def w30v0_0 (_:Exit) (σ:Sg):YF5×Int:=(lvT .tx 0 0 σ,lvT (.i .i64) 3 0 σ)
def w30w0:List (Exit×Nm):=[((.exit 0),⟨[0,3],[],[]⟩)]
def w30l0 [Alg] (N:Nat):Nat->(YF5×Int)->((YF5×Int)->O)->((Unit)->O)->((Unit)->O)->O
 | 0,_,_,_,_=>none
 | n+1,x,k0,k1,k2=>w30F0 N (fun v0=>w30l0 N n (x.1,v0) k0 k1 k2) (fun y0 y1=>k0 (y0,y1)) x.1 x.2
def w30n0 [Alg] N a0 a1 (k0:YF5->Int->O):=w30l0 N N (a0,a1) (fun y=>k0 y.1 y.2) (fun _=>none) (fun _=>none)
def w30s0 [Alg] N a0 a1 (k0:YF5->Int->O):=subL w30I0 w30u0 (w30l0 N N) (w30I0 (a0,a1)) (fun y=>k0 y.1 y.2) (fun _=>none) (fun _=>none)
theorem w30e0 [Alg] N:w30s0 N=w30n0 N:=funext fun _=>funext fun _=>funext fun _=>subL_I w30ui0 _ _ _ _
theorem w30q0 [Alg] (N:Nat) (self:Sg->O) (K:Exit->Sg->O) (x:YF5×Int):w30F0 N (fun v0=>self (w30I0 (x.1,v0))) (fun y0 y1=>K (w30X0_0 (y0,y1)).1 (w30X0_0 (y0,y1)).2) x.1 x.2=exec (w30c N) Tryz.f30.ntmps .d w30b0 (w30I0 x) (roundX w30m0 w30w0 self K):=by kernel_rfl
theorem w30S0 N (hc:CxOk (w30c N)):SubOk (w30c N) Tryz.f30.ntmps (.loop w30b0) w30X0_0 (noX 1) (noX 2) (subL w30I0 w30u0 (w30l0 N N)):=
 sub_loop hc (hk_d w30b0) (oK1 w30v0_0 (.exit 0) (fun _=>by kernel_rfl) (fun _=>rfl) (by kernel_rfl)) (n:=N) (fun x K=>loop_ind (w30l0 N) (fun _ _ _ _=>rfl) (fun n K ih x=>by
  refine Eq.trans ?_ (w30q0 N _ K x);simp only [← ih];rfl) N x K)
def w30G [Alg] (N:Nat) (in0:YF5->Int->(YF5->Int->O)->O) (s0:YF5):O:=
 in0 s0 0
  (fun z4 z5=>
   ck (w52p N z5) <|
   ck (v39p N (w52y0 N z5)) <|
   br (decide (z5=(↑z4.length:Int)))
    (some (w30r0 (v39y0 N (w52y0 N z5))))
    (ck (lim (v39y0 N (w52y0 N z5)++[[(0:UInt8)]]).length (24:Nat)) <|
    ck (slcOk z4.length (some z5) none) <|
    ck (v39p N (slc z4 (some z5) none)) <|
    ck (lim (v39y0 N (w52y0 N z5)++[[(0:UInt8)]]++v39y0 N (slc z4 (some z5) none)).length (24:Nat)) <|
    some (w30r0 (v39y0 N (w52y0 N z5)++[[(0:UInt8)]]++v39y0 N (slc z4 (some z5) none)))))
def w30 [Alg] N s0:=w30G N (w30n0 N) s0
def w30h [Alg] (N:Nat):Hint:=(.seq .d (.seq .d (.seq (.block (.sub w30m0 _ _ _ w30X0_0 (noX 1) (noX 2) (subL w30I0 w30u0 (w30l0 N N)))) .d)))
theorem w30hk N (hc:CxOk (w30c N)):HintOk (w30c N) Tryz.f30.ntmps (w30h N) w30b:=hk_of _ _ (And.intro trivial (And.intro trivial (And.intro (w30S0 N hc) trivial)))
theorem w30q [Alg] N s0:w30G N (w30s0 N) s0=exec (w30c N) Tryz.f30.ntmps (w30h N) w30b ⟨argT 0 [.e .tx s0],[],100⟩ (finX (w30c N) Tryz.f30 false):=by kernel_rfl
def w30un (r:Res):Option ((List YF5)):=match r with
 | (x0,[])=>(match ue (.sl (.sl .u8)) x0 with | some a0=>some a0 | _=>none)
 | _=>none
theorem w30uo {r d} (h:w30un r=some d):r=w30r0 (d):=by
 unfold w30un at h;split at h
 ·split at h
  ·rename_i h0;cases h;rw [ue_some h0];rfl
  ·cases h
 ·cases h
def w30z N s0:=(w30 N s0).bind w30un
theorem w30fin {N} (hc:CxOk (w30c N)) {s0 d} (hd:w30z N s0=some d):DoK Tryz.prog 30 [.e .tx s0] [] (w30r0 (d)):=
 finJ hc (by kernel_rfl) (by kernel_rfl) (w30hk N hc) (by kernel_rfl) w30uo (fun hr=>(w30q N s0).symm.trans (by rw [w30e0 N];exact hr)) hd
def w30p N s0:=(w30z N s0).isSome
def w30y0 N s0:=((w30z N s0).getD [])
def w30e (N:Nat):Ent':=E1 .tx (fun x0=>(w30p N x0,w30r0 (w30y0 N x0)))
theorem w30ok N:EOk Tryz.prog 30 (w30e N):=EOk.e1 (fun x0 h=>okG (z:=w30z N x0) h (w30fin (w30cx N)) rfl)
def w29r0 (a0:Int):Res:=(.e (.i .i64) a0,[])
def w29c (_:Nat):Cx:=⟨Tryz.prog,99999,[],[]⟩
def w29b:Code:=Tryz.f29.body.getD .skip
theorem w29cx N:CxOk (w29c N):=ctx_ok (by kernel_rfl) .nil .nil
def w29F0 [Alg] (_:Nat) (k0:(List YF5)->Int->Int->Int->Int->Int->(List Int)->O) (x112_0:(List YF5)) (x112_1 x112_2:Int) (x112_3 x112_4 x112_5:Int) (x112_6:(List Int)):O:=
 br (decide (x112_4=IntKind.i64.wrap ((↑x112_0.length:Int) - (1:Int))))
  (k0 x112_0 x112_1 x112_2 x112_3 x112_4 0 x112_6)
  (k0 x112_0 x112_1 x112_2 x112_3 x112_4 x112_5 x112_6)
def w29b0:Code:=atC [1,1,0,1,0,0,1,0,0,1,1,1,0,0,1,0,0,1,1,0] w29b
def w29m0:Nm:=⟨[0,1,5,6,7,8,9],[],[]⟩
def w29I0 (x:(List YF5)×Int×Int×Int×Int×Int×(List Int)):Sg:=⟨[(0,.e (.sl (.sl .u8)) x.1),(1,.e (.i .i64) x.2.1),(5,.own 0),(6,.e (.i .i64) x.2.2.1),(7,.e (.i .i64) x.2.2.2.1),(8,.e (.i .i64) x.2.2.2.2.1),(9,.e (.i .i64) x.2.2.2.2.2.1)],[(0,.row 3 (.i .i64) x.2.2.2.2.2.2 false)],100⟩
def w29u0 (σ:Sg):(List YF5)×Int×Int×Int×Int×Int×(List Int):=(lvT (.sl (.sl .u8)) 0 0 σ,lvT (.i .i64) 1 0 σ,lvT (.i .i64) 6 0 σ,lvT (.i .i64) 7 0 σ,lvT (.i .i64) 8 0 σ,lvT (.i .i64) 9 0 σ,lvR (.i .i64) 0 σ)
theorem w29ui0:∀ x,w29u0 (w29I0 x)=x:=fun _=>by kernel_rfl
def w29X0_0 (y:(List YF5)×Int×Int×Int×Int×Int×(List Int)):Exit×Sg:=(.normal,⟨[(0,.e (.sl (.sl .u8)) y.1),(1,.e (.i .i64) y.2.1),(5,.own 0),(6,.e (.i .i64) y.2.2.1),(7,.e (.i .i64) y.2.2.2.1),(8,.e (.i .i64) y.2.2.2.2.1),(9,.e (.i .i64) y.2.2.2.2.2.1)],[(0,.row 3 (.i .i64) y.2.2.2.2.2.2 false)],100⟩)
def w29v0_0 (_:Exit) (σ:Sg):(List YF5)×Int×Int×Int×Int×Int×(List Int):=(lvT (.sl (.sl .u8)) 0 0 σ,lvT (.i .i64) 1 0 σ,lvT (.i .i64) 6 0 σ,lvT (.i .i64) 7 0 σ,lvT (.i .i64) 8 0 σ,lvT (.i .i64) 9 0 σ,lvR (.i .i64) 0 σ)
def w29w0:List (Exit×Nm):=[(.normal,⟨[0,1,5,6,7,8,9],[],[]⟩)]
def w29l0 [Alg] (N:Nat) (_:Nat) (x:(List YF5)×Int×Int×Int×Int×Int×(List Int)) (k0:((List YF5)×Int×Int×Int×Int×Int×(List Int))->O) (_:(Unit)->O) (_:(Unit)->O):O:=w29F0 N (fun y0 y1 y2 y3 y4 y5 y6=>k0 (y0,y1,y2,y3,y4,y5,y6)) x.1 x.2.1 x.2.2.1 x.2.2.2.1 x.2.2.2.2.1 x.2.2.2.2.2.1 x.2.2.2.2.2.2
def w29n0 [Alg] N a0 a1 a2 a3 a4 a5 a6 (k0:(List YF5)->Int->Int->Int->Int->Int->(List Int)->O):=w29l0 N N (a0,a1,a2,a3,a4,a5,a6) (fun y=>k0 y.1 y.2.1 y.2.2.1 y.2.2.2.1 y.2.2.2.2.1 y.2.2.2.2.2.1 y.2.2.2.2.2.2) (fun _=>none) (fun _=>none)
def w29s0 [Alg] N a0 a1 a2 a3 a4 a5 a6 (k0:(List YF5)->Int->Int->Int->Int->Int->(List Int)->O):=subL w29I0 w29u0 (w29l0 N N) (w29I0 (a0,a1,a2,a3,a4,a5,a6)) (fun y=>k0 y.1 y.2.1 y.2.2.1 y.2.2.2.1 y.2.2.2.2.1 y.2.2.2.2.2.1 y.2.2.2.2.2.2) (fun _=>none) (fun _=>none)
theorem w29e0 [Alg] N:w29s0 N=w29n0 N:=funext fun _=>funext fun _=>funext fun _=>funext fun _=>funext fun _=>funext fun _=>funext fun _=>funext fun _=>subL_I w29ui0 _ _ _ _
theorem w29q0 [Alg] (N:Nat) (K:Exit->Sg->O) (x:(List YF5)×Int×Int×Int×Int×Int×(List Int)):w29F0 N (fun y0 y1 y2 y3 y4 y5 y6=>K (w29X0_0 (y0,y1,y2,y3,y4,y5,y6)).1 (w29X0_0 (y0,y1,y2,y3,y4,y5,y6)).2) x.1 x.2.1 x.2.2.1 x.2.2.2.1 x.2.2.2.2.1 x.2.2.2.2.2.1 x.2.2.2.2.2.2=exec (w29c N) Tryz.f29.ntmps .d w29b0 (w29I0 x) (partX w29w0 K):=by kernel_rfl
theorem w29S0 N (hc:CxOk (w29c N)):SubOk (w29c N) Tryz.f29.ntmps w29b0 w29X0_0 (noX 1) (noX 2) (subL w29I0 w29u0 (w29l0 N N)):=
 sub_part hc (hk_d w29b0) (oK1 w29v0_0 .normal (fun _=>by kernel_rfl) (fun _=>rfl) (by kernel_rfl)) (fun x K=>by
  exact w29q0 N K x)
def w29F1 [Alg] (_:Nat) (in0:(List YF5)->Int->Int->Int->Int->Int->(List Int)->((List YF5)->Int->Int->Int->Int->Int->(List Int)->O)->O) (self:(List YF5)->Int->Int->Int->Int->(List Int)->O) (k0:(List YF5)->Int->Int->(List Int)->O) (x86_0:(List YF5)) (x86_1 x86_2:Int) (x86_3 x86_4:Int) (x86_5:(List Int)):O:=
 br (decide (x86_4 < (↑x86_0.length:Int)))
  (gx x86_0 x86_4 fun y111=>
  in0 x86_0 x86_1 x86_2 (IntKind.i64.wrap (x86_3+(↑y111.length:Int))) x86_4 1 x86_5
   (fun z113 z114 z115 z116 z117 z118 z119=>
    br (decide (IntKind.i64.wrap (z116+z118)<=z114))
     (ck (decide ((0:Int)<=z115/\z115 < (↑z119.length:Int))) <|
     gn z119 z115.toNat fun y120=>
     ck (decide ((0:Int)<=IntKind.i64.wrap (z117+1)/\IntKind.i64.wrap (z117+1) < (↑z119.length:Int))) <|
     gn z119 ((IntKind.i64.wrap (z117+1)).toNat) fun y121=>
     ck (decide ((0:Int)<=z115/\z115 < (↑z119.length:Int))) <|
     gn z119 z115.toNat fun _=>
     self z113 z114 z115 z116 (IntKind.i64.wrap (z117+1)) (z119.set z115.toNat (min y120 (IntKind.i64.wrap (y121+1)))))
     (self z113 z114 z115 z116 (IntKind.i64.wrap (z117+1)) z119)))
  (k0 x86_0 x86_1 x86_2 x86_5)
def w29b1:Code:=atC [1,1,0,1,0,0,1,0,0,1,1,1,0,0] w29b
def w29m1:Nm:=⟨[0,1,5,6,7,8],[],[]⟩
def w29I1 (x:(List YF5)×Int×Int×Int×Int×(List Int)):Sg:=⟨[(0,.e (.sl (.sl .u8)) x.1),(1,.e (.i .i64) x.2.1),(5,.own 0),(6,.e (.i .i64) x.2.2.1),(7,.e (.i .i64) x.2.2.2.1),(8,.e (.i .i64) x.2.2.2.2.1)],[(0,.row 3 (.i .i64) x.2.2.2.2.2 false)],100⟩
def w29u1 (σ:Sg):(List YF5)×Int×Int×Int×Int×(List Int):=(lvT (.sl (.sl .u8)) 0 0 σ,lvT (.i .i64) 1 0 σ,lvT (.i .i64) 6 0 σ,lvT (.i .i64) 7 0 σ,lvT (.i .i64) 8 0 σ,lvR (.i .i64) 0 σ)
theorem w29ui1:∀ x,w29u1 (w29I1 x)=x:=fun _=>by kernel_rfl
def w29X1_0 (y:(List YF5)×Int×Int×(List Int)):Exit×Sg:=((.exit 2),⟨[(0,.e (.sl (.sl .u8)) y.1),(1,.e (.i .i64) y.2.1),(5,.own 0),(6,.e (.i .i64) y.2.2.1)],[(0,.row 3 (.i .i64) y.2.2.2 false)],100⟩)
def w29v1_0 (_:Exit) (σ:Sg):(List YF5)×Int×Int×(List Int):=(lvT (.sl (.sl .u8)) 0 0 σ,lvT (.i .i64) 1 0 σ,lvT (.i .i64) 6 0 σ,lvR (.i .i64) 0 σ)
def w29w1:List (Exit×Nm):=[((.exit 2),⟨[0,1,5,6],[],[]⟩)]
def w29l1 [Alg] (N:Nat):Nat->((List YF5)×Int×Int×Int×Int×(List Int))->(((List YF5)×Int×Int×(List Int))->O)->((Unit)->O)->((Unit)->O)->O
 | 0,_,_,_,_=>none
 | n+1,x,k0,k1,k2=>w29F1 N (w29n0 N) (fun v0 v1 v2 v3 v4 v5=>w29l1 N n (v0,v1,v2,v3,v4,v5) k0 k1 k2) (fun y0 y1 y2 y3=>k0 (y0,y1,y2,y3)) x.1 x.2.1 x.2.2.1 x.2.2.2.1 x.2.2.2.2.1 x.2.2.2.2.2
def w29n1 [Alg] N a0 a1 a2 a3 a4 a5 (k0:(List YF5)->Int->Int->(List Int)->O):=w29l1 N N (a0,a1,a2,a3,a4,a5) (fun y=>k0 y.1 y.2.1 y.2.2.1 y.2.2.2) (fun _=>none) (fun _=>none)
def w29s1 [Alg] N a0 a1 a2 a3 a4 a5 (k0:(List YF5)->Int->Int->(List Int)->O):=subL w29I1 w29u1 (w29l1 N N) (w29I1 (a0,a1,a2,a3,a4,a5)) (fun y=>k0 y.1 y.2.1 y.2.2.1 y.2.2.2) (fun _=>none) (fun _=>none)
theorem w29e1 [Alg] N:w29s1 N=w29n1 N:=funext fun _=>funext fun _=>funext fun _=>funext fun _=>funext fun _=>funext fun _=>funext fun _=>subL_I w29ui1 _ _ _ _
def w29h1 [Alg] (N:Nat):Hint:=(.seq .d (.seq (.block (.seq .d (.seq .d (.seq (.sub w29m0 _ _ _ w29X0_0 (noX 1) (noX 2) (subL w29I0 w29u0 (w29l0 N N))) (.seq .d (.cond (.reg [] [] [[],[],[],[],[],[],[],[],[],[],[],[],[],[],[0]]) .d)))))) .d))
theorem w29hk1 N (hc:CxOk (w29c N)):HintOk (w29c N) Tryz.f29.ntmps (w29h1 N) w29b1:=hk_of _ _ (And.intro trivial (And.intro (And.intro trivial (And.intro trivial (And.intro (w29S0 N hc) (And.intro trivial (And.intro trivial trivial))))) trivial))
theorem w29q1 [Alg] (N:Nat) (self:Sg->O) (K:Exit->Sg->O) (x:(List YF5)×Int×Int×Int×Int×(List Int)):w29F1 N (w29s0 N) (fun v0 v1 v2 v3 v4 v5=>self (w29I1 (v0,v1,v2,v3,v4,v5))) (fun y0 y1 y2 y3=>K (w29X1_0 (y0,y1,y2,y3)).1 (w29X1_0 (y0,y1,y2,y3)).2) x.1 x.2.1 x.2.2.1 x.2.2.2.1 x.2.2.2.2.1 x.2.2.2.2.2=exec (w29c N) Tryz.f29.ntmps (w29h1 N) w29b1 (w29I1 x) (roundX w29m1 w29w1 self K):=by kernel_rfl
theorem w29S1 N (hc:CxOk (w29c N)):SubOk (w29c N) Tryz.f29.ntmps (.loop w29b1) w29X1_0 (noX 1) (noX 2) (subL w29I1 w29u1 (w29l1 N N)):=
 sub_loop hc (w29hk1 N hc) (oK1 w29v1_0 (.exit 2) (fun _=>by kernel_rfl) (fun _=>rfl) (by kernel_rfl)) (n:=N) (fun x K=>loop_ind (w29l1 N) (fun _ _ _ _=>rfl) (fun n K ih x=>by
  refine Eq.trans ?_ (w29q1 N _ K x);simp only [w29e0 N,← ih];rfl) N x K)
def w29F2 [Alg] (_:Nat) (_in0:(List YF5)->Int->Int->Int->Int->Int->(List Int)->((List YF5)->Int->Int->Int->Int->Int->(List Int)->O)->O) (in1:(List YF5)->Int->Int->Int->Int->(List Int)->((List YF5)->Int->Int->(List Int)->O)->O) (self:(List YF5)->Int->Int->(List Int)->O) (k0:(List Int)->O) (x0_0:(List YF5)) (x0_1 x0_2:Int) (x0_3:(List Int)):O:=
 br (decide (0<=x0_2))
  (ck (decide ((0:Int)<=x0_2/\x0_2 < (↑x0_3.length:Int))) <|
  gn x0_3 x0_2.toNat fun _=>
  in1 x0_0 x0_1 x0_2 0 x0_2 (x0_3.set x0_2.toNat (1048576:Int))
   (fun z123 z124 z125 z126=>
    self z123 z124 (IntKind.i64.wrap (z125 - 1)) z126))
  (k0 x0_3)
def w29b2:Code:=atC [1,1,0,1,0,0] w29b
def w29m2:Nm:=⟨[0,1,5,6],[],[]⟩
def w29I2 (x:(List YF5)×Int×Int×(List Int)):Sg:=⟨[(0,.e (.sl (.sl .u8)) x.1),(1,.e (.i .i64) x.2.1),(5,.own 0),(6,.e (.i .i64) x.2.2.1)],[(0,.row 3 (.i .i64) x.2.2.2 false)],100⟩
def w29u2 (σ:Sg):(List YF5)×Int×Int×(List Int):=(lvT (.sl (.sl .u8)) 0 0 σ,lvT (.i .i64) 1 0 σ,lvT (.i .i64) 6 0 σ,lvR (.i .i64) 0 σ)
theorem w29ui2:∀ x,w29u2 (w29I2 x)=x:=fun _=>by kernel_rfl
def w29X2_0 (y:(List Int)):Exit×Sg:=((.exit 0),⟨[(5,.own 0)],[(0,.row 3 (.i .i64) y false)],100⟩)
def w29v2_0 (_:Exit) (σ:Sg):(List Int):=lvR (.i .i64) 0 σ
def w29w2:List (Exit×Nm):=[((.exit 0),⟨[5],[],[]⟩)]
def w29l2 [Alg] (N:Nat):Nat->((List YF5)×Int×Int×(List Int))->(((List Int))->O)->((Unit)->O)->((Unit)->O)->O
 | 0,_,_,_,_=>none
 | n+1,x,k0,k1,k2=>w29F2 N (w29n0 N) (w29n1 N) (fun v0 v1 v2 v3=>w29l2 N n (v0,v1,v2,v3) k0 k1 k2) (fun y0=>k0 y0) x.1 x.2.1 x.2.2.1 x.2.2.2
def w29n2 [Alg] N a0 a1 a2 a3 (k0:(List Int)->O):=w29l2 N N (a0,a1,a2,a3) (fun y=>k0 y) (fun _=>none) (fun _=>none)
def w29s2 [Alg] N a0 a1 a2 a3 (k0:(List Int)->O):=subL w29I2 w29u2 (w29l2 N N) (w29I2 (a0,a1,a2,a3)) (fun y=>k0 y) (fun _=>none) (fun _=>none)
theorem w29e2 [Alg] N:w29s2 N=w29n2 N:=funext fun _=>funext fun _=>funext fun _=>funext fun _=>funext fun _=>subL_I w29ui2 _ _ _ _
def w29h2 [Alg] (N:Nat):Hint:=(.seq .d (.seq (.block (.seq .d (.seq .d (.seq .d (.block (.sub w29m1 _ _ _ w29X1_0 (noX 1) (noX 2) (subL w29I1 w29u1 (w29l1 N N)))))))) .d))
theorem w29hk2 N (hc:CxOk (w29c N)):HintOk (w29c N) Tryz.f29.ntmps (w29h2 N) w29b2:=hk_of _ _ (And.intro trivial (And.intro (And.intro trivial (And.intro trivial (And.intro trivial (w29S1 N hc)))) trivial))
theorem w29q2 [Alg] (N:Nat) (self:Sg->O) (K:Exit->Sg->O) (x:(List YF5)×Int×Int×(List Int)):w29F2 N (w29s0 N) (w29s1 N) (fun v0 v1 v2 v3=>self (w29I2 (v0,v1,v2,v3))) (fun y0=>K (w29X2_0 y0).1 (w29X2_0 y0).2) x.1 x.2.1 x.2.2.1 x.2.2.2=exec (w29c N) Tryz.f29.ntmps (w29h2 N) w29b2 (w29I2 x) (roundX w29m2 w29w2 self K):=by kernel_rfl
theorem w29S2 N (hc:CxOk (w29c N)):SubOk (w29c N) Tryz.f29.ntmps (.loop w29b2) w29X2_0 (noX 1) (noX 2) (subL w29I2 w29u2 (w29l2 N N)):=
 sub_loop hc (w29hk2 N hc) (oK1 w29v2_0 (.exit 0) (fun _=>by kernel_rfl) (fun _=>rfl) (by kernel_rfl)) (n:=N) (fun x K=>loop_ind (w29l2 N) (fun _ _ _ _=>rfl) (fun n K ih x=>by
  refine Eq.trans ?_ (w29q2 N _ K x);simp only [w29e0 N,w29e1 N,← ih];rfl) N x K)
def w29G [Alg] (_:Nat) (_in0:(List YF5)->Int->Int->Int->Int->Int->(List Int)->((List YF5)->Int->Int->Int->Int->Int->(List Int)->O)->O) (_in1:(List YF5)->Int->Int->Int->Int->(List Int)->((List YF5)->Int->Int->(List Int)->O)->O) (in2:(List YF5)->Int->Int->(List Int)->((List Int)->O)->O) (l0:(List YF5)) (width1:Int):O:=
 ck (decide ((0:Int)<=IntKind.i64.wrap ((↑l0.length:Int)+(1:Int)))) <|
 ck (lim (IntKind.i64.wrap ((↑l0.length:Int)+(1:Int))).toNat (8:Nat)) <|
 in2 l0 width1 (IntKind.i64.wrap ((↑l0.length:Int) - (1:Int))) (List.replicate (IntKind.i64.wrap ((↑l0.length:Int)+(1:Int))).toNat (0:Int))
  (fun z127=>
   ck (decide ((0:Int)<=(0:Int)/\(0:Int) < (↑z127.length:Int))) <|
   gn z127 0 fun y128=>
   some (w29r0 y128))
def w29 [Alg] N l0 width1:=w29G N (w29n0 N) (w29n1 N) (w29n2 N) l0 width1
def w29h [Alg] (N:Nat):Hint:=(.seq .d (.seq .d (.seq (.seq .d (.block (.sub w29m2 _ _ _ w29X2_0 (noX 1) (noX 2) (subL w29I2 w29u2 (w29l2 N N))))) .d)))
theorem w29hk N (hc:CxOk (w29c N)):HintOk (w29c N) Tryz.f29.ntmps (w29h N) w29b:=hk_of _ _ (And.intro trivial (And.intro trivial (And.intro (And.intro trivial (w29S2 N hc)) trivial)))
theorem w29q [Alg] N l0 width1:w29G N (w29s0 N) (w29s1 N) (w29s2 N) l0 width1=exec (w29c N) Tryz.f29.ntmps (w29h N) w29b ⟨argT 0 [.e (.sl (.sl .u8)) l0,.e (.i .i64) width1],[],100⟩ (finX (w29c N) Tryz.f29 false):=by kernel_rfl
def w29un (r:Res):Option (Int):=match r with
 | (x0,[])=>(match ue (.i .i64) x0 with | some a0=>some a0 | _=>none)
 | _=>none
theorem w29uo {r d} (h:w29un r=some d):r=w29r0 (d):=by
 unfold w29un at h;split at h
 ·split at h
  ·rename_i h0;cases h;rw [ue_some h0];rfl
  ·cases h
 ·cases h
def w29z N l0 width1:=(w29 N l0 width1).bind w29un
theorem w29fin {N} (hc:CxOk (w29c N)) {l0 width1 d} (hd:w29z N l0 width1=some d):DoK Tryz.prog 29 [.e (.sl (.sl .u8)) l0,.e (.i .i64) width1] [] (w29r0 (d)):=
 finJ hc (by kernel_rfl) (by kernel_rfl) (w29hk N hc) (by kernel_rfl) w29uo (fun hr=>(w29q N l0 width1).symm.trans (by rw [w29e0 N,w29e1 N,w29e2 N];exact hr)) hd
def w29p N l0 width1:=(w29z N l0 width1).isSome
def w29y0 N l0 width1:=((w29z N l0 width1).getD 0)
def w29e (N:Nat):Ent':=E2 (.sl (.sl .u8)) (.i .i64) (fun x0 x1=>(w29p N x0 x1,w29r0 (w29y0 N x0 x1)))
theorem w29ok N:EOk Tryz.prog 29 (w29e N):=EOk.e2 (fun x0 x1 h=>okG (z:=w29z N x0 x1) h (w29fin (w29cx N)) rfl)
def w18r0 (a0:(List (List YF5))):Res:=(.e (.sl (.sl .tx)) a0,[])
def w18c (N:Nat):Cx:=⟨Tryz.prog,99999,[(9,w9e N),(44,w44e N)],[]⟩
def w18b:Code:=Tryz.f18.body.getD .skip
theorem w18cx N:CxOk (w18c N):=ctx_ok (by kernel_rfl) (.cons (by kernel_rfl) (w9ok N) (.cons (by kernel_rfl) (w44ok N) .nil)) .nil
def w18G [Alg] (N:Nat) (l0:(List Int)) (raw1:YF5):O:=
 ck (w9p N l0) <|
 ck (lim ([]++w9y0 N l0).length (16:Nat)) <|
 ck (w44p N raw1 (90:Int)) <|
 ck (lim ([]++w9y0 N l0++[w44y0 N raw1 (90:Int)]).length (16:Nat)) <|
 some (w18r0 ([w9y0 N l0,[]++w9y0 N l0++[w44y0 N raw1 (90:Int)]]))
def w18 [Alg] N l0 raw1:=w18G N l0 raw1
def w18h [Alg] (_:Nat):Hint:=.d
theorem w18hk N:HintOk (w18c N) Tryz.f18.ntmps (w18h N) w18b:=hk_of _ _ trivial
theorem w18q [Alg] N l0 raw1:w18G N l0 raw1=exec (w18c N) Tryz.f18.ntmps (w18h N) w18b ⟨argT 0 [.e (.sl (.i .i64)) l0,.e .tx raw1],[],100⟩ (finX (w18c N) Tryz.f18 false):=by kernel_rfl
def w18un (r:Res):Option ((List (List YF5))):=match r with
 | (x0,[])=>(match ue (.sl (.sl .tx)) x0 with | some a0=>some a0 | _=>none)
 | _=>none
theorem w18uo {r d} (h:w18un r=some d):r=w18r0 (d):=by
 unfold w18un at h;split at h
 ·split at h
  ·rename_i h0;cases h;rw [ue_some h0];rfl
  ·cases h
 ·cases h
def w18z N l0 raw1:=(w18 N l0 raw1).bind w18un
theorem w18fin {N} (hc:CxOk (w18c N)) {l0 raw1 d} (hd:w18z N l0 raw1=some d):DoK Tryz.prog 18 [.e (.sl (.i .i64)) l0,.e .tx raw1] [] (w18r0 (d)):=
 finJ hc (by kernel_rfl) (by kernel_rfl) (w18hk N) (by kernel_rfl) w18uo (w18q N l0 raw1).symm.trans hd
def w18p N l0 raw1:=(w18z N l0 raw1).isSome
def w18y0 N l0 raw1:=((w18z N l0 raw1).getD [])
def w18e (N:Nat):Ent':=E2 (.sl (.i .i64)) .tx (fun x0 x1=>(w18p N x0 x1,w18r0 (w18y0 N x0 x1)))
theorem w18ok N:EOk Tryz.prog 18 (w18e N):=EOk.e2 (fun x0 x1 h=>okG (z:=w18z N x0 x1) h (w18fin (w18cx N)) rfl)
end
end Go.Proofs
