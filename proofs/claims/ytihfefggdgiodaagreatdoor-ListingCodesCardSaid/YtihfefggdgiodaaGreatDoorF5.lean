/- What functions do. Conditions are in the theorems. -/
import Derived.Test.YtihfefggdgiodaaGreatDoorE7
import Derived.Test.YtihfefggdgiodaaGreatDoorProg
import Derived.KernelRfl
import Derived.Test.YtihfefggdgiodaaGreatDoorF4
/- What functions do. -/
namespace Go.Proofs
noncomputable section
open Go.Ax Go.Ax.Alg Go.RowKit Go.Ab
abbrev YF5:=List UInt8
open Go
def w39r0 (a0:(List YF5)):Res:=(.e (.sl (.sl .u8)) a0,[])
def w39c (N:Nat):Cx:=⟨Tryz.prog,99999,[(60,w60e N),(61,w61e N)],[]⟩
def w39b:Code:=Tryz.f39.body.getD .skip
theorem w39cx N:CxOk (w39c N):=ctx_ok (by kernel_rfl) (.cons (by kernel_rfl) (w60ok N) (.cons (by kernel_rfl) (w61ok N) .nil)) .nil
def w39F0 [Alg] (N:Nat) (self:Int->(List YF5)->O) (k0:(List YF5)->O) (x0_0:YF5) (x0_1:Int) (x0_2:(List YF5)):O:=
 br (decide (x0_1 < (↑x0_0.length:Int)))
  (ck (w60p N x0_0) <|
  br (decide (w60y0 N x0_0<=x0_1))
   (ck (lim (x0_2++[[(32:UInt8),(2:UInt8)]]).length (24:Nat)) <|
   self (IntKind.i64.wrap (x0_1+1)) (x0_2++[[(32:UInt8),(2:UInt8)]]))
   (gx x0_0 x0_1 fun y4=>
   ck (w61p N y4) <|
   ck (lim (x0_2++[w61y0 N y4]).length (24:Nat)) <|
   self (IntKind.i64.wrap (x0_1+1)) (x0_2++[w61y0 N y4])))
  (k0 x0_2)
def w39b0:Code:=atC [1,1,0,1,0,0] w39b
def w39m0:Nm:=⟨[0,3,4],[],[.nilR 3 (.row 23 (.sl .u8) [] true)]⟩
def w39I0 (x:YF5×Int×(List YF5)):Sg:=⟨[(0,.e .tx x.1),(3,.own 0),(4,.e (.i .i64) x.2.1)],[(0,.row 23 (.sl .u8) x.2.2 true)],100⟩
def w39u0 (σ:Sg):YF5×Int×(List YF5):=(lvT .tx 0 0 σ,lvT (.i .i64) 4 0 σ,lvR (.sl .u8) 0 σ)
theorem w39ui0:∀ x,w39u0 (w39I0 x)=x:=fun _=>by kernel_rfl
def w39X0_0 (y:(List YF5)):Exit×Sg:=((.exit 0),⟨[(3,.own 0)],[(0,.row 23 (.sl .u8) y true)],100⟩)
def w39v0_0 (_:Exit) (σ:Sg):(List YF5):=lvR (.sl .u8) 0 σ
def w39w0:List (Exit×Nm):=[((.exit 0),⟨[3],[],[]⟩)]
def w39l0 [Alg] (N:Nat):Nat->(YF5×Int×(List YF5))->(((List YF5))->O)->((Unit)->O)->((Unit)->O)->O
 | 0,_,_,_,_=>none
 | n+1,x,k0,k1,k2=>w39F0 N (fun v0 v1=>w39l0 N n (x.1,v0,v1) k0 k1 k2) (fun y0=>k0 y0) x.1 x.2.1 x.2.2
def w39n0 [Alg] N a0 a1 a2 (k0:(List YF5)->O):=w39l0 N N (a0,a1,a2) (fun y=>k0 y) (fun _=>none) (fun _=>none)
def w39s0 [Alg] N a0 a1 a2 (k0:(List YF5)->O):=subL w39I0 w39u0 (w39l0 N N) (w39I0 (a0,a1,a2)) (fun y=>k0 y) (fun _=>none) (fun _=>none)
theorem w39e0 [Alg] N:w39s0 N=w39n0 N:=funext fun _=>funext fun _=>funext fun _=>funext fun _=>subL_I w39ui0 _ _ _ _
theorem w39q0 [Alg] (N:Nat) (self:Sg->O) (K:Exit->Sg->O) (x:YF5×Int×(List YF5)):w39F0 N (fun v0 v1=>self (w39I0 (x.1,v0,v1))) (fun y0=>K (w39X0_0 y0).1 (w39X0_0 y0).2) x.1 x.2.1 x.2.2=exec (w39c N) Tryz.f39.ntmps .d w39b0 (w39I0 x) (roundX w39m0 w39w0 self K):=by kernel_rfl
theorem w39S0 N (hc:CxOk (w39c N)):SubOk (w39c N) Tryz.f39.ntmps (.loop w39b0) w39X0_0 (noX 1) (noX 2) (subL w39I0 w39u0 (w39l0 N N)):=
 sub_loop hc (hk_d w39b0) (oK1 w39v0_0 (.exit 0) (fun _=>by kernel_rfl) (fun _=>rfl) (by kernel_rfl)) (n:=N) (fun x K=>loop_ind (w39l0 N) (fun _ _ _ _=>rfl) (fun n K ih x=>by
  refine Eq.trans ?_ (w39q0 N _ K x);simp only [← ih];rfl) N x K)
def w39G [Alg] (_:Nat) (in0:YF5->Int->(List YF5)->((List YF5)->O)->O) (s0:YF5):O:=
 in0 s0 0 []
  (fun z5=>
   some (w39r0 z5))
def w39 [Alg] N s0:=w39G N (w39n0 N) s0
def w39h [Alg] (N:Nat):Hint:=(.seq .d (.seq .d (.seq (.seq .d (.block (.sub w39m0 _ _ _ w39X0_0 (noX 1) (noX 2) (subL w39I0 w39u0 (w39l0 N N))))) .d)))
theorem w39hk N (hc:CxOk (w39c N)):HintOk (w39c N) Tryz.f39.ntmps (w39h N) w39b:=hk_of _ _ (And.intro trivial (And.intro trivial (And.intro (And.intro trivial (w39S0 N hc)) trivial)))
theorem w39q [Alg] N s0:w39G N (w39s0 N) s0=exec (w39c N) Tryz.f39.ntmps (w39h N) w39b ⟨argT 0 [.e .tx s0],[],100⟩ (finX (w39c N) Tryz.f39 false):=by kernel_rfl
def w39un (r:Res):Option ((List YF5)):=match r with
 | (x0,[])=>(match ue (.sl (.sl .u8)) x0 with | some a0=>some a0 | _=>none)
 | _=>none
theorem w39uo {r d} (h:w39un r=some d):r=w39r0 (d):=by
 unfold w39un at h;split at h
 ·split at h
  ·rename_i h0;cases h;rw [ue_some h0];rfl
  ·cases h
 ·cases h
def w39z N s0:=(w39 N s0).bind w39un
theorem w39fin {N} (hc:CxOk (w39c N)) {s0 d} (hd:w39z N s0=some d):DoK Tryz.prog 39 [.e .tx s0] [] (w39r0 (d)):=
 finJ hc (by kernel_rfl) (by kernel_rfl) (w39hk N hc) (by kernel_rfl) w39uo (fun hr=>(w39q N s0).symm.trans (by rw [w39e0 N];exact hr)) hd
def w39p N s0:=(w39z N s0).isSome
def w39y0 N s0:=((w39z N s0).getD [])
def w39e (N:Nat):Ent':=E1 .tx (fun x0=>(w39p N x0,w39r0 (w39y0 N x0)))
theorem w39ok N:EOk Tryz.prog 39 (w39e N):=EOk.e1 (fun x0 h=>okG (z:=w39z N x0) h (w39fin (w39cx N)) rfl)
def w38r0 (a0:YF5):Res:=(.e (.sl .u8) a0,[])
def w38c (_:Nat):Cx:=⟨Tryz.prog,99999,[],[]⟩
def w38b:Code:=Tryz.f38.body.getD .skip
theorem w38cx N:CxOk (w38c N):=ctx_ok (by kernel_rfl) .nil .nil
def w38F0 [Alg] (_:Nat) (self:Int->YF5->O) (k0:YF5->O) (x0_0:(List YF5)) (x0_1:Int) (x0_2:YF5):O:=
 br (decide (x0_1 < (↑x0_0.length:Int)))
  (gx x0_0 x0_1 fun y4=>
  ck (lim (x0_2++y4).length (1:Nat)) <|
  self (IntKind.i64.wrap (x0_1+1)) (x0_2++y4))
  (k0 x0_2)
def w38b0:Code:=atC [1,1,0,1,0,0] w38b
def w38m0:Nm:=⟨[0,3,4],[],[.nilR 3 (.row 5 .u8 [] true)]⟩
def w38I0 (x:(List YF5)×Int×YF5):Sg:=⟨[(0,.e (.sl (.sl .u8)) x.1),(3,.own 0),(4,.e (.i .i64) x.2.1)],[(0,.row 5 .u8 x.2.2 true)],100⟩
def w38u0 (σ:Sg):(List YF5)×Int×YF5:=(lvT (.sl (.sl .u8)) 0 0 σ,lvT (.i .i64) 4 0 σ,lvR .u8 0 σ)
theorem w38ui0:∀ x,w38u0 (w38I0 x)=x:=fun _=>by kernel_rfl
def w38X0_0 (y:YF5):Exit×Sg:=((.exit 0),⟨[(3,.own 0)],[(0,.row 5 .u8 y true)],100⟩)
def w38v0_0 (_:Exit) (σ:Sg):YF5:=lvR .u8 0 σ
def w38w0:List (Exit×Nm):=[((.exit 0),⟨[3],[],[]⟩)]
def w38l0 [Alg] (N:Nat):Nat->((List YF5)×Int×YF5)->((YF5)->O)->((Unit)->O)->((Unit)->O)->O
 | 0,_,_,_,_=>none
 | n+1,x,k0,k1,k2=>w38F0 N (fun v0 v1=>w38l0 N n (x.1,v0,v1) k0 k1 k2) (fun y0=>k0 y0) x.1 x.2.1 x.2.2
def w38n0 [Alg] N a0 a1 a2 (k0:YF5->O):=w38l0 N N (a0,a1,a2) (fun y=>k0 y) (fun _=>none) (fun _=>none)
def w38s0 [Alg] N a0 a1 a2 (k0:YF5->O):=subL w38I0 w38u0 (w38l0 N N) (w38I0 (a0,a1,a2)) (fun y=>k0 y) (fun _=>none) (fun _=>none)
theorem w38e0 [Alg] N:w38s0 N=w38n0 N:=funext fun _=>funext fun _=>funext fun _=>funext fun _=>subL_I w38ui0 _ _ _ _
theorem w38q0 [Alg] (N:Nat) (self:Sg->O) (K:Exit->Sg->O) (x:(List YF5)×Int×YF5):w38F0 N (fun v0 v1=>self (w38I0 (x.1,v0,v1))) (fun y0=>K (w38X0_0 y0).1 (w38X0_0 y0).2) x.1 x.2.1 x.2.2=exec (w38c N) Tryz.f38.ntmps .d w38b0 (w38I0 x) (roundX w38m0 w38w0 self K):=by kernel_rfl
theorem w38S0 N (hc:CxOk (w38c N)):SubOk (w38c N) Tryz.f38.ntmps (.loop w38b0) w38X0_0 (noX 1) (noX 2) (subL w38I0 w38u0 (w38l0 N N)):=
 sub_loop hc (hk_d w38b0) (oK1 w38v0_0 (.exit 0) (fun _=>by kernel_rfl) (fun _=>rfl) (by kernel_rfl)) (n:=N) (fun x K=>loop_ind (w38l0 N) (fun _ _ _ _=>rfl) (fun n K ih x=>by
  refine Eq.trans ?_ (w38q0 N _ K x);simp only [← ih];rfl) N x K)
def w38G [Alg] (_:Nat) (in0:(List YF5)->Int->YF5->(YF5->O)->O) (l0:(List YF5)):O:=
 in0 l0 0 []
  (fun z5=>
   some (w38r0 z5))
def w38 [Alg] N l0:=w38G N (w38n0 N) l0
def w38h [Alg] (N:Nat):Hint:=(.seq .d (.seq .d (.seq (.seq .d (.block (.sub w38m0 _ _ _ w38X0_0 (noX 1) (noX 2) (subL w38I0 w38u0 (w38l0 N N))))) .d)))
theorem w38hk N (hc:CxOk (w38c N)):HintOk (w38c N) Tryz.f38.ntmps (w38h N) w38b:=hk_of _ _ (And.intro trivial (And.intro trivial (And.intro (And.intro trivial (w38S0 N hc)) trivial)))
theorem w38q [Alg] N l0:w38G N (w38s0 N) l0=exec (w38c N) Tryz.f38.ntmps (w38h N) w38b ⟨argT 0 [.e (.sl (.sl .u8)) l0],[],100⟩ (finX (w38c N) Tryz.f38 false):=by kernel_rfl
def w38un (r:Res):Option (YF5):=match r with
 | (x0,[])=>(match ue (.sl .u8) x0 with | some a0=>some a0 | _=>none)
 | _=>none
theorem w38uo {r d} (h:w38un r=some d):r=w38r0 (d):=by
 unfold w38un at h;split at h
 ·split at h
  ·rename_i h0;cases h;rw [ue_some h0];rfl
  ·cases h
 ·cases h
def w38z N l0:=(w38 N l0).bind w38un
theorem w38fin {N} (hc:CxOk (w38c N)) {l0 d} (hd:w38z N l0=some d):DoK Tryz.prog 38 [.e (.sl (.sl .u8)) l0] [] (w38r0 (d)):=
 finJ hc (by kernel_rfl) (by kernel_rfl) (w38hk N hc) (by kernel_rfl) w38uo (fun hr=>(w38q N l0).symm.trans (by rw [w38e0 N];exact hr)) hd
def w38p N l0:=(w38z N l0).isSome
def w38y0 N l0:=((w38z N l0).getD [])
def w38e (N:Nat):Ent':=E1 (.sl (.sl .u8)) (fun x0=>(w38p N x0,w38r0 (w38y0 N x0)))
theorem w38ok N:EOk Tryz.prog 38 (w38e N):=EOk.e1 (fun x0 h=>okG (z:=w38z N x0) h (w38fin (w38cx N)) rfl)
def w43r0 (a0:UInt8):Res:=(.e .u8 a0,[])
def w43c (_:Nat):Cx:=⟨Tryz.prog,99999,[],[]⟩
def w43b:Code:=Tryz.f43.body.getD .skip
theorem w43cx N:CxOk (w43c N):=ctx_ok (by kernel_rfl) .nil .nil
def w43G [Alg] (_:Nat) (c0:UInt8):O:=
 br (decide (32<=c0)&&decide (c0<=58))
  (some (w43r0 (c0+(32:UInt8))))
  (br (decide (59<=c0)&&decide (c0<=62))
   (some (w43r0 (c0+(64:UInt8))))
   (br (decide (c0=3))
    (some (w43r0 96))
    (br (decide (c0=1))
     (some (w43r0 95))
     (br (decide (c0=2))
      (some (w43r0 32))
      (some (w43r0 0))))))
def w43 [Alg] N c0:=w43G N c0
def w43h [Alg] (_:Nat):Hint:=.d
theorem w43hk N:HintOk (w43c N) Tryz.f43.ntmps (w43h N) w43b:=hk_of _ _ trivial
theorem w43q [Alg] N c0:w43G N c0=exec (w43c N) Tryz.f43.ntmps (w43h N) w43b ⟨argT 0 [.e .u8 c0],[],100⟩ (finX (w43c N) Tryz.f43 false):=by kernel_rfl
def w43un (r:Res):Option (UInt8):=match r with
 | (x0,[])=>(match ue .u8 x0 with | some a0=>some a0 | _=>none)
 | _=>none
theorem w43uo {r d} (h:w43un r=some d):r=w43r0 (d):=by
 unfold w43un at h;split at h
 ·split at h
  ·rename_i h0;cases h;rw [ue_some h0];rfl
  ·cases h
 ·cases h
def w43z N c0:=(w43 N c0).bind w43un
theorem w43fin {N} (hc:CxOk (w43c N)) {c0 d} (hd:w43z N c0=some d):DoK Tryz.prog 43 [.e .u8 c0] [] (w43r0 (d)):=
 finJ hc (by kernel_rfl) (by kernel_rfl) (w43hk N) (by kernel_rfl) w43uo (w43q N c0).symm.trans hd
def w43p N c0:=(w43z N c0).isSome
def w43y0 N c0:=((w43z N c0).getD 0)
def w43e (N:Nat):Ent':=E1 .u8 (fun x0=>(w43p N x0,w43r0 (w43y0 N x0)))
theorem w43ok N:EOk Tryz.prog 43 (w43e N):=EOk.e1 (fun x0 h=>okG (z:=w43z N x0) h (w43fin (w43cx N)) rfl)
def w16r0 (a0:YF5) (a1:Int):Res:=(.tup [.e .tx a0,.e (.i .i64) a1],[])
def w16c (N:Nat):Cx:=⟨Tryz.prog,99999,[(43,w43e N),(39,w39e N),(38,w38e N),(12,w12e N)],[]⟩
def w16b:Code:=Tryz.f16.body.getD .skip
theorem w16cx N:CxOk (w16c N):=ctx_ok (by kernel_rfl) (.cons (by kernel_rfl) (w43ok N) (.cons (by kernel_rfl) (w39ok N) (.cons (by kernel_rfl) (w38ok N) (.cons (by kernel_rfl) (w12ok N) .nil)))) .nil
def w16F0 [Alg] (N:Nat) (self:Int->YF5->O) (k0:YF5->Int->O) (k1:YF5->YF5->O) (x0_0:YF5) (x0_1:Int) (x0_2:YF5):O:=
 br (decide (x0_1 < (↑x0_0.length:Int)))
  (gx x0_0 x0_1 fun y25=>
  br (decide (y25=32))
   (gc (!decide ((↑x0_0.length:Int)<=IntKind.i64.wrap (x0_1+1))) 0 x0_0 (IntKind.i64.wrap (x0_1+1)) fun y26=>
   ck (!!decide ((↑x0_0.length:Int)<=IntKind.i64.wrap (x0_1+1))||w43p N y26) <|
   br (decide ((↑x0_0.length:Int)<=IntKind.i64.wrap (x0_1+1))||decide (w43y0 N y26=(0:UInt8)))
    (k0 [] 2)
    (gx x0_0 (IntKind.i64.wrap (x0_1+1)) fun y27=>
    ck (w43p N y27) <|
    ck (lim (x0_2++[w43y0 N y27]).length (1:Nat)) <|
    self (IntKind.i64.wrap (IntKind.i64.wrap (x0_1+1)+(1:Int))) (x0_2++[w43y0 N y27])))
   (gx x0_0 x0_1 fun y28=>
   gc (decide (33<=y28)) 0 x0_0 x0_1 fun y29=>
   br (decide (33<=y28)&&decide (y29<=58))
    (gx x0_0 x0_1 fun y30=>
    ck (lim (x0_2++[y30+(64:UInt8)]).length (1:Nat)) <|
    self (IntKind.i64.wrap (x0_1+1)) (x0_2++[y30+(64:UInt8)]))
    (gx x0_0 x0_1 fun y31=>
    br (decide (y31<=62))
     (gx x0_0 x0_1 fun y32=>
     ck (lim (x0_2++[y32+(32:UInt8)]).length (1:Nat)) <|
     self (IntKind.i64.wrap (x0_1+1)) (x0_2++[y32+(32:UInt8)]))
     (k0 [] 2))))
  (k1 x0_0 x0_2)
def w16b0:Code:=atC [1,1,0,1,0,0] w16b
def w16m0:Nm:=⟨[0,4,5],[],[.nilR 4 (.row 5 .u8 [] true)]⟩
def w16I0 (x:YF5×Int×YF5):Sg:=⟨[(0,.e (.sl .u8) x.1),(4,.own 0),(5,.e (.i .i64) x.2.1)],[(0,.row 5 .u8 x.2.2 true)],100⟩
def w16u0 (σ:Sg):YF5×Int×YF5:=(lvT (.sl .u8) 0 0 σ,lvT (.i .i64) 5 0 σ,lvR .u8 0 σ)
theorem w16ui0:∀ x,w16u0 (w16I0 x)=x:=fun _=>by kernel_rfl
def w16X0_0 (y:YF5×Int):Exit×Sg:=(.ret,⟨[(2,.e .tx y.1),(3,.e (.i .i64) y.2)],[],100⟩)
def w16v0_0 (_:Exit) (σ:Sg):YF5×Int:=(lvT .tx 2 0 σ,lvT (.i .i64) 3 0 σ)
def w16X0_1 (y:YF5×YF5):Exit×Sg:=((.exit 0),⟨[(0,.e (.sl .u8) y.1),(4,.own 0)],[(0,.row 5 .u8 y.2 true)],100⟩)
def w16v0_1 (_:Exit) (σ:Sg):YF5×YF5:=(lvT (.sl .u8) 0 0 σ,lvR .u8 0 σ)
def w16w0:List (Exit×Nm):=[(.ret,⟨[2,3],[],[]⟩),((.exit 0),⟨[0,4],[],[]⟩)]
def w16l0 [Alg] (N:Nat):Nat->(YF5×Int×YF5)->((YF5×Int)->O)->((YF5×YF5)->O)->((Unit)->O)->O
 | 0,_,_,_,_=>none
 | n+1,x,k0,k1,k2=>w16F0 N (fun v0 v1=>w16l0 N n (x.1,v0,v1) k0 k1 k2) (fun y0 y1=>k0 (y0,y1)) (fun y0 y1=>k1 (y0,y1)) x.1 x.2.1 x.2.2
def w16n0 [Alg] N a0 a1 a2 (k0:YF5->Int->O) (k1:YF5->YF5->O):=w16l0 N N (a0,a1,a2) (fun y=>k0 y.1 y.2) (fun y=>k1 y.1 y.2) (fun _=>none)
def w16s0 [Alg] N a0 a1 a2 (k0:YF5->Int->O) (k1:YF5->YF5->O):=subL w16I0 w16u0 (w16l0 N N) (w16I0 (a0,a1,a2)) (fun y=>k0 y.1 y.2) (fun y=>k1 y.1 y.2) (fun _=>none)
theorem w16e0 [Alg] N:w16s0 N=w16n0 N:=funext fun _=>funext fun _=>funext fun _=>funext fun _=>funext fun _=>subL_I w16ui0 _ _ _ _
theorem w16q0 [Alg] (N:Nat) (self:Sg->O) (K:Exit->Sg->O) (x:YF5×Int×YF5):w16F0 N (fun v0 v1=>self (w16I0 (x.1,v0,v1))) (fun y0 y1=>K (w16X0_0 (y0,y1)).1 (w16X0_0 (y0,y1)).2) (fun y0 y1=>K (w16X0_1 (y0,y1)).1 (w16X0_1 (y0,y1)).2) x.1 x.2.1 x.2.2=exec (w16c N) Tryz.f16.ntmps .d w16b0 (w16I0 x) (roundX w16m0 w16w0 self K):=by kernel_rfl
theorem w16S0 N (hc:CxOk (w16c N)):SubOk (w16c N) Tryz.f16.ntmps (.loop w16b0) w16X0_0 w16X0_1 (noX 2) (subL w16I0 w16u0 (w16l0 N N)):=
 sub_loop hc (hk_d w16b0) (oK2 w16v0_0 w16v0_1 .ret (.exit 0) (fun _=>by kernel_rfl) (fun _=>by kernel_rfl) (fun _=>rfl) (fun _=>rfl) (by kernel_rfl)) (n:=N) (fun x K=>loop_ind (w16l0 N) (fun _ _ _ _=>rfl) (fun n K ih x=>by
  refine Eq.trans ?_ (w16q0 N _ K x);simp only [← ih];rfl) N x K)
def w16G [Alg] (N:Nat) (in0:YF5->Int->YF5->(YF5->Int->O)->(YF5->YF5->O)->O) (l0:YF5):O:=
 in0 l0 0 []
  (fun z33 z34=>
   some (w16r0 z33 z34))
  (fun z35 z36=>
   ck (w39p N z36) <|
   ck (w38p N (w39y0 N z36)) <|
   ck (w12p N (w38y0 N (w39y0 N z36)) z35) <|
   br (!w12y0 N (w38y0 N (w39y0 N z36)) z35)
    (some (w16r0 [] 2))
    (some (w16r0 z36 0)))
def w16 [Alg] N l0:=w16G N (w16n0 N) l0
def w16h [Alg] (N:Nat):Hint:=(.seq .d (.seq .d (.seq (.seq .d (.block (.sub w16m0 _ _ _ w16X0_0 w16X0_1 (noX 2) (subL w16I0 w16u0 (w16l0 N N))))) .d)))
theorem w16hk N (hc:CxOk (w16c N)):HintOk (w16c N) Tryz.f16.ntmps (w16h N) w16b:=hk_of _ _ (And.intro trivial (And.intro trivial (And.intro (And.intro trivial (w16S0 N hc)) trivial)))
theorem w16q [Alg] N l0:w16G N (w16s0 N) l0=exec (w16c N) Tryz.f16.ntmps (w16h N) w16b ⟨argT 0 [.e (.sl .u8) l0],[],100⟩ (finX (w16c N) Tryz.f16 false):=by kernel_rfl
def w16un (r:Res):Option (YF5×Int):=match r with
 | (.tup [x0,x1],[])=>(match ue .tx x0,ue (.i .i64) x1 with | some a0,some a1=>some (a0,a1) | _,_=>none)
 | _=>none
theorem w16uo {r d} (h:w16un r=some d):r=w16r0 d.1 d.2:=by
 unfold w16un at h;split at h
 ·split at h
  ·rename_i h0 h1;cases h;rw [ue_some h0,ue_some h1];rfl
  ·cases h
 ·cases h
def w16z N l0:=(w16 N l0).bind w16un
theorem w16fin {N} (hc:CxOk (w16c N)) {l0 d} (hd:w16z N l0=some d):DoK Tryz.prog 16 [.e (.sl .u8) l0] [] (w16r0 d.1 d.2):=
 finJ hc (by kernel_rfl) (by kernel_rfl) (w16hk N hc) (by kernel_rfl) w16uo (fun hr=>(w16q N l0).symm.trans (by rw [w16e0 N];exact hr)) hd
def w16p N l0:=(w16z N l0).isSome
def w16y0 N l0:=((w16z N l0).getD ([],0)).1
def w16y1 N l0:=((w16z N l0).getD ([],0)).2
def w16e (N:Nat):Ent':=E1 (.sl .u8) (fun x0=>(w16p N x0,w16r0 (w16y0 N x0) (w16y1 N x0)))
theorem w16ok N:EOk Tryz.prog 16 (w16e N):=EOk.e1 (fun x0 h=>okG (z:=w16z N x0) h (w16fin (w16cx N)) rfl)
def w11r0 (a0:YF5) (a1:Int):Res:=(.tup [.e (.sl .u8) a0,.e (.i .i64) a1],[])
def w11c (N:Nat):Cx:=⟨Tryz.prog,99999,[(37,w37e N),(39,w39e N),(38,w38e N)],[]⟩
def w11b:Code:=Tryz.f11.body.getD .skip
theorem w11cx N:CxOk (w11c N):=ctx_ok (by kernel_rfl) (.cons (by kernel_rfl) (w37ok N) (.cons (by kernel_rfl) (w39ok N) (.cons (by kernel_rfl) (w38ok N) .nil))) .nil
def w11G [Alg] (N:Nat) (s0:YF5):O:=
 ck (w37p N s0) <|
 br (!w37y0 N s0)
  (some (w11r0 [] 1))
  (ck (w39p N s0) <|
  ck (w38p N (w39y0 N s0)) <|
  some (w11r0 (w38y0 N (w39y0 N s0)) 0))
def w11 [Alg] N s0:=w11G N s0
def w11h [Alg] (_:Nat):Hint:=.d
theorem w11hk N:HintOk (w11c N) Tryz.f11.ntmps (w11h N) w11b:=hk_of _ _ trivial
theorem w11q [Alg] N s0:w11G N s0=exec (w11c N) Tryz.f11.ntmps (w11h N) w11b ⟨argT 0 [.e .tx s0],[],100⟩ (finX (w11c N) Tryz.f11 false):=by kernel_rfl
def w11un (r:Res):Option (YF5×Int):=match r with
 | (.tup [x0,x1],[])=>(match ue (.sl .u8) x0,ue (.i .i64) x1 with | some a0,some a1=>some (a0,a1) | _,_=>none)
 | _=>none
theorem w11uo {r d} (h:w11un r=some d):r=w11r0 d.1 d.2:=by
 unfold w11un at h;split at h
 ·split at h
  ·rename_i h0 h1;cases h;rw [ue_some h0,ue_some h1];rfl
  ·cases h
 ·cases h
def w11z N s0:=(w11 N s0).bind w11un
theorem w11fin {N} (hc:CxOk (w11c N)) {s0 d} (hd:w11z N s0=some d):DoK Tryz.prog 11 [.e .tx s0] [] (w11r0 d.1 d.2):=
 finJ hc (by kernel_rfl) (by kernel_rfl) (w11hk N) (by kernel_rfl) w11uo (w11q N s0).symm.trans hd
def w11p N s0:=(w11z N s0).isSome
def w11y0 N s0:=((w11z N s0).getD ([],0)).1
def w11y1 N s0:=((w11z N s0).getD ([],0)).2
def w11e (N:Nat):Ent':=E1 .tx (fun x0=>(w11p N x0,w11r0 (w11y0 N x0) (w11y1 N x0)))
theorem w11ok N:EOk Tryz.prog 11 (w11e N):=EOk.e1 (fun x0 h=>okG (z:=w11z N x0) h (w11fin (w11cx N)) rfl)
end
end Go.Proofs
