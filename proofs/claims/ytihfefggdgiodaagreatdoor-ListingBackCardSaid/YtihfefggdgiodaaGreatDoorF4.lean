/- What functions do. Conditions are in the theorems. -/
import Derived.Test.YtihfefggdgiodaaGreatDoorE7
import Derived.Test.YtihfefggdgiodaaGreatDoorProg
import Derived.KernelRfl
import Derived.Test.YtihfefggdgiodaaGreatDoorF3
/- What functions do. -/
namespace Go.Proofs
noncomputable section
open Go.Ax Go.Ax.Alg Go.RowKit Go.Ab
abbrev YF4:=List UInt8
open Go
abbrev lF4x0:List UInt8:=[(32:UInt8)]
abbrev lF4x1:List UInt8:=[(0:UInt8)]
def w45r0 (a0:Int):Res:=(.e (.i .i64) a0,[])
def w45c (N:Nat):Cx:=⟨Tryz.prog,99999,[(62,l62e N),(63,w63e N),(64,w64e N)],[]⟩
def w45b:Code:=Tryz.f45.body.getD .skip
theorem w45cx N:CxOk (w45c N):=ctx_ok (by kernel_rfl) (.cons (by kernel_rfl) (l62ok N) (.cons (by kernel_rfl) (w63ok N) (.cons (by kernel_rfl) (w64ok N) .nil))) .nil
def w45G [Alg] (N:Nat) (l0:(List YF4)) (width1:Int):O:=
 ck (!!decide ((64:Int) < (↑l0.length:Int))||w62p N l0) <|
 br (decide ((64:Int) < (↑l0.length:Int))||w62y0 N l0)
  (some (w45r0 4))
  (ck (v62p N l0) <|
  br (v62y0 N l0)
   (some (w45r0 1))
   (br (decide (width1 < 4)||decide (40 < width1))
    (some (w45r0 5))
    (some (w45r0 0))))
def w45 [Alg] N l0 width1:=w45G N l0 width1
def w45h [Alg] (_:Nat):Hint:=.d
theorem w45hk N:HintOk (w45c N) Tryz.f45.ntmps (w45h N) w45b:=hk_of _ _ trivial
theorem w45q [Alg] N l0 width1:w45G N l0 width1=exec (w45c N) Tryz.f45.ntmps (w45h N) w45b ⟨argT 0 [.e (.sl .tx) l0,.e (.i .i64) width1],[],100⟩ (finX (w45c N) Tryz.f45 false):=by kernel_rfl
def w45un (r:Res):Option (Int):=match r with
 | (x0,[])=>(match ue (.i .i64) x0 with | some a0=>some a0 | _=>none)
 | _=>none
theorem w45uo {r d} (h:w45un r=some d):r=w45r0 (d):=by
 unfold w45un at h;split at h
 ·split at h
  ·rename_i h0;cases h;rw [ue_some h0];rfl
  ·cases h
 ·cases h
def w45z N l0 width1:=(w45 N l0 width1).bind w45un
theorem w45fin {N} (hc:CxOk (w45c N)) {l0 width1 d} (hd:w45z N l0 width1=some d):DoK Tryz.prog 45 [.e (.sl .tx) l0,.e (.i .i64) width1] [] (w45r0 (d)):=
 finJ hc (by kernel_rfl) (by kernel_rfl) (w45hk N) (by kernel_rfl) w45uo (w45q N l0 width1).symm.trans hd
def w45p N l0 width1:=(w45z N l0 width1).isSome
def w45y0 N l0 width1:=((w45z N l0 width1).getD 0)
def w45e (N:Nat):Ent':=E2 (.sl .tx) (.i .i64) (fun x0 x1=>(w45p N x0 x1,w45r0 (w45y0 N x0 x1)))
theorem w45ok N:EOk Tryz.prog 45 (w45e N):=EOk.e2 (fun x0 x1 h=>okG (z:=w45z N x0 x1) h (w45fin (w45cx N)) rfl)
def w10r0 (a0:YF4) (a1:Int):Res:=(.tup [.e (.sl .u8) a0,.e (.i .i64) a1],[])
def w10c (N:Nat):Cx:=⟨Tryz.prog,99999,[(35,l35ce N),(33,w33e N),(36,w36e N),(34,w34e N)],[]⟩
def w10b:Code:=Tryz.f10.body.getD .skip
theorem w10cx N:CxOk (w10c N):=ctx_ok (by kernel_rfl) (.cons (by kernel_rfl) (l35cok N) (.cons (by kernel_rfl) (w33ok N) (.cons (by kernel_rfl) (w36ok N) (.cons (by kernel_rfl) (w34ok N) .nil)))) .nil
def w10G [Alg] (N:Nat) (s0:YF4):O:=
 ck (w33p N s0) <|
 br (!w33y0 N s0)
  (some (w10r0 [] 1))
  (ck (w36p N s0) <|
  ck (l35cp N (w36y0 N s0)) <|
  ck (w34p N (l35cy0 N (w36y0 N s0))) <|
  some (w10r0 (w34y0 N (l35cy0 N (w36y0 N s0))) 0))
def w10 [Alg] N s0:=w10G N s0
def w10h [Alg] (_:Nat):Hint:=.d
theorem w10hk N:HintOk (w10c N) Tryz.f10.ntmps (w10h N) w10b:=hk_of _ _ trivial
theorem w10q [Alg] N s0:w10G N s0=exec (w10c N) Tryz.f10.ntmps (w10h N) w10b ⟨argT 0 [.e .tx s0],[],100⟩ (finX (w10c N) Tryz.f10 false):=by kernel_rfl
def w10un (r:Res):Option (YF4×Int):=match r with
 | (.tup [x0,x1],[])=>(match ue (.sl .u8) x0,ue (.i .i64) x1 with | some a0,some a1=>some (a0,a1) | _,_=>none)
 | _=>none
theorem w10uo {r d} (h:w10un r=some d):r=w10r0 d.1 d.2:=by
 unfold w10un at h;split at h
 ·split at h
  ·rename_i h0 h1;cases h;rw [ue_some h0,ue_some h1];rfl
  ·cases h
 ·cases h
def w10z N s0:=(w10 N s0).bind w10un
theorem w10fin {N} (hc:CxOk (w10c N)) {s0 d} (hd:w10z N s0=some d):DoK Tryz.prog 10 [.e .tx s0] [] (w10r0 d.1 d.2):=
 finJ hc (by kernel_rfl) (by kernel_rfl) (w10hk N) (by kernel_rfl) w10uo (w10q N s0).symm.trans hd
def w10p N s0:=(w10z N s0).isSome
def w10y0 N s0:=((w10z N s0).getD ([],0)).1
def w10y1 N s0:=((w10z N s0).getD ([],0)).2
def w10e (N:Nat):Ent':=E1 .tx (fun x0=>(w10p N x0,w10r0 (w10y0 N x0) (w10y1 N x0)))
theorem w10ok N:EOk Tryz.prog 10 (w10e N):=EOk.e1 (fun x0 h=>okG (z:=w10z N x0) h (w10fin (w10cx N)) rfl)
def w15r0 (a0:YF4) (a1:Int):Res:=(.tup [.e .tx a0,.e (.i .i64) a1],[])
def w15c (N:Nat):Cx:=⟨Tryz.prog,99999,[(40,w40e N),(41,w41e N),(10,w10e N),(42,w42e N)],[]⟩
def w15b:Code:=Tryz.f15.body.getD .skip
theorem w15cx N:CxOk (w15c N):=ctx_ok (by kernel_rfl) (.cons (by kernel_rfl) (w40ok N) (.cons (by kernel_rfl) (w41ok N) (.cons (by kernel_rfl) (w10ok N) (.cons (by kernel_rfl) (w42ok N) .nil)))) .nil
def w15F0 [Alg] (N:Nat) (self:Int->O) (k0:YF4->YF4->YF4->UInt8->YF4->O) (k1:YF4->YF4->YF4->UInt8->YF4->O) (x179_0 x179_1 x179_2:YF4) (x179_3:UInt8) (x179_4:Int) (x179_6:YF4) (x179_7:(List Bool)) (x179_5:Int):O:=
 br (decide (x179_5 < x179_4))
  (gx x179_7 x179_5 fun y182=>
  ck (w40p N x179_3 y182) <|
  ck (!(decide (x179_3=32)||!y182)||w41p N x179_2 (w40y0 N x179_3 y182)) <|
  br ((decide (x179_3=32)||!y182)&&w41y0 N x179_2 (w40y0 N x179_3 y182))
   (ck (lim (x179_6++[x179_3]).length (1:Nat)) <|
   ck (slcOk x179_2.length (some (↑(w40y0 N x179_3 y182).length:Int)) none) <|
   k0 x179_0 x179_1 (slc x179_2 (some (↑(w40y0 N x179_3 y182).length:Int)) none) x179_3 (x179_6++[x179_3]))
   (self (IntKind.i64.wrap (x179_5+1))))
  (k1 x179_0 x179_1 x179_2 x179_3 x179_6)
def w15b0:Code:=atC [1,0,1,1,0,1,0,0,1,0,0,1,0,0,1,0,0,1,0,0] w15b
def w15m0:Nm:=⟨[0,2,4,5,6,21,22,23],[],[]⟩
def w15I0 (x:YF4×YF4×YF4×UInt8×Int×Int×YF4×(List Bool)):Sg:=⟨[(0,.e (.sl .u8) x.1),(2,.e .tx x.2.1),(4,.own 0),(5,.e (.sl .u8) x.2.2.1),(6,.e .u8 x.2.2.2.1),(21,.own 1),(22,.e (.i .i64) x.2.2.2.2.1),(23,.e (.i .i64) x.2.2.2.2.2.1)],[(0,.row 5 .u8 x.2.2.2.2.2.2.1 true),(1,.row 4 .bo x.2.2.2.2.2.2.2 true)],100⟩
def w15u0 (σ:Sg):YF4×YF4×YF4×UInt8×Int×Int×YF4×(List Bool):=(lvT (.sl .u8) 0 0 σ,lvT .tx 2 0 σ,lvT (.sl .u8) 5 0 σ,lvT .u8 6 0 σ,lvT (.i .i64) 22 0 σ,lvT (.i .i64) 23 0 σ,lvR .u8 0 σ,lvR .bo 1 σ)
theorem w15ui0:∀ x,w15u0 (w15I0 x)=x:=fun _=>by kernel_rfl
def w15X0_0 (y:YF4×YF4×YF4×UInt8×YF4):Exit×Sg:=((.exit 1),⟨[(0,.e (.sl .u8) y.1),(2,.e .tx y.2.1),(4,.own 0),(5,.e (.sl .u8) y.2.2.1),(6,.e .u8 y.2.2.2.1)],[(0,.row 5 .u8 y.2.2.2.2 true)],100⟩)
def w15v0_0 (_:Exit) (σ:Sg):YF4×YF4×YF4×UInt8×YF4:=(lvT (.sl .u8) 0 0 σ,lvT .tx 2 0 σ,lvT (.sl .u8) 5 0 σ,lvT .u8 6 0 σ,lvR .u8 0 σ)
def w15X0_1 (y:YF4×YF4×YF4×UInt8×YF4):Exit×Sg:=((.exit 4),⟨[(0,.e (.sl .u8) y.1),(2,.e .tx y.2.1),(4,.own 0),(5,.e (.sl .u8) y.2.2.1),(6,.e .u8 y.2.2.2.1)],[(0,.row 5 .u8 y.2.2.2.2 true)],100⟩)
def w15v0_1 (_:Exit) (σ:Sg):YF4×YF4×YF4×UInt8×YF4:=(lvT (.sl .u8) 0 0 σ,lvT .tx 2 0 σ,lvT (.sl .u8) 5 0 σ,lvT .u8 6 0 σ,lvR .u8 0 σ)
def w15w0:List (Exit×Nm):=[((.exit 1),⟨[0,2,4,5,6],[],[]⟩),((.exit 4),⟨[0,2,4,5,6],[],[]⟩)]
def w15l0 [Alg] (N:Nat):Nat->(YF4×YF4×YF4×UInt8×Int×Int×YF4×(List Bool))->((YF4×YF4×YF4×UInt8×YF4)->O)->((YF4×YF4×YF4×UInt8×YF4)->O)->((Unit)->O)->O
 | 0,_,_,_,_=>none
 | n+1,x,k0,k1,k2=>w15F0 N (fun v0=>w15l0 N n (x.1,x.2.1,x.2.2.1,x.2.2.2.1,x.2.2.2.2.1,v0,x.2.2.2.2.2.2.1,x.2.2.2.2.2.2.2) k0 k1 k2) (fun y0 y1 y2 y3 y4=>k0 (y0,y1,y2,y3,y4)) (fun y0 y1 y2 y3 y4=>k1 (y0,y1,y2,y3,y4)) x.1 x.2.1 x.2.2.1 x.2.2.2.1 x.2.2.2.2.1 x.2.2.2.2.2.2.1 x.2.2.2.2.2.2.2 x.2.2.2.2.2.1
def w15n0 [Alg] N a0 a1 a2 a3 a4 a5 a6 a7 (k0:YF4->YF4->YF4->UInt8->YF4->O) (k1:YF4->YF4->YF4->UInt8->YF4->O):=w15l0 N N (a0,a1,a2,a3,a4,a5,a6,a7) (fun y=>k0 y.1 y.2.1 y.2.2.1 y.2.2.2.1 y.2.2.2.2) (fun y=>k1 y.1 y.2.1 y.2.2.1 y.2.2.2.1 y.2.2.2.2) (fun _=>none)
def w15s0 [Alg] N a0 a1 a2 a3 a4 a5 a6 a7 (k0:YF4->YF4->YF4->UInt8->YF4->O) (k1:YF4->YF4->YF4->UInt8->YF4->O):=subL w15I0 w15u0 (w15l0 N N) (w15I0 (a0,a1,a2,a3,a4,a5,a6,a7)) (fun y=>k0 y.1 y.2.1 y.2.2.1 y.2.2.2.1 y.2.2.2.2) (fun y=>k1 y.1 y.2.1 y.2.2.1 y.2.2.2.1 y.2.2.2.2) (fun _=>none)
theorem w15e0 [Alg] N:w15s0 N=w15n0 N:=funext fun _=>funext fun _=>funext fun _=>funext fun _=>funext fun _=>funext fun _=>funext fun _=>funext fun _=>funext fun _=>funext fun _=>subL_I w15ui0 _ _ _ _
def w15h0 [Alg] (_:Nat):Hint:=(.seq .d (.seq .d (.seq (.block (.seq .d (.seq .d (.seq .d (.cond (.seq (.reg [] [] [[],[],[],[276,0],[],[],[],[],[],[]]) .d) .d))))) .d)))
theorem w15hk0 N:HintOk (w15c N) Tryz.f15.ntmps (w15h0 N) w15b0:=hk_of _ _ (And.intro trivial (And.intro trivial (And.intro (And.intro trivial (And.intro trivial (And.intro trivial (And.intro (And.intro trivial trivial) trivial)))) trivial)))
theorem w15q0 [Alg] (N:Nat) (self:Sg->O) (K:Exit->Sg->O) (x:YF4×YF4×YF4×UInt8×Int×Int×YF4×(List Bool)):w15F0 N (fun v0=>self (w15I0 (x.1,x.2.1,x.2.2.1,x.2.2.2.1,x.2.2.2.2.1,v0,x.2.2.2.2.2.2.1,x.2.2.2.2.2.2.2))) (fun y0 y1 y2 y3 y4=>K (w15X0_0 (y0,y1,y2,y3,y4)).1 (w15X0_0 (y0,y1,y2,y3,y4)).2) (fun y0 y1 y2 y3 y4=>K (w15X0_1 (y0,y1,y2,y3,y4)).1 (w15X0_1 (y0,y1,y2,y3,y4)).2) x.1 x.2.1 x.2.2.1 x.2.2.2.1 x.2.2.2.2.1 x.2.2.2.2.2.2.1 x.2.2.2.2.2.2.2 x.2.2.2.2.2.1=exec (w15c N) Tryz.f15.ntmps (w15h0 N) w15b0 (w15I0 x) (roundX w15m0 w15w0 self K):=by kernel_rfl
theorem w15S0 N (hc:CxOk (w15c N)):SubOk (w15c N) Tryz.f15.ntmps (.loop w15b0) w15X0_0 w15X0_1 (noX 2) (subL w15I0 w15u0 (w15l0 N N)):=
 sub_loop hc (w15hk0 N) (oK2 w15v0_0 w15v0_1 (.exit 1) (.exit 4) (fun _=>by kernel_rfl) (fun _=>by kernel_rfl) (fun _=>rfl) (fun _=>rfl) (by kernel_rfl)) (n:=N) (fun x K=>loop_ind (w15l0 N) (fun _ _ _ _=>rfl) (fun n K ih x=>by
  refine Eq.trans ?_ (w15q0 N _ K x);simp only [← ih];rfl) N x K)
def w15F1 [Alg] (_:Nat) (in0:YF4->YF4->YF4->UInt8->Int->Int->YF4->(List Bool)->(YF4->YF4->YF4->UInt8->YF4->O)->(YF4->YF4->YF4->UInt8->YF4->O)->O) (self:YF4->YF4->YF4->UInt8->YF4->O) (k0:YF4->YF4->YF4->YF4->O) (k1:YF4->YF4->YF4->YF4->O) (x150_0 x150_1 x150_2:YF4) (x150_3:UInt8) (x150_4:YF4):O:=
 br (decide (x150_3<=126))
  (in0 x150_0 x150_1 x150_2 x150_3 2 0 x150_4 [false,true]
   (fun z183 z184 z185 _ z187=>
    k0 z183 z184 z185 z187)
   (fun z188 z189 z190 z191 z192=>
    self z188 z189 z190 (z191+(1:UInt8)) z192))
  (k1 x150_0 x150_1 x150_2 x150_4)
def w15b1:Code:=atC [1,0,1,1,0,1,0,0,1,0,0,1,0,0] w15b
def w15m1:Nm:=⟨[0,2,4,5,6],[],[]⟩
def w15I1 (x:YF4×YF4×YF4×UInt8×YF4):Sg:=⟨[(0,.e (.sl .u8) x.1),(2,.e .tx x.2.1),(4,.own 0),(5,.e (.sl .u8) x.2.2.1),(6,.e .u8 x.2.2.2.1)],[(0,.row 5 .u8 x.2.2.2.2 true)],100⟩
def w15u1 (σ:Sg):YF4×YF4×YF4×UInt8×YF4:=(lvT (.sl .u8) 0 0 σ,lvT .tx 2 0 σ,lvT (.sl .u8) 5 0 σ,lvT .u8 6 0 σ,lvR .u8 0 σ)
theorem w15ui1:∀ x,w15u1 (w15I1 x)=x:=fun _=>by kernel_rfl
def w15X1_0 (y:YF4×YF4×YF4×YF4):Exit×Sg:=((.exit 1),⟨[(0,.e (.sl .u8) y.1),(2,.e .tx y.2.1),(4,.own 0),(5,.e (.sl .u8) y.2.2.1)],[(0,.row 5 .u8 y.2.2.2 true)],100⟩)
def w15v1_0 (_:Exit) (σ:Sg):YF4×YF4×YF4×YF4:=(lvT (.sl .u8) 0 0 σ,lvT .tx 2 0 σ,lvT (.sl .u8) 5 0 σ,lvR .u8 0 σ)
def w15X1_1 (y:YF4×YF4×YF4×YF4):Exit×Sg:=((.exit 2),⟨[(0,.e (.sl .u8) y.1),(2,.e .tx y.2.1),(4,.own 0),(5,.e (.sl .u8) y.2.2.1)],[(0,.row 5 .u8 y.2.2.2 true)],100⟩)
def w15v1_1 (_:Exit) (σ:Sg):YF4×YF4×YF4×YF4:=(lvT (.sl .u8) 0 0 σ,lvT .tx 2 0 σ,lvT (.sl .u8) 5 0 σ,lvR .u8 0 σ)
def w15w1:List (Exit×Nm):=[((.exit 1),⟨[0,2,4,5],[],[]⟩),((.exit 2),⟨[0,2,4,5],[],[]⟩)]
def w15l1 [Alg] (N:Nat):Nat->(YF4×YF4×YF4×UInt8×YF4)->((YF4×YF4×YF4×YF4)->O)->((YF4×YF4×YF4×YF4)->O)->((Unit)->O)->O
 | 0,_,_,_,_=>none
 | n+1,x,k0,k1,k2=>w15F1 N (w15n0 N) (fun v0 v1 v2 v3 v4=>w15l1 N n (v0,v1,v2,v3,v4) k0 k1 k2) (fun y0 y1 y2 y3=>k0 (y0,y1,y2,y3)) (fun y0 y1 y2 y3=>k1 (y0,y1,y2,y3)) x.1 x.2.1 x.2.2.1 x.2.2.2.1 x.2.2.2.2
def w15n1 [Alg] N a0 a1 a2 a3 a4 (k0:YF4->YF4->YF4->YF4->O) (k1:YF4->YF4->YF4->YF4->O):=w15l1 N N (a0,a1,a2,a3,a4) (fun y=>k0 y.1 y.2.1 y.2.2.1 y.2.2.2) (fun y=>k1 y.1 y.2.1 y.2.2.1 y.2.2.2) (fun _=>none)
def w15s1 [Alg] N a0 a1 a2 a3 a4 (k0:YF4->YF4->YF4->YF4->O) (k1:YF4->YF4->YF4->YF4->O):=subL w15I1 w15u1 (w15l1 N N) (w15I1 (a0,a1,a2,a3,a4)) (fun y=>k0 y.1 y.2.1 y.2.2.1 y.2.2.2) (fun y=>k1 y.1 y.2.1 y.2.2.1 y.2.2.2) (fun _=>none)
theorem w15e1 [Alg] N:w15s1 N=w15n1 N:=funext fun _=>funext fun _=>funext fun _=>funext fun _=>funext fun _=>funext fun _=>funext fun _=>subL_I w15ui1 _ _ _ _
def w15h1 [Alg] (N:Nat):Hint:=(.seq .d (.seq (.block (.seq .d (.block (.sub w15m0 _ _ _ w15X0_0 w15X0_1 (noX 2) (subL w15I0 w15u0 (w15l0 N N)))))) .d))
theorem w15hk1 N (hc:CxOk (w15c N)):HintOk (w15c N) Tryz.f15.ntmps (w15h1 N) w15b1:=hk_of _ _ (And.intro trivial (And.intro (And.intro trivial (w15S0 N hc)) trivial))
theorem w15q1 [Alg] (N:Nat) (self:Sg->O) (K:Exit->Sg->O) (x:YF4×YF4×YF4×UInt8×YF4):w15F1 N (w15s0 N) (fun v0 v1 v2 v3 v4=>self (w15I1 (v0,v1,v2,v3,v4))) (fun y0 y1 y2 y3=>K (w15X1_0 (y0,y1,y2,y3)).1 (w15X1_0 (y0,y1,y2,y3)).2) (fun y0 y1 y2 y3=>K (w15X1_1 (y0,y1,y2,y3)).1 (w15X1_1 (y0,y1,y2,y3)).2) x.1 x.2.1 x.2.2.1 x.2.2.2.1 x.2.2.2.2=exec (w15c N) Tryz.f15.ntmps (w15h1 N) w15b1 (w15I1 x) (roundX w15m1 w15w1 self K):=by kernel_rfl
theorem w15S1 N (hc:CxOk (w15c N)):SubOk (w15c N) Tryz.f15.ntmps (.loop w15b1) w15X1_0 w15X1_1 (noX 2) (subL w15I1 w15u1 (w15l1 N N)):=
 sub_loop hc (w15hk1 N hc) (oK2 w15v1_0 w15v1_1 (.exit 1) (.exit 2) (fun _=>by kernel_rfl) (fun _=>by kernel_rfl) (fun _=>rfl) (fun _=>rfl) (by kernel_rfl)) (n:=N) (fun x K=>loop_ind (w15l1 N) (fun _ _ _ _=>rfl) (fun n K ih x=>by
  refine Eq.trans ?_ (w15q1 N _ K x);simp only [w15e0 N,← ih];rfl) N x K)
def w15F2 [Alg] (_:Nat) (_in0:YF4->YF4->YF4->UInt8->Int->Int->YF4->(List Bool)->(YF4->YF4->YF4->UInt8->YF4->O)->(YF4->YF4->YF4->UInt8->YF4->O)->O) (in1:YF4->YF4->YF4->UInt8->YF4->(YF4->YF4->YF4->YF4->O)->(YF4->YF4->YF4->YF4->O)->O) (self:YF4->YF4->YF4->YF4->O) (k0:YF4->Int->O) (k1:YF4->YF4->O) (x0_0 x0_1:YF4) (x0_2 x0_3:YF4):O:=
 br (decide ((0:Int) < (↑x0_2.length:Int)))
  (in1 x0_0 x0_1 x0_2 32 x0_3
   (fun z193 z194 z195 z196=>
    self z193 z194 z195 z196)
   (fun _ _ _ _=>
    k0 [] 2))
  (k1 x0_0 x0_3)
def w15b2:Code:=atC [1,0,1,1,0,1,0,0] w15b
def w15m2:Nm:=⟨[0,2,4,5],[],[.nilR 4 (.row 5 .u8 [] true)]⟩
def w15I2 (x:YF4×YF4×YF4×YF4):Sg:=⟨[(0,.e (.sl .u8) x.1),(2,.e .tx x.2.1),(4,.own 0),(5,.e (.sl .u8) x.2.2.1)],[(0,.row 5 .u8 x.2.2.2 true)],100⟩
def w15u2 (σ:Sg):YF4×YF4×YF4×YF4:=(lvT (.sl .u8) 0 0 σ,lvT .tx 2 0 σ,lvT (.sl .u8) 5 0 σ,lvR .u8 0 σ)
theorem w15ui2:∀ x,w15u2 (w15I2 x)=x:=fun _=>by kernel_rfl
def w15X2_0 (y:YF4×Int):Exit×Sg:=(.ret,⟨[(2,.e .tx y.1),(3,.e (.i .i64) y.2)],[],100⟩)
def w15v2_0 (_:Exit) (σ:Sg):YF4×Int:=(lvT .tx 2 0 σ,lvT (.i .i64) 3 0 σ)
def w15X2_1 (y:YF4×YF4):Exit×Sg:=((.exit 0),⟨[(0,.e (.sl .u8) y.1),(4,.own 0)],[(0,.row 5 .u8 y.2 true)],100⟩)
def w15v2_1 (_:Exit) (σ:Sg):YF4×YF4:=(lvT (.sl .u8) 0 0 σ,lvR .u8 0 σ)
def w15w2:List (Exit×Nm):=[(.ret,⟨[2,3],[],[]⟩),((.exit 0),⟨[0,4],[],[]⟩)]
def w15l2 [Alg] (N:Nat):Nat->(YF4×YF4×YF4×YF4)->((YF4×Int)->O)->((YF4×YF4)->O)->((Unit)->O)->O
 | 0,_,_,_,_=>none
 | n+1,x,k0,k1,k2=>w15F2 N (w15n0 N) (w15n1 N) (fun v0 v1 v2 v3=>w15l2 N n (v0,v1,v2,v3) k0 k1 k2) (fun y0 y1=>k0 (y0,y1)) (fun y0 y1=>k1 (y0,y1)) x.1 x.2.1 x.2.2.1 x.2.2.2
def w15n2 [Alg] N a0 a1 a2 a3 (k0:YF4->Int->O) (k1:YF4->YF4->O):=w15l2 N N (a0,a1,a2,a3) (fun y=>k0 y.1 y.2) (fun y=>k1 y.1 y.2) (fun _=>none)
def w15s2 [Alg] N a0 a1 a2 a3 (k0:YF4->Int->O) (k1:YF4->YF4->O):=subL w15I2 w15u2 (w15l2 N N) (w15I2 (a0,a1,a2,a3)) (fun y=>k0 y.1 y.2) (fun y=>k1 y.1 y.2) (fun _=>none)
theorem w15e2 [Alg] N:w15s2 N=w15n2 N:=funext fun _=>funext fun _=>funext fun _=>funext fun _=>funext fun _=>funext fun _=>subL_I w15ui2 _ _ _ _
def w15h2 [Alg] (N:Nat):Hint:=(.seq .d (.block (.seq (.seq .d (.block (.sub w15m1 _ _ _ w15X1_0 w15X1_1 (noX 2) (subL w15I1 w15u1 (w15l1 N N))))) .d)))
theorem w15hk2 N (hc:CxOk (w15c N)):HintOk (w15c N) Tryz.f15.ntmps (w15h2 N) w15b2:=hk_of _ _ (And.intro trivial (And.intro (And.intro trivial (w15S1 N hc)) trivial))
theorem w15q2 [Alg] (N:Nat) (self:Sg->O) (K:Exit->Sg->O) (x:YF4×YF4×YF4×YF4):w15F2 N (w15s0 N) (w15s1 N) (fun v0 v1 v2 v3=>self (w15I2 (v0,v1,v2,v3))) (fun y0 y1=>K (w15X2_0 (y0,y1)).1 (w15X2_0 (y0,y1)).2) (fun y0 y1=>K (w15X2_1 (y0,y1)).1 (w15X2_1 (y0,y1)).2) x.1 x.2.1 x.2.2.1 x.2.2.2=exec (w15c N) Tryz.f15.ntmps (w15h2 N) w15b2 (w15I2 x) (roundX w15m2 w15w2 self K):=by kernel_rfl
theorem w15S2 N (hc:CxOk (w15c N)):SubOk (w15c N) Tryz.f15.ntmps (.loop w15b2) w15X2_0 w15X2_1 (noX 2) (subL w15I2 w15u2 (w15l2 N N)):=
 sub_loop hc (w15hk2 N hc) (oK2 w15v2_0 w15v2_1 .ret (.exit 0) (fun _=>by kernel_rfl) (fun _=>by kernel_rfl) (fun _=>rfl) (fun _=>rfl) (by kernel_rfl)) (n:=N) (fun x K=>loop_ind (w15l2 N) (fun _ _ _ _=>rfl) (fun n K ih x=>by
  refine Eq.trans ?_ (w15q2 N _ K x);simp only [w15e0 N,w15e1 N,← ih];rfl) N x K)
def w15G [Alg] (N:Nat) (_in0:YF4->YF4->YF4->UInt8->Int->Int->YF4->(List Bool)->(YF4->YF4->YF4->UInt8->YF4->O)->(YF4->YF4->YF4->UInt8->YF4->O)->O) (_in1:YF4->YF4->YF4->UInt8->YF4->(YF4->YF4->YF4->YF4->O)->(YF4->YF4->YF4->YF4->O)->O) (in2:YF4->YF4->YF4->YF4->(YF4->Int->O)->(YF4->YF4->O)->O) (l0:YF4):O:=
 in2 l0 [] l0 []
  (fun z201 z202=>
   some (w15r0 z201 z202))
  (fun z203 z204=>
   ck (w10p N z204) <|
   ck (w42p N (w10y0 N z204) z203) <|
   br (!w42y0 N (w10y0 N z204) z203)
    (some (w15r0 [] 2))
    (some (w15r0 z204 0)))
def w15 [Alg] N l0:=w15G N (w15n0 N) (w15n1 N) (w15n2 N) l0
def w15h [Alg] (N:Nat):Hint:=(.seq .d (.block (.seq .d (.seq .d (.seq (.seq .d (.block (.sub w15m2 _ _ _ w15X2_0 w15X2_1 (noX 2) (subL w15I2 w15u2 (w15l2 N N))))) .d)))))
theorem w15hk N (hc:CxOk (w15c N)):HintOk (w15c N) Tryz.f15.ntmps (w15h N) w15b:=hk_of _ _ (And.intro trivial (And.intro trivial (And.intro trivial (And.intro (And.intro trivial (w15S2 N hc)) trivial))))
theorem w15q [Alg] N l0:w15G N (w15s0 N) (w15s1 N) (w15s2 N) l0=exec (w15c N) Tryz.f15.ntmps (w15h N) w15b ⟨argT 0 [.e (.sl .u8) l0],[],100⟩ (finX (w15c N) Tryz.f15 false):=by kernel_rfl
def w15un (r:Res):Option (YF4×Int):=match r with
 | (.tup [x0,x1],[])=>(match ue .tx x0,ue (.i .i64) x1 with | some a0,some a1=>some (a0,a1) | _,_=>none)
 | _=>none
theorem w15uo {r d} (h:w15un r=some d):r=w15r0 d.1 d.2:=by
 unfold w15un at h;split at h
 ·split at h
  ·rename_i h0 h1;cases h;rw [ue_some h0,ue_some h1];rfl
  ·cases h
 ·cases h
def w15z N l0:=(w15 N l0).bind w15un
theorem w15fin {N} (hc:CxOk (w15c N)) {l0 d} (hd:w15z N l0=some d):DoK Tryz.prog 15 [.e (.sl .u8) l0] [] (w15r0 d.1 d.2):=
 finJ hc (by kernel_rfl) (by kernel_rfl) (w15hk N hc) (by kernel_rfl) w15uo (fun hr=>(w15q N l0).symm.trans (by rw [w15e0 N,w15e1 N,w15e2 N];exact hr)) hd
def w15p N l0:=(w15z N l0).isSome
def w15y0 N l0:=((w15z N l0).getD ([],0)).1
def w15y1 N l0:=((w15z N l0).getD ([],0)).2
def w15e (N:Nat):Ent':=E1 (.sl .u8) (fun x0=>(w15p N x0,w15r0 (w15y0 N x0) (w15y1 N x0)))
theorem w15ok N:EOk Tryz.prog 15 (w15e N):=EOk.e1 (fun x0 h=>okG (z:=w15z N x0) h (w15fin (w15cx N)) rfl)
def w66r0 (a0:Bool) (a1:YF4) (a2:(List YF4)):Res:=(.e .bo a0,[(50,.box 86 [.own 51,.own 52]),(51,.row 5 .u8 a1 true),(52,.row 23 (.sl .u8) a2 true)])
def w66c (_:Nat):Cx:=⟨Tryz.prog,99999,[],[]⟩
def w66b:Code:=Tryz.f66.body.getD .skip
theorem w66cx N:CxOk (w66c N):=ctx_ok (by kernel_rfl) .nil .nil
def w66G [Alg] (_:Nat) (c1:YF4) (width2 room3:Int) (h51_0:YF4) (h52_0:(List YF4)):O:=
 some (w66r0 (decide (IntKind.i64.wrap (IntKind.i64.wrap ((↑h51_0.length:Int)+(↑c1.length:Int))+room3)<=width2)) h51_0 h52_0)
def w66 [Alg] N c1 width2 room3 h51_0 h52_0:=w66G N c1 width2 room3 h51_0 h52_0
def w66h [Alg] (_:Nat):Hint:=.d
theorem w66hk N:HintOk (w66c N) Tryz.f66.ntmps (w66h N) w66b:=hk_of _ _ trivial
theorem w66q [Alg] N c1 width2 room3 h51_0 h52_0:w66G N c1 width2 room3 h51_0 h52_0=exec (w66c N) Tryz.f66.ntmps (w66h N) w66b ⟨argT 0 [.ref 50 0,.e (.sl .u8) c1,.e (.i .i64) width2,.e (.i .i64) room3],[(50,.box 86 [.own 51,.own 52]),(51,.row 5 .u8 h51_0 true),(52,.row 23 (.sl .u8) h52_0 true)],100⟩ (finX (w66c N) Tryz.f66 true):=by kernel_rfl
def w66un (r:Res):Option (Bool×YF4×(List YF4)):=match r with
 | (x0,[(50,.box 86 [.own 51,.own 52]),(51,x1),(52,x2)])=>(match ue .bo x0,ur 5 .u8 true x1,ur 23 (.sl .u8) true x2 with | some a0,some a1,some a2=>some (a0,a1,a2) | _,_,_=>none)
 | _=>none
theorem w66uo {r d} (h:w66un r=some d):r=w66r0 d.1 d.2.1 d.2.2:=by
 unfold w66un at h;split at h
 ·split at h
  ·rename_i h0 h1 h2;cases h;rw [ue_some h0,ur_some h1,ur_some h2];rfl
  ·cases h
 ·cases h
def w66z N c1 width2 room3 h51_0 h52_0:=(w66 N c1 width2 room3 h51_0 h52_0).bind w66un
theorem w66fin {N} (hc:CxOk (w66c N)) {c1 width2 room3 h51_0 h52_0 d} (hd:w66z N c1 width2 room3 h51_0 h52_0=some d):DoK Tryz.prog 66 [.ref 50 0,.e (.sl .u8) c1,.e (.i .i64) width2,.e (.i .i64) room3] [(50,.box 86 [.own 51,.own 52]),(51,.row 5 .u8 h51_0 true),(52,.row 23 (.sl .u8) h52_0 true)] (w66r0 d.1 d.2.1 d.2.2):=
 finJ hc (by kernel_rfl) (by kernel_rfl) (w66hk N) (by kernel_rfl) w66uo (w66q N c1 width2 room3 h51_0 h52_0).symm.trans hd
def w66p N c1 width2 room3 h51_0 h52_0:=(w66z N c1 width2 room3 h51_0 h52_0).isSome
def w66y0 N c1 width2 room3 h51_0 h52_0:=((w66z N c1 width2 room3 h51_0 h52_0).getD (false,[],[])).1
def w66y1 N c1 width2 room3 h51_0 h52_0:=((w66z N c1 width2 room3 h51_0 h52_0).getD (false,[],[])).2.1
def w66y2 N c1 width2 room3 h51_0 h52_0:=((w66z N c1 width2 room3 h51_0 h52_0).getD (false,[],[])).2.2
def w66in (xs:List X) (H:XH):Option (YF4×Int×Int×YF4×(List YF4)):=match xs,H with
 | [.ref 50 0,x0,x1,x2],[(50,.box 86 [.own 51,.own 52]),(51,x3),(52,x4)]=>(match ue (.sl .u8) x0,ue (.i .i64) x1,ue (.i .i64) x2,ur 5 .u8 true x3,ur 23 (.sl .u8) true x4 with | some a0,some a1,some a2,some a3,some a4=>some (a0,a1,a2,a3,a4) | _,_,_,_,_=>none)
 | _,_=>none
theorem w66io {xs H d} (h:w66in xs H=some d):xs=[.ref 50 0,.e (.sl .u8) d.1,.e (.i .i64) d.2.1,.e (.i .i64) d.2.2.1]/\H=[(50,.box 86 [.own 51,.own 52]),(51,.row 5 .u8 d.2.2.2.1 true),(52,.row 23 (.sl .u8) d.2.2.2.2 true)]:=by
 unfold w66in at h;split at h
 ·split at h
  ·rename_i h0 h1 h2 h3 h4;cases h;rw [ue_some h0,ue_some h1,ue_some h2,ur_some h3,ur_some h4];exact ⟨rfl,rfl⟩
  ·cases h
 ·cases h
def w66e (N:Nat):Ent':=entR w66in (fun d=>w66p N d.1 d.2.1 d.2.2.1 d.2.2.2.1 d.2.2.2.2) (fun d=>w66r0 (w66y0 N d.1 d.2.1 d.2.2.1 d.2.2.2.1 d.2.2.2.2) (w66y1 N d.1 d.2.1 d.2.2.1 d.2.2.2.1 d.2.2.2.2) (w66y2 N d.1 d.2.1 d.2.2.1 d.2.2.2.1 d.2.2.2.2))
theorem w66ok N:EOk Tryz.prog 66 (w66e N):=entR_ok w66io (fun d h=>okG (z:=w66z N d.1 d.2.1 d.2.2.1 d.2.2.2.1 d.2.2.2.2) h (w66fin (w66cx N)) rfl)
def w67r0 (a0:(List YF4)) (a1:YF4):Res:=(.tup [],[(50,.box 86 [.own 100,.own 52]),(52,.row 23 (.sl .u8) a0 true),(100,.row 5 .u8 a1 true)])
def w67c (_:Nat):Cx:=⟨Tryz.prog,99999,[],[]⟩
def w67b:Code:=Tryz.f67.body.getD .skip
theorem w67cx N:CxOk (w67c N):=ctx_ok (by kernel_rfl) .nil .nil
def w67G [Alg] (_:Nat) (c1 h51_0:YF4) (h52_0:(List YF4)):O:=
 ck (lim (h51_0++c1).length (1:Nat)) <|
 some (w67r0 h52_0 (h51_0++c1))
def w67 [Alg] N c1 h51_0 h52_0:=w67G N c1 h51_0 h52_0
def w67h [Alg] (_:Nat):Hint:=.d
theorem w67hk N:HintOk (w67c N) Tryz.f67.ntmps (w67h N) w67b:=hk_of _ _ trivial
theorem w67q [Alg] N c1 h51_0 h52_0:w67G N c1 h51_0 h52_0=exec (w67c N) Tryz.f67.ntmps (w67h N) w67b ⟨argT 0 [.ref 50 0,.e (.sl .u8) c1],[(50,.box 86 [.own 51,.own 52]),(51,.row 5 .u8 h51_0 true),(52,.row 23 (.sl .u8) h52_0 true)],100⟩ (finX (w67c N) Tryz.f67 true):=by kernel_rfl
def w67un (r:Res):Option ((List YF4)×YF4):=match r with
 | (.tup [],[(50,.box 86 [.own 100,.own 52]),(52,x0),(100,x1)])=>(match ur 23 (.sl .u8) true x0,ur 5 .u8 true x1 with | some a0,some a1=>some (a0,a1) | _,_=>none)
 | _=>none
theorem w67uo {r d} (h:w67un r=some d):r=w67r0 d.1 d.2:=by
 unfold w67un at h;split at h
 ·split at h
  ·rename_i h0 h1;cases h;rw [ur_some h0,ur_some h1];rfl
  ·cases h
 ·cases h
def w67z N c1 h51_0 h52_0:=(w67 N c1 h51_0 h52_0).bind w67un
theorem w67fin {N} (hc:CxOk (w67c N)) {c1 h51_0 h52_0 d} (hd:w67z N c1 h51_0 h52_0=some d):DoK Tryz.prog 67 [.ref 50 0,.e (.sl .u8) c1] [(50,.box 86 [.own 51,.own 52]),(51,.row 5 .u8 h51_0 true),(52,.row 23 (.sl .u8) h52_0 true)] (w67r0 d.1 d.2):=
 finJ hc (by kernel_rfl) (by kernel_rfl) (w67hk N) (by kernel_rfl) w67uo (w67q N c1 h51_0 h52_0).symm.trans hd
def w67p N c1 h51_0 h52_0:=(w67z N c1 h51_0 h52_0).isSome
def w67y0 N c1 h51_0 h52_0:=((w67z N c1 h51_0 h52_0).getD ([],[])).1
def w67y1 N c1 h51_0 h52_0:=((w67z N c1 h51_0 h52_0).getD ([],[])).2
def w67in (xs:List X) (H:XH):Option (YF4×YF4×(List YF4)):=match xs,H with
 | [.ref 50 0,x0],[(50,.box 86 [.own 51,.own 52]),(51,x1),(52,x2)]=>(match ue (.sl .u8) x0,ur 5 .u8 true x1,ur 23 (.sl .u8) true x2 with | some a0,some a1,some a2=>some (a0,a1,a2) | _,_,_=>none)
 | _,_=>none
theorem w67io {xs H d} (h:w67in xs H=some d):xs=[.ref 50 0,.e (.sl .u8) d.1]/\H=[(50,.box 86 [.own 51,.own 52]),(51,.row 5 .u8 d.2.1 true),(52,.row 23 (.sl .u8) d.2.2 true)]:=by
 unfold w67in at h;split at h
 ·split at h
  ·rename_i h0 h1 h2;cases h;rw [ue_some h0,ur_some h1,ur_some h2];exact ⟨rfl,rfl⟩
  ·cases h
 ·cases h
def w67e (N:Nat):Ent':=entR w67in (fun d=>w67p N d.1 d.2.1 d.2.2) (fun d=>w67r0 (w67y0 N d.1 d.2.1 d.2.2) (w67y1 N d.1 d.2.1 d.2.2))
theorem w67ok N:EOk Tryz.prog 67 (w67e N):=entR_ok w67io (fun d h=>okG (z:=w67z N d.1 d.2.1 d.2.2) h (w67fin (w67cx N)) rfl)
def w68r0 (a0:YF4) (a1:(List YF4)):Res:=(.tup [],[(50,.box 86 [.nilS,.own 100]),(51,.row 5 .u8 a0 true),(100,.row 23 (.sl .u8) a1 true)])
def w68c (_:Nat):Cx:=⟨Tryz.prog,99999,[],[]⟩
def w68b:Code:=Tryz.f68.body.getD .skip
theorem w68cx N:CxOk (w68c N):=ctx_ok (by kernel_rfl) .nil .nil
def w68G [Alg] (_:Nat) (h51_0:YF4) (h52_0:(List YF4)):O:=
 ck (lim (h52_0++[h51_0]).length (24:Nat)) <|
 some (w68r0 h51_0 (h52_0++[h51_0]))
def w68 [Alg] N h51_0 h52_0:=w68G N h51_0 h52_0
def w68h [Alg] (_:Nat):Hint:=(.seq (.reg [] [.cv 0 0 (.sl .u8)] [[],[],[],[],[],[],[],[],[],[],[],[188,52],[],[],[50]]) .d)
theorem w68hk N:HintOk (w68c N) Tryz.f68.ntmps (w68h N) w68b:=hk_of _ _ (And.intro trivial trivial)
theorem w68q [Alg] N h51_0 h52_0:w68G N h51_0 h52_0=exec (w68c N) Tryz.f68.ntmps (w68h N) w68b ⟨argT 0 [.ref 50 0],[(50,.box 86 [.own 51,.own 52]),(51,.row 5 .u8 h51_0 true),(52,.row 23 (.sl .u8) h52_0 true)],100⟩ (finX (w68c N) Tryz.f68 true):=by kernel_rfl
def w68un (r:Res):Option (YF4×(List YF4)):=match r with
 | (.tup [],[(50,.box 86 [.nilS,.own 100]),(51,x0),(100,x1)])=>(match ur 5 .u8 true x0,ur 23 (.sl .u8) true x1 with | some a0,some a1=>some (a0,a1) | _,_=>none)
 | _=>none
theorem w68uo {r d} (h:w68un r=some d):r=w68r0 d.1 d.2:=by
 unfold w68un at h;split at h
 ·split at h
  ·rename_i h0 h1;cases h;rw [ur_some h0,ur_some h1];rfl
  ·cases h
 ·cases h
def w68z N h51_0 h52_0:=(w68 N h51_0 h52_0).bind w68un
theorem w68fin {N} (hc:CxOk (w68c N)) {h51_0 h52_0 d} (hd:w68z N h51_0 h52_0=some d):DoK Tryz.prog 68 [.ref 50 0] [(50,.box 86 [.own 51,.own 52]),(51,.row 5 .u8 h51_0 true),(52,.row 23 (.sl .u8) h52_0 true)] (w68r0 d.1 d.2):=
 finJ hc (by kernel_rfl) (by kernel_rfl) (w68hk N) (by kernel_rfl) w68uo (w68q N h51_0 h52_0).symm.trans hd
def w68p N h51_0 h52_0:=(w68z N h51_0 h52_0).isSome
def w68y0 N h51_0 h52_0:=((w68z N h51_0 h52_0).getD ([],[])).1
def w68y1 N h51_0 h52_0:=((w68z N h51_0 h52_0).getD ([],[])).2
def w68in (xs:List X) (H:XH):Option (YF4×(List YF4)):=match xs,H with
 | [.ref 50 0],[(50,.box 86 [.own 51,.own 52]),(51,x0),(52,x1)]=>(match ur 5 .u8 true x0,ur 23 (.sl .u8) true x1 with | some a0,some a1=>some (a0,a1) | _,_=>none)
 | _,_=>none
theorem w68io {xs H d} (h:w68in xs H=some d):xs=[.ref 50 0]/\H=[(50,.box 86 [.own 51,.own 52]),(51,.row 5 .u8 d.1 true),(52,.row 23 (.sl .u8) d.2 true)]:=by
 unfold w68in at h;split at h
 ·split at h
  ·rename_i h0 h1;cases h;rw [ur_some h0,ur_some h1];exact ⟨rfl,rfl⟩
  ·cases h
 ·cases h
def w68e (N:Nat):Ent':=entR w68in (fun d=>w68p N d.1 d.2) (fun d=>w68r0 (w68y0 N d.1 d.2) (w68y1 N d.1 d.2))
theorem w68ok N:EOk Tryz.prog 68 (w68e N):=entR_ok w68io (fun d h=>okG (z:=w68z N d.1 d.2) h (w68fin (w68cx N)) rfl)
def w46r0 (a0:(List YF4)):Res:=(.e (.sl (.sl .u8)) a0,[])
def w46c (N:Nat):Cx:=⟨Tryz.prog,99999,[(35,l35le N),(65,w65e N),(34,w34e N),(66,w66e N),(67,w67e N),(68,w68e N)],[]⟩
def w46b:Code:=Tryz.f46.body.getD .skip
theorem w46cx N:CxOk (w46c N):=ctx_ok (by kernel_rfl) (.cons (by kernel_rfl) (l35lok N) (.cons (by kernel_rfl) (w65ok N) (.cons (by kernel_rfl) (w34ok N) (.cons (by kernel_rfl) (w66ok N) (.cons (by kernel_rfl) (w67ok N) (.cons (by kernel_rfl) (w68ok N) .nil)))))) .nil
def w46F0 [Alg] (_:Nat) (k0:Int->(List YF4)->Int->Bool->Int->YF4->(List YF4)->O) (x61_0:Int) (x61_1:(List YF4)) (x61_2:Int) (x61_3:Bool) (x61_4:Int) (x61_5:YF4) (x61_6:(List YF4)):O:=
 br x61_3
  (k0 x61_0 x61_1 x61_2 x61_3 0 x61_5 x61_6)
  (k0 x61_0 x61_1 x61_2 x61_3 x61_4 x61_5 x61_6)
def w46b0:Code:=atC [1,1,1,0,1,0,0,1,0,1,1,0] w46b
def w46m0:Nm:=⟨[1,5,6,7,8,9],[],[]⟩
def w46I0 (x:Int×(List YF4)×Int×Bool×Int×YF4×(List YF4)):Sg:=⟨[(1,.e (.i .i64) x.1),(5,.ref 0 0),(6,.e (.sl (.sl .u8)) x.2.1),(7,.e (.i .i64) x.2.2.1),(8,.e .bo x.2.2.2.1),(9,.e (.i .i64) x.2.2.2.2.1)],[(0,.box 86 [.own 1,.own 2]),(1,.row 5 .u8 x.2.2.2.2.2.1 true),(2,.row 23 (.sl .u8) x.2.2.2.2.2.2 true)],100⟩
def w46u0 (σ:Sg):Int×(List YF4)×Int×Bool×Int×YF4×(List YF4):=(lvT (.i .i64) 1 0 σ,lvT (.sl (.sl .u8)) 6 0 σ,lvT (.i .i64) 7 0 σ,lvT .bo 8 0 σ,lvT (.i .i64) 9 0 σ,lvR .u8 1 σ,lvR (.sl .u8) 2 σ)
theorem w46ui0:∀ x,w46u0 (w46I0 x)=x:=fun _=>by kernel_rfl
def w46X0_0 (y:Int×(List YF4)×Int×Bool×Int×YF4×(List YF4)):Exit×Sg:=(.normal,⟨[(1,.e (.i .i64) y.1),(5,.ref 0 0),(6,.e (.sl (.sl .u8)) y.2.1),(7,.e (.i .i64) y.2.2.1),(8,.e .bo y.2.2.2.1),(9,.e (.i .i64) y.2.2.2.2.1)],[(0,.box 86 [.own 1,.own 2]),(1,.row 5 .u8 y.2.2.2.2.2.1 true),(2,.row 23 (.sl .u8) y.2.2.2.2.2.2 true)],100⟩)
def w46v0_0 (_:Exit) (σ:Sg):Int×(List YF4)×Int×Bool×Int×YF4×(List YF4):=(lvT (.i .i64) 1 0 σ,lvT (.sl (.sl .u8)) 6 0 σ,lvT (.i .i64) 7 0 σ,lvT .bo 8 0 σ,lvT (.i .i64) 9 0 σ,lvR .u8 1 σ,lvR (.sl .u8) 2 σ)
def w46w0:List (Exit×Nm):=[(.normal,⟨[1,5,6,7,8,9],[],[]⟩)]
def w46l0 [Alg] (N:Nat) (_:Nat) (x:Int×(List YF4)×Int×Bool×Int×YF4×(List YF4)) (k0:(Int×(List YF4)×Int×Bool×Int×YF4×(List YF4))->O) (_:(Unit)->O) (_:(Unit)->O):O:=w46F0 N (fun y0 y1 y2 y3 y4 y5 y6=>k0 (y0,y1,y2,y3,y4,y5,y6)) x.1 x.2.1 x.2.2.1 x.2.2.2.1 x.2.2.2.2.1 x.2.2.2.2.2.1 x.2.2.2.2.2.2
def w46n0 [Alg] N a0 a1 a2 a3 a4 a5 a6 (k0:Int->(List YF4)->Int->Bool->Int->YF4->(List YF4)->O):=w46l0 N N (a0,a1,a2,a3,a4,a5,a6) (fun y=>k0 y.1 y.2.1 y.2.2.1 y.2.2.2.1 y.2.2.2.2.1 y.2.2.2.2.2.1 y.2.2.2.2.2.2) (fun _=>none) (fun _=>none)
def w46s0 [Alg] N a0 a1 a2 a3 a4 a5 a6 (k0:Int->(List YF4)->Int->Bool->Int->YF4->(List YF4)->O):=subL w46I0 w46u0 (w46l0 N N) (w46I0 (a0,a1,a2,a3,a4,a5,a6)) (fun y=>k0 y.1 y.2.1 y.2.2.1 y.2.2.2.1 y.2.2.2.2.1 y.2.2.2.2.2.1 y.2.2.2.2.2.2) (fun _=>none) (fun _=>none)
theorem w46e0 [Alg] N:w46s0 N=w46n0 N:=funext fun _=>funext fun _=>funext fun _=>funext fun _=>funext fun _=>funext fun _=>funext fun _=>funext fun _=>subL_I w46ui0 _ _ _ _
theorem w46q0 [Alg] (N:Nat) (K:Exit->Sg->O) (x:Int×(List YF4)×Int×Bool×Int×YF4×(List YF4)):w46F0 N (fun y0 y1 y2 y3 y4 y5 y6=>K (w46X0_0 (y0,y1,y2,y3,y4,y5,y6)).1 (w46X0_0 (y0,y1,y2,y3,y4,y5,y6)).2) x.1 x.2.1 x.2.2.1 x.2.2.2.1 x.2.2.2.2.1 x.2.2.2.2.2.1 x.2.2.2.2.2.2=exec (w46c N) Tryz.f46.ntmps .d w46b0 (w46I0 x) (partX w46w0 K):=by kernel_rfl
theorem w46S0 N (hc:CxOk (w46c N)):SubOk (w46c N) Tryz.f46.ntmps w46b0 w46X0_0 (noX 1) (noX 2) (subL w46I0 w46u0 (w46l0 N N)):=
 sub_part hc (hk_d w46b0) (oK1 w46v0_0 .normal (fun _=>by kernel_rfl) (fun _=>rfl) (by kernel_rfl)) (fun x K=>by
  exact w46q0 N K x)
def w46F1 [Alg] (N:Nat) (self:(List YF4)->Int->YF4->(List YF4)->O) (k0:Int->(List YF4)->Int->Bool->YF4->(List YF4)->O) (x69_0:Int) (x69_3:Bool) (x69_4:Int) (x69_1:(List YF4)) (x69_2:Int) (x69_5:YF4) (x69_6:(List YF4)):O:=
 br (decide ((0:Int) < (↑x69_1.length:Int)))
  (gx x69_1 0 fun y80=>
  ck (w66p N y80 x69_0 x69_4 x69_5 x69_6) <|
  br (w66y0 N y80 x69_0 x69_4 x69_5 x69_6)
   (gx x69_1 0 fun y81=>
   ck (w67p N y81 (w66y1 N y80 x69_0 x69_4 x69_5 x69_6) (w66y2 N y80 x69_0 x69_4 x69_5 x69_6)) <|
   gx x69_1 0 fun y82=>
   ck (slcOk x69_1.length (some (1:Int)) none) <|
   self (slc x69_1 (some (1:Int)) none) (IntKind.i64.wrap (x69_2 - (↑y82.length:Int))) (w67y1 N y81 (w66y1 N y80 x69_0 x69_4 x69_5 x69_6) (w66y2 N y80 x69_0 x69_4 x69_5 x69_6)) (w67y0 N y81 (w66y1 N y80 x69_0 x69_4 x69_5 x69_6) (w66y2 N y80 x69_0 x69_4 x69_5 x69_6)))
   (k0 x69_0 x69_1 x69_2 x69_3 (w66y1 N y80 x69_0 x69_4 x69_5 x69_6) (w66y2 N y80 x69_0 x69_4 x69_5 x69_6)))
  (br false
   (gx x69_1 0 fun y83=>
   ck (w67p N y83 x69_5 x69_6) <|
   gx x69_1 0 fun y84=>
   ck (slcOk x69_1.length (some (1:Int)) none) <|
   self (slc x69_1 (some (1:Int)) none) (IntKind.i64.wrap (x69_2 - (↑y84.length:Int))) (w67y1 N y83 x69_5 x69_6) (w67y0 N y83 x69_5 x69_6))
   (k0 x69_0 x69_1 x69_2 x69_3 x69_5 x69_6))
def w46b1:Code:=atC [1,1,1,0,1,0,0,1,0,1,1,1,0,0,0] w46b
def w46m1:Nm:=⟨[1,5,6,7,8,9],[],[]⟩
def w46I1 (x:Int×(List YF4)×Int×Bool×Int×YF4×(List YF4)):Sg:=⟨[(1,.e (.i .i64) x.1),(5,.ref 0 0),(6,.e (.sl (.sl .u8)) x.2.1),(7,.e (.i .i64) x.2.2.1),(8,.e .bo x.2.2.2.1),(9,.e (.i .i64) x.2.2.2.2.1)],[(0,.box 86 [.own 1,.own 2]),(1,.row 5 .u8 x.2.2.2.2.2.1 true),(2,.row 23 (.sl .u8) x.2.2.2.2.2.2 true)],100⟩
def w46u1 (σ:Sg):Int×(List YF4)×Int×Bool×Int×YF4×(List YF4):=(lvT (.i .i64) 1 0 σ,lvT (.sl (.sl .u8)) 6 0 σ,lvT (.i .i64) 7 0 σ,lvT .bo 8 0 σ,lvT (.i .i64) 9 0 σ,lvR .u8 1 σ,lvR (.sl .u8) 2 σ)
theorem w46ui1:∀ x,w46u1 (w46I1 x)=x:=fun _=>by kernel_rfl
def w46X1_0 (y:Int×(List YF4)×Int×Bool×YF4×(List YF4)):Exit×Sg:=((.exit 2),⟨[(1,.e (.i .i64) y.1),(5,.ref 0 0),(6,.e (.sl (.sl .u8)) y.2.1),(7,.e (.i .i64) y.2.2.1),(8,.e .bo y.2.2.2.1)],[(0,.box 86 [.own 1,.own 2]),(1,.row 5 .u8 y.2.2.2.2.1 true),(2,.row 23 (.sl .u8) y.2.2.2.2.2 true)],100⟩)
def w46v1_0 (_:Exit) (σ:Sg):Int×(List YF4)×Int×Bool×YF4×(List YF4):=(lvT (.i .i64) 1 0 σ,lvT (.sl (.sl .u8)) 6 0 σ,lvT (.i .i64) 7 0 σ,lvT .bo 8 0 σ,lvR .u8 1 σ,lvR (.sl .u8) 2 σ)
def w46w1:List (Exit×Nm):=[((.exit 2),⟨[1,5,6,7,8],[],[]⟩)]
def w46l1 [Alg] (N:Nat):Nat->(Int×(List YF4)×Int×Bool×Int×YF4×(List YF4))->((Int×(List YF4)×Int×Bool×YF4×(List YF4))->O)->((Unit)->O)->((Unit)->O)->O
 | 0,_,_,_,_=>none
 | n+1,x,k0,k1,k2=>w46F1 N (fun v0 v1 v2 v3=>w46l1 N n (x.1,v0,v1,x.2.2.2.1,x.2.2.2.2.1,v2,v3) k0 k1 k2) (fun y0 y1 y2 y3 y4 y5=>k0 (y0,y1,y2,y3,y4,y5)) x.1 x.2.2.2.1 x.2.2.2.2.1 x.2.1 x.2.2.1 x.2.2.2.2.2.1 x.2.2.2.2.2.2
def w46n1 [Alg] N a0 a1 a2 a3 a4 a5 a6 (k0:Int->(List YF4)->Int->Bool->YF4->(List YF4)->O):=w46l1 N N (a0,a1,a2,a3,a4,a5,a6) (fun y=>k0 y.1 y.2.1 y.2.2.1 y.2.2.2.1 y.2.2.2.2.1 y.2.2.2.2.2) (fun _=>none) (fun _=>none)
def w46s1 [Alg] N a0 a1 a2 a3 a4 a5 a6 (k0:Int->(List YF4)->Int->Bool->YF4->(List YF4)->O):=subL w46I1 w46u1 (w46l1 N N) (w46I1 (a0,a1,a2,a3,a4,a5,a6)) (fun y=>k0 y.1 y.2.1 y.2.2.1 y.2.2.2.1 y.2.2.2.2.1 y.2.2.2.2.2) (fun _=>none) (fun _=>none)
theorem w46e1 [Alg] N:w46s1 N=w46n1 N:=funext fun _=>funext fun _=>funext fun _=>funext fun _=>funext fun _=>funext fun _=>funext fun _=>funext fun _=>subL_I w46ui1 _ _ _ _
def w46h1 [Alg] (_:Nat):Hint:=(.seq (.seq (.reg [1004] [] []) .d) .d)
theorem w46hk1 N:HintOk (w46c N) Tryz.f46.ntmps (w46h1 N) w46b1:=hk_of _ _ (And.intro (And.intro trivial trivial) trivial)
theorem w46q1 [Alg] (N:Nat) (self:Sg->O) (K:Exit->Sg->O) (x:Int×(List YF4)×Int×Bool×Int×YF4×(List YF4)):w46F1 N (fun v0 v1 v2 v3=>self (w46I1 (x.1,v0,v1,x.2.2.2.1,x.2.2.2.2.1,v2,v3))) (fun y0 y1 y2 y3 y4 y5=>K (w46X1_0 (y0,y1,y2,y3,y4,y5)).1 (w46X1_0 (y0,y1,y2,y3,y4,y5)).2) x.1 x.2.2.2.1 x.2.2.2.2.1 x.2.1 x.2.2.1 x.2.2.2.2.2.1 x.2.2.2.2.2.2=exec (w46c N) Tryz.f46.ntmps (w46h1 N) w46b1 (w46I1 x) (roundX w46m1 w46w1 self K):=by kernel_rfl
theorem w46S1 N (hc:CxOk (w46c N)):SubOk (w46c N) Tryz.f46.ntmps (.loop w46b1) w46X1_0 (noX 1) (noX 2) (subL w46I1 w46u1 (w46l1 N N)):=
 sub_loop hc (w46hk1 N) (oK1 w46v1_0 (.exit 2) (fun _=>by kernel_rfl) (fun _=>rfl) (by kernel_rfl)) (n:=N) (fun x K=>loop_ind (w46l1 N) (fun _ _ _ _=>rfl) (fun n K ih x=>by
  refine Eq.trans ?_ (w46q1 N _ K x);simp only [← ih];rfl) N x K)
def w46F2 [Alg] (N:Nat) (in0:Int->(List YF4)->Int->Bool->Int->YF4->(List YF4)->(Int->(List YF4)->Int->Bool->Int->YF4->(List YF4)->O)->O) (in1:Int->(List YF4)->Int->Bool->Int->YF4->(List YF4)->(Int->(List YF4)->Int->Bool->YF4->(List YF4)->O)->O) (self:Int->(List YF4)->Int->(List YF4)->O) (k0:(List YF4)->O) (x0_0:Int) (x0_1:(List YF4)) (x0_2:Int) (x0_3:(List YF4)):O:=
 br (decide (0 < x0_2))
  (in0 x0_0 x0_1 x0_2 (decide (x0_2<=x0_0)) 1 [] x0_3
   (fun z62 z63 z64 z65 z66 z67 z68=>
    in1 z62 z63 z64 z65 z66 z67 z68
     (fun z85 z86 z87 z88 z89 z90=>
      br (!z88)
       (ck (w67p N [(63:UInt8)] z89 z90) <|
       ck (w68p N (w67y1 N [(63:UInt8)] z89 z90) (w67y0 N [(63:UInt8)] z89 z90)) <|
       self z85 z86 z87 (w68y1 N (w67y1 N [(63:UInt8)] z89 z90) (w67y0 N [(63:UInt8)] z89 z90)))
       (ck (w68p N z89 z90) <|
       self z85 z86 z87 (w68y1 N z89 z90)))))
  (k0 x0_3)
def w46b2:Code:=atC [1,1,1,0,1,0,0] w46b
def w46m2:Nm:=⟨[1,5,6,7],[],[]⟩
def w46I2 (x:Int×(List YF4)×Int×(List YF4)):Sg:=⟨[(1,.e (.i .i64) x.1),(5,.ref 0 0),(6,.e (.sl (.sl .u8)) x.2.1),(7,.e (.i .i64) x.2.2.1)],[(0,.box 86 [.nilS,.own 1]),(1,.row 23 (.sl .u8) x.2.2.2 true)],100⟩
def w46u2 (σ:Sg):Int×(List YF4)×Int×(List YF4):=(lvT (.i .i64) 1 0 σ,lvT (.sl (.sl .u8)) 6 0 σ,lvT (.i .i64) 7 0 σ,lvR (.sl .u8) 1 σ)
theorem w46ui2:∀ x,w46u2 (w46I2 x)=x:=fun _=>by kernel_rfl
def w46X2_0 (y:(List YF4)):Exit×Sg:=((.exit 0),⟨[(5,.ref 0 0)],[(0,.box 86 [.nilS,.own 1]),(1,.row 23 (.sl .u8) y true)],100⟩)
def w46v2_0 (_:Exit) (σ:Sg):(List YF4):=lvR (.sl .u8) 1 σ
def w46w2:List (Exit×Nm):=[((.exit 0),⟨[5],[],[]⟩)]
def w46l2 [Alg] (N:Nat):Nat->(Int×(List YF4)×Int×(List YF4))->(((List YF4))->O)->((Unit)->O)->((Unit)->O)->O
 | 0,_,_,_,_=>none
 | n+1,x,k0,k1,k2=>w46F2 N (w46n0 N) (w46n1 N) (fun v0 v1 v2 v3=>w46l2 N n (v0,v1,v2,v3) k0 k1 k2) (fun y0=>k0 y0) x.1 x.2.1 x.2.2.1 x.2.2.2
def w46n2 [Alg] N a0 a1 a2 a3 (k0:(List YF4)->O):=w46l2 N N (a0,a1,a2,a3) (fun y=>k0 y) (fun _=>none) (fun _=>none)
def w46s2 [Alg] N a0 a1 a2 a3 (k0:(List YF4)->O):=subL w46I2 w46u2 (w46l2 N N) (w46I2 (a0,a1,a2,a3)) (fun y=>k0 y) (fun _=>none) (fun _=>none)
theorem w46e2 [Alg] N:w46s2 N=w46n2 N:=funext fun _=>funext fun _=>funext fun _=>funext fun _=>funext fun _=>subL_I w46ui2 _ _ _ _
def w46h2 [Alg] (N:Nat):Hint:=(.seq .d (.block (.seq (.reg [] [.nilC 5 0 (.row 5 .u8 [] true)] []) (.seq .d (.seq (.sub w46m0 _ _ _ w46X0_0 (noX 1) (noX 2) (subL w46I0 w46u0 (w46l0 N N))) (.seq (.block (.sub w46m1 _ _ _ w46X1_0 (noX 1) (noX 2) (subL w46I1 w46u1 (w46l1 N N)))) .d))))))
theorem w46hk2 N (hc:CxOk (w46c N)):HintOk (w46c N) Tryz.f46.ntmps (w46h2 N) w46b2:=hk_of _ _ (And.intro trivial (And.intro trivial (And.intro trivial (And.intro (w46S0 N hc) (And.intro (w46S1 N hc) trivial)))))
theorem w46q2 [Alg] (N:Nat) (self:Sg->O) (K:Exit->Sg->O) (x:Int×(List YF4)×Int×(List YF4)):w46F2 N (w46s0 N) (w46s1 N) (fun v0 v1 v2 v3=>self (w46I2 (v0,v1,v2,v3))) (fun y0=>K (w46X2_0 y0).1 (w46X2_0 y0).2) x.1 x.2.1 x.2.2.1 x.2.2.2=exec (w46c N) Tryz.f46.ntmps (w46h2 N) w46b2 (w46I2 x) (roundX w46m2 w46w2 self K):=by kernel_rfl
theorem w46S2 N (hc:CxOk (w46c N)):SubOk (w46c N) Tryz.f46.ntmps (.loop w46b2) w46X2_0 (noX 1) (noX 2) (subL w46I2 w46u2 (w46l2 N N)):=
 sub_loop hc (w46hk2 N hc) (oK1 w46v2_0 (.exit 0) (fun _=>by kernel_rfl) (fun _=>rfl) (by kernel_rfl)) (n:=N) (fun x K=>loop_ind (w46l2 N) (fun _ _ _ _=>rfl) (fun n K ih x=>by
  refine Eq.trans ?_ (w46q2 N _ K x);simp only [w46e0 N,w46e1 N,← ih];rfl) N x K)
def w46G [Alg] (N:Nat) (_in0:Int->(List YF4)->Int->Bool->Int->YF4->(List YF4)->(Int->(List YF4)->Int->Bool->Int->YF4->(List YF4)->O)->O) (_in1:Int->(List YF4)->Int->Bool->Int->YF4->(List YF4)->(Int->(List YF4)->Int->Bool->YF4->(List YF4)->O)->O) (in2:Int->(List YF4)->Int->(List YF4)->((List YF4)->O)->O) (s0:YF4) (width1:Int):O:=
 ck (w65p N s0) <|
 ck (l35lp N (w65y0 N s0)) <|
 ck (w34p N (l35ly0 N (w65y0 N s0))) <|
 in2 width1 (l35ly0 N (w65y0 N s0)) ((↑(w34y0 N (l35ly0 N (w65y0 N s0))).length:Int)) []
  (fun z91=>
   some (w46r0 z91))
def w46 [Alg] N s0 width1:=w46G N (w46n0 N) (w46n1 N) (w46n2 N) s0 width1
def w46h [Alg] (N:Nat):Hint:=(.seq .d (.seq .d (.seq (.reg [] [.nilC 5 1 (.row 23 (.sl .u8) [] true)] []) (.seq (.seq .d (.block (.sub w46m2 _ _ _ w46X2_0 (noX 1) (noX 2) (subL w46I2 w46u2 (w46l2 N N))))) (.seq (.reg [] [.cv 5 1 (.sl (.sl .u8))] []) .d)))))
theorem w46hk N (hc:CxOk (w46c N)):HintOk (w46c N) Tryz.f46.ntmps (w46h N) w46b:=hk_of _ _ (And.intro trivial (And.intro trivial (And.intro trivial (And.intro (And.intro trivial (w46S2 N hc)) (And.intro trivial trivial)))))
theorem w46q [Alg] N s0 width1:w46G N (w46s0 N) (w46s1 N) (w46s2 N) s0 width1=exec (w46c N) Tryz.f46.ntmps (w46h N) w46b ⟨argT 0 [.e .tx s0,.e (.i .i64) width1],[],100⟩ (finX (w46c N) Tryz.f46 false):=by kernel_rfl
def w46un (r:Res):Option ((List YF4)):=match r with
 | (x0,[])=>(match ue (.sl (.sl .u8)) x0 with | some a0=>some a0 | _=>none)
 | _=>none
theorem w46uo {r d} (h:w46un r=some d):r=w46r0 (d):=by
 unfold w46un at h;split at h
 ·split at h
  ·rename_i h0;cases h;rw [ue_some h0];rfl
  ·cases h
 ·cases h
def w46z N s0 width1:=(w46 N s0 width1).bind w46un
theorem w46fin {N} (hc:CxOk (w46c N)) {s0 width1 d} (hd:w46z N s0 width1=some d):DoK Tryz.prog 46 [.e .tx s0,.e (.i .i64) width1] [] (w46r0 (d)):=
 finJ hc (by kernel_rfl) (by kernel_rfl) (w46hk N hc) (by kernel_rfl) w46uo (fun hr=>(w46q N s0 width1).symm.trans (by rw [w46e0 N,w46e1 N,w46e2 N];exact hr)) hd
def w46p N s0 width1:=(w46z N s0 width1).isSome
def w46y0 N s0 width1:=((w46z N s0 width1).getD [])
def w46e (N:Nat):Ent':=E2 .tx (.i .i64) (fun x0 x1=>(w46p N x0 x1,w46r0 (w46y0 N x0 x1)))
theorem w46ok N:EOk Tryz.prog 46 (w46e N):=EOk.e2 (fun x0 x1 h=>okG (z:=w46z N x0 x1) h (w46fin (w46cx N)) rfl)
def w49r0 (a0:YF4) (a1:Bool):Res:=(.tup [.e .tx a0,.e .bo a1],[])
def w49c (N:Nat):Cx:=⟨Tryz.prog,99999,[(35,l35le N),(69,w69e N),(15,w15e N),(70,w70e N),(71,w71e N),(65,w65e N),(34,w34e N),(42,w42e N)],[]⟩
def w49b:Code:=Tryz.f49.body.getD .skip
theorem w49cx N:CxOk (w49c N):=ctx_ok (by kernel_rfl) (.cons (by kernel_rfl) (l35lok N) (.cons (by kernel_rfl) (w69ok N) (.cons (by kernel_rfl) (w15ok N) (.cons (by kernel_rfl) (w70ok N) (.cons (by kernel_rfl) (w71ok N) (.cons (by kernel_rfl) (w65ok N) (.cons (by kernel_rfl) (w34ok N) (.cons (by kernel_rfl) (w42ok N) .nil)))))))) .nil
def w49G [Alg] (N:Nat) (l0:YF4):O:=
 ck (w69p N l0 lF4x1) <|
 ck (w15p N (w69y0 N l0 lF4x1)) <|
 ck (w70p N (w15y0 N (w69y0 N l0 lF4x1))) <|
 br (decide (w15y1 N (w69y0 N l0 lF4x1)≠(0:Int))||decide ((w70y1 N (w15y0 N (w69y0 N l0 lF4x1)))≠(1:Nat))||decide (w70y0 N (w15y0 N (w69y0 N l0 lF4x1)) < (0:Int))||decide ((80:Int) < w70y0 N (w15y0 N (w69y0 N l0 lF4x1))))
  (some (w49r0 [] false))
  (br (w69y2 N l0 lF4x1)
   (ck (w15p N (w69y1 N l0 lF4x1)) <|
   br (decide (w15y1 N (w69y1 N l0 lF4x1)≠(0:Int)))
    (some (w49r0 [] false))
    (ck (w71p N lF4x0 (w70y0 N (w15y0 N (w69y0 N l0 lF4x1)))) <|
    ck (decide ((↑(w71y0 N lF4x0 (w70y0 N (w15y0 N (w69y0 N l0 lF4x1)))).length:Int)+(↑(w15y0 N (w69y1 N l0 lF4x1)).length:Int)<=(9223372036854775807:Int))) <|
    ck (w65p N (w71y0 N lF4x0 (w70y0 N (w15y0 N (w69y0 N l0 lF4x1)))++w15y0 N (w69y1 N l0 lF4x1))) <|
    ck (l35lp N (w65y0 N (w71y0 N lF4x0 (w70y0 N (w15y0 N (w69y0 N l0 lF4x1)))++w15y0 N (w69y1 N l0 lF4x1)))) <|
    ck (w34p N (l35ly0 N (w65y0 N (w71y0 N lF4x0 (w70y0 N (w15y0 N (w69y0 N l0 lF4x1)))++w15y0 N (w69y1 N l0 lF4x1))))) <|
    ck (w42p N (w34y0 N (l35ly0 N (w65y0 N (w71y0 N lF4x0 (w70y0 N (w15y0 N (w69y0 N l0 lF4x1)))++w15y0 N (w69y1 N l0 lF4x1))))) l0) <|
    some (w49r0 (w71y0 N lF4x0 (w70y0 N (w15y0 N (w69y0 N l0 lF4x1)))++w15y0 N (w69y1 N l0 lF4x1)) (w42y0 N (w34y0 N (l35ly0 N (w65y0 N (w71y0 N lF4x0 (w70y0 N (w15y0 N (w69y0 N l0 lF4x1)))++w15y0 N (w69y1 N l0 lF4x1))))) l0))))
   (ck (w71p N lF4x0 (w70y0 N (w15y0 N (w69y0 N l0 lF4x1)))) <|
   ck (decide ((↑(w71y0 N lF4x0 (w70y0 N (w15y0 N (w69y0 N l0 lF4x1)))).length:Int)+(0:Int)<=(9223372036854775807:Int))) <|
   ck (w65p N (w71y0 N lF4x0 (w70y0 N (w15y0 N (w69y0 N l0 lF4x1)))++[])) <|
   ck (l35lp N (w65y0 N (w71y0 N lF4x0 (w70y0 N (w15y0 N (w69y0 N l0 lF4x1)))++[]))) <|
   ck (w34p N (l35ly0 N (w65y0 N (w71y0 N lF4x0 (w70y0 N (w15y0 N (w69y0 N l0 lF4x1)))++[])))) <|
   ck (w42p N (w34y0 N (l35ly0 N (w65y0 N (w71y0 N lF4x0 (w70y0 N (w15y0 N (w69y0 N l0 lF4x1)))++[])))) l0) <|
   some (w49r0 (w71y0 N lF4x0 (w70y0 N (w15y0 N (w69y0 N l0 lF4x1)))++[]) (w42y0 N (w34y0 N (l35ly0 N (w65y0 N (w71y0 N lF4x0 (w70y0 N (w15y0 N (w69y0 N l0 lF4x1)))++[])))) l0))))
def w49 [Alg] N l0:=w49G N l0
def w49h [Alg] (_:Nat):Hint:=.d
theorem w49hk N:HintOk (w49c N) Tryz.f49.ntmps (w49h N) w49b:=hk_of _ _ trivial
theorem w49q [Alg] N l0:w49G N l0=exec (w49c N) Tryz.f49.ntmps (w49h N) w49b ⟨argT 0 [.e (.sl .u8) l0],[],100⟩ (finX (w49c N) Tryz.f49 false):=by kernel_rfl
def w49un (r:Res):Option (YF4×Bool):=match r with
 | (.tup [x0,x1],[])=>(match ue .tx x0,ue .bo x1 with | some a0,some a1=>some (a0,a1) | _,_=>none)
 | _=>none
theorem w49uo {r d} (h:w49un r=some d):r=w49r0 d.1 d.2:=by
 unfold w49un at h;split at h
 ·split at h
  ·rename_i h0 h1;cases h;rw [ue_some h0,ue_some h1];rfl
  ·cases h
 ·cases h
def w49z N l0:=(w49 N l0).bind w49un
theorem w49fin {N} (hc:CxOk (w49c N)) {l0 d} (hd:w49z N l0=some d):DoK Tryz.prog 49 [.e (.sl .u8) l0] [] (w49r0 d.1 d.2):=
 finJ hc (by kernel_rfl) (by kernel_rfl) (w49hk N) (by kernel_rfl) w49uo (w49q N l0).symm.trans hd
def w49p N l0:=(w49z N l0).isSome
def w49y0 N l0:=((w49z N l0).getD ([],false)).1
def w49y1 N l0:=((w49z N l0).getD ([],false)).2
def w49e (N:Nat):Ent':=E1 (.sl .u8) (fun x0=>(w49p N x0,w49r0 (w49y0 N x0) (w49y1 N x0)))
theorem w49ok N:EOk Tryz.prog 49 (w49e N):=EOk.e1 (fun x0 h=>okG (z:=w49z N x0) h (w49fin (w49cx N)) rfl)
def w19r0 (a0:(List YF4)) (a1:Int):Res:=(.tup [.e (.sl (.sl .u8)) a0,.e (.i .i64) a1],[])
def w19c (N:Nat):Cx:=⟨Tryz.prog,99999,[(45,w45e N),(46,w46e N)],[]⟩
def w19b:Code:=Tryz.f19.body.getD .skip
theorem w19cx N:CxOk (w19c N):=ctx_ok (by kernel_rfl) (.cons (by kernel_rfl) (w45ok N) (.cons (by kernel_rfl) (w46ok N) .nil)) .nil
def w19F0 [Alg] (N:Nat) (self:Int->(List YF4)->O) (k0:(List YF4)->O) (x0_0:Int) (x0_1:(List YF4)) (x0_2 x0_3:Int) (x0_4:(List YF4)):O:=
 br (decide (x0_3 < x0_2))
  (gx x0_1 x0_3 fun y4=>
  ck (w46p N y4 x0_0) <|
  ck (lim (x0_4++w46y0 N y4 x0_0).length (24:Nat)) <|
  self (IntKind.i64.wrap (x0_3+1)) (x0_4++w46y0 N y4 x0_0))
  (k0 x0_4)
def w19b0:Code:=atC [1,1,1,0,1,0,0] w19b
def w19m0:Nm:=⟨[1,7,16,17,18],[],[.nilR 7 (.row 23 (.sl .u8) [] true)]⟩
def w19I0 (x:Int×(List YF4)×Int×Int×(List YF4)):Sg:=⟨[(1,.e (.i .i64) x.1),(7,.own 0),(16,.e (.sl .tx) x.2.1),(17,.e (.i .i64) x.2.2.1),(18,.e (.i .i64) x.2.2.2.1)],[(0,.row 23 (.sl .u8) x.2.2.2.2 true)],100⟩
def w19u0 (σ:Sg):Int×(List YF4)×Int×Int×(List YF4):=(lvT (.i .i64) 1 0 σ,lvT (.sl .tx) 16 0 σ,lvT (.i .i64) 17 0 σ,lvT (.i .i64) 18 0 σ,lvR (.sl .u8) 0 σ)
theorem w19ui0:∀ x,w19u0 (w19I0 x)=x:=fun _=>by kernel_rfl
def w19X0_0 (y:(List YF4)):Exit×Sg:=((.exit 0),⟨[(7,.own 0)],[(0,.row 23 (.sl .u8) y true)],100⟩)
def w19v0_0 (_:Exit) (σ:Sg):(List YF4):=lvR (.sl .u8) 0 σ
def w19w0:List (Exit×Nm):=[((.exit 0),⟨[7],[],[]⟩)]
def w19l0 [Alg] (N:Nat):Nat->(Int×(List YF4)×Int×Int×(List YF4))->(((List YF4))->O)->((Unit)->O)->((Unit)->O)->O
 | 0,_,_,_,_=>none
 | n+1,x,k0,k1,k2=>w19F0 N (fun v0 v1=>w19l0 N n (x.1,x.2.1,x.2.2.1,v0,v1) k0 k1 k2) (fun y0=>k0 y0) x.1 x.2.1 x.2.2.1 x.2.2.2.1 x.2.2.2.2
def w19n0 [Alg] N a0 a1 a2 a3 a4 (k0:(List YF4)->O):=w19l0 N N (a0,a1,a2,a3,a4) (fun y=>k0 y) (fun _=>none) (fun _=>none)
def w19s0 [Alg] N a0 a1 a2 a3 a4 (k0:(List YF4)->O):=subL w19I0 w19u0 (w19l0 N N) (w19I0 (a0,a1,a2,a3,a4)) (fun y=>k0 y) (fun _=>none) (fun _=>none)
theorem w19e0 [Alg] N:w19s0 N=w19n0 N:=funext fun _=>funext fun _=>funext fun _=>funext fun _=>funext fun _=>funext fun _=>subL_I w19ui0 _ _ _ _
theorem w19q0 [Alg] (N:Nat) (self:Sg->O) (K:Exit->Sg->O) (x:Int×(List YF4)×Int×Int×(List YF4)):w19F0 N (fun v0 v1=>self (w19I0 (x.1,x.2.1,x.2.2.1,v0,v1))) (fun y0=>K (w19X0_0 y0).1 (w19X0_0 y0).2) x.1 x.2.1 x.2.2.1 x.2.2.2.1 x.2.2.2.2=exec (w19c N) Tryz.f19.ntmps .d w19b0 (w19I0 x) (roundX w19m0 w19w0 self K):=by kernel_rfl
theorem w19S0 N (hc:CxOk (w19c N)):SubOk (w19c N) Tryz.f19.ntmps (.loop w19b0) w19X0_0 (noX 1) (noX 2) (subL w19I0 w19u0 (w19l0 N N)):=
 sub_loop hc (hk_d w19b0) (oK1 w19v0_0 (.exit 0) (fun _=>by kernel_rfl) (fun _=>rfl) (by kernel_rfl)) (n:=N) (fun x K=>loop_ind (w19l0 N) (fun _ _ _ _=>rfl) (fun n K ih x=>by
  refine Eq.trans ?_ (w19q0 N _ K x);simp only [← ih];rfl) N x K)
def w19G [Alg] (N:Nat) (in0:Int->(List YF4)->Int->Int->(List YF4)->((List YF4)->O)->O) (l0:(List YF4)) (width1:Int):O:=
 ck (w45p N l0 width1) <|
 br (decide (w45y0 N l0 width1≠(0:Int)))
  (some (w19r0 [] (w45y0 N l0 width1)))
  (in0 width1 l0 ((↑l0.length:Int)) 0 []
   (fun z5=>
    some (w19r0 z5 0)))
def w19 [Alg] N l0 width1:=w19G N (w19n0 N) l0 width1
def w19h [Alg] (N:Nat):Hint:=(.seq .d (.seq .d (.seq .d (.seq (.seq .d (.block (.sub w19m0 _ _ _ w19X0_0 (noX 1) (noX 2) (subL w19I0 w19u0 (w19l0 N N))))) .d))))
theorem w19hk N (hc:CxOk (w19c N)):HintOk (w19c N) Tryz.f19.ntmps (w19h N) w19b:=hk_of _ _ (And.intro trivial (And.intro trivial (And.intro trivial (And.intro (And.intro trivial (w19S0 N hc)) trivial))))
theorem w19q [Alg] N l0 width1:w19G N (w19s0 N) l0 width1=exec (w19c N) Tryz.f19.ntmps (w19h N) w19b ⟨argT 0 [.e (.sl .tx) l0,.e (.i .i64) width1],[],100⟩ (finX (w19c N) Tryz.f19 false):=by kernel_rfl
def w19un (r:Res):Option ((List YF4)×Int):=match r with
 | (.tup [x0,x1],[])=>(match ue (.sl (.sl .u8)) x0,ue (.i .i64) x1 with | some a0,some a1=>some (a0,a1) | _,_=>none)
 | _=>none
theorem w19uo {r d} (h:w19un r=some d):r=w19r0 d.1 d.2:=by
 unfold w19un at h;split at h
 ·split at h
  ·rename_i h0 h1;cases h;rw [ue_some h0,ue_some h1];rfl
  ·cases h
 ·cases h
def w19z N l0 width1:=(w19 N l0 width1).bind w19un
theorem w19fin {N} (hc:CxOk (w19c N)) {l0 width1 d} (hd:w19z N l0 width1=some d):DoK Tryz.prog 19 [.e (.sl .tx) l0,.e (.i .i64) width1] [] (w19r0 d.1 d.2):=
 finJ hc (by kernel_rfl) (by kernel_rfl) (w19hk N hc) (by kernel_rfl) w19uo (fun hr=>(w19q N l0 width1).symm.trans (by rw [w19e0 N];exact hr)) hd
def w19p N l0 width1:=(w19z N l0 width1).isSome
def w19y0 N l0 width1:=((w19z N l0 width1).getD ([],0)).1
def w19y1 N l0 width1:=((w19z N l0 width1).getD ([],0)).2
def w19e (N:Nat):Ent':=E2 (.sl .tx) (.i .i64) (fun x0 x1=>(w19p N x0 x1,w19r0 (w19y0 N x0 x1) (w19y1 N x0 x1)))
theorem w19ok N:EOk Tryz.prog 19 (w19e N):=EOk.e2 (fun x0 x1 h=>okG (z:=w19z N x0 x1) h (w19fin (w19cx N)) rfl)
def w26r0 (a0:(List YF4)) (a1:Int):Res:=(.tup [.e (.sl .tx) a0,.e (.i .i64) a1],[])
def w26c (N:Nat):Cx:=⟨Tryz.prog,99999,[(49,w49e N),(19,w19e N),(50,w50e N),(42,w42e N)],[]⟩
def w26b:Code:=Tryz.f26.body.getD .skip
theorem w26cx N:CxOk (w26c N):=ctx_ok (by kernel_rfl) (.cons (by kernel_rfl) (w49ok N) (.cons (by kernel_rfl) (w19ok N) (.cons (by kernel_rfl) (w50ok N) (.cons (by kernel_rfl) (w42ok N) .nil)))) .nil
def w26F0 [Alg] (_:Nat) (k0:(List YF4)->Int->(List YF4)->Int->Int->Int->YF4->Bool->(List YF4)->YF4->O) (x52_0:(List YF4)) (x52_1:Int) (x52_2:(List YF4)) (x52_3 x52_4 x52_5:Int) (x52_6:YF4) (x52_7:Bool) (x52_8:(List YF4)) (x52_9:YF4):O:=
 br x52_7
  (ck (slcOk x52_6.length none (some (IntKind.i64.wrap ((↑x52_6.length:Int) - (1:Int))))) <|
  k0 x52_0 x52_1 x52_2 x52_3 x52_4 x52_5 (slc x52_6 none (some (IntKind.i64.wrap ((↑x52_6.length:Int) - (1:Int))))) x52_7 x52_8 x52_9)
  (k0 x52_0 x52_1 x52_2 x52_3 x52_4 x52_5 x52_6 x52_7 x52_8 x52_9)
def w26b0:Code:=atC [1,1,1,0,1,0,0,1,1,0,0,1,1,0] w26b
def w26m0:Nm:=⟨[0,2,3,4,5,14,15,16,6,7,8],[],[]⟩
def w26I0 (x:(List YF4)×Int×(List YF4)×Int×Int×Int×YF4×Bool×(List YF4)×YF4):Sg:=⟨[(0,.e (.sl (.sl .u8)) x.1),(2,.nilS),(3,.e (.i .i64) x.2.1),(4,.own 0),(5,.own 1),(14,.e (.sl (.sl .u8)) x.2.2.1),(15,.e (.i .i64) x.2.2.2.1),(16,.e (.i .i64) x.2.2.2.2.1),(6,.e (.i .i64) x.2.2.2.2.2.1),(7,.e (.sl .u8) x.2.2.2.2.2.2.1),(8,.e .bo x.2.2.2.2.2.2.2.1)],[(0,.row 9 .tx x.2.2.2.2.2.2.2.2.1 true),(1,.row 5 .u8 x.2.2.2.2.2.2.2.2.2 true)],100⟩
def w26u0 (σ:Sg):(List YF4)×Int×(List YF4)×Int×Int×Int×YF4×Bool×(List YF4)×YF4:=(lvT (.sl (.sl .u8)) 0 0 σ,lvT (.i .i64) 3 0 σ,lvT (.sl (.sl .u8)) 14 0 σ,lvT (.i .i64) 15 0 σ,lvT (.i .i64) 16 0 σ,lvT (.i .i64) 6 0 σ,lvT (.sl .u8) 7 0 σ,lvT .bo 8 0 σ,lvR .tx 0 σ,lvR .u8 1 σ)
theorem w26ui0:∀ x,w26u0 (w26I0 x)=x:=fun _=>by kernel_rfl
def w26X0_0 (y:(List YF4)×Int×(List YF4)×Int×Int×Int×YF4×Bool×(List YF4)×YF4):Exit×Sg:=(.normal,⟨[(0,.e (.sl (.sl .u8)) y.1),(2,.nilS),(3,.e (.i .i64) y.2.1),(4,.own 0),(5,.own 1),(14,.e (.sl (.sl .u8)) y.2.2.1),(15,.e (.i .i64) y.2.2.2.1),(16,.e (.i .i64) y.2.2.2.2.1),(6,.e (.i .i64) y.2.2.2.2.2.1),(7,.e (.sl .u8) y.2.2.2.2.2.2.1),(8,.e .bo y.2.2.2.2.2.2.2.1)],[(0,.row 9 .tx y.2.2.2.2.2.2.2.2.1 true),(1,.row 5 .u8 y.2.2.2.2.2.2.2.2.2 true)],100⟩)
def w26v0_0 (_:Exit) (σ:Sg):(List YF4)×Int×(List YF4)×Int×Int×Int×YF4×Bool×(List YF4)×YF4:=(lvT (.sl (.sl .u8)) 0 0 σ,lvT (.i .i64) 3 0 σ,lvT (.sl (.sl .u8)) 14 0 σ,lvT (.i .i64) 15 0 σ,lvT (.i .i64) 16 0 σ,lvT (.i .i64) 6 0 σ,lvT (.sl .u8) 7 0 σ,lvT .bo 8 0 σ,lvR .tx 0 σ,lvR .u8 1 σ)
def w26w0:List (Exit×Nm):=[(.normal,⟨[0,2,3,4,5,14,15,16,6,7,8],[],[]⟩)]
def w26l0 [Alg] (N:Nat) (_:Nat) (x:(List YF4)×Int×(List YF4)×Int×Int×Int×YF4×Bool×(List YF4)×YF4) (k0:((List YF4)×Int×(List YF4)×Int×Int×Int×YF4×Bool×(List YF4)×YF4)->O) (_:(Unit)->O) (_:(Unit)->O):O:=w26F0 N (fun y0 y1 y2 y3 y4 y5 y6 y7 y8 y9=>k0 (y0,y1,y2,y3,y4,y5,y6,y7,y8,y9)) x.1 x.2.1 x.2.2.1 x.2.2.2.1 x.2.2.2.2.1 x.2.2.2.2.2.1 x.2.2.2.2.2.2.1 x.2.2.2.2.2.2.2.1 x.2.2.2.2.2.2.2.2.1 x.2.2.2.2.2.2.2.2.2
def w26n0 [Alg] N a0 a1 a2 a3 a4 a5 a6 a7 a8 a9 (k0:(List YF4)->Int->(List YF4)->Int->Int->Int->YF4->Bool->(List YF4)->YF4->O):=w26l0 N N (a0,a1,a2,a3,a4,a5,a6,a7,a8,a9) (fun y=>k0 y.1 y.2.1 y.2.2.1 y.2.2.2.1 y.2.2.2.2.1 y.2.2.2.2.2.1 y.2.2.2.2.2.2.1 y.2.2.2.2.2.2.2.1 y.2.2.2.2.2.2.2.2.1 y.2.2.2.2.2.2.2.2.2) (fun _=>none) (fun _=>none)
def w26s0 [Alg] N a0 a1 a2 a3 a4 a5 a6 a7 a8 a9 (k0:(List YF4)->Int->(List YF4)->Int->Int->Int->YF4->Bool->(List YF4)->YF4->O):=subL w26I0 w26u0 (w26l0 N N) (w26I0 (a0,a1,a2,a3,a4,a5,a6,a7,a8,a9)) (fun y=>k0 y.1 y.2.1 y.2.2.1 y.2.2.2.1 y.2.2.2.2.1 y.2.2.2.2.2.1 y.2.2.2.2.2.2.1 y.2.2.2.2.2.2.2.1 y.2.2.2.2.2.2.2.2.1 y.2.2.2.2.2.2.2.2.2) (fun _=>none) (fun _=>none)
theorem w26e0 [Alg] N:w26s0 N=w26n0 N:=funext fun _=>funext fun _=>funext fun _=>funext fun _=>funext fun _=>funext fun _=>funext fun _=>funext fun _=>funext fun _=>funext fun _=>funext fun _=>subL_I w26ui0 _ _ _ _
theorem w26q0 [Alg] (N:Nat) (K:Exit->Sg->O) (x:(List YF4)×Int×(List YF4)×Int×Int×Int×YF4×Bool×(List YF4)×YF4):w26F0 N (fun y0 y1 y2 y3 y4 y5 y6 y7 y8 y9=>K (w26X0_0 (y0,y1,y2,y3,y4,y5,y6,y7,y8,y9)).1 (w26X0_0 (y0,y1,y2,y3,y4,y5,y6,y7,y8,y9)).2) x.1 x.2.1 x.2.2.1 x.2.2.2.1 x.2.2.2.2.1 x.2.2.2.2.2.1 x.2.2.2.2.2.2.1 x.2.2.2.2.2.2.2.1 x.2.2.2.2.2.2.2.2.1 x.2.2.2.2.2.2.2.2.2=exec (w26c N) Tryz.f26.ntmps .d w26b0 (w26I0 x) (partX w26w0 K):=by kernel_rfl
theorem w26S0 N (hc:CxOk (w26c N)):SubOk (w26c N) Tryz.f26.ntmps w26b0 w26X0_0 (noX 1) (noX 2) (subL w26I0 w26u0 (w26l0 N N)):=
 sub_part hc (hk_d w26b0) (oK1 w26v0_0 .normal (fun _=>by kernel_rfl) (fun _=>rfl) (by kernel_rfl)) (fun x K=>by
  exact w26q0 N K x)
def w26F1 [Alg] (N:Nat) (in0:(List YF4)->Int->(List YF4)->Int->Int->Int->YF4->Bool->(List YF4)->YF4->((List YF4)->Int->(List YF4)->Int->Int->Int->YF4->Bool->(List YF4)->YF4->O)->O) (self:(List YF4)->Int->(List YF4)->Int->Int->(List YF4)->YF4->O) (k0:Int->O) (k1:(List YF4)->(List YF4)->O) (x0_0:(List YF4)) (x0_1:Int) (x0_2:(List YF4)) (x0_3 x0_4:Int) (x0_5:(List YF4)) (x0_6:YF4):O:=
 br (decide (x0_4 < x0_3))
  (gx x0_2 x0_4 fun y50=>
  gc (decide ((0:Int) < (↑y50.length:Int))) 0 y50 (IntKind.i64.wrap ((↑y50.length:Int) - (1:Int))) fun y51=>
  in0 x0_0 x0_1 x0_2 x0_3 x0_4 x0_4 y50 (decide ((0:Int) < (↑y50.length:Int))&&decide (y51=63)) x0_5 x0_6
   (fun z53 z54 z55 z56 z57 z58 z59 z60 z61 z62=>
    ck (lim (z62++z59).length (1:Nat)) <|
    br (z60&&decide (IntKind.i64.wrap (z58+1) < (↑z53.length:Int)))
     (self z53 z54 z55 z56 (IntKind.i64.wrap (z57+1)) z61 (z62++z59))
     (ck (w49p N (z62++z59)) <|
     br (z60||!w49y1 N (z62++z59))
      (k0 2)
      (ck (lim (z61++[w49y0 N (z62++z59)]).length (16:Nat)) <|
      self z53 z54 z55 z56 (IntKind.i64.wrap (z57+1)) (z61++[w49y0 N (z62++z59)]) []))))
  (k1 x0_0 x0_5)
def w26b1:Code:=atC [1,1,1,0,1,0,0] w26b
def w26m1:Nm:=⟨[0,2,3,4,5,14,15,16],[],[.nilR 5 (.row 5 .u8 [] true),.nilR 4 (.row 9 .tx [] true)]⟩
def w26I1 (x:(List YF4)×Int×(List YF4)×Int×Int×(List YF4)×YF4):Sg:=⟨[(0,.e (.sl (.sl .u8)) x.1),(2,.nilS),(3,.e (.i .i64) x.2.1),(4,.own 0),(5,.own 1),(14,.e (.sl (.sl .u8)) x.2.2.1),(15,.e (.i .i64) x.2.2.2.1),(16,.e (.i .i64) x.2.2.2.2.1)],[(0,.row 9 .tx x.2.2.2.2.2.1 true),(1,.row 5 .u8 x.2.2.2.2.2.2 true)],100⟩
def w26u1 (σ:Sg):(List YF4)×Int×(List YF4)×Int×Int×(List YF4)×YF4:=(lvT (.sl (.sl .u8)) 0 0 σ,lvT (.i .i64) 3 0 σ,lvT (.sl (.sl .u8)) 14 0 σ,lvT (.i .i64) 15 0 σ,lvT (.i .i64) 16 0 σ,lvR .tx 0 σ,lvR .u8 1 σ)
theorem w26ui1:∀ x,w26u1 (w26I1 x)=x:=fun _=>by kernel_rfl
def w26X1_0 (y:Int):Exit×Sg:=(.ret,⟨[(2,.nilS),(3,.e (.i .i64) y)],[],100⟩)
def w26v1_0 (_:Exit) (σ:Sg):Int:=lvT (.i .i64) 3 0 σ
def w26X1_1 (y:(List YF4)×(List YF4)):Exit×Sg:=((.exit 0),⟨[(0,.e (.sl (.sl .u8)) y.1),(2,.nilS),(4,.own 0)],[(0,.row 9 .tx y.2 true)],100⟩)
def w26v1_1 (_:Exit) (σ:Sg):(List YF4)×(List YF4):=(lvT (.sl (.sl .u8)) 0 0 σ,lvR .tx 0 σ)
def w26w1:List (Exit×Nm):=[(.ret,⟨[2,3],[],[]⟩),((.exit 0),⟨[0,2,4],[],[]⟩)]
def w26l1 [Alg] (N:Nat):Nat->((List YF4)×Int×(List YF4)×Int×Int×(List YF4)×YF4)->((Int)->O)->(((List YF4)×(List YF4))->O)->((Unit)->O)->O
 | 0,_,_,_,_=>none
 | n+1,x,k0,k1,k2=>w26F1 N (w26n0 N) (fun v0 v1 v2 v3 v4 v5 v6=>w26l1 N n (v0,v1,v2,v3,v4,v5,v6) k0 k1 k2) (fun y0=>k0 y0) (fun y0 y1=>k1 (y0,y1)) x.1 x.2.1 x.2.2.1 x.2.2.2.1 x.2.2.2.2.1 x.2.2.2.2.2.1 x.2.2.2.2.2.2
def w26n1 [Alg] N a0 a1 a2 a3 a4 a5 a6 (k0:Int->O) (k1:(List YF4)->(List YF4)->O):=w26l1 N N (a0,a1,a2,a3,a4,a5,a6) (fun y=>k0 y) (fun y=>k1 y.1 y.2) (fun _=>none)
def w26s1 [Alg] N a0 a1 a2 a3 a4 a5 a6 (k0:Int->O) (k1:(List YF4)->(List YF4)->O):=subL w26I1 w26u1 (w26l1 N N) (w26I1 (a0,a1,a2,a3,a4,a5,a6)) (fun y=>k0 y) (fun y=>k1 y.1 y.2) (fun _=>none)
theorem w26e1 [Alg] N:w26s1 N=w26n1 N:=funext fun _=>funext fun _=>funext fun _=>funext fun _=>funext fun _=>funext fun _=>funext fun _=>funext fun _=>funext fun _=>subL_I w26ui1 _ _ _ _
def w26h1 [Alg] (N:Nat):Hint:=(.seq .d (.seq .d (.seq (.block (.seq .d (.seq .d (.seq (.sub w26m0 _ _ _ w26X0_0 (noX 1) (noX 2) (subL w26I0 w26u0 (w26l0 N N))) .d)))) .d)))
theorem w26hk1 N (hc:CxOk (w26c N)):HintOk (w26c N) Tryz.f26.ntmps (w26h1 N) w26b1:=hk_of _ _ (And.intro trivial (And.intro trivial (And.intro (And.intro trivial (And.intro trivial (And.intro (w26S0 N hc) trivial))) trivial)))
theorem w26q1 [Alg] (N:Nat) (self:Sg->O) (K:Exit->Sg->O) (x:(List YF4)×Int×(List YF4)×Int×Int×(List YF4)×YF4):w26F1 N (w26s0 N) (fun v0 v1 v2 v3 v4 v5 v6=>self (w26I1 (v0,v1,v2,v3,v4,v5,v6))) (fun y0=>K (w26X1_0 y0).1 (w26X1_0 y0).2) (fun y0 y1=>K (w26X1_1 (y0,y1)).1 (w26X1_1 (y0,y1)).2) x.1 x.2.1 x.2.2.1 x.2.2.2.1 x.2.2.2.2.1 x.2.2.2.2.2.1 x.2.2.2.2.2.2=exec (w26c N) Tryz.f26.ntmps (w26h1 N) w26b1 (w26I1 x) (roundX w26m1 w26w1 self K):=by kernel_rfl
theorem w26S1 N (hc:CxOk (w26c N)):SubOk (w26c N) Tryz.f26.ntmps (.loop w26b1) w26X1_0 w26X1_1 (noX 2) (subL w26I1 w26u1 (w26l1 N N)):=
 sub_loop hc (w26hk1 N hc) (oK2 w26v1_0 w26v1_1 .ret (.exit 0) (fun _=>by kernel_rfl) (fun _=>by kernel_rfl) (fun _=>rfl) (fun _=>rfl) (by kernel_rfl)) (n:=N) (fun x K=>loop_ind (w26l1 N) (fun _ _ _ _=>rfl) (fun n K ih x=>by
  refine Eq.trans ?_ (w26q1 N _ K x);simp only [w26e0 N,← ih];rfl) N x K)
def w26F2 [Alg] (N:Nat) (self:Int->O) (k0:Int->(List YF4)->O) (k1:Unit->O) (x66_0 x66_2:(List YF4)) (x66_1:Int):O:=
 br (decide (x66_1<=40))
  (ck (w19p N x66_2 x66_1) <|
  ck (!decide (w19y1 N x66_2 x66_1=(0:Int))||w50p N x66_0 (w19y0 N x66_2 x66_1)) <|
  br (decide (w19y1 N x66_2 x66_1=(0:Int))&&w50y0 N x66_0 (w19y0 N x66_2 x66_1))
   (k0 0 x66_2)
   (self (IntKind.i64.wrap (x66_1+1))))
  (k1 ())
def w26b2:Code:=atC [1,1,1,1,0,1,0,0] w26b
def w26m2:Nm:=⟨[0,2,4,11],[],[]⟩
def w26I2 (x:(List YF4)×Int×(List YF4)):Sg:=⟨[(0,.e (.sl (.sl .u8)) x.1),(2,.nilS),(4,.own 0),(11,.e (.i .i64) x.2.1)],[(0,.row 9 .tx x.2.2 true)],100⟩
def w26u2 (σ:Sg):(List YF4)×Int×(List YF4):=(lvT (.sl (.sl .u8)) 0 0 σ,lvT (.i .i64) 11 0 σ,lvR .tx 0 σ)
theorem w26ui2:∀ x,w26u2 (w26I2 x)=x:=fun _=>by kernel_rfl
def w26X2_0 (y:Int×(List YF4)):Exit×Sg:=(.ret,⟨[(2,.own 0),(3,.e (.i .i64) y.1)],[(0,.row 9 .tx y.2 true)],100⟩)
def w26v2_0 (_:Exit) (σ:Sg):Int×(List YF4):=(lvT (.i .i64) 3 0 σ,lvR .tx 0 σ)
def w26X2_1 (_:Unit):Exit×Sg:=((.exit 2),⟨[],[],100⟩)
def w26v2_1 (_:Exit) (_:Sg):Unit:=()
def w26w2:List (Exit×Nm):=[(.ret,⟨[2,3],[],[]⟩),((.exit 2),⟨[],[],[]⟩)]
def w26l2 [Alg] (N:Nat):Nat->((List YF4)×Int×(List YF4))->((Int×(List YF4))->O)->((Unit)->O)->((Unit)->O)->O
 | 0,_,_,_,_=>none
 | n+1,x,k0,k1,k2=>w26F2 N (fun v0=>w26l2 N n (x.1,v0,x.2.2) k0 k1 k2) (fun y0 y1=>k0 (y0,y1)) (fun (_:Unit)=>k1 ()) x.1 x.2.2 x.2.1
def w26n2 [Alg] N a0 a1 a2 (k0:Int->(List YF4)->O) (k1:Unit->O):=w26l2 N N (a0,a1,a2) (fun y=>k0 y.1 y.2) (fun y=>k1 y) (fun _=>none)
def w26s2 [Alg] N a0 a1 a2 (k0:Int->(List YF4)->O) (k1:Unit->O):=subL w26I2 w26u2 (w26l2 N N) (w26I2 (a0,a1,a2)) (fun y=>k0 y.1 y.2) (fun y=>k1 y) (fun _=>none)
theorem w26e2 [Alg] N:w26s2 N=w26n2 N:=funext fun _=>funext fun _=>funext fun _=>funext fun _=>funext fun _=>subL_I w26ui2 _ _ _ _
theorem w26q2 [Alg] (N:Nat) (self:Sg->O) (K:Exit->Sg->O) (x:(List YF4)×Int×(List YF4)):w26F2 N (fun v0=>self (w26I2 (x.1,v0,x.2.2))) (fun y0 y1=>K (w26X2_0 (y0,y1)).1 (w26X2_0 (y0,y1)).2) (fun (_:Unit)=>K (w26X2_1 ()).1 (w26X2_1 ()).2) x.1 x.2.2 x.2.1=exec (w26c N) Tryz.f26.ntmps .d w26b2 (w26I2 x) (roundX w26m2 w26w2 self K):=by kernel_rfl
theorem w26S2 N (hc:CxOk (w26c N)):SubOk (w26c N) Tryz.f26.ntmps (.loop w26b2) w26X2_0 w26X2_1 (noX 2) (subL w26I2 w26u2 (w26l2 N N)):=
 sub_loop hc (hk_d w26b2) (oK2 w26v2_0 w26v2_1 .ret (.exit 2) (fun _=>by kernel_rfl) (fun _=>by kernel_rfl) (fun _=>rfl) (fun _=>rfl) (by kernel_rfl)) (n:=N) (fun x K=>loop_ind (w26l2 N) (fun _ _ _ _=>rfl) (fun n K ih x=>by
  refine Eq.trans ?_ (w26q2 N _ K x);simp only [← ih];rfl) N x K)
def w26G [Alg] (_:Nat) (_in0:(List YF4)->Int->(List YF4)->Int->Int->Int->YF4->Bool->(List YF4)->YF4->((List YF4)->Int->(List YF4)->Int->Int->Int->YF4->Bool->(List YF4)->YF4->O)->O) (in1:(List YF4)->Int->(List YF4)->Int->Int->(List YF4)->YF4->(Int->O)->((List YF4)->(List YF4)->O)->O) (in2:(List YF4)->Int->(List YF4)->(Int->(List YF4)->O)->(Unit->O)->O) (p0:(List YF4)):O:=
 in1 p0 0 p0 ((↑p0.length:Int)) 0 [] []
  (fun z63=>
   some (w26r0 [] z63))
  (fun z64 z65=>
   in2 z64 4 z65
    (fun z67 z68=>
     some (w26r0 z68 z67))
    (fun (_:Unit)=>
     some (w26r0 [] 2)))
def w26 [Alg] N p0:=w26G N (w26n0 N) (w26n1 N) (w26n2 N) p0
def w26h [Alg] (N:Nat):Hint:=(.seq .d (.seq .d (.seq .d (.seq (.seq .d (.block (.sub w26m1 _ _ _ w26X1_0 w26X1_1 (noX 2) (subL w26I1 w26u1 (w26l1 N N))))) (.seq (.seq .d (.block (.sub w26m2 _ _ _ w26X2_0 w26X2_1 (noX 2) (subL w26I2 w26u2 (w26l2 N N))))) .d)))))
theorem w26hk N (hc:CxOk (w26c N)):HintOk (w26c N) Tryz.f26.ntmps (w26h N) w26b:=hk_of _ _ (And.intro trivial (And.intro trivial (And.intro trivial (And.intro (And.intro trivial (w26S1 N hc)) (And.intro (And.intro trivial (w26S2 N hc)) trivial)))))
theorem w26q [Alg] N p0:w26G N (w26s0 N) (w26s1 N) (w26s2 N) p0=exec (w26c N) Tryz.f26.ntmps (w26h N) w26b ⟨argT 0 [.e (.sl (.sl .u8)) p0],[],100⟩ (finX (w26c N) Tryz.f26 false):=by kernel_rfl
def w26un (r:Res):Option ((List YF4)×Int):=match r with
 | (.tup [x0,x1],[])=>(match ue (.sl .tx) x0,ue (.i .i64) x1 with | some a0,some a1=>some (a0,a1) | _,_=>none)
 | _=>none
theorem w26uo {r d} (h:w26un r=some d):r=w26r0 d.1 d.2:=by
 unfold w26un at h;split at h
 ·split at h
  ·rename_i h0 h1;cases h;rw [ue_some h0,ue_some h1];rfl
  ·cases h
 ·cases h
def w26z N p0:=(w26 N p0).bind w26un
theorem w26fin {N} (hc:CxOk (w26c N)) {p0 d} (hd:w26z N p0=some d):DoK Tryz.prog 26 [.e (.sl (.sl .u8)) p0] [] (w26r0 d.1 d.2):=
 finJ hc (by kernel_rfl) (by kernel_rfl) (w26hk N hc) (by kernel_rfl) w26uo (fun hr=>(w26q N p0).symm.trans (by rw [w26e0 N,w26e1 N,w26e2 N];exact hr)) hd
def w26p N p0:=(w26z N p0).isSome
def w26y0 N p0:=((w26z N p0).getD ([],0)).1
def w26y1 N p0:=((w26z N p0).getD ([],0)).2
def w26e (N:Nat):Ent':=E1 (.sl (.sl .u8)) (fun x0=>(w26p N x0,w26r0 (w26y0 N x0) (w26y1 N x0)))
theorem w26ok N:EOk Tryz.prog 26 (w26e N):=EOk.e1 (fun x0 h=>okG (z:=w26z N x0) h (w26fin (w26cx N)) rfl)
def w21r0 (a0:(List Int)) (a1:Int):Res:=(.tup [.e (.sl (.i .i64)) a0,.e (.i .i64) a1],[])
def w21c (N:Nat):Cx:=⟨Tryz.prog,99999,[(45,w45e N),(46,w46e N)],[]⟩
def w21b:Code:=Tryz.f21.body.getD .skip
theorem w21cx N:CxOk (w21c N):=ctx_ok (by kernel_rfl) (.cons (by kernel_rfl) (w45ok N) (.cons (by kernel_rfl) (w46ok N) .nil)) .nil
def w21F0 [Alg] (N:Nat) (self:Int->(List Int)->O) (k0:(List Int)->O) (x0_0:Int) (x0_1:(List YF4)) (x0_2 x0_3:Int) (x0_4:(List Int)):O:=
 br (decide (x0_3 < x0_2))
  (gx x0_1 x0_3 fun y4=>
  ck (w46p N y4 x0_0) <|
  ck (lim (x0_4++[(↑(w46y0 N y4 x0_0).length:Int)]).length (8:Nat)) <|
  self (IntKind.i64.wrap (x0_3+1)) (x0_4++[(↑(w46y0 N y4 x0_0).length:Int)]))
  (k0 x0_4)
def w21b0:Code:=atC [1,1,1,0,1,0,0] w21b
def w21m0:Nm:=⟨[1,7,16,17,18],[],[.nilR 7 (.row 3 (.i .i64) [] true)]⟩
def w21I0 (x:Int×(List YF4)×Int×Int×(List Int)):Sg:=⟨[(1,.e (.i .i64) x.1),(7,.own 0),(16,.e (.sl .tx) x.2.1),(17,.e (.i .i64) x.2.2.1),(18,.e (.i .i64) x.2.2.2.1)],[(0,.row 3 (.i .i64) x.2.2.2.2 true)],100⟩
def w21u0 (σ:Sg):Int×(List YF4)×Int×Int×(List Int):=(lvT (.i .i64) 1 0 σ,lvT (.sl .tx) 16 0 σ,lvT (.i .i64) 17 0 σ,lvT (.i .i64) 18 0 σ,lvR (.i .i64) 0 σ)
theorem w21ui0:∀ x,w21u0 (w21I0 x)=x:=fun _=>by kernel_rfl
def w21X0_0 (y:(List Int)):Exit×Sg:=((.exit 0),⟨[(7,.own 0)],[(0,.row 3 (.i .i64) y true)],100⟩)
def w21v0_0 (_:Exit) (σ:Sg):(List Int):=lvR (.i .i64) 0 σ
def w21w0:List (Exit×Nm):=[((.exit 0),⟨[7],[],[]⟩)]
def w21l0 [Alg] (N:Nat):Nat->(Int×(List YF4)×Int×Int×(List Int))->(((List Int))->O)->((Unit)->O)->((Unit)->O)->O
 | 0,_,_,_,_=>none
 | n+1,x,k0,k1,k2=>w21F0 N (fun v0 v1=>w21l0 N n (x.1,x.2.1,x.2.2.1,v0,v1) k0 k1 k2) (fun y0=>k0 y0) x.1 x.2.1 x.2.2.1 x.2.2.2.1 x.2.2.2.2
def w21n0 [Alg] N a0 a1 a2 a3 a4 (k0:(List Int)->O):=w21l0 N N (a0,a1,a2,a3,a4) (fun y=>k0 y) (fun _=>none) (fun _=>none)
def w21s0 [Alg] N a0 a1 a2 a3 a4 (k0:(List Int)->O):=subL w21I0 w21u0 (w21l0 N N) (w21I0 (a0,a1,a2,a3,a4)) (fun y=>k0 y) (fun _=>none) (fun _=>none)
theorem w21e0 [Alg] N:w21s0 N=w21n0 N:=funext fun _=>funext fun _=>funext fun _=>funext fun _=>funext fun _=>funext fun _=>subL_I w21ui0 _ _ _ _
theorem w21q0 [Alg] (N:Nat) (self:Sg->O) (K:Exit->Sg->O) (x:Int×(List YF4)×Int×Int×(List Int)):w21F0 N (fun v0 v1=>self (w21I0 (x.1,x.2.1,x.2.2.1,v0,v1))) (fun y0=>K (w21X0_0 y0).1 (w21X0_0 y0).2) x.1 x.2.1 x.2.2.1 x.2.2.2.1 x.2.2.2.2=exec (w21c N) Tryz.f21.ntmps .d w21b0 (w21I0 x) (roundX w21m0 w21w0 self K):=by kernel_rfl
theorem w21S0 N (hc:CxOk (w21c N)):SubOk (w21c N) Tryz.f21.ntmps (.loop w21b0) w21X0_0 (noX 1) (noX 2) (subL w21I0 w21u0 (w21l0 N N)):=
 sub_loop hc (hk_d w21b0) (oK1 w21v0_0 (.exit 0) (fun _=>by kernel_rfl) (fun _=>rfl) (by kernel_rfl)) (n:=N) (fun x K=>loop_ind (w21l0 N) (fun _ _ _ _=>rfl) (fun n K ih x=>by
  refine Eq.trans ?_ (w21q0 N _ K x);simp only [← ih];rfl) N x K)
def w21G [Alg] (N:Nat) (in0:Int->(List YF4)->Int->Int->(List Int)->((List Int)->O)->O) (l0:(List YF4)) (width1:Int):O:=
 ck (w45p N l0 width1) <|
 br (decide (w45y0 N l0 width1≠(0:Int)))
  (some (w21r0 [] (w45y0 N l0 width1)))
  (in0 width1 l0 ((↑l0.length:Int)) 0 []
   (fun z5=>
    some (w21r0 z5 0)))
def w21 [Alg] N l0 width1:=w21G N (w21n0 N) l0 width1
def w21h [Alg] (N:Nat):Hint:=(.seq .d (.seq .d (.seq .d (.seq (.seq .d (.block (.sub w21m0 _ _ _ w21X0_0 (noX 1) (noX 2) (subL w21I0 w21u0 (w21l0 N N))))) .d))))
theorem w21hk N (hc:CxOk (w21c N)):HintOk (w21c N) Tryz.f21.ntmps (w21h N) w21b:=hk_of _ _ (And.intro trivial (And.intro trivial (And.intro trivial (And.intro (And.intro trivial (w21S0 N hc)) trivial))))
theorem w21q [Alg] N l0 width1:w21G N (w21s0 N) l0 width1=exec (w21c N) Tryz.f21.ntmps (w21h N) w21b ⟨argT 0 [.e (.sl .tx) l0,.e (.i .i64) width1],[],100⟩ (finX (w21c N) Tryz.f21 false):=by kernel_rfl
def w21un (r:Res):Option ((List Int)×Int):=match r with
 | (.tup [x0,x1],[])=>(match ue (.sl (.i .i64)) x0,ue (.i .i64) x1 with | some a0,some a1=>some (a0,a1) | _,_=>none)
 | _=>none
theorem w21uo {r d} (h:w21un r=some d):r=w21r0 d.1 d.2:=by
 unfold w21un at h;split at h
 ·split at h
  ·rename_i h0 h1;cases h;rw [ue_some h0,ue_some h1];rfl
  ·cases h
 ·cases h
def w21z N l0 width1:=(w21 N l0 width1).bind w21un
theorem w21fin {N} (hc:CxOk (w21c N)) {l0 width1 d} (hd:w21z N l0 width1=some d):DoK Tryz.prog 21 [.e (.sl .tx) l0,.e (.i .i64) width1] [] (w21r0 d.1 d.2):=
 finJ hc (by kernel_rfl) (by kernel_rfl) (w21hk N hc) (by kernel_rfl) w21uo (fun hr=>(w21q N l0 width1).symm.trans (by rw [w21e0 N];exact hr)) hd
def w21p N l0 width1:=(w21z N l0 width1).isSome
def w21y0 N l0 width1:=((w21z N l0 width1).getD ([],0)).1
def w21y1 N l0 width1:=((w21z N l0 width1).getD ([],0)).2
def w21e (N:Nat):Ent':=E2 (.sl .tx) (.i .i64) (fun x0 x1=>(w21p N x0 x1,w21r0 (w21y0 N x0 x1) (w21y1 N x0 x1)))
theorem w21ok N:EOk Tryz.prog 21 (w21e N):=EOk.e2 (fun x0 x1 h=>okG (z:=w21z N x0 x1) h (w21fin (w21cx N)) rfl)
end
end Go.Proofs
