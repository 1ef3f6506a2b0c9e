/- How rules are read. Conditions are in the theorems. -/
import Derived.Test.YtipllfcmdnellaaDoorE7
import Derived.Test.YtipllfcmdnellaaDoorProg
import Derived.KernelRfl
import Derived.Test.YtipllfcmdnellaaDoorF1
/- What functions do. -/
namespace Go.Proofs
noncomputable section
open Go.Ax Go.Ax.Alg Go.RowKit Go.Ab
open Go
abbrev YF2:=List UInt8
abbrev lF2x0:List UInt8:=[(114:UInt8),(101:UInt8),(115:UInt8),(116:UInt8),(111:UInt8),(114:UInt8),(101:UInt8)]
abbrev lF2x1:List UInt8:=[(115:UInt8),(116:UInt8),(114:UInt8),(105:UInt8),(107:UInt8),(101:UInt8)]
abbrev lF2x2:List UInt8:=[(114:UInt8),(101:UInt8),(116:UInt8),(97:UInt8),(107:UInt8),(101:UInt8)]
abbrev lF2x3:List UInt8:=[(97:UInt8),(108:UInt8),(119:UInt8),(97:UInt8),(121:UInt8),(115:UInt8)]
abbrev lF2x4:List UInt8:=[(108:UInt8),(101:UInt8),(97:UInt8),(115:UInt8),(116:UInt8)]
abbrev lF2x5:List UInt8:=[(109:UInt8),(111:UInt8),(115:UInt8),(116:UInt8)]
abbrev lF2x6:List UInt8:=[(110:UInt8),(111:UInt8),(116:UInt8)]
abbrev lF2x7:List UInt8:=[(97:UInt8),(110:UInt8),(100:UInt8)]
abbrev lF2x8:List UInt8:=[(105:UInt8),(102:UInt8)]
abbrev lF2x9:List UInt8:=[(102:UInt8)]
def w41r0 (a0:(List (YF2×Int))) (a1:Int):Res:=(.tup [.e (.sl (.pr .tx (.i .i64))) a0,.e (.i .i64) a1],[])
def w41c (_:Nat):Cx:=⟨Tryd.prog,99999,[],[]⟩
def w41b:Code:=Tryd.f41.body.getD .skip
theorem w41cx N:CxOk (w41c N):=ctx_ok (by kernel_rfl) .nil .nil
def w41F0 [Alg] (_:Nat) (self:Int->O) (k0:YF2->Int->Int->(List (YF2×Int))->O) (x39_0:YF2) (_x39_2:Bool) (x39_3:Int) (x39_4:(List (YF2×Int))) (x39_1:Int):O:=
 gc (decide (x39_1 < (↑x39_0.length:Int))) 0 x39_0 x39_1 fun y44=>
 gc (decide (x39_1 < (↑x39_0.length:Int))&&decide (32 < y44)) 0 x39_0 x39_1 fun y45=>
 br (decide (x39_1 < (↑x39_0.length:Int))&&decide (32 < y44)&&decide (y45 < 127))
  (self (IntKind.i64.wrap (x39_1+1)))
  (k0 x39_0 x39_1 x39_3 x39_4)
def w41b0:Code:=atC [1,1,0,1,0,0,1,0,1,0,0,0] w41b
def w41m0:Nm:=⟨[0,4,5,10,6],[],[]⟩
def w41I0 (x:YF2×Int×Bool×Int×(List (YF2×Int))):Sg:=⟨[(0,.e .tx x.1),(4,.own 0),(5,.e (.i .i64) x.2.1),(10,.e .bo x.2.2.1),(6,.e (.i .i64) x.2.2.2.1)],[(0,.row 92 (.pr .tx (.i .i64)) x.2.2.2.2 true)],100⟩
def w41u0 (σ:Sg):YF2×Int×Bool×Int×(List (YF2×Int)):=(lvT .tx 0 0 σ,lvT (.i .i64) 5 0 σ,lvT .bo 10 0 σ,lvT (.i .i64) 6 0 σ,lvR (.pr .tx (.i .i64)) 0 σ)
theorem w41ui0:∀ x,w41u0 (w41I0 x)=x:=fun _=>by kernel_rfl
def w41X0_0 (y:YF2×Int×Int×(List (YF2×Int))):Exit×Sg:=((.exit 2),⟨[(0,.e .tx y.1),(4,.own 0),(5,.e (.i .i64) y.2.1),(6,.e (.i .i64) y.2.2.1)],[(0,.row 92 (.pr .tx (.i .i64)) y.2.2.2 true)],100⟩)
def w41v0_0 (_:Exit) (σ:Sg):YF2×Int×Int×(List (YF2×Int)):=(lvT .tx 0 0 σ,lvT (.i .i64) 5 0 σ,lvT (.i .i64) 6 0 σ,lvR (.pr .tx (.i .i64)) 0 σ)
def w41w0:List (Exit×Nm):=[((.exit 2),⟨[0,4,5,6],[],[]⟩)]
def w41l0 [Alg] (N:Nat):Nat->(YF2×Int×Bool×Int×(List (YF2×Int)))->((YF2×Int×Int×(List (YF2×Int)))->O)->((Unit)->O)->((Unit)->O)->O
 | 0,_,_,_,_=>none
 | n+1,x,k0,k1,k2=>w41F0 N (fun v0=>w41l0 N n (x.1,v0,x.2.2.1,x.2.2.2.1,x.2.2.2.2) k0 k1 k2) (fun y0 y1 y2 y3=>k0 (y0,y1,y2,y3)) x.1 x.2.2.1 x.2.2.2.1 x.2.2.2.2 x.2.1
def w41n0 [Alg] N a0 a1 a2 a3 a4 (k0:YF2->Int->Int->(List (YF2×Int))->O):=w41l0 N N (a0,a1,a2,a3,a4) (fun y=>k0 y.1 y.2.1 y.2.2.1 y.2.2.2) (fun _=>none) (fun _=>none)
def w41s0 [Alg] N a0 a1 a2 a3 a4 (k0:YF2->Int->Int->(List (YF2×Int))->O):=subL w41I0 w41u0 (w41l0 N N) (w41I0 (a0,a1,a2,a3,a4)) (fun y=>k0 y.1 y.2.1 y.2.2.1 y.2.2.2) (fun _=>none) (fun _=>none)
theorem w41e0 [Alg] N:w41s0 N=w41n0 N:=funext fun _=>funext fun _=>funext fun _=>funext fun _=>funext fun _=>funext fun _=>subL_I w41ui0 _ _ _ _
theorem w41q0 [Alg] (N:Nat) (self:Sg->O) (K:Exit->Sg->O) (x:YF2×Int×Bool×Int×(List (YF2×Int))):w41F0 N (fun v0=>self (w41I0 (x.1,v0,x.2.2.1,x.2.2.2.1,x.2.2.2.2))) (fun y0 y1 y2 y3=>K (w41X0_0 (y0,y1,y2,y3)).1 (w41X0_0 (y0,y1,y2,y3)).2) x.1 x.2.2.1 x.2.2.2.1 x.2.2.2.2 x.2.1=exec (w41c N) Tryd.f41.ntmps .d w41b0 (w41I0 x) (roundX w41m0 w41w0 self K):=by kernel_rfl
theorem w41S0 N (hc:CxOk (w41c N)):SubOk (w41c N) Tryd.f41.ntmps (.loop w41b0) w41X0_0 (noX 1) (noX 2) (subL w41I0 w41u0 (w41l0 N N)):=
 sub_loop hc (hk_d w41b0) (oK1 w41v0_0 (.exit 2) (fun _=>by kernel_rfl) (fun _=>rfl) (by kernel_rfl)) (n:=N) (fun x K=>loop_ind (w41l0 N) (fun _ _ _ _=>rfl) (fun n K ih x=>by
  refine Eq.trans ?_ (w41q0 N _ K x);simp only [← ih];rfl) N x K)
def w41F1 [Alg] (_:Nat) (in0:YF2->Int->Bool->Int->(List (YF2×Int))->(YF2->Int->Int->(List (YF2×Int))->O)->O) (self:YF2->Int->(List (YF2×Int))->O) (k0:Int->(List (YF2×Int))->O) (k1:YF2->(List (YF2×Int))->O) (x0_0:YF2) (x0_1:Int) (x0_2:(List (YF2×Int))):O:=
 br (decide (x0_1 < (↑x0_0.length:Int)))
  (in0 x0_0 x0_1 (decide (x0_1 < (↑x0_0.length:Int))) x0_1 x0_2
   (fun z46 z47 z48 z49=>
    br (decide (z48 < z47))
     (ck (slcOk z46.length (some z48) (some z47)) <|
     ck (lim (z49++[(slc z46 (some z48) (some z47),z48)]).length (24:Nat)) <|
     self z46 z47 (z49++[(slc z46 (some z48) (some z47),z48)]))
     (gx z46 z47 fun y50=>
     gc (!decide (y50=32)) 0 z46 z47 fun y51=>
     br (decide (y50=32)||decide (y51=10))
      (self z46 (IntKind.i64.wrap (z47+1)) z49)
      (k0 z47 z49))))
  (k1 x0_0 x0_2)
def w41b1:Code:=atC [1,1,0,1,0,0] w41b
def w41m1:Nm:=⟨[0,4,5],[],[.nilR 4 (.row 92 (.pr .tx (.i .i64)) [] true)]⟩
def w41I1 (x:YF2×Int×(List (YF2×Int))):Sg:=⟨[(0,.e .tx x.1),(4,.own 0),(5,.e (.i .i64) x.2.1)],[(0,.row 92 (.pr .tx (.i .i64)) x.2.2 true)],100⟩
def w41u1 (σ:Sg):YF2×Int×(List (YF2×Int)):=(lvT .tx 0 0 σ,lvT (.i .i64) 5 0 σ,lvR (.pr .tx (.i .i64)) 0 σ)
theorem w41ui1:∀ x,w41u1 (w41I1 x)=x:=fun _=>by kernel_rfl
def w41X1_0 (y:Int×(List (YF2×Int))):Exit×Sg:=(.ret,⟨[(2,.own 0),(3,.e (.i .i64) y.1)],[(0,.row 92 (.pr .tx (.i .i64)) y.2 true)],100⟩)
def w41v1_0 (_:Exit) (σ:Sg):Int×(List (YF2×Int)):=(lvT (.i .i64) 3 0 σ,lvR (.pr .tx (.i .i64)) 0 σ)
def w41X1_1 (y:YF2×(List (YF2×Int))):Exit×Sg:=((.exit 0),⟨[(0,.e .tx y.1),(4,.own 0)],[(0,.row 92 (.pr .tx (.i .i64)) y.2 true)],100⟩)
def w41v1_1 (_:Exit) (σ:Sg):YF2×(List (YF2×Int)):=(lvT .tx 0 0 σ,lvR (.pr .tx (.i .i64)) 0 σ)
def w41w1:List (Exit×Nm):=[(.ret,⟨[2,3],[],[]⟩),((.exit 0),⟨[0,4],[],[]⟩)]
def w41l1 [Alg] (N:Nat):Nat->(YF2×Int×(List (YF2×Int)))->((Int×(List (YF2×Int)))->O)->((YF2×(List (YF2×Int)))->O)->((Unit)->O)->O
 | 0,_,_,_,_=>none
 | n+1,x,k0,k1,k2=>w41F1 N (w41n0 N) (fun v0 v1 v2=>w41l1 N n (v0,v1,v2) k0 k1 k2) (fun y0 y1=>k0 (y0,y1)) (fun y0 y1=>k1 (y0,y1)) x.1 x.2.1 x.2.2
def w41n1 [Alg] N a0 a1 a2 (k0:Int->(List (YF2×Int))->O) (k1:YF2->(List (YF2×Int))->O):=w41l1 N N (a0,a1,a2) (fun y=>k0 y.1 y.2) (fun y=>k1 y.1 y.2) (fun _=>none)
def w41s1 [Alg] N a0 a1 a2 (k0:Int->(List (YF2×Int))->O) (k1:YF2->(List (YF2×Int))->O):=subL w41I1 w41u1 (w41l1 N N) (w41I1 (a0,a1,a2)) (fun y=>k0 y.1 y.2) (fun y=>k1 y.1 y.2) (fun _=>none)
theorem w41e1 [Alg] N:w41s1 N=w41n1 N:=funext fun _=>funext fun _=>funext fun _=>funext fun _=>funext fun _=>subL_I w41ui1 _ _ _ _
def w41h1 [Alg] (N:Nat):Hint:=(.seq .d (.block (.seq .d (.seq (.block (.sub w41m0 _ _ _ w41X0_0 (noX 1) (noX 2) (subL w41I0 w41u0 (w41l0 N N)))) .d))))
theorem w41hk1 N (hc:CxOk (w41c N)):HintOk (w41c N) Tryd.f41.ntmps (w41h1 N) w41b1:=hk_of _ _ (And.intro trivial (And.intro trivial (And.intro (w41S0 N hc) trivial)))
theorem w41q1 [Alg] (N:Nat) (self:Sg->O) (K:Exit->Sg->O) (x:YF2×Int×(List (YF2×Int))):w41F1 N (w41s0 N) (fun v0 v1 v2=>self (w41I1 (v0,v1,v2))) (fun y0 y1=>K (w41X1_0 (y0,y1)).1 (w41X1_0 (y0,y1)).2) (fun y0 y1=>K (w41X1_1 (y0,y1)).1 (w41X1_1 (y0,y1)).2) x.1 x.2.1 x.2.2=exec (w41c N) Tryd.f41.ntmps (w41h1 N) w41b1 (w41I1 x) (roundX w41m1 w41w1 self K):=by kernel_rfl
theorem w41S1 N (hc:CxOk (w41c N)):SubOk (w41c N) Tryd.f41.ntmps (.loop w41b1) w41X1_0 w41X1_1 (noX 2) (subL w41I1 w41u1 (w41l1 N N)):=
 sub_loop hc (w41hk1 N hc) (oK2 w41v1_0 w41v1_1 .ret (.exit 0) (fun _=>by kernel_rfl) (fun _=>by kernel_rfl) (fun _=>rfl) (fun _=>rfl) (by kernel_rfl)) (n:=N) (fun x K=>loop_ind (w41l1 N) (fun _ _ _ _=>rfl) (fun n K ih x=>by
  refine Eq.trans ?_ (w41q1 N _ K x);simp only [w41e0 N,← ih];rfl) N x K)
def w41G [Alg] (_:Nat) (_in0:YF2->Int->Bool->Int->(List (YF2×Int))->(YF2->Int->Int->(List (YF2×Int))->O)->O) (in1:YF2->Int->(List (YF2×Int))->(Int->(List (YF2×Int))->O)->(YF2->(List (YF2×Int))->O)->O) (s0:YF2):O:=
 in1 s0 0 []
  (fun z52 z53=>
   some (w41r0 z53 z52))
  (fun z54 z55=>
   some (w41r0 z55 ((↑z54.length:Int))))
def w41 [Alg] N s0:=w41G N (w41n0 N) (w41n1 N) s0
def w41h [Alg] (N:Nat):Hint:=(.seq .d (.seq .d (.seq (.seq .d (.block (.sub w41m1 _ _ _ w41X1_0 w41X1_1 (noX 2) (subL w41I1 w41u1 (w41l1 N N))))) .d)))
theorem w41hk N (hc:CxOk (w41c N)):HintOk (w41c N) Tryd.f41.ntmps (w41h N) w41b:=hk_of _ _ (And.intro trivial (And.intro trivial (And.intro (And.intro trivial (w41S1 N hc)) trivial)))
theorem w41q [Alg] N s0:w41G N (w41s0 N) (w41s1 N) s0=exec (w41c N) Tryd.f41.ntmps (w41h N) w41b ⟨argT 0 [.e .tx s0],[],100⟩ (finX (w41c N) Tryd.f41 false):=by kernel_rfl
def w41un (r:Res):Option ((List (YF2×Int))×Int):=match r with
 | (.tup [x0,x1],[])=>(match ue (.sl (.pr .tx (.i .i64))) x0,ue (.i .i64) x1 with | some a0,some a1=>some (a0,a1) | _,_=>none)
 | _=>none
theorem w41uo {r d} (h:w41un r=some d):r=w41r0 d.1 d.2:=by
 unfold w41un at h;split at h
 ·split at h
  ·rename_i h0 h1;cases h;rw [ue_some h0,ue_some h1];rfl
  ·cases h
 ·cases h
def w41z N s0:=(w41 N s0).bind w41un
theorem w41fin {N} (hc:CxOk (w41c N)) {s0 d} (hd:w41z N s0=some d):DoK Tryd.prog 41 [.e .tx s0] [] (w41r0 d.1 d.2):=
 finJ hc (by kernel_rfl) (by kernel_rfl) (w41hk N hc) (by kernel_rfl) w41uo (fun hr=>(w41q N s0).symm.trans (by rw [w41e0 N,w41e1 N];exact hr)) hd
def w41p N s0:=(w41z N s0).isSome
def w41y0 N s0:=((w41z N s0).getD ([],0)).1
def w41y1 N s0:=((w41z N s0).getD ([],0)).2
def w41e (N:Nat):Ent':=E1 .tx (fun x0=>(w41p N x0,w41r0 (w41y0 N x0) (w41y1 N x0)))
theorem w41ok N:EOk Tryd.prog 41 (w41e N):=EOk.e1 (fun x0 h=>okG (z:=w41z N x0) h (w41fin (w41cx N)) rfl)
def w58r0 (a0:YF2) (a1:(List (YF2×Int))) (a2:Int) (a3:Bool):Res:=(.e .tx a0,[(50,.box 89 [.e (.sl (.pr .tx (.i .i64))) a1,.e (.i .i64) a2,.e .bo a3])])
def w58c (_:Nat):Cx:=⟨Tryd.prog,99999,[],[]⟩
def w58b:Code:=Tryd.f58.body.getD .skip
theorem w58cx N:CxOk (w58c N):=ctx_ok (by kernel_rfl) .nil .nil
def w58G [Alg] (_:Nat) (h50_0:(List (YF2×Int))) (h50_1:Int) (h50_2:Bool):O:=
 br (decide (h50_1 < (↑h50_0.length:Int)))
  (gx h50_0 h50_1 fun y0=>
  some (w58r0 y0.1 h50_0 h50_1 h50_2))
  (some (w58r0 [] h50_0 h50_1 h50_2))
def w58 [Alg] N h50_0 h50_1 h50_2:=w58G N h50_0 h50_1 h50_2
def w58h [Alg] (_:Nat):Hint:=.d
theorem w58hk N:HintOk (w58c N) Tryd.f58.ntmps (w58h N) w58b:=hk_of _ _ trivial
theorem w58q [Alg] N h50_0 h50_1 h50_2:w58G N h50_0 h50_1 h50_2=exec (w58c N) Tryd.f58.ntmps (w58h N) w58b ⟨argT 0 [.ref 50 0],[(50,.box 89 [.e (.sl (.pr .tx (.i .i64))) h50_0,.e (.i .i64) h50_1,.e .bo h50_2])],100⟩ (finX (w58c N) Tryd.f58 true):=by kernel_rfl
def w58un (r:Res):Option (YF2×(List (YF2×Int))×Int×Bool):=match r with
 | (x0,[(50,.box 89 [x1,x2,x3])])=>(match ue .tx x0,ue (.sl (.pr .tx (.i .i64))) x1,ue (.i .i64) x2,ue .bo x3 with | some a0,some a1,some a2,some a3=>some (a0,a1,a2,a3) | _,_,_,_=>none)
 | _=>none
theorem w58uo {r d} (h:w58un r=some d):r=w58r0 d.1 d.2.1 d.2.2.1 d.2.2.2:=by
 unfold w58un at h;split at h
 ·split at h
  ·rename_i h0 h1 h2 h3;cases h;rw [ue_some h0,ue_some h1,ue_some h2,ue_some h3];rfl
  ·cases h
 ·cases h
def w58z N h50_0 h50_1 h50_2:=(w58 N h50_0 h50_1 h50_2).bind w58un
theorem w58fin {N} (hc:CxOk (w58c N)) {h50_0 h50_1 h50_2 d} (hd:w58z N h50_0 h50_1 h50_2=some d):DoK Tryd.prog 58 [.ref 50 0] [(50,.box 89 [.e (.sl (.pr .tx (.i .i64))) h50_0,.e (.i .i64) h50_1,.e .bo h50_2])] (w58r0 d.1 d.2.1 d.2.2.1 d.2.2.2):=
 finJ hc (by kernel_rfl) (by kernel_rfl) (w58hk N) (by kernel_rfl) w58uo (w58q N h50_0 h50_1 h50_2).symm.trans hd
def w58p N h50_0 h50_1 h50_2:=(w58z N h50_0 h50_1 h50_2).isSome
def w58y0 N h50_0 h50_1 h50_2:=((w58z N h50_0 h50_1 h50_2).getD ([],[],0,false)).1
def w58y1 N h50_0 h50_1 h50_2:=((w58z N h50_0 h50_1 h50_2).getD ([],[],0,false)).2.1
def w58y2 N h50_0 h50_1 h50_2:=((w58z N h50_0 h50_1 h50_2).getD ([],[],0,false)).2.2.1
def w58y3 N h50_0 h50_1 h50_2:=((w58z N h50_0 h50_1 h50_2).getD ([],[],0,false)).2.2.2
def w58in (xs:List X) (H:XH):Option ((List (YF2×Int))×Int×Bool):=match xs,H with
 | [.ref 50 0],[(50,.box 89 [x0,x1,x2])]=>(match ue (.sl (.pr .tx (.i .i64))) x0,ue (.i .i64) x1,ue .bo x2 with | some a0,some a1,some a2=>some (a0,a1,a2) | _,_,_=>none)
 | _,_=>none
theorem w58io {xs H d} (h:w58in xs H=some d):xs=[.ref 50 0]/\H=[(50,.box 89 [.e (.sl (.pr .tx (.i .i64))) d.1,.e (.i .i64) d.2.1,.e .bo d.2.2])]:=by
 unfold w58in at h;split at h
 ·split at h
  ·rename_i h0 h1 h2;cases h;rw [ue_some h0,ue_some h1,ue_some h2];exact ⟨rfl,rfl⟩
  ·cases h
 ·cases h
def w58e (N:Nat):Ent':=entR w58in (fun d=>w58p N d.1 d.2.1 d.2.2) (fun d=>w58r0 (w58y0 N d.1 d.2.1 d.2.2) (w58y1 N d.1 d.2.1 d.2.2) (w58y2 N d.1 d.2.1 d.2.2) (w58y3 N d.1 d.2.1 d.2.2))
theorem w58ok N:EOk Tryd.prog 58 (w58e N):=entR_ok w58io (fun d h=>okG (z:=w58z N d.1 d.2.1 d.2.2) h (w58fin (w58cx N)) rfl)
def w65r0 (a0:Int):Res:=(.e (.i .i64) a0,[])
def w65c (_:Nat):Cx:=⟨Tryd.prog,99999,[],[]⟩
def w65b:Code:=Tryd.f65.body.getD .skip
theorem w65cx N:CxOk (w65c N):=ctx_ok (by kernel_rfl) .nil .nil
def w65F0 [Alg] (_:Nat) (self:Int->O) (k0:Int->O) (k1:Unit->O) (x0_0:(List YF2)) (x0_1:YF2) (x0_2 x0_3:Int):O:=
 br (decide (x0_3 < x0_2))
  (gx x0_0 x0_3 fun y3=>
  br (decide (x0_1=y3))
   (k0 x0_3)
   (self (IntKind.i64.wrap (x0_3+1))))
  (k1 ())
def w65b0:Code:=atC [1,0,1,0,0] w65b
def w65m0:Nm:=⟨[0,1,7,8],[],[]⟩
def w65I0 (x:(List YF2)×YF2×Int×Int):Sg:=⟨[(0,.e (.sl .tx) x.1),(1,.e .tx x.2.1),(7,.e (.i .i64) x.2.2.1),(8,.e (.i .i64) x.2.2.2)],[],100⟩
def w65u0 (σ:Sg):(List YF2)×YF2×Int×Int:=(lvT (.sl .tx) 0 0 σ,lvT .tx 1 0 σ,lvT (.i .i64) 7 0 σ,lvT (.i .i64) 8 0 σ)
theorem w65ui0:∀ x,w65u0 (w65I0 x)=x:=fun _=>by kernel_rfl
def w65X0_0 (y:Int):Exit×Sg:=(.ret,⟨[(4,.e (.i .i64) y)],[],100⟩)
def w65v0_0 (_:Exit) (σ:Sg):Int:=lvT (.i .i64) 4 0 σ
def w65X0_1 (_:Unit):Exit×Sg:=((.exit 0),⟨[],[],100⟩)
def w65v0_1 (_:Exit) (_:Sg):Unit:=()
def w65w0:List (Exit×Nm):=[(.ret,⟨[4],[],[]⟩),((.exit 0),⟨[],[],[]⟩)]
def w65l0 [Alg] (N:Nat):Nat->((List YF2)×YF2×Int×Int)->((Int)->O)->((Unit)->O)->((Unit)->O)->O
 | 0,_,_,_,_=>none
 | n+1,x,k0,k1,k2=>w65F0 N (fun v0=>w65l0 N n (x.1,x.2.1,x.2.2.1,v0) k0 k1 k2) (fun y0=>k0 y0) (fun (_:Unit)=>k1 ()) x.1 x.2.1 x.2.2.1 x.2.2.2
def w65n0 [Alg] N a0 a1 a2 a3 (k0:Int->O) (k1:Unit->O):=w65l0 N N (a0,a1,a2,a3) (fun y=>k0 y) (fun y=>k1 y) (fun _=>none)
def w65s0 [Alg] N a0 a1 a2 a3 (k0:Int->O) (k1:Unit->O):=subL w65I0 w65u0 (w65l0 N N) (w65I0 (a0,a1,a2,a3)) (fun y=>k0 y) (fun y=>k1 y) (fun _=>none)
theorem w65e0 [Alg] N:w65s0 N=w65n0 N:=funext fun _=>funext fun _=>funext fun _=>funext fun _=>funext fun _=>funext fun _=>subL_I w65ui0 _ _ _ _
theorem w65q0 [Alg] (N:Nat) (self:Sg->O) (K:Exit->Sg->O) (x:(List YF2)×YF2×Int×Int):w65F0 N (fun v0=>self (w65I0 (x.1,x.2.1,x.2.2.1,v0))) (fun y0=>K (w65X0_0 y0).1 (w65X0_0 y0).2) (fun (_:Unit)=>K (w65X0_1 ()).1 (w65X0_1 ()).2) x.1 x.2.1 x.2.2.1 x.2.2.2=exec (w65c N) Tryd.f65.ntmps .d w65b0 (w65I0 x) (roundX w65m0 w65w0 self K):=by kernel_rfl
theorem w65S0 N (hc:CxOk (w65c N)):SubOk (w65c N) Tryd.f65.ntmps (.loop w65b0) w65X0_0 w65X0_1 (noX 2) (subL w65I0 w65u0 (w65l0 N N)):=
 sub_loop hc (hk_d w65b0) (oK2 w65v0_0 w65v0_1 .ret (.exit 0) (fun _=>by kernel_rfl) (fun _=>by kernel_rfl) (fun _=>rfl) (fun _=>rfl) (by kernel_rfl)) (n:=N) (fun x K=>loop_ind (w65l0 N) (fun _ _ _ _=>rfl) (fun n K ih x=>by
  refine Eq.trans ?_ (w65q0 N _ K x);simp only [← ih];rfl) N x K)
def w65G [Alg] (_:Nat) (in0:(List YF2)->YF2->Int->Int->(Int->O)->(Unit->O)->O) (s0:(List YF2)) (v1:YF2):O:=
 in0 s0 v1 ((↑s0.length:Int)) 0
  (fun z4=>
   some (w65r0 z4))
  (fun (_:Unit)=>
   some (w65r0 ((-1:Int))))
def w65 [Alg] N s0 v1:=w65G N (w65n0 N) s0 v1
def w65h [Alg] (N:Nat):Hint:=(.seq .d (.seq (.seq .d (.block (.sub w65m0 _ _ _ w65X0_0 w65X0_1 (noX 2) (subL w65I0 w65u0 (w65l0 N N))))) .d))
theorem w65hk N (hc:CxOk (w65c N)):HintOk (w65c N) Tryd.f65.ntmps (w65h N) w65b:=hk_of _ _ (And.intro trivial (And.intro (And.intro trivial (w65S0 N hc)) trivial))
theorem w65q [Alg] N s0 v1:w65G N (w65s0 N) s0 v1=exec (w65c N) Tryd.f65.ntmps (w65h N) w65b ⟨argT 0 [.e (.sl .tx) s0,.e .tx v1],[],100⟩ (finX (w65c N) Tryd.f65 false):=by kernel_rfl
def w65un (r:Res):Option (Int):=match r with
 | (x0,[])=>(match ue (.i .i64) x0 with | some a0=>some a0 | _=>none)
 | _=>none
theorem w65uo {r d} (h:w65un r=some d):r=w65r0 (d):=by
 unfold w65un at h;split at h
 ·split at h
  ·rename_i h0;cases h;rw [ue_some h0];rfl
  ·cases h
 ·cases h
def w65z N s0 v1:=(w65 N s0 v1).bind w65un
theorem w65fin {N} (hc:CxOk (w65c N)) {s0 v1 d} (hd:w65z N s0 v1=some d):DoK Tryd.prog 65 [.e (.sl .tx) s0,.e .tx v1] [] (w65r0 (d)):=
 finJ hc (by kernel_rfl) (by kernel_rfl) (w65hk N hc) (by kernel_rfl) w65uo (fun hr=>(w65q N s0 v1).symm.trans (by rw [w65e0 N];exact hr)) hd
def w65p N s0 v1:=(w65z N s0 v1).isSome
def w65y0 N s0 v1:=((w65z N s0 v1).getD 0)
def w65e (N:Nat):Ent':=E2 (.sl .tx) .tx (fun x0 x1=>(w65p N x0 x1,w65r0 (w65y0 N x0 x1)))
theorem w65ok N:EOk Tryd.prog 65 (w65e N):=EOk.e2 (fun x0 x1 h=>okG (z:=w65z N x0 x1) h (w65fin (w65cx N)) rfl)
def w56r0 (a0:Int) (a1:(List (YF2×Int))) (a2:Int) (a3:Bool):Res:=(.e (.i .i64) a0,[(50,.box 89 [.e (.sl (.pr .tx (.i .i64))) a1,.e (.i .i64) a2,.e .bo a3])])
def w56c (N:Nat):Cx:=⟨Tryd.prog,99999,[(58,w58e N),(65,w65e N)],[]⟩
def w56b:Code:=Tryd.f56.body.getD .skip
theorem w56cx N:CxOk (w56c N):=ctx_ok (by kernel_rfl) (.cons (by kernel_rfl) (w58ok N) (.cons (by kernel_rfl) (w65ok N) .nil)) .nil
def w56G [Alg] (N:Nat) (words1:(List YF2)) (h50_0:(List (YF2×Int))) (h50_1:Int) (h50_2:Bool):O:=
 ck (w58p N h50_0 h50_1 h50_2) <|
 ck (w65p N words1 (w58y0 N h50_0 h50_1 h50_2)) <|
 br (decide ((0:Int)<=w65y0 N words1 (w58y0 N h50_0 h50_1 h50_2)))
  (some (w56r0 (w65y0 N words1 (w58y0 N h50_0 h50_1 h50_2)) (w58y1 N h50_0 h50_1 h50_2) (IntKind.i64.wrap (w58y2 N h50_0 h50_1 h50_2+(1:Int))) (w58y3 N h50_0 h50_1 h50_2)))
  (some (w56r0 (w65y0 N words1 (w58y0 N h50_0 h50_1 h50_2)) (w58y1 N h50_0 h50_1 h50_2) (w58y2 N h50_0 h50_1 h50_2) (w58y3 N h50_0 h50_1 h50_2)))
def w56 [Alg] N words1 h50_0 h50_1 h50_2:=w56G N words1 h50_0 h50_1 h50_2
def w56h [Alg] (_:Nat):Hint:=.d
theorem w56hk N:HintOk (w56c N) Tryd.f56.ntmps (w56h N) w56b:=hk_of _ _ trivial
theorem w56q [Alg] N words1 h50_0 h50_1 h50_2:w56G N words1 h50_0 h50_1 h50_2=exec (w56c N) Tryd.f56.ntmps (w56h N) w56b ⟨argT 0 [.ref 50 0,.e (.sl .tx) words1],[(50,.box 89 [.e (.sl (.pr .tx (.i .i64))) h50_0,.e (.i .i64) h50_1,.e .bo h50_2])],100⟩ (finX (w56c N) Tryd.f56 true):=by kernel_rfl
def w56un (r:Res):Option (Int×(List (YF2×Int))×Int×Bool):=match r with
 | (x0,[(50,.box 89 [x1,x2,x3])])=>(match ue (.i .i64) x0,ue (.sl (.pr .tx (.i .i64))) x1,ue (.i .i64) x2,ue .bo x3 with | some a0,some a1,some a2,some a3=>some (a0,a1,a2,a3) | _,_,_,_=>none)
 | _=>none
theorem w56uo {r d} (h:w56un r=some d):r=w56r0 d.1 d.2.1 d.2.2.1 d.2.2.2:=by
 unfold w56un at h;split at h
 ·split at h
  ·rename_i h0 h1 h2 h3;cases h;rw [ue_some h0,ue_some h1,ue_some h2,ue_some h3];rfl
  ·cases h
 ·cases h
def w56z N words1 h50_0 h50_1 h50_2:=(w56 N words1 h50_0 h50_1 h50_2).bind w56un
theorem w56fin {N} (hc:CxOk (w56c N)) {words1 h50_0 h50_1 h50_2 d} (hd:w56z N words1 h50_0 h50_1 h50_2=some d):DoK Tryd.prog 56 [.ref 50 0,.e (.sl .tx) words1] [(50,.box 89 [.e (.sl (.pr .tx (.i .i64))) h50_0,.e (.i .i64) h50_1,.e .bo h50_2])] (w56r0 d.1 d.2.1 d.2.2.1 d.2.2.2):=
 finJ hc (by kernel_rfl) (by kernel_rfl) (w56hk N) (by kernel_rfl) w56uo (w56q N words1 h50_0 h50_1 h50_2).symm.trans hd
def w56p N words1 h50_0 h50_1 h50_2:=(w56z N words1 h50_0 h50_1 h50_2).isSome
def w56y0 N words1 h50_0 h50_1 h50_2:=((w56z N words1 h50_0 h50_1 h50_2).getD (0,[],0,false)).1
def w56y1 N words1 h50_0 h50_1 h50_2:=((w56z N words1 h50_0 h50_1 h50_2).getD (0,[],0,false)).2.1
def w56y2 N words1 h50_0 h50_1 h50_2:=((w56z N words1 h50_0 h50_1 h50_2).getD (0,[],0,false)).2.2.1
def w56y3 N words1 h50_0 h50_1 h50_2:=((w56z N words1 h50_0 h50_1 h50_2).getD (0,[],0,false)).2.2.2
def w56in (xs:List X) (H:XH):Option ((List YF2)×(List (YF2×Int))×Int×Bool):=match xs,H with
 | [.ref 50 0,x0],[(50,.box 89 [x1,x2,x3])]=>(match ue (.sl .tx) x0,ue (.sl (.pr .tx (.i .i64))) x1,ue (.i .i64) x2,ue .bo x3 with | some a0,some a1,some a2,some a3=>some (a0,a1,a2,a3) | _,_,_,_=>none)
 | _,_=>none
theorem w56io {xs H d} (h:w56in xs H=some d):xs=[.ref 50 0,.e (.sl .tx) d.1]/\H=[(50,.box 89 [.e (.sl (.pr .tx (.i .i64))) d.2.1,.e (.i .i64) d.2.2.1,.e .bo d.2.2.2])]:=by
 unfold w56in at h;split at h
 ·split at h
  ·rename_i h0 h1 h2 h3;cases h;rw [ue_some h0,ue_some h1,ue_some h2,ue_some h3];exact ⟨rfl,rfl⟩
  ·cases h
 ·cases h
def w56e (N:Nat):Ent':=entR w56in (fun d=>w56p N d.1 d.2.1 d.2.2.1 d.2.2.2) (fun d=>w56r0 (w56y0 N d.1 d.2.1 d.2.2.1 d.2.2.2) (w56y1 N d.1 d.2.1 d.2.2.1 d.2.2.2) (w56y2 N d.1 d.2.1 d.2.2.1 d.2.2.2) (w56y3 N d.1 d.2.1 d.2.2.1 d.2.2.2))
theorem w56ok N:EOk Tryd.prog 56 (w56e N):=entR_ok w56io (fun d h=>okG (z:=w56z N d.1 d.2.1 d.2.2.1 d.2.2.2) h (w56fin (w56cx N)) rfl)
def w80r0 (a0:Bool):Res:=(.e .bo a0,[])
def w80c (_:Nat):Cx:=⟨Tryd.prog,99999,[],[]⟩
def w80b:Code:=Tryd.f80.body.getD .skip
theorem w80cx N:CxOk (w80c N):=ctx_ok (by kernel_rfl) .nil .nil
def w80G [Alg] (_:Nat) (s0 prefix1:YF2):O:=
 ck (!decide ((↑prefix1.length:Int)<=(↑s0.length:Int))||slcOk s0.length none (some (↑prefix1.length:Int))) <|
 some (w80r0 (decide ((↑prefix1.length:Int)<=(↑s0.length:Int))&&decide (slc s0 none (some (↑prefix1.length:Int))=prefix1)))
def w80 [Alg] N s0 prefix1:=w80G N s0 prefix1
def w80h [Alg] (_:Nat):Hint:=.d
theorem w80hk N:HintOk (w80c N) Tryd.f80.ntmps (w80h N) w80b:=hk_of _ _ trivial
theorem w80q [Alg] N s0 prefix1:w80G N s0 prefix1=exec (w80c N) Tryd.f80.ntmps (w80h N) w80b ⟨argT 0 [.e .tx s0,.e .tx prefix1],[],100⟩ (finX (w80c N) Tryd.f80 false):=by kernel_rfl
def w80un (r:Res):Option (Bool):=match r with
 | (x0,[])=>(match ue .bo x0 with | some a0=>some a0 | _=>none)
 | _=>none
theorem w80uo {r d} (h:w80un r=some d):r=w80r0 (d):=by
 unfold w80un at h;split at h
 ·split at h
  ·rename_i h0;cases h;rw [ue_some h0];rfl
  ·cases h
 ·cases h
def w80z N s0 prefix1:=(w80 N s0 prefix1).bind w80un
theorem w80fin {N} (hc:CxOk (w80c N)) {s0 prefix1 d} (hd:w80z N s0 prefix1=some d):DoK Tryd.prog 80 [.e .tx s0,.e .tx prefix1] [] (w80r0 (d)):=
 finJ hc (by kernel_rfl) (by kernel_rfl) (w80hk N) (by kernel_rfl) w80uo (w80q N s0 prefix1).symm.trans hd
def w80p N s0 prefix1:=(w80z N s0 prefix1).isSome
def w80y0 N s0 prefix1:=((w80z N s0 prefix1).getD false)
def w80e (N:Nat):Ent':=E2 .tx .tx (fun x0 x1=>(w80p N x0 x1,w80r0 (w80y0 N x0 x1)))
theorem w80ok N:EOk Tryd.prog 80 (w80e N):=EOk.e2 (fun x0 x1 h=>okG (z:=w80z N x0 x1) h (w80fin (w80cx N)) rfl)
def w73r0 (a0:YF2) (a1:Bool):Res:=(.tup [.e .tx a0,.e .bo a1],[])
def w73c (N:Nat):Cx:=⟨Tryd.prog,99999,[(80,w80e N)],[]⟩
def w73b:Code:=Tryd.f73.body.getD .skip
theorem w73cx N:CxOk (w73c N):=ctx_ok (by kernel_rfl) (.cons (by kernel_rfl) (w80ok N) .nil) .nil
def w73G [Alg] (N:Nat) (s0 prefix1:YF2):O:=
 ck (w80p N s0 prefix1) <|
 br (!w80y0 N s0 prefix1)
  (some (w73r0 s0 false))
  (ck (slcOk s0.length (some (↑prefix1.length:Int)) none) <|
  some (w73r0 (slc s0 (some (↑prefix1.length:Int)) none) true))
def w73 [Alg] N s0 prefix1:=w73G N s0 prefix1
def w73h [Alg] (_:Nat):Hint:=.d
theorem w73hk N:HintOk (w73c N) Tryd.f73.ntmps (w73h N) w73b:=hk_of _ _ trivial
theorem w73q [Alg] N s0 prefix1:w73G N s0 prefix1=exec (w73c N) Tryd.f73.ntmps (w73h N) w73b ⟨argT 0 [.e .tx s0,.e .tx prefix1],[],100⟩ (finX (w73c N) Tryd.f73 false):=by kernel_rfl
def w73un (r:Res):Option (YF2×Bool):=match r with
 | (.tup [x0,x1],[])=>(match ue .tx x0,ue .bo x1 with | some a0,some a1=>some (a0,a1) | _,_=>none)
 | _=>none
theorem w73uo {r d} (h:w73un r=some d):r=w73r0 d.1 d.2:=by
 unfold w73un at h;split at h
 ·split at h
  ·rename_i h0 h1;cases h;rw [ue_some h0,ue_some h1];rfl
  ·cases h
 ·cases h
def w73z N s0 prefix1:=(w73 N s0 prefix1).bind w73un
theorem w73fin {N} (hc:CxOk (w73c N)) {s0 prefix1 d} (hd:w73z N s0 prefix1=some d):DoK Tryd.prog 73 [.e .tx s0,.e .tx prefix1] [] (w73r0 d.1 d.2):=
 finJ hc (by kernel_rfl) (by kernel_rfl) (w73hk N) (by kernel_rfl) w73uo (w73q N s0 prefix1).symm.trans hd
def w73p N s0 prefix1:=(w73z N s0 prefix1).isSome
def w73y0 N s0 prefix1:=((w73z N s0 prefix1).getD ([],false)).1
def w73y1 N s0 prefix1:=((w73z N s0 prefix1).getD ([],false)).2
def w73e (N:Nat):Ent':=E2 .tx .tx (fun x0 x1=>(w73p N x0 x1,w73r0 (w73y0 N x0 x1) (w73y1 N x0 x1)))
theorem w73ok N:EOk Tryd.prog 73 (w73e N):=EOk.e2 (fun x0 x1 h=>okG (z:=w73z N x0 x1) h (w73fin (w73cx N)) rfl)
def w66r0 (a0:YF2) (a1:Bool):Res:=(.tup [.e .tx a0,.e .bo a1],[])
def w66c (N:Nat):Cx:=⟨Tryd.prog,99999,[(73,w73e N)],[]⟩
def w66b:Code:=Tryd.f66.body.getD .skip
theorem w66cx N:CxOk (w66c N):=ctx_ok (by kernel_rfl) (.cons (by kernel_rfl) (w73ok N) .nil) .nil
def w66G [Alg] (N:Nat) (s0 prefix1:YF2):O:=
 ck (w73p N s0 prefix1) <|
 some (w66r0 (w73y0 N s0 prefix1) (w73y1 N s0 prefix1))
def w66 [Alg] N s0 prefix1:=w66G N s0 prefix1
def w66h [Alg] (_:Nat):Hint:=.d
theorem w66hk N:HintOk (w66c N) Tryd.f66.ntmps (w66h N) w66b:=hk_of _ _ trivial
theorem w66q [Alg] N s0 prefix1:w66G N s0 prefix1=exec (w66c N) Tryd.f66.ntmps (w66h N) w66b ⟨argT 0 [.e .tx s0,.e .tx prefix1],[],100⟩ (finX (w66c N) Tryd.f66 false):=by kernel_rfl
def w66un (r:Res):Option (YF2×Bool):=match r with
 | (.tup [x0,x1],[])=>(match ue .tx x0,ue .bo x1 with | some a0,some a1=>some (a0,a1) | _,_=>none)
 | _=>none
theorem w66uo {r d} (h:w66un r=some d):r=w66r0 d.1 d.2:=by
 unfold w66un at h;split at h
 ·split at h
  ·rename_i h0 h1;cases h;rw [ue_some h0,ue_some h1];rfl
  ·cases h
 ·cases h
def w66z N s0 prefix1:=(w66 N s0 prefix1).bind w66un
theorem w66fin {N} (hc:CxOk (w66c N)) {s0 prefix1 d} (hd:w66z N s0 prefix1=some d):DoK Tryd.prog 66 [.e .tx s0,.e .tx prefix1] [] (w66r0 d.1 d.2):=
 finJ hc (by kernel_rfl) (by kernel_rfl) (w66hk N) (by kernel_rfl) w66uo (w66q N s0 prefix1).symm.trans hd
def w66p N s0 prefix1:=(w66z N s0 prefix1).isSome
def w66y0 N s0 prefix1:=((w66z N s0 prefix1).getD ([],false)).1
def w66y1 N s0 prefix1:=((w66z N s0 prefix1).getD ([],false)).2
def w66e (N:Nat):Ent':=E2 .tx .tx (fun x0 x1=>(w66p N x0 x1,w66r0 (w66y0 N x0 x1) (w66y1 N x0 x1)))
theorem w66ok N:EOk Tryd.prog 66 (w66e N):=EOk.e2 (fun x0 x1 h=>okG (z:=w66z N x0 x1) h (w66fin (w66cx N)) rfl)
def w67r0 (a0:Int) (a1:Bool):Res:=(.tup [.e (.i .i64) a0,.e .bo a1],[])
def w67c (N:Nat):Cx:=⟨Tryd.prog,99999,[(74,w74e N),(35,w35e N)],[]⟩
def w67b:Code:=Tryd.f67.body.getD .skip
theorem w67cx N:CxOk (w67c N):=ctx_ok (by kernel_rfl) (.cons (by kernel_rfl) (w74ok N) (.cons (by kernel_rfl) (w35ok N) .nil)) .nil
def w67G [Alg] (N:Nat) (s0:YF2) (most1:Int):O:=
 ck (w74p N s0) <|
 ck (!(true&&decide ((0:Int)<=w74y0 N s0)&&decide (w74y0 N s0<=most1))||w35p N (w74y0 N s0)) <|
 some (w67r0 (w74y0 N s0) (true&&decide ((0:Int)<=w74y0 N s0)&&decide (w74y0 N s0<=most1)&&decide (w35y0 N (w74y0 N s0)=s0)))
def w67 [Alg] N s0 most1:=w67G N s0 most1
def w67h [Alg] (_:Nat):Hint:=.d
theorem w67hk N:HintOk (w67c N) Tryd.f67.ntmps (w67h N) w67b:=hk_of _ _ trivial
theorem w67q [Alg] N s0 most1:w67G N s0 most1=exec (w67c N) Tryd.f67.ntmps (w67h N) w67b ⟨argT 0 [.e .tx s0,.e (.i .i64) most1],[],100⟩ (finX (w67c N) Tryd.f67 false):=by kernel_rfl
def w67un (r:Res):Option (Int×Bool):=match r with
 | (.tup [x0,x1],[])=>(match ue (.i .i64) x0,ue .bo x1 with | some a0,some a1=>some (a0,a1) | _,_=>none)
 | _=>none
theorem w67uo {r d} (h:w67un r=some d):r=w67r0 d.1 d.2:=by
 unfold w67un at h;split at h
 ·split at h
  ·rename_i h0 h1;cases h;rw [ue_some h0,ue_some h1];rfl
  ·cases h
 ·cases h
def w67z N s0 most1:=(w67 N s0 most1).bind w67un
theorem w67fin {N} (hc:CxOk (w67c N)) {s0 most1 d} (hd:w67z N s0 most1=some d):DoK Tryd.prog 67 [.e .tx s0,.e (.i .i64) most1] [] (w67r0 d.1 d.2):=
 finJ hc (by kernel_rfl) (by kernel_rfl) (w67hk N) (by kernel_rfl) w67uo (w67q N s0 most1).symm.trans hd
def w67p N s0 most1:=(w67z N s0 most1).isSome
def w67y0 N s0 most1:=((w67z N s0 most1).getD (0,false)).1
def w67y1 N s0 most1:=((w67z N s0 most1).getD (0,false)).2
def w67e (N:Nat):Ent':=E2 .tx (.i .i64) (fun x0 x1=>(w67p N x0 x1,w67r0 (w67y0 N x0 x1) (w67y1 N x0 x1)))
theorem w67ok N:EOk Tryd.prog 67 (w67e N):=EOk.e2 (fun x0 x1 h=>okG (z:=w67z N x0 x1) h (w67fin (w67cx N)) rfl)
def w57r0 (a0:Int) (a1:(List (YF2×Int))) (a2:Int) (a3:Bool):Res:=(.e (.i .i64) a0,[(50,.box 89 [.e (.sl (.pr .tx (.i .i64))) a1,.e (.i .i64) a2,.e .bo a3])])
def w57c (N:Nat):Cx:=⟨Tryd.prog,99999,[(58,w58e N),(66,w66e N),(67,w67e N)],[]⟩
def w57b:Code:=Tryd.f57.body.getD .skip
theorem w57cx N:CxOk (w57c N):=ctx_ok (by kernel_rfl) (.cons (by kernel_rfl) (w58ok N) (.cons (by kernel_rfl) (w66ok N) (.cons (by kernel_rfl) (w67ok N) .nil))) .nil
def w57G [Alg] (N:Nat) (head1:YF2) (least2 most3:Int) (h50_0:(List (YF2×Int))) (h50_1:Int) (h50_2:Bool):O:=
 ck (w58p N h50_0 h50_1 h50_2) <|
 ck (w66p N (w58y0 N h50_0 h50_1 h50_2) head1) <|
 ck (w67p N (w66y0 N (w58y0 N h50_0 h50_1 h50_2) head1) most3) <|
 br (!w66y1 N (w58y0 N h50_0 h50_1 h50_2) head1||!w67y1 N (w66y0 N (w58y0 N h50_0 h50_1 h50_2) head1) most3||decide (w67y0 N (w66y0 N (w58y0 N h50_0 h50_1 h50_2) head1) most3 < least2))
  (some (w57r0 0 (w58y1 N h50_0 h50_1 h50_2) (w58y2 N h50_0 h50_1 h50_2) true))
  (some (w57r0 (w67y0 N (w66y0 N (w58y0 N h50_0 h50_1 h50_2) head1) most3) (w58y1 N h50_0 h50_1 h50_2) (IntKind.i64.wrap (w58y2 N h50_0 h50_1 h50_2+(1:Int))) (w58y3 N h50_0 h50_1 h50_2)))
def w57 [Alg] N head1 least2 most3 h50_0 h50_1 h50_2:=w57G N head1 least2 most3 h50_0 h50_1 h50_2
def w57h [Alg] (_:Nat):Hint:=.d
theorem w57hk N:HintOk (w57c N) Tryd.f57.ntmps (w57h N) w57b:=hk_of _ _ trivial
theorem w57q [Alg] N head1 least2 most3 h50_0 h50_1 h50_2:w57G N head1 least2 most3 h50_0 h50_1 h50_2=exec (w57c N) Tryd.f57.ntmps (w57h N) w57b ⟨argT 0 [.ref 50 0,.e .tx head1,.e (.i .i64) least2,.e (.i .i64) most3],[(50,.box 89 [.e (.sl (.pr .tx (.i .i64))) h50_0,.e (.i .i64) h50_1,.e .bo h50_2])],100⟩ (finX (w57c N) Tryd.f57 true):=by kernel_rfl
def w57un (r:Res):Option (Int×(List (YF2×Int))×Int×Bool):=match r with
 | (x0,[(50,.box 89 [x1,x2,x3])])=>(match ue (.i .i64) x0,ue (.sl (.pr .tx (.i .i64))) x1,ue (.i .i64) x2,ue .bo x3 with | some a0,some a1,some a2,some a3=>some (a0,a1,a2,a3) | _,_,_,_=>none)
 | _=>none
theorem w57uo {r d} (h:w57un r=some d):r=w57r0 d.1 d.2.1 d.2.2.1 d.2.2.2:=by
 unfold w57un at h;split at h
 ·split at h
  ·rename_i h0 h1 h2 h3;cases h;rw [ue_some h0,ue_some h1,ue_some h2,ue_some h3];rfl
  ·cases h
 ·cases h
def w57z N head1 least2 most3 h50_0 h50_1 h50_2:=(w57 N head1 least2 most3 h50_0 h50_1 h50_2).bind w57un
theorem w57fin {N} (hc:CxOk (w57c N)) {head1 least2 most3 h50_0 h50_1 h50_2 d} (hd:w57z N head1 least2 most3 h50_0 h50_1 h50_2=some d):DoK Tryd.prog 57 [.ref 50 0,.e .tx head1,.e (.i .i64) least2,.e (.i .i64) most3] [(50,.box 89 [.e (.sl (.pr .tx (.i .i64))) h50_0,.e (.i .i64) h50_1,.e .bo h50_2])] (w57r0 d.1 d.2.1 d.2.2.1 d.2.2.2):=
 finJ hc (by kernel_rfl) (by kernel_rfl) (w57hk N) (by kernel_rfl) w57uo (w57q N head1 least2 most3 h50_0 h50_1 h50_2).symm.trans hd
def w57p N head1 least2 most3 h50_0 h50_1 h50_2:=(w57z N head1 least2 most3 h50_0 h50_1 h50_2).isSome
def w57y0 N head1 least2 most3 h50_0 h50_1 h50_2:=((w57z N head1 least2 most3 h50_0 h50_1 h50_2).getD (0,[],0,false)).1
def w57y1 N head1 least2 most3 h50_0 h50_1 h50_2:=((w57z N head1 least2 most3 h50_0 h50_1 h50_2).getD (0,[],0,false)).2.1
def w57y2 N head1 least2 most3 h50_0 h50_1 h50_2:=((w57z N head1 least2 most3 h50_0 h50_1 h50_2).getD (0,[],0,false)).2.2.1
def w57y3 N head1 least2 most3 h50_0 h50_1 h50_2:=((w57z N head1 least2 most3 h50_0 h50_1 h50_2).getD (0,[],0,false)).2.2.2
def w57in (xs:List X) (H:XH):Option (YF2×Int×Int×(List (YF2×Int))×Int×Bool):=match xs,H with
 | [.ref 50 0,x0,x1,x2],[(50,.box 89 [x3,x4,x5])]=>(match ue .tx x0,ue (.i .i64) x1,ue (.i .i64) x2,ue (.sl (.pr .tx (.i .i64))) x3,ue (.i .i64) x4,ue .bo x5 with | some a0,some a1,some a2,some a3,some a4,some a5=>some (a0,a1,a2,a3,a4,a5) | _,_,_,_,_,_=>none)
 | _,_=>none
theorem w57io {xs H d} (h:w57in xs H=some d):xs=[.ref 50 0,.e .tx d.1,.e (.i .i64) d.2.1,.e (.i .i64) d.2.2.1]/\H=[(50,.box 89 [.e (.sl (.pr .tx (.i .i64))) d.2.2.2.1,.e (.i .i64) d.2.2.2.2.1,.e .bo d.2.2.2.2.2])]:=by
 unfold w57in at h;split at h
 ·split at h
  ·rename_i h0 h1 h2 h3 h4 h5;cases h;rw [ue_some h0,ue_some h1,ue_some h2,ue_some h3,ue_some h4,ue_some h5];exact ⟨rfl,rfl⟩
  ·cases h
 ·cases h
def w57e (N:Nat):Ent':=entR w57in (fun d=>w57p N d.1 d.2.1 d.2.2.1 d.2.2.2.1 d.2.2.2.2.1 d.2.2.2.2.2) (fun d=>w57r0 (w57y0 N d.1 d.2.1 d.2.2.1 d.2.2.2.1 d.2.2.2.2.1 d.2.2.2.2.2) (w57y1 N d.1 d.2.1 d.2.2.1 d.2.2.2.1 d.2.2.2.2.1 d.2.2.2.2.2) (w57y2 N d.1 d.2.1 d.2.2.1 d.2.2.2.1 d.2.2.2.2.1 d.2.2.2.2.2) (w57y3 N d.1 d.2.1 d.2.2.1 d.2.2.2.1 d.2.2.2.2.1 d.2.2.2.2.2))
theorem w57ok N:EOk Tryd.prog 57 (w57e N):=entR_ok w57io (fun d h=>okG (z:=w57z N d.1 d.2.1 d.2.2.1 d.2.2.2.1 d.2.2.2.2.1 d.2.2.2.2.2) h (w57fin (w57cx N)) rfl)
def w55r0 (a0 a1:Int) (a2:(List (YF2×Int))) (a3:Int) (a4:Bool) (a5:(List Int)):Res:=(.tup [],[(50,.box 87 [.ref 52 0]),(51,.box 51 [.own 100,.e (.i .i64) a0,.e (.i .i64) a1]),(52,.box 89 [.e (.sl (.pr .tx (.i .i64))) a2,.e (.i .i64) a3,.e .bo a4]),(100,.row 3 (.i .i64) a5 true)])
def w55c (N:Nat):Cx:=⟨Tryd.prog,99999,[(56,w56e N),(36,w36e N),(57,w57e N)],[]⟩
def w55b:Code:=Tryd.f55.body.getD .skip
theorem w55cx N:CxOk (w55c N):=ctx_ok (by kernel_rfl) (.cons (by kernel_rfl) (w56ok N) (.cons (by kernel_rfl) (w36ok N) (.cons (by kernel_rfl) (w57ok N) .nil))) .nil
def w55F0 [Alg] (N:Nat) (k0:Int->Int->Int->(List (YF2×Int))->Int->Bool->(List Int)->O) (x0_0 x0_1 x0_2:Int) (x0_3:(List (YF2×Int))) (x0_4:Int) (x0_5:Bool) (x0_6:(List Int)):O:=
 ck (w56p N [lF2x6] x0_3 x0_4 x0_5) <|
 br (decide (w56y0 N [lF2x6] x0_3 x0_4 x0_5=(0:Int)))
  (k0 ((-1:Int)) x0_1 x0_2 (w56y1 N [lF2x6] x0_3 x0_4 x0_5) (w56y2 N [lF2x6] x0_3 x0_4 x0_5) (w56y3 N [lF2x6] x0_3 x0_4 x0_5) x0_6)
  (k0 x0_0 x0_1 x0_2 (w56y1 N [lF2x6] x0_3 x0_4 x0_5) (w56y2 N [lF2x6] x0_3 x0_4 x0_5) (w56y3 N [lF2x6] x0_3 x0_4 x0_5) x0_6)
def w55b0:Code:=atC [1,0] w55b
def w55m0:Nm:=⟨[0,1,2],[],[]⟩
def w55I0 (x:Int×Int×Int×(List (YF2×Int))×Int×Bool×(List Int)):Sg:=⟨[(0,.ref 50 0),(1,.ref 51 0),(2,.e (.i .i64) x.1)],[(50,.box 87 [.ref 52 0]),(51,.box 51 [.own 53,.e (.i .i64) x.2.1,.e (.i .i64) x.2.2.1]),(52,.box 89 [.e (.sl (.pr .tx (.i .i64))) x.2.2.2.1,.e (.i .i64) x.2.2.2.2.1,.e .bo x.2.2.2.2.2.1]),(53,.row 3 (.i .i64) x.2.2.2.2.2.2 true)],100⟩
def w55u0 (σ:Sg):Int×Int×Int×(List (YF2×Int))×Int×Bool×(List Int):=(lvT (.i .i64) 2 0 σ,lvH (.i .i64) 51 1 σ,lvH (.i .i64) 51 2 σ,lvH (.sl (.pr .tx (.i .i64))) 52 0 σ,lvH (.i .i64) 52 1 σ,lvH .bo 52 2 σ,lvR (.i .i64) 53 σ)
theorem w55ui0:∀ x,w55u0 (w55I0 x)=x:=fun _=>by kernel_rfl
def w55X0_0 (y:Int×Int×Int×(List (YF2×Int))×Int×Bool×(List Int)):Exit×Sg:=(.normal,⟨[(0,.ref 50 0),(1,.ref 51 0),(2,.e (.i .i64) y.1)],[(50,.box 87 [.ref 52 0]),(51,.box 51 [.own 53,.e (.i .i64) y.2.1,.e (.i .i64) y.2.2.1]),(52,.box 89 [.e (.sl (.pr .tx (.i .i64))) y.2.2.2.1,.e (.i .i64) y.2.2.2.2.1,.e .bo y.2.2.2.2.2.1]),(53,.row 3 (.i .i64) y.2.2.2.2.2.2 true)],100⟩)
def w55v0_0 (_:Exit) (σ:Sg):Int×Int×Int×(List (YF2×Int))×Int×Bool×(List Int):=(lvT (.i .i64) 2 0 σ,lvH (.i .i64) 51 1 σ,lvH (.i .i64) 51 2 σ,lvH (.sl (.pr .tx (.i .i64))) 52 0 σ,lvH (.i .i64) 52 1 σ,lvH .bo 52 2 σ,lvR (.i .i64) 53 σ)
def w55w0:List (Exit×Nm):=[(.normal,⟨[0,1,2],[],[]⟩)]
def w55l0 [Alg] (N:Nat) (_:Nat) (x:Int×Int×Int×(List (YF2×Int))×Int×Bool×(List Int)) (k0:(Int×Int×Int×(List (YF2×Int))×Int×Bool×(List Int))->O) (_:(Unit)->O) (_:(Unit)->O):O:=w55F0 N (fun y0 y1 y2 y3 y4 y5 y6=>k0 (y0,y1,y2,y3,y4,y5,y6)) x.1 x.2.1 x.2.2.1 x.2.2.2.1 x.2.2.2.2.1 x.2.2.2.2.2.1 x.2.2.2.2.2.2
def w55n0 [Alg] N a0 a1 a2 a3 a4 a5 a6 (k0:Int->Int->Int->(List (YF2×Int))->Int->Bool->(List Int)->O):=w55l0 N N (a0,a1,a2,a3,a4,a5,a6) (fun y=>k0 y.1 y.2.1 y.2.2.1 y.2.2.2.1 y.2.2.2.2.1 y.2.2.2.2.2.1 y.2.2.2.2.2.2) (fun _=>none) (fun _=>none)
def w55s0 [Alg] N a0 a1 a2 a3 a4 a5 a6 (k0:Int->Int->Int->(List (YF2×Int))->Int->Bool->(List Int)->O):=subL w55I0 w55u0 (w55l0 N N) (w55I0 (a0,a1,a2,a3,a4,a5,a6)) (fun y=>k0 y.1 y.2.1 y.2.2.1 y.2.2.2.1 y.2.2.2.2.1 y.2.2.2.2.2.1 y.2.2.2.2.2.2) (fun _=>none) (fun _=>none)
theorem w55e0 [Alg] N:w55s0 N=w55n0 N:=funext fun _=>funext fun _=>funext fun _=>funext fun _=>funext fun _=>funext fun _=>funext fun _=>funext fun _=>subL_I w55ui0 _ _ _ _
theorem w55q0 [Alg] (N:Nat) (K:Exit->Sg->O) (x:Int×Int×Int×(List (YF2×Int))×Int×Bool×(List Int)):w55F0 N (fun y0 y1 y2 y3 y4 y5 y6=>K (w55X0_0 (y0,y1,y2,y3,y4,y5,y6)).1 (w55X0_0 (y0,y1,y2,y3,y4,y5,y6)).2) x.1 x.2.1 x.2.2.1 x.2.2.2.1 x.2.2.2.2.1 x.2.2.2.2.2.1 x.2.2.2.2.2.2=exec (w55c N) Tryd.f55.ntmps .d w55b0 (w55I0 x) (partX w55w0 K):=by kernel_rfl
theorem w55S0 N (hc:CxOk (w55c N)):SubOk (w55c N) Tryd.f55.ntmps w55b0 w55X0_0 (noX 1) (noX 2) (subL w55I0 w55u0 (w55l0 N N)):=
 sub_part hc (hk_d w55b0) (oK1 w55v0_0 .normal (fun _=>by kernel_rfl) (fun _=>rfl) (by kernel_rfl)) (fun x K=>by
  exact w55q0 N K x)
def w55F1 [Alg] (N:Nat) (k0:Int->Int->Int->Int->(List (YF2×Int))->Int->Bool->(List Int)->O) (x8_0 x8_1:Int) (x8_2 x8_3:Int) (x8_4:(List (YF2×Int))) (x8_5:Int) (x8_6:Bool) (x8_7:(List Int)):O:=
 br (decide ((0:Int) < (↑x8_7.length:Int)))
  (gx x8_7 (IntKind.i64.wrap ((↑x8_7.length:Int) - (1:Int))) fun y11=>
  ck (w36p N y11) <|
  k0 x8_0 (w36y0 N y11) x8_2 x8_3 x8_4 x8_5 x8_6 x8_7)
  (k0 x8_0 x8_1 x8_2 x8_3 x8_4 x8_5 x8_6 x8_7)
def w55b1:Code:=atC [1,1,1,0] w55b
def w55m1:Nm:=⟨[0,1,2,3],[],[]⟩
def w55I1 (x:Int×Int×Int×Int×(List (YF2×Int))×Int×Bool×(List Int)):Sg:=⟨[(0,.ref 50 0),(1,.ref 51 0),(2,.e (.i .i64) x.1),(3,.e (.i .i64) x.2.1)],[(50,.box 87 [.ref 52 0]),(51,.box 51 [.own 53,.e (.i .i64) x.2.2.1,.e (.i .i64) x.2.2.2.1]),(52,.box 89 [.e (.sl (.pr .tx (.i .i64))) x.2.2.2.2.1,.e (.i .i64) x.2.2.2.2.2.1,.e .bo x.2.2.2.2.2.2.1]),(53,.row 3 (.i .i64) x.2.2.2.2.2.2.2 true)],100⟩
def w55u1 (σ:Sg):Int×Int×Int×Int×(List (YF2×Int))×Int×Bool×(List Int):=(lvT (.i .i64) 2 0 σ,lvT (.i .i64) 3 0 σ,lvH (.i .i64) 51 1 σ,lvH (.i .i64) 51 2 σ,lvH (.sl (.pr .tx (.i .i64))) 52 0 σ,lvH (.i .i64) 52 1 σ,lvH .bo 52 2 σ,lvR (.i .i64) 53 σ)
theorem w55ui1:∀ x,w55u1 (w55I1 x)=x:=fun _=>by kernel_rfl
def w55X1_0 (y:Int×Int×Int×Int×(List (YF2×Int))×Int×Bool×(List Int)):Exit×Sg:=(.normal,⟨[(0,.ref 50 0),(1,.ref 51 0),(2,.e (.i .i64) y.1),(3,.e (.i .i64) y.2.1)],[(50,.box 87 [.ref 52 0]),(51,.box 51 [.own 53,.e (.i .i64) y.2.2.1,.e (.i .i64) y.2.2.2.1]),(52,.box 89 [.e (.sl (.pr .tx (.i .i64))) y.2.2.2.2.1,.e (.i .i64) y.2.2.2.2.2.1,.e .bo y.2.2.2.2.2.2.1]),(53,.row 3 (.i .i64) y.2.2.2.2.2.2.2 true)],100⟩)
def w55v1_0 (_:Exit) (σ:Sg):Int×Int×Int×Int×(List (YF2×Int))×Int×Bool×(List Int):=(lvT (.i .i64) 2 0 σ,lvT (.i .i64) 3 0 σ,lvH (.i .i64) 51 1 σ,lvH (.i .i64) 51 2 σ,lvH (.sl (.pr .tx (.i .i64))) 52 0 σ,lvH (.i .i64) 52 1 σ,lvH .bo 52 2 σ,lvR (.i .i64) 53 σ)
def w55w1:List (Exit×Nm):=[(.normal,⟨[0,1,2,3],[],[]⟩)]
def w55l1 [Alg] (N:Nat) (_:Nat) (x:Int×Int×Int×Int×(List (YF2×Int))×Int×Bool×(List Int)) (k0:(Int×Int×Int×Int×(List (YF2×Int))×Int×Bool×(List Int))->O) (_:(Unit)->O) (_:(Unit)->O):O:=w55F1 N (fun y0 y1 y2 y3 y4 y5 y6 y7=>k0 (y0,y1,y2,y3,y4,y5,y6,y7)) x.1 x.2.1 x.2.2.1 x.2.2.2.1 x.2.2.2.2.1 x.2.2.2.2.2.1 x.2.2.2.2.2.2.1 x.2.2.2.2.2.2.2
def w55n1 [Alg] N a0 a1 a2 a3 a4 a5 a6 a7 (k0:Int->Int->Int->Int->(List (YF2×Int))->Int->Bool->(List Int)->O):=w55l1 N N (a0,a1,a2,a3,a4,a5,a6,a7) (fun y=>k0 y.1 y.2.1 y.2.2.1 y.2.2.2.1 y.2.2.2.2.1 y.2.2.2.2.2.1 y.2.2.2.2.2.2.1 y.2.2.2.2.2.2.2) (fun _=>none) (fun _=>none)
def w55s1 [Alg] N a0 a1 a2 a3 a4 a5 a6 a7 (k0:Int->Int->Int->Int->(List (YF2×Int))->Int->Bool->(List Int)->O):=subL w55I1 w55u1 (w55l1 N N) (w55I1 (a0,a1,a2,a3,a4,a5,a6,a7)) (fun y=>k0 y.1 y.2.1 y.2.2.1 y.2.2.2.1 y.2.2.2.2.1 y.2.2.2.2.2.1 y.2.2.2.2.2.2.1 y.2.2.2.2.2.2.2) (fun _=>none) (fun _=>none)
theorem w55e1 [Alg] N:w55s1 N=w55n1 N:=funext fun _=>funext fun _=>funext fun _=>funext fun _=>funext fun _=>funext fun _=>funext fun _=>funext fun _=>funext fun _=>subL_I w55ui1 _ _ _ _
theorem w55q1 [Alg] (N:Nat) (K:Exit->Sg->O) (x:Int×Int×Int×Int×(List (YF2×Int))×Int×Bool×(List Int)):w55F1 N (fun y0 y1 y2 y3 y4 y5 y6 y7=>K (w55X1_0 (y0,y1,y2,y3,y4,y5,y6,y7)).1 (w55X1_0 (y0,y1,y2,y3,y4,y5,y6,y7)).2) x.1 x.2.1 x.2.2.1 x.2.2.2.1 x.2.2.2.2.1 x.2.2.2.2.2.1 x.2.2.2.2.2.2.1 x.2.2.2.2.2.2.2=exec (w55c N) Tryd.f55.ntmps .d w55b1 (w55I1 x) (partX w55w1 K):=by kernel_rfl
theorem w55S1 N (hc:CxOk (w55c N)):SubOk (w55c N) Tryd.f55.ntmps w55b1 w55X1_0 (noX 1) (noX 2) (subL w55I1 w55u1 (w55l1 N N)):=
 sub_part hc (hk_d w55b1) (oK1 w55v1_0 .normal (fun _=>by kernel_rfl) (fun _=>rfl) (by kernel_rfl)) (fun x K=>by
  exact w55q1 N K x)
def w55G [Alg] (N:Nat) (in0:Int->Int->Int->(List (YF2×Int))->Int->Bool->(List Int)->(Int->Int->Int->(List (YF2×Int))->Int->Bool->(List Int)->O)->O) (in1:Int->Int->Int->Int->(List (YF2×Int))->Int->Bool->(List Int)->(Int->Int->Int->Int->(List (YF2×Int))->Int->Bool->(List Int)->O)->O) (h51_0 h51_1:Int) (h52_0:(List (YF2×Int))) (h52_1:Int) (h52_2:Bool) (h53_0:(List Int)):O:=
 in0 1 h51_0 h51_1 h52_0 h52_1 h52_2 h53_0
  (fun z1 z2 z3 z4 z5 z6 z7=>
   in1 z1 0 z2 z3 z4 z5 z6 z7
    (fun z12 z13 z14 z15 z16 z17 z18 z19=>
     ck (w57p N lF2x9 (IntKind.i64.wrap (z13+1)) (16:Int) z16 z17 z18) <|
     br (!w57y3 N lF2x9 (IntKind.i64.wrap (z13+1)) (16:Int) z16 z17 z18)
      (ck (lim (z19++[IntKind.i64.wrap (z12 * w57y0 N lF2x9 (IntKind.i64.wrap (z13+1)) (16:Int) z16 z17 z18)]).length (8:Nat)) <|
      some (w55r0 z14 z15 (w57y1 N lF2x9 (IntKind.i64.wrap (z13+1)) (16:Int) z16 z17 z18) (w57y2 N lF2x9 (IntKind.i64.wrap (z13+1)) (16:Int) z16 z17 z18) (w57y3 N lF2x9 (IntKind.i64.wrap (z13+1)) (16:Int) z16 z17 z18) (z19++[IntKind.i64.wrap (z12 * w57y0 N lF2x9 (IntKind.i64.wrap (z13+1)) (16:Int) z16 z17 z18)])))
      (some (w55r0 z14 z15 (w57y1 N lF2x9 (IntKind.i64.wrap (z13+1)) (16:Int) z16 z17 z18) (w57y2 N lF2x9 (IntKind.i64.wrap (z13+1)) (16:Int) z16 z17 z18) (w57y3 N lF2x9 (IntKind.i64.wrap (z13+1)) (16:Int) z16 z17 z18) z19))))
def w55 [Alg] N h51_0 h51_1 h52_0 h52_1 h52_2 h53_0:=w55G N (w55n0 N) (w55n1 N) h51_0 h51_1 h52_0 h52_1 h52_2 h53_0
def w55h [Alg] (N:Nat):Hint:=(.seq .d (.seq (.sub w55m0 _ _ _ w55X0_0 (noX 1) (noX 2) (subL w55I0 w55u0 (w55l0 N N))) (.seq .d (.seq (.sub w55m1 _ _ _ w55X1_0 (noX 1) (noX 2) (subL w55I1 w55u1 (w55l1 N N))) (.seq .d (.seq (.reg [] [.rn 1 0] []) .d))))))
theorem w55hk N (hc:CxOk (w55c N)):HintOk (w55c N) Tryd.f55.ntmps (w55h N) w55b:=hk_of _ _ (And.intro trivial (And.intro (w55S0 N hc) (And.intro trivial (And.intro (w55S1 N hc) (And.intro trivial (And.intro trivial trivial))))))
theorem w55q [Alg] N h51_0 h51_1 h52_0 h52_1 h52_2 h53_0:w55G N (w55s0 N) (w55s1 N) h51_0 h51_1 h52_0 h52_1 h52_2 h53_0=exec (w55c N) Tryd.f55.ntmps (w55h N) w55b ⟨argT 0 [.ref 50 0,.ref 51 0],[(50,.box 87 [.ref 52 0]),(51,.box 51 [.own 53,.e (.i .i64) h51_0,.e (.i .i64) h51_1]),(52,.box 89 [.e (.sl (.pr .tx (.i .i64))) h52_0,.e (.i .i64) h52_1,.e .bo h52_2]),(53,.row 3 (.i .i64) h53_0 true)],100⟩ (finX (w55c N) Tryd.f55 true):=by kernel_rfl
def w55un (r:Res):Option (Int×Int×(List (YF2×Int))×Int×Bool×(List Int)):=match r with
 | (.tup [],[(50,.box 87 [.ref 52 0]),(51,.box 51 [.own 100,x0,x1]),(52,.box 89 [x2,x3,x4]),(100,x5)])=>(match ue (.i .i64) x0,ue (.i .i64) x1,ue (.sl (.pr .tx (.i .i64))) x2,ue (.i .i64) x3,ue .bo x4,ur 3 (.i .i64) true x5 with | some a0,some a1,some a2,some a3,some a4,some a5=>some (a0,a1,a2,a3,a4,a5) | _,_,_,_,_,_=>none)
 | _=>none
theorem w55uo {r d} (h:w55un r=some d):r=w55r0 d.1 d.2.1 d.2.2.1 d.2.2.2.1 d.2.2.2.2.1 d.2.2.2.2.2:=by
 unfold w55un at h;split at h
 ·split at h
  ·rename_i h0 h1 h2 h3 h4 h5;cases h;rw [ue_some h0,ue_some h1,ue_some h2,ue_some h3,ue_some h4,ur_some h5];rfl
  ·cases h
 ·cases h
def w55z N h51_0 h51_1 h52_0 h52_1 h52_2 h53_0:=(w55 N h51_0 h51_1 h52_0 h52_1 h52_2 h53_0).bind w55un
theorem w55fin {N} (hc:CxOk (w55c N)) {h51_0 h51_1 h52_0 h52_1 h52_2 h53_0 d} (hd:w55z N h51_0 h51_1 h52_0 h52_1 h52_2 h53_0=some d):DoK Tryd.prog 55 [.ref 50 0,.ref 51 0] [(50,.box 87 [.ref 52 0]),(51,.box 51 [.own 53,.e (.i .i64) h51_0,.e (.i .i64) h51_1]),(52,.box 89 [.e (.sl (.pr .tx (.i .i64))) h52_0,.e (.i .i64) h52_1,.e .bo h52_2]),(53,.row 3 (.i .i64) h53_0 true)] (w55r0 d.1 d.2.1 d.2.2.1 d.2.2.2.1 d.2.2.2.2.1 d.2.2.2.2.2):=
 finJ hc (by kernel_rfl) (by kernel_rfl) (w55hk N hc) (by kernel_rfl) w55uo (fun hr=>(w55q N h51_0 h51_1 h52_0 h52_1 h52_2 h53_0).symm.trans (by rw [w55e0 N,w55e1 N];exact hr)) hd
def w55p N h51_0 h51_1 h52_0 h52_1 h52_2 h53_0:=(w55z N h51_0 h51_1 h52_0 h52_1 h52_2 h53_0).isSome
def w55y0 N h51_0 h51_1 h52_0 h52_1 h52_2 h53_0:=((w55z N h51_0 h51_1 h52_0 h52_1 h52_2 h53_0).getD (0,0,[],0,false,[])).1
def w55y1 N h51_0 h51_1 h52_0 h52_1 h52_2 h53_0:=((w55z N h51_0 h51_1 h52_0 h52_1 h52_2 h53_0).getD (0,0,[],0,false,[])).2.1
def w55y2 N h51_0 h51_1 h52_0 h52_1 h52_2 h53_0:=((w55z N h51_0 h51_1 h52_0 h52_1 h52_2 h53_0).getD (0,0,[],0,false,[])).2.2.1
def w55y3 N h51_0 h51_1 h52_0 h52_1 h52_2 h53_0:=((w55z N h51_0 h51_1 h52_0 h52_1 h52_2 h53_0).getD (0,0,[],0,false,[])).2.2.2.1
def w55y4 N h51_0 h51_1 h52_0 h52_1 h52_2 h53_0:=((w55z N h51_0 h51_1 h52_0 h52_1 h52_2 h53_0).getD (0,0,[],0,false,[])).2.2.2.2.1
def w55y5 N h51_0 h51_1 h52_0 h52_1 h52_2 h53_0:=((w55z N h51_0 h51_1 h52_0 h52_1 h52_2 h53_0).getD (0,0,[],0,false,[])).2.2.2.2.2
def w55in (xs:List X) (H:XH):Option (Int×Int×(List (YF2×Int))×Int×Bool×(List Int)):=match xs,H with
 | [.ref 50 0,.ref 51 0],[(50,.box 87 [.ref 52 0]),(51,.box 51 [.own 53,x0,x1]),(52,.box 89 [x2,x3,x4]),(53,x5)]=>(match ue (.i .i64) x0,ue (.i .i64) x1,ue (.sl (.pr .tx (.i .i64))) x2,ue (.i .i64) x3,ue .bo x4,ur 3 (.i .i64) true x5 with | some a0,some a1,some a2,some a3,some a4,some a5=>some (a0,a1,a2,a3,a4,a5) | _,_,_,_,_,_=>none)
 | _,_=>none
theorem w55io {xs H d} (h:w55in xs H=some d):xs=[.ref 50 0,.ref 51 0]/\H=[(50,.box 87 [.ref 52 0]),(51,.box 51 [.own 53,.e (.i .i64) d.1,.e (.i .i64) d.2.1]),(52,.box 89 [.e (.sl (.pr .tx (.i .i64))) d.2.2.1,.e (.i .i64) d.2.2.2.1,.e .bo d.2.2.2.2.1]),(53,.row 3 (.i .i64) d.2.2.2.2.2 true)]:=by
 unfold w55in at h;split at h
 ·split at h
  ·rename_i h0 h1 h2 h3 h4 h5;cases h;rw [ue_some h0,ue_some h1,ue_some h2,ue_some h3,ue_some h4,ur_some h5];exact ⟨rfl,rfl⟩
  ·cases h
 ·cases h
def w55e (N:Nat):Ent':=entR w55in (fun d=>w55p N d.1 d.2.1 d.2.2.1 d.2.2.2.1 d.2.2.2.2.1 d.2.2.2.2.2) (fun d=>w55r0 (w55y0 N d.1 d.2.1 d.2.2.1 d.2.2.2.1 d.2.2.2.2.1 d.2.2.2.2.2) (w55y1 N d.1 d.2.1 d.2.2.1 d.2.2.2.1 d.2.2.2.2.1 d.2.2.2.2.2) (w55y2 N d.1 d.2.1 d.2.2.1 d.2.2.2.1 d.2.2.2.2.1 d.2.2.2.2.2) (w55y3 N d.1 d.2.1 d.2.2.1 d.2.2.2.1 d.2.2.2.2.1 d.2.2.2.2.2) (w55y4 N d.1 d.2.1 d.2.2.1 d.2.2.2.1 d.2.2.2.2.1 d.2.2.2.2.2) (w55y5 N d.1 d.2.1 d.2.2.1 d.2.2.2.1 d.2.2.2.2.1 d.2.2.2.2.2))
theorem w55ok N:EOk Tryd.prog 55 (w55e N):=entR_ok w55io (fun d h=>okG (z:=w55z N d.1 d.2.1 d.2.2.1 d.2.2.2.1 d.2.2.2.2.1 d.2.2.2.2.2) h (w55fin (w55cx N)) rfl)
def w34r0 (a0 a1 a2:Int):Res:=(.own 100,[(100,.mp .tx [(lF2x1,.e (.i .i64) a0),(lF2x0,.e (.i .i64) a1),(lF2x2,.e (.i .i64) a2)])])
def w34c (_:Nat):Cx:=⟨Tryd.prog,99999,[],[]⟩
def w34b:Code:=Tryd.f34.body.getD .skip
theorem w34cx N:CxOk (w34c N):=ctx_ok (by kernel_rfl) .nil .nil
def w34G [Alg] (_:Nat):O:=
 ck true <|
 ck true <|
 ck true <|
 some (w34r0 0 1 2)
def w34 [Alg] (N:Nat):O:=w34G N  
def w34h [Alg] (_:Nat):Hint:=.d
theorem w34hk N:HintOk (w34c N) Tryd.f34.ntmps (w34h N) w34b:=hk_of _ _ trivial
theorem w34q [Alg] N:w34G N=exec (w34c N) Tryd.f34.ntmps (w34h N) w34b ⟨argT 0 [],[],100⟩ (finX (w34c N) Tryd.f34 false):=by kernel_rfl
theorem w34does {N:Nat} (hc:CxOk (w34c N)) {r:Res} (h:w34 N=some r):DoesR Tryd.prog 34 (([]:List X).map X.D) (HA []) r:=
 fun_ok hc (f:=34) (fn:=Tryd.f34) (code:=w34b) (by kernel_rfl) (by kernel_rfl) (w34hk N) (Nat.le_of_ble_eq_true (by kernel_rfl)) (ow:=false) ((w34q N ).symm.trans (by exact h))
def w34e (_:Nat):Ent':=E0 (true,w34r0 ((0:Int)) ((1:Int)) ((2:Int)))
theorem w34ok N:EOk Tryd.prog 34 (w34e N):=EOk.e0 (fun _=>w34does (w34cx N) (r:=w34r0 ((0:Int)) ((1:Int)) ((2:Int))) rfl)
def w42r0 (a0:(List Int)) (a1 a2:Int) (a3:(List (YF2×Int))) (a4:Int) (a5:Bool):Res:=(.agg [.e (.sl (.i .i64)) a0,.e (.i .i64) a1,.e (.i .i64) a2],[(50,.box 89 [.e (.sl (.pr .tx (.i .i64))) a3,.e (.i .i64) a4,.e .bo a5])])
def w42c (N:Nat):Cx:=⟨Tryd.prog,99999,[(55,w55e N),(56,w56e N),(34,w34e N),(58,w58e N),(57,w57e N)],[]⟩
def w42b:Code:=Tryd.f42.body.getD .skip
theorem w42cx N:CxOk (w42c N):=ctx_ok (by kernel_rfl) (.cons (by kernel_rfl) (w55ok N) (.cons (by kernel_rfl) (w56ok N) (.cons (by kernel_rfl) (w34ok N) (.cons (by kernel_rfl) (w58ok N) (.cons (by kernel_rfl) (w57ok N) .nil))))) .nil
def w42F0 [Alg] (N:Nat) (self:(List (YF2×Int))->Int->Bool->Int->Int->(List Int)->O) (k0:(List (YF2×Int))->Int->Bool->Int->Int->Int->Int->(List Int)->O) (_x28_0:Bool) (x28_4 x28_5:Int) (x28_1:(List (YF2×Int))) (x28_2:Int) (x28_3:Bool) (x28_6 x28_7:Int) (x28_8:(List Int)):O:=
 let b0:=w56y1 N [lF2x7] x28_1 x28_2 x28_3
 let b1:=w56y2 N [lF2x7] x28_1 x28_2 x28_3
 let b2:=w56y3 N [lF2x7] x28_1 x28_2 x28_3
 br (!x28_3&&decide ((↑x28_8.length:Int) < (8:Int)))
  (ck (w56p N [lF2x7] x28_1 x28_2 x28_3) <|
  br (decide (w56y0 N [lF2x7] x28_1 x28_2 x28_3=(0:Int)))
   (ck (w55p N x28_6 x28_7 b0 b1 b2 x28_8) <|
   self (w55y2 N x28_6 x28_7 b0 b1 b2 x28_8) (w55y3 N x28_6 x28_7 b0 b1 b2 x28_8) (w55y4 N x28_6 x28_7 b0 b1 b2 x28_8) (w55y0 N x28_6 x28_7 b0 b1 b2 x28_8) (w55y1 N x28_6 x28_7 b0 b1 b2 x28_8) (w55y5 N x28_6 x28_7 b0 b1 b2 x28_8))
   (k0 b0 b1 b2 x28_4 x28_5 x28_6 x28_7 x28_8))
  (br false
   (ck (w55p N x28_6 x28_7 x28_1 x28_2 x28_3 x28_8) <|
   self (w55y2 N x28_6 x28_7 x28_1 x28_2 x28_3 x28_8) (w55y3 N x28_6 x28_7 x28_1 x28_2 x28_3 x28_8) (w55y4 N x28_6 x28_7 x28_1 x28_2 x28_3 x28_8) (w55y0 N x28_6 x28_7 x28_1 x28_2 x28_3 x28_8) (w55y1 N x28_6 x28_7 x28_1 x28_2 x28_3 x28_8) (w55y5 N x28_6 x28_7 x28_1 x28_2 x28_3 x28_8))
   (k0 x28_1 x28_2 x28_3 x28_4 x28_5 x28_6 x28_7 x28_8))
def w42b0:Code:=atC [1,1,1,0,1,0,1,0,1,0,0] w42b
def w42m0:Nm:=⟨[1,2,3,4,11],[],[]⟩
def w42I0 (x:Bool×(List (YF2×Int))×Int×Bool×Int×Int×Int×Int×(List Int)):Sg:=⟨[(1,.ref 0 0),(2,.ref 1 0),(3,.ref 2 0),(4,.fn 55 [.ref 0 0,.ref 2 0]),(11,.e .bo x.1)],[(50,.box 89 [.e (.sl (.pr .tx (.i .i64))) x.2.1,.e (.i .i64) x.2.2.1,.e .bo x.2.2.2.1]),(0,.box 87 [.ref 50 0]),(1,.box 51 [.nilS,.e (.i .i64) x.2.2.2.2.1,.e (.i .i64) x.2.2.2.2.2.1]),(2,.box 51 [.own 3,.e (.i .i64) x.2.2.2.2.2.2.1,.e (.i .i64) x.2.2.2.2.2.2.2.1]),(3,.row 3 (.i .i64) x.2.2.2.2.2.2.2.2 true)],100⟩
def w42u0 (σ:Sg):Bool×(List (YF2×Int))×Int×Bool×Int×Int×Int×Int×(List Int):=(lvT .bo 11 0 σ,lvH (.sl (.pr .tx (.i .i64))) 50 0 σ,lvH (.i .i64) 50 1 σ,lvH .bo 50 2 σ,lvH (.i .i64) 1 1 σ,lvH (.i .i64) 1 2 σ,lvH (.i .i64) 2 1 σ,lvH (.i .i64) 2 2 σ,lvR (.i .i64) 3 σ)
theorem w42ui0:∀ x,w42u0 (w42I0 x)=x:=fun _=>by kernel_rfl
def w42X0_0 (y:(List (YF2×Int))×Int×Bool×Int×Int×Int×Int×(List Int)):Exit×Sg:=((.exit 1),⟨[(1,.ref 0 0),(2,.ref 1 0),(3,.ref 2 0)],[(50,.box 89 [.e (.sl (.pr .tx (.i .i64))) y.1,.e (.i .i64) y.2.1,.e .bo y.2.2.1]),(0,.box 87 [.ref 50 0]),(1,.box 51 [.nilS,.e (.i .i64) y.2.2.2.1,.e (.i .i64) y.2.2.2.2.1]),(2,.box 51 [.own 3,.e (.i .i64) y.2.2.2.2.2.1,.e (.i .i64) y.2.2.2.2.2.2.1]),(3,.row 3 (.i .i64) y.2.2.2.2.2.2.2 true)],100⟩)
def w42v0_0 (_:Exit) (σ:Sg):(List (YF2×Int))×Int×Bool×Int×Int×Int×Int×(List Int):=(lvH (.sl (.pr .tx (.i .i64))) 50 0 σ,lvH (.i .i64) 50 1 σ,lvH .bo 50 2 σ,lvH (.i .i64) 1 1 σ,lvH (.i .i64) 1 2 σ,lvH (.i .i64) 2 1 σ,lvH (.i .i64) 2 2 σ,lvR (.i .i64) 3 σ)
def w42w0:List (Exit×Nm):=[((.exit 1),⟨[1,2,3],[],[]⟩)]
def w42l0 [Alg] (N:Nat):Nat->(Bool×(List (YF2×Int))×Int×Bool×Int×Int×Int×Int×(List Int))->(((List (YF2×Int))×Int×Bool×Int×Int×Int×Int×(List Int))->O)->((Unit)->O)->((Unit)->O)->O
 | 0,_,_,_,_=>none
 | n+1,x,k0,k1,k2=>w42F0 N (fun v0 v1 v2 v3 v4 v5=>w42l0 N n (x.1,v0,v1,v2,x.2.2.2.2.1,x.2.2.2.2.2.1,v3,v4,v5) k0 k1 k2) (fun y0 y1 y2 y3 y4 y5 y6 y7=>k0 (y0,y1,y2,y3,y4,y5,y6,y7)) x.1 x.2.2.2.2.1 x.2.2.2.2.2.1 x.2.1 x.2.2.1 x.2.2.2.1 x.2.2.2.2.2.2.1 x.2.2.2.2.2.2.2.1 x.2.2.2.2.2.2.2.2
def w42n0 [Alg] N a0 a1 a2 a3 a4 a5 a6 a7 a8 (k0:(List (YF2×Int))->Int->Bool->Int->Int->Int->Int->(List Int)->O):=w42l0 N N (a0,a1,a2,a3,a4,a5,a6,a7,a8) (fun y=>k0 y.1 y.2.1 y.2.2.1 y.2.2.2.1 y.2.2.2.2.1 y.2.2.2.2.2.1 y.2.2.2.2.2.2.1 y.2.2.2.2.2.2.2) (fun _=>none) (fun _=>none)
def w42s0 [Alg] N a0 a1 a2 a3 a4 a5 a6 a7 a8 (k0:(List (YF2×Int))->Int->Bool->Int->Int->Int->Int->(List Int)->O):=subL w42I0 w42u0 (w42l0 N N) (w42I0 (a0,a1,a2,a3,a4,a5,a6,a7,a8)) (fun y=>k0 y.1 y.2.1 y.2.2.1 y.2.2.2.1 y.2.2.2.2.1 y.2.2.2.2.2.1 y.2.2.2.2.2.2.1 y.2.2.2.2.2.2.2) (fun _=>none) (fun _=>none)
theorem w42e0 [Alg] N:w42s0 N=w42n0 N:=funext fun _=>funext fun _=>funext fun _=>funext fun _=>funext fun _=>funext fun _=>funext fun _=>funext fun _=>funext fun _=>funext fun _=>subL_I w42ui0 _ _ _ _
def w42h0 [Alg] (_:Nat):Hint:=(.seq (.seq (.reg [1012] [] []) .d) .d)
theorem w42hk0 N:HintOk (w42c N) Tryd.f42.ntmps (w42h0 N) w42b0:=hk_of _ _ (And.intro (And.intro trivial trivial) trivial)
theorem w42q0 [Alg] (N:Nat) (self:Sg->O) (K:Exit->Sg->O) (x:Bool×(List (YF2×Int))×Int×Bool×Int×Int×Int×Int×(List Int)):w42F0 N (fun v0 v1 v2 v3 v4 v5=>self (w42I0 (x.1,v0,v1,v2,x.2.2.2.2.1,x.2.2.2.2.2.1,v3,v4,v5))) (fun y0 y1 y2 y3 y4 y5 y6 y7=>K (w42X0_0 (y0,y1,y2,y3,y4,y5,y6,y7)).1 (w42X0_0 (y0,y1,y2,y3,y4,y5,y6,y7)).2) x.1 x.2.2.2.2.1 x.2.2.2.2.2.1 x.2.1 x.2.2.1 x.2.2.2.1 x.2.2.2.2.2.2.1 x.2.2.2.2.2.2.2.1 x.2.2.2.2.2.2.2.2=exec (w42c N) Tryd.f42.ntmps (w42h0 N) w42b0 (w42I0 x) (roundX w42m0 w42w0 self K):=by kernel_rfl
theorem w42S0 N (hc:CxOk (w42c N)):SubOk (w42c N) Tryd.f42.ntmps (.loop w42b0) w42X0_0 (noX 1) (noX 2) (subL w42I0 w42u0 (w42l0 N N)):=
 sub_loop hc (w42hk0 N) (oK1 w42v0_0 (.exit 1) (fun _=>by kernel_rfl) (fun _=>rfl) (by kernel_rfl)) (n:=N) (fun x K=>loop_ind (w42l0 N) (fun _ _ _ _=>rfl) (fun n K ih x=>by
  refine Eq.trans ?_ (w42q0 N _ K x);simp only [← ih];rfl) N x K)
def w42F1 [Alg] (N:Nat) (in0:Bool->(List (YF2×Int))->Int->Bool->Int->Int->Int->Int->(List Int)->((List (YF2×Int))->Int->Bool->Int->Int->Int->Int->(List Int)->O)->O) (k0:(List (YF2×Int))->Int->Bool->Int->Int->Int->Int->(List Int)->O) (x0_0:(List (YF2×Int))) (x0_1:Int) (x0_2:Bool) (x0_3 x0_4:Int) (x0_5 x0_6:Int):O:=
 let b0:=w56y1 N [lF2x3,lF2x8] x0_0 x0_1 x0_2
 let b1:=w56y2 N [lF2x3,lF2x8] x0_0 x0_1 x0_2
 let b2:=w56y3 N [lF2x3,lF2x8] x0_0 x0_1 x0_2
 let b3:=decide (w56y0 N [lF2x3,lF2x8] x0_0 x0_1 x0_2=(1:Int))
 ck (w56p N [lF2x3,lF2x8] x0_0 x0_1 x0_2) <|
 br b3
  (ck (w55p N x0_5 x0_6 b0 b1 b2 []) <|
  in0 b3 (w55y2 N x0_5 x0_6 b0 b1 b2 []) (w55y3 N x0_5 x0_6 b0 b1 b2 []) (w55y4 N x0_5 x0_6 b0 b1 b2 []) x0_3 x0_4 (w55y0 N x0_5 x0_6 b0 b1 b2 []) (w55y1 N x0_5 x0_6 b0 b1 b2 []) (w55y5 N x0_5 x0_6 b0 b1 b2 [])
   (fun z29 z30 z31 z32 z33 z34 z35 z36=>
    k0 z29 z30 z31 z32 z33 z34 z35 z36))
  (br (decide (w56y0 N [lF2x3,lF2x8] x0_0 x0_1 x0_2=(-1:Int)))
   (k0 b0 b1 true x0_3 x0_4 x0_5 x0_6 [])
   (k0 b0 b1 b2 x0_3 x0_4 x0_5 x0_6 []))
def w42b1:Code:=atC [1,1,1,0] w42b
def w42m1:Nm:=⟨[1,2,3,4],[],[]⟩
def w42I1 (x:(List (YF2×Int))×Int×Bool×Int×Int×Int×Int):Sg:=⟨[(1,.ref 0 0),(2,.ref 1 0),(3,.ref 2 0),(4,.fn 55 [.ref 0 0,.ref 2 0])],[(50,.box 89 [.e (.sl (.pr .tx (.i .i64))) x.1,.e (.i .i64) x.2.1,.e .bo x.2.2.1]),(0,.box 87 [.ref 50 0]),(1,.box 51 [.nilS,.e (.i .i64) x.2.2.2.1,.e (.i .i64) x.2.2.2.2.1]),(2,.box 51 [.nilS,.e (.i .i64) x.2.2.2.2.2.1,.e (.i .i64) x.2.2.2.2.2.2])],100⟩
def w42u1 (σ:Sg):(List (YF2×Int))×Int×Bool×Int×Int×Int×Int:=(lvH (.sl (.pr .tx (.i .i64))) 50 0 σ,lvH (.i .i64) 50 1 σ,lvH .bo 50 2 σ,lvH (.i .i64) 1 1 σ,lvH (.i .i64) 1 2 σ,lvH (.i .i64) 2 1 σ,lvH (.i .i64) 2 2 σ)
theorem w42ui1:∀ x,w42u1 (w42I1 x)=x:=fun _=>by kernel_rfl
def w42X1_0 (y:(List (YF2×Int))×Int×Bool×Int×Int×Int×Int×(List Int)):Exit×Sg:=(.normal,⟨[(1,.ref 0 0),(2,.ref 1 0),(3,.ref 2 0)],[(50,.box 89 [.e (.sl (.pr .tx (.i .i64))) y.1,.e (.i .i64) y.2.1,.e .bo y.2.2.1]),(0,.box 87 [.ref 50 0]),(1,.box 51 [.nilS,.e (.i .i64) y.2.2.2.1,.e (.i .i64) y.2.2.2.2.1]),(2,.box 51 [.own 3,.e (.i .i64) y.2.2.2.2.2.1,.e (.i .i64) y.2.2.2.2.2.2.1]),(3,.row 3 (.i .i64) y.2.2.2.2.2.2.2 true)],100⟩)
def w42v1_0 (_:Exit) (σ:Sg):(List (YF2×Int))×Int×Bool×Int×Int×Int×Int×(List Int):=(lvH (.sl (.pr .tx (.i .i64))) 50 0 σ,lvH (.i .i64) 50 1 σ,lvH .bo 50 2 σ,lvH (.i .i64) 1 1 σ,lvH (.i .i64) 1 2 σ,lvH (.i .i64) 2 1 σ,lvH (.i .i64) 2 2 σ,lvR (.i .i64) 3 σ)
def w42w1:List (Exit×Nm):=[(.normal,⟨[1,2,3],[],[.nilC 3 0 (.row 3 (.i .i64) [] true)]⟩)]
def w42l1 [Alg] (N:Nat) (_:Nat) (x:(List (YF2×Int))×Int×Bool×Int×Int×Int×Int) (k0:((List (YF2×Int))×Int×Bool×Int×Int×Int×Int×(List Int))->O) (_:(Unit)->O) (_:(Unit)->O):O:=w42F1 N (w42n0 N) (fun y0 y1 y2 y3 y4 y5 y6 y7=>k0 (y0,y1,y2,y3,y4,y5,y6,y7)) x.1 x.2.1 x.2.2.1 x.2.2.2.1 x.2.2.2.2.1 x.2.2.2.2.2.1 x.2.2.2.2.2.2
def w42n1 [Alg] N a0 a1 a2 a3 a4 a5 a6 (k0:(List (YF2×Int))->Int->Bool->Int->Int->Int->Int->(List Int)->O):=w42l1 N N (a0,a1,a2,a3,a4,a5,a6) (fun y=>k0 y.1 y.2.1 y.2.2.1 y.2.2.2.1 y.2.2.2.2.1 y.2.2.2.2.2.1 y.2.2.2.2.2.2.1 y.2.2.2.2.2.2.2) (fun _=>none) (fun _=>none)
def w42s1 [Alg] N a0 a1 a2 a3 a4 a5 a6 (k0:(List (YF2×Int))->Int->Bool->Int->Int->Int->Int->(List Int)->O):=subL w42I1 w42u1 (w42l1 N N) (w42I1 (a0,a1,a2,a3,a4,a5,a6)) (fun y=>k0 y.1 y.2.1 y.2.2.1 y.2.2.2.1 y.2.2.2.2.1 y.2.2.2.2.2.1 y.2.2.2.2.2.2.1 y.2.2.2.2.2.2.2) (fun _=>none) (fun _=>none)
theorem w42e1 [Alg] N:w42s1 N=w42n1 N:=funext fun _=>funext fun _=>funext fun _=>funext fun _=>funext fun _=>funext fun _=>funext fun _=>funext fun _=>subL_I w42ui1 _ _ _ _
def w42h1 [Alg] (N:Nat):Hint:=(.seq .d (.block (.seq .d (.cond (.seq (.reg [] [.nilC 3 0 (.row 3 (.i .i64) [] true)] []) (.block (.sub w42m0 _ _ _ w42X0_0 (noX 1) (noX 2) (subL w42I0 w42u0 (w42l0 N N))))) .d))))
theorem w42hk1 N (hc:CxOk (w42c N)):HintOk (w42c N) Tryd.f42.ntmps (w42h1 N) w42b1:=hk_of _ _ (And.intro trivial (And.intro trivial (And.intro (And.intro trivial (w42S0 N hc)) trivial)))
theorem w42q1 [Alg] (N:Nat) (K:Exit->Sg->O) (x:(List (YF2×Int))×Int×Bool×Int×Int×Int×Int):w42F1 N (w42s0 N) (fun y0 y1 y2 y3 y4 y5 y6 y7=>K (w42X1_0 (y0,y1,y2,y3,y4,y5,y6,y7)).1 (w42X1_0 (y0,y1,y2,y3,y4,y5,y6,y7)).2) x.1 x.2.1 x.2.2.1 x.2.2.2.1 x.2.2.2.2.1 x.2.2.2.2.2.1 x.2.2.2.2.2.2=exec (w42c N) Tryd.f42.ntmps (w42h1 N) w42b1 (w42I1 x) (partX w42w1 K):=by kernel_rfl
theorem w42S1 N (hc:CxOk (w42c N)):SubOk (w42c N) Tryd.f42.ntmps w42b1 w42X1_0 (noX 1) (noX 2) (subL w42I1 w42u1 (w42l1 N N)):=
 sub_part hc (w42hk1 N hc) (oK1 w42v1_0 .normal (fun _=>by kernel_rfl) (fun _=>rfl) (by kernel_rfl)) (fun x K=>by
  have q:=w42q1 N K x;rw [w42e0 N] at q;exact q)
def w42G [Alg] (N:Nat) (_in0:Bool->(List (YF2×Int))->Int->Bool->Int->Int->Int->Int->(List Int)->((List (YF2×Int))->Int->Bool->Int->Int->Int->Int->(List Int)->O)->O) (in1:(List (YF2×Int))->Int->Bool->Int->Int->Int->Int->((List (YF2×Int))->Int->Bool->Int->Int->Int->Int->(List Int)->O)->O) (h50_0:(List (YF2×Int))) (h50_1:Int) (h50_2:Bool):O:=
 in1 h50_0 h50_1 h50_2 0 0 0 0
  (fun z37 z38 z39 _ _ z42 z43 z44=>
   br z39
    (some (w42r0 z44 z42 z43 z37 z38 z39))
    (ck true <|
    ck (w58p N z37 z38 z39) <|
    br (decide (lF2x1=w58y0 N z37 z38 z39))
     (br false
      (some (w42r0 z44 z42 z43 (w58y1 N z37 z38 z39) (w58y2 N z37 z38 z39) true))
      (ck (w56p N [lF2x4,lF2x5] (w58y1 N z37 z38 z39) (IntKind.i64.wrap (w58y2 N z37 z38 z39+(1:Int))) (w58y3 N z37 z38 z39)) <|
      br (decide (w56y0 N [lF2x4,lF2x5] (w58y1 N z37 z38 z39) (IntKind.i64.wrap (w58y2 N z37 z38 z39+(1:Int))) (w58y3 N z37 z38 z39)=(0:Int)))
       (ck (w57p N [] (0:Int) (9999:Int) (w56y1 N [lF2x4,lF2x5] (w58y1 N z37 z38 z39) (IntKind.i64.wrap (w58y2 N z37 z38 z39+(1:Int))) (w58y3 N z37 z38 z39)) (w56y2 N [lF2x4,lF2x5] (w58y1 N z37 z38 z39) (IntKind.i64.wrap (w58y2 N z37 z38 z39+(1:Int))) (w58y3 N z37 z38 z39)) (w56y3 N [lF2x4,lF2x5] (w58y1 N z37 z38 z39) (IntKind.i64.wrap (w58y2 N z37 z38 z39+(1:Int))) (w58y3 N z37 z38 z39))) <|
       some (w42r0 z44 0 (w57y0 N [] (0:Int) (9999:Int) (w56y1 N [lF2x4,lF2x5] (w58y1 N z37 z38 z39) (IntKind.i64.wrap (w58y2 N z37 z38 z39+(1:Int))) (w58y3 N z37 z38 z39)) (w56y2 N [lF2x4,lF2x5] (w58y1 N z37 z38 z39) (IntKind.i64.wrap (w58y2 N z37 z38 z39+(1:Int))) (w58y3 N z37 z38 z39)) (w56y3 N [lF2x4,lF2x5] (w58y1 N z37 z38 z39) (IntKind.i64.wrap (w58y2 N z37 z38 z39+(1:Int))) (w58y3 N z37 z38 z39))) (w57y1 N [] (0:Int) (9999:Int) (w56y1 N [lF2x4,lF2x5] (w58y1 N z37 z38 z39) (IntKind.i64.wrap (w58y2 N z37 z38 z39+(1:Int))) (w58y3 N z37 z38 z39)) (w56y2 N [lF2x4,lF2x5] (w58y1 N z37 z38 z39) (IntKind.i64.wrap (w58y2 N z37 z38 z39+(1:Int))) (w58y3 N z37 z38 z39)) (w56y3 N [lF2x4,lF2x5] (w58y1 N z37 z38 z39) (IntKind.i64.wrap (w58y2 N z37 z38 z39+(1:Int))) (w58y3 N z37 z38 z39))) (w57y2 N [] (0:Int) (9999:Int) (w56y1 N [lF2x4,lF2x5] (w58y1 N z37 z38 z39) (IntKind.i64.wrap (w58y2 N z37 z38 z39+(1:Int))) (w58y3 N z37 z38 z39)) (w56y2 N [lF2x4,lF2x5] (w58y1 N z37 z38 z39) (IntKind.i64.wrap (w58y2 N z37 z38 z39+(1:Int))) (w58y3 N z37 z38 z39)) (w56y3 N [lF2x4,lF2x5] (w58y1 N z37 z38 z39) (IntKind.i64.wrap (w58y2 N z37 z38 z39+(1:Int))) (w58y3 N z37 z38 z39))) (w57y3 N [] (0:Int) (9999:Int) (w56y1 N [lF2x4,lF2x5] (w58y1 N z37 z38 z39) (IntKind.i64.wrap (w58y2 N z37 z38 z39+(1:Int))) (w58y3 N z37 z38 z39)) (w56y2 N [lF2x4,lF2x5] (w58y1 N z37 z38 z39) (IntKind.i64.wrap (w58y2 N z37 z38 z39+(1:Int))) (w58y3 N z37 z38 z39)) (w56y3 N [lF2x4,lF2x5] (w58y1 N z37 z38 z39) (IntKind.i64.wrap (w58y2 N z37 z38 z39+(1:Int))) (w58y3 N z37 z38 z39)))))
       (br (decide (w56y0 N [lF2x4,lF2x5] (w58y1 N z37 z38 z39) (IntKind.i64.wrap (w58y2 N z37 z38 z39+(1:Int))) (w58y3 N z37 z38 z39)=(1:Int)))
        (ck (w57p N [] (0:Int) (9999:Int) (w56y1 N [lF2x4,lF2x5] (w58y1 N z37 z38 z39) (IntKind.i64.wrap (w58y2 N z37 z38 z39+(1:Int))) (w58y3 N z37 z38 z39)) (w56y2 N [lF2x4,lF2x5] (w58y1 N z37 z38 z39) (IntKind.i64.wrap (w58y2 N z37 z38 z39+(1:Int))) (w58y3 N z37 z38 z39)) (w56y3 N [lF2x4,lF2x5] (w58y1 N z37 z38 z39) (IntKind.i64.wrap (w58y2 N z37 z38 z39+(1:Int))) (w58y3 N z37 z38 z39))) <|
        some (w42r0 z44 0 (IntKind.i64.wrap ((-1:Int) - w57y0 N [] (0:Int) (9999:Int) (w56y1 N [lF2x4,lF2x5] (w58y1 N z37 z38 z39) (IntKind.i64.wrap (w58y2 N z37 z38 z39+(1:Int))) (w58y3 N z37 z38 z39)) (w56y2 N [lF2x4,lF2x5] (w58y1 N z37 z38 z39) (IntKind.i64.wrap (w58y2 N z37 z38 z39+(1:Int))) (w58y3 N z37 z38 z39)) (w56y3 N [lF2x4,lF2x5] (w58y1 N z37 z38 z39) (IntKind.i64.wrap (w58y2 N z37 z38 z39+(1:Int))) (w58y3 N z37 z38 z39)))) (w57y1 N [] (0:Int) (9999:Int) (w56y1 N [lF2x4,lF2x5] (w58y1 N z37 z38 z39) (IntKind.i64.wrap (w58y2 N z37 z38 z39+(1:Int))) (w58y3 N z37 z38 z39)) (w56y2 N [lF2x4,lF2x5] (w58y1 N z37 z38 z39) (IntKind.i64.wrap (w58y2 N z37 z38 z39+(1:Int))) (w58y3 N z37 z38 z39)) (w56y3 N [lF2x4,lF2x5] (w58y1 N z37 z38 z39) (IntKind.i64.wrap (w58y2 N z37 z38 z39+(1:Int))) (w58y3 N z37 z38 z39))) (w57y2 N [] (0:Int) (9999:Int) (w56y1 N [lF2x4,lF2x5] (w58y1 N z37 z38 z39) (IntKind.i64.wrap (w58y2 N z37 z38 z39+(1:Int))) (w58y3 N z37 z38 z39)) (w56y2 N [lF2x4,lF2x5] (w58y1 N z37 z38 z39) (IntKind.i64.wrap (w58y2 N z37 z38 z39+(1:Int))) (w58y3 N z37 z38 z39)) (w56y3 N [lF2x4,lF2x5] (w58y1 N z37 z38 z39) (IntKind.i64.wrap (w58y2 N z37 z38 z39+(1:Int))) (w58y3 N z37 z38 z39))) (w57y3 N [] (0:Int) (9999:Int) (w56y1 N [lF2x4,lF2x5] (w58y1 N z37 z38 z39) (IntKind.i64.wrap (w58y2 N z37 z38 z39+(1:Int))) (w58y3 N z37 z38 z39)) (w56y2 N [lF2x4,lF2x5] (w58y1 N z37 z38 z39) (IntKind.i64.wrap (w58y2 N z37 z38 z39+(1:Int))) (w58y3 N z37 z38 z39)) (w56y3 N [lF2x4,lF2x5] (w58y1 N z37 z38 z39) (IntKind.i64.wrap (w58y2 N z37 z38 z39+(1:Int))) (w58y3 N z37 z38 z39)))))
        (some (w42r0 z44 0 z43 (w56y1 N [lF2x4,lF2x5] (w58y1 N z37 z38 z39) (IntKind.i64.wrap (w58y2 N z37 z38 z39+(1:Int))) (w58y3 N z37 z38 z39)) (w56y2 N [lF2x4,lF2x5] (w58y1 N z37 z38 z39) (IntKind.i64.wrap (w58y2 N z37 z38 z39+(1:Int))) (w58y3 N z37 z38 z39)) true)))))
     (br (decide (lF2x0=w58y0 N z37 z38 z39))
      (br false
       (some (w42r0 z44 z42 z43 (w58y1 N z37 z38 z39) (w58y2 N z37 z38 z39) true))
       (ck (w56p N [lF2x4,lF2x5] (w58y1 N z37 z38 z39) (IntKind.i64.wrap (w58y2 N z37 z38 z39+(1:Int))) (w58y3 N z37 z38 z39)) <|
       br (decide (w56y0 N [lF2x4,lF2x5] (w58y1 N z37 z38 z39) (IntKind.i64.wrap (w58y2 N z37 z38 z39+(1:Int))) (w58y3 N z37 z38 z39)=(0:Int)))
        (ck (w57p N [] (0:Int) (9999:Int) (w56y1 N [lF2x4,lF2x5] (w58y1 N z37 z38 z39) (IntKind.i64.wrap (w58y2 N z37 z38 z39+(1:Int))) (w58y3 N z37 z38 z39)) (w56y2 N [lF2x4,lF2x5] (w58y1 N z37 z38 z39) (IntKind.i64.wrap (w58y2 N z37 z38 z39+(1:Int))) (w58y3 N z37 z38 z39)) (w56y3 N [lF2x4,lF2x5] (w58y1 N z37 z38 z39) (IntKind.i64.wrap (w58y2 N z37 z38 z39+(1:Int))) (w58y3 N z37 z38 z39))) <|
        some (w42r0 z44 1 (w57y0 N [] (0:Int) (9999:Int) (w56y1 N [lF2x4,lF2x5] (w58y1 N z37 z38 z39) (IntKind.i64.wrap (w58y2 N z37 z38 z39+(1:Int))) (w58y3 N z37 z38 z39)) (w56y2 N [lF2x4,lF2x5] (w58y1 N z37 z38 z39) (IntKind.i64.wrap (w58y2 N z37 z38 z39+(1:Int))) (w58y3 N z37 z38 z39)) (w56y3 N [lF2x4,lF2x5] (w58y1 N z37 z38 z39) (IntKind.i64.wrap (w58y2 N z37 z38 z39+(1:Int))) (w58y3 N z37 z38 z39))) (w57y1 N [] (0:Int) (9999:Int) (w56y1 N [lF2x4,lF2x5] (w58y1 N z37 z38 z39) (IntKind.i64.wrap (w58y2 N z37 z38 z39+(1:Int))) (w58y3 N z37 z38 z39)) (w56y2 N [lF2x4,lF2x5] (w58y1 N z37 z38 z39) (IntKind.i64.wrap (w58y2 N z37 z38 z39+(1:Int))) (w58y3 N z37 z38 z39)) (w56y3 N [lF2x4,lF2x5] (w58y1 N z37 z38 z39) (IntKind.i64.wrap (w58y2 N z37 z38 z39+(1:Int))) (w58y3 N z37 z38 z39))) (w57y2 N [] (0:Int) (9999:Int) (w56y1 N [lF2x4,lF2x5] (w58y1 N z37 z38 z39) (IntKind.i64.wrap (w58y2 N z37 z38 z39+(1:Int))) (w58y3 N z37 z38 z39)) (w56y2 N [lF2x4,lF2x5] (w58y1 N z37 z38 z39) (IntKind.i64.wrap (w58y2 N z37 z38 z39+(1:Int))) (w58y3 N z37 z38 z39)) (w56y3 N [lF2x4,lF2x5] (w58y1 N z37 z38 z39) (IntKind.i64.wrap (w58y2 N z37 z38 z39+(1:Int))) (w58y3 N z37 z38 z39))) (w57y3 N [] (0:Int) (9999:Int) (w56y1 N [lF2x4,lF2x5] (w58y1 N z37 z38 z39) (IntKind.i64.wrap (w58y2 N z37 z38 z39+(1:Int))) (w58y3 N z37 z38 z39)) (w56y2 N [lF2x4,lF2x5] (w58y1 N z37 z38 z39) (IntKind.i64.wrap (w58y2 N z37 z38 z39+(1:Int))) (w58y3 N z37 z38 z39)) (w56y3 N [lF2x4,lF2x5] (w58y1 N z37 z38 z39) (IntKind.i64.wrap (w58y2 N z37 z38 z39+(1:Int))) (w58y3 N z37 z38 z39)))))
        (br (decide (w56y0 N [lF2x4,lF2x5] (w58y1 N z37 z38 z39) (IntKind.i64.wrap (w58y2 N z37 z38 z39+(1:Int))) (w58y3 N z37 z38 z39)=(1:Int)))
         (ck (w57p N [] (0:Int) (9999:Int) (w56y1 N [lF2x4,lF2x5] (w58y1 N z37 z38 z39) (IntKind.i64.wrap (w58y2 N z37 z38 z39+(1:Int))) (w58y3 N z37 z38 z39)) (w56y2 N [lF2x4,lF2x5] (w58y1 N z37 z38 z39) (IntKind.i64.wrap (w58y2 N z37 z38 z39+(1:Int))) (w58y3 N z37 z38 z39)) (w56y3 N [lF2x4,lF2x5] (w58y1 N z37 z38 z39) (IntKind.i64.wrap (w58y2 N z37 z38 z39+(1:Int))) (w58y3 N z37 z38 z39))) <|
         some (w42r0 z44 1 (IntKind.i64.wrap ((-1:Int) - w57y0 N [] (0:Int) (9999:Int) (w56y1 N [lF2x4,lF2x5] (w58y1 N z37 z38 z39) (IntKind.i64.wrap (w58y2 N z37 z38 z39+(1:Int))) (w58y3 N z37 z38 z39)) (w56y2 N [lF2x4,lF2x5] (w58y1 N z37 z38 z39) (IntKind.i64.wrap (w58y2 N z37 z38 z39+(1:Int))) (w58y3 N z37 z38 z39)) (w56y3 N [lF2x4,lF2x5] (w58y1 N z37 z38 z39) (IntKind.i64.wrap (w58y2 N z37 z38 z39+(1:Int))) (w58y3 N z37 z38 z39)))) (w57y1 N [] (0:Int) (9999:Int) (w56y1 N [lF2x4,lF2x5] (w58y1 N z37 z38 z39) (IntKind.i64.wrap (w58y2 N z37 z38 z39+(1:Int))) (w58y3 N z37 z38 z39)) (w56y2 N [lF2x4,lF2x5] (w58y1 N z37 z38 z39) (IntKind.i64.wrap (w58y2 N z37 z38 z39+(1:Int))) (w58y3 N z37 z38 z39)) (w56y3 N [lF2x4,lF2x5] (w58y1 N z37 z38 z39) (IntKind.i64.wrap (w58y2 N z37 z38 z39+(1:Int))) (w58y3 N z37 z38 z39))) (w57y2 N [] (0:Int) (9999:Int) (w56y1 N [lF2x4,lF2x5] (w58y1 N z37 z38 z39) (IntKind.i64.wrap (w58y2 N z37 z38 z39+(1:Int))) (w58y3 N z37 z38 z39)) (w56y2 N [lF2x4,lF2x5] (w58y1 N z37 z38 z39) (IntKind.i64.wrap (w58y2 N z37 z38 z39+(1:Int))) (w58y3 N z37 z38 z39)) (w56y3 N [lF2x4,lF2x5] (w58y1 N z37 z38 z39) (IntKind.i64.wrap (w58y2 N z37 z38 z39+(1:Int))) (w58y3 N z37 z38 z39))) (w57y3 N [] (0:Int) (9999:Int) (w56y1 N [lF2x4,lF2x5] (w58y1 N z37 z38 z39) (IntKind.i64.wrap (w58y2 N z37 z38 z39+(1:Int))) (w58y3 N z37 z38 z39)) (w56y2 N [lF2x4,lF2x5] (w58y1 N z37 z38 z39) (IntKind.i64.wrap (w58y2 N z37 z38 z39+(1:Int))) (w58y3 N z37 z38 z39)) (w56y3 N [lF2x4,lF2x5] (w58y1 N z37 z38 z39) (IntKind.i64.wrap (w58y2 N z37 z38 z39+(1:Int))) (w58y3 N z37 z38 z39)))))
         (some (w42r0 z44 1 z43 (w56y1 N [lF2x4,lF2x5] (w58y1 N z37 z38 z39) (IntKind.i64.wrap (w58y2 N z37 z38 z39+(1:Int))) (w58y3 N z37 z38 z39)) (w56y2 N [lF2x4,lF2x5] (w58y1 N z37 z38 z39) (IntKind.i64.wrap (w58y2 N z37 z38 z39+(1:Int))) (w58y3 N z37 z38 z39)) true)))))
      (br (decide (lF2x2=w58y0 N z37 z38 z39))
       (br false
        (some (w42r0 z44 z42 z43 (w58y1 N z37 z38 z39) (w58y2 N z37 z38 z39) true))
        (ck (w56p N [lF2x4,lF2x5] (w58y1 N z37 z38 z39) (IntKind.i64.wrap (w58y2 N z37 z38 z39+(1:Int))) (w58y3 N z37 z38 z39)) <|
        br (decide (w56y0 N [lF2x4,lF2x5] (w58y1 N z37 z38 z39) (IntKind.i64.wrap (w58y2 N z37 z38 z39+(1:Int))) (w58y3 N z37 z38 z39)=(0:Int)))
         (ck (w57p N [] (0:Int) (9999:Int) (w56y1 N [lF2x4,lF2x5] (w58y1 N z37 z38 z39) (IntKind.i64.wrap (w58y2 N z37 z38 z39+(1:Int))) (w58y3 N z37 z38 z39)) (w56y2 N [lF2x4,lF2x5] (w58y1 N z37 z38 z39) (IntKind.i64.wrap (w58y2 N z37 z38 z39+(1:Int))) (w58y3 N z37 z38 z39)) (w56y3 N [lF2x4,lF2x5] (w58y1 N z37 z38 z39) (IntKind.i64.wrap (w58y2 N z37 z38 z39+(1:Int))) (w58y3 N z37 z38 z39))) <|
         some (w42r0 z44 2 (w57y0 N [] (0:Int) (9999:Int) (w56y1 N [lF2x4,lF2x5] (w58y1 N z37 z38 z39) (IntKind.i64.wrap (w58y2 N z37 z38 z39+(1:Int))) (w58y3 N z37 z38 z39)) (w56y2 N [lF2x4,lF2x5] (w58y1 N z37 z38 z39) (IntKind.i64.wrap (w58y2 N z37 z38 z39+(1:Int))) (w58y3 N z37 z38 z39)) (w56y3 N [lF2x4,lF2x5] (w58y1 N z37 z38 z39) (IntKind.i64.wrap (w58y2 N z37 z38 z39+(1:Int))) (w58y3 N z37 z38 z39))) (w57y1 N [] (0:Int) (9999:Int) (w56y1 N [lF2x4,lF2x5] (w58y1 N z37 z38 z39) (IntKind.i64.wrap (w58y2 N z37 z38 z39+(1:Int))) (w58y3 N z37 z38 z39)) (w56y2 N [lF2x4,lF2x5] (w58y1 N z37 z38 z39) (IntKind.i64.wrap (w58y2 N z37 z38 z39+(1:Int))) (w58y3 N z37 z38 z39)) (w56y3 N [lF2x4,lF2x5] (w58y1 N z37 z38 z39) (IntKind.i64.wrap (w58y2 N z37 z38 z39+(1:Int))) (w58y3 N z37 z38 z39))) (w57y2 N [] (0:Int) (9999:Int) (w56y1 N [lF2x4,lF2x5] (w58y1 N z37 z38 z39) (IntKind.i64.wrap (w58y2 N z37 z38 z39+(1:Int))) (w58y3 N z37 z38 z39)) (w56y2 N [lF2x4,lF2x5] (w58y1 N z37 z38 z39) (IntKind.i64.wrap (w58y2 N z37 z38 z39+(1:Int))) (w58y3 N z37 z38 z39)) (w56y3 N [lF2x4,lF2x5] (w58y1 N z37 z38 z39) (IntKind.i64.wrap (w58y2 N z37 z38 z39+(1:Int))) (w58y3 N z37 z38 z39))) (w57y3 N [] (0:Int) (9999:Int) (w56y1 N [lF2x4,lF2x5] (w58y1 N z37 z38 z39) (IntKind.i64.wrap (w58y2 N z37 z38 z39+(1:Int))) (w58y3 N z37 z38 z39)) (w56y2 N [lF2x4,lF2x5] (w58y1 N z37 z38 z39) (IntKind.i64.wrap (w58y2 N z37 z38 z39+(1:Int))) (w58y3 N z37 z38 z39)) (w56y3 N [lF2x4,lF2x5] (w58y1 N z37 z38 z39) (IntKind.i64.wrap (w58y2 N z37 z38 z39+(1:Int))) (w58y3 N z37 z38 z39)))))
         (br (decide (w56y0 N [lF2x4,lF2x5] (w58y1 N z37 z38 z39) (IntKind.i64.wrap (w58y2 N z37 z38 z39+(1:Int))) (w58y3 N z37 z38 z39)=(1:Int)))
          (ck (w57p N [] (0:Int) (9999:Int) (w56y1 N [lF2x4,lF2x5] (w58y1 N z37 z38 z39) (IntKind.i64.wrap (w58y2 N z37 z38 z39+(1:Int))) (w58y3 N z37 z38 z39)) (w56y2 N [lF2x4,lF2x5] (w58y1 N z37 z38 z39) (IntKind.i64.wrap (w58y2 N z37 z38 z39+(1:Int))) (w58y3 N z37 z38 z39)) (w56y3 N [lF2x4,lF2x5] (w58y1 N z37 z38 z39) (IntKind.i64.wrap (w58y2 N z37 z38 z39+(1:Int))) (w58y3 N z37 z38 z39))) <|
          some (w42r0 z44 2 (IntKind.i64.wrap ((-1:Int) - w57y0 N [] (0:Int) (9999:Int) (w56y1 N [lF2x4,lF2x5] (w58y1 N z37 z38 z39) (IntKind.i64.wrap (w58y2 N z37 z38 z39+(1:Int))) (w58y3 N z37 z38 z39)) (w56y2 N [lF2x4,lF2x5] (w58y1 N z37 z38 z39) (IntKind.i64.wrap (w58y2 N z37 z38 z39+(1:Int))) (w58y3 N z37 z38 z39)) (w56y3 N [lF2x4,lF2x5] (w58y1 N z37 z38 z39) (IntKind.i64.wrap (w58y2 N z37 z38 z39+(1:Int))) (w58y3 N z37 z38 z39)))) (w57y1 N [] (0:Int) (9999:Int) (w56y1 N [lF2x4,lF2x5] (w58y1 N z37 z38 z39) (IntKind.i64.wrap (w58y2 N z37 z38 z39+(1:Int))) (w58y3 N z37 z38 z39)) (w56y2 N [lF2x4,lF2x5] (w58y1 N z37 z38 z39) (IntKind.i64.wrap (w58y2 N z37 z38 z39+(1:Int))) (w58y3 N z37 z38 z39)) (w56y3 N [lF2x4,lF2x5] (w58y1 N z37 z38 z39) (IntKind.i64.wrap (w58y2 N z37 z38 z39+(1:Int))) (w58y3 N z37 z38 z39))) (w57y2 N [] (0:Int) (9999:Int) (w56y1 N [lF2x4,lF2x5] (w58y1 N z37 z38 z39) (IntKind.i64.wrap (w58y2 N z37 z38 z39+(1:Int))) (w58y3 N z37 z38 z39)) (w56y2 N [lF2x4,lF2x5] (w58y1 N z37 z38 z39) (IntKind.i64.wrap (w58y2 N z37 z38 z39+(1:Int))) (w58y3 N z37 z38 z39)) (w56y3 N [lF2x4,lF2x5] (w58y1 N z37 z38 z39) (IntKind.i64.wrap (w58y2 N z37 z38 z39+(1:Int))) (w58y3 N z37 z38 z39))) (w57y3 N [] (0:Int) (9999:Int) (w56y1 N [lF2x4,lF2x5] (w58y1 N z37 z38 z39) (IntKind.i64.wrap (w58y2 N z37 z38 z39+(1:Int))) (w58y3 N z37 z38 z39)) (w56y2 N [lF2x4,lF2x5] (w58y1 N z37 z38 z39) (IntKind.i64.wrap (w58y2 N z37 z38 z39+(1:Int))) (w58y3 N z37 z38 z39)) (w56y3 N [lF2x4,lF2x5] (w58y1 N z37 z38 z39) (IntKind.i64.wrap (w58y2 N z37 z38 z39+(1:Int))) (w58y3 N z37 z38 z39)))))
          (some (w42r0 z44 2 z43 (w56y1 N [lF2x4,lF2x5] (w58y1 N z37 z38 z39) (IntKind.i64.wrap (w58y2 N z37 z38 z39+(1:Int))) (w58y3 N z37 z38 z39)) (w56y2 N [lF2x4,lF2x5] (w58y1 N z37 z38 z39) (IntKind.i64.wrap (w58y2 N z37 z38 z39+(1:Int))) (w58y3 N z37 z38 z39)) true)))))
       (br true
        (some (w42r0 z44 z42 z43 (w58y1 N z37 z38 z39) (w58y2 N z37 z38 z39) true))
        (ck (w56p N [lF2x4,lF2x5] (w58y1 N z37 z38 z39) (IntKind.i64.wrap (w58y2 N z37 z38 z39+(1:Int))) (w58y3 N z37 z38 z39)) <|
        br (decide (w56y0 N [lF2x4,lF2x5] (w58y1 N z37 z38 z39) (IntKind.i64.wrap (w58y2 N z37 z38 z39+(1:Int))) (w58y3 N z37 z38 z39)=(0:Int)))
         (ck (w57p N [] (0:Int) (9999:Int) (w56y1 N [lF2x4,lF2x5] (w58y1 N z37 z38 z39) (IntKind.i64.wrap (w58y2 N z37 z38 z39+(1:Int))) (w58y3 N z37 z38 z39)) (w56y2 N [lF2x4,lF2x5] (w58y1 N z37 z38 z39) (IntKind.i64.wrap (w58y2 N z37 z38 z39+(1:Int))) (w58y3 N z37 z38 z39)) (w56y3 N [lF2x4,lF2x5] (w58y1 N z37 z38 z39) (IntKind.i64.wrap (w58y2 N z37 z38 z39+(1:Int))) (w58y3 N z37 z38 z39))) <|
         some (w42r0 z44 0 (w57y0 N [] (0:Int) (9999:Int) (w56y1 N [lF2x4,lF2x5] (w58y1 N z37 z38 z39) (IntKind.i64.wrap (w58y2 N z37 z38 z39+(1:Int))) (w58y3 N z37 z38 z39)) (w56y2 N [lF2x4,lF2x5] (w58y1 N z37 z38 z39) (IntKind.i64.wrap (w58y2 N z37 z38 z39+(1:Int))) (w58y3 N z37 z38 z39)) (w56y3 N [lF2x4,lF2x5] (w58y1 N z37 z38 z39) (IntKind.i64.wrap (w58y2 N z37 z38 z39+(1:Int))) (w58y3 N z37 z38 z39))) (w57y1 N [] (0:Int) (9999:Int) (w56y1 N [lF2x4,lF2x5] (w58y1 N z37 z38 z39) (IntKind.i64.wrap (w58y2 N z37 z38 z39+(1:Int))) (w58y3 N z37 z38 z39)) (w56y2 N [lF2x4,lF2x5] (w58y1 N z37 z38 z39) (IntKind.i64.wrap (w58y2 N z37 z38 z39+(1:Int))) (w58y3 N z37 z38 z39)) (w56y3 N [lF2x4,lF2x5] (w58y1 N z37 z38 z39) (IntKind.i64.wrap (w58y2 N z37 z38 z39+(1:Int))) (w58y3 N z37 z38 z39))) (w57y2 N [] (0:Int) (9999:Int) (w56y1 N [lF2x4,lF2x5] (w58y1 N z37 z38 z39) (IntKind.i64.wrap (w58y2 N z37 z38 z39+(1:Int))) (w58y3 N z37 z38 z39)) (w56y2 N [lF2x4,lF2x5] (w58y1 N z37 z38 z39) (IntKind.i64.wrap (w58y2 N z37 z38 z39+(1:Int))) (w58y3 N z37 z38 z39)) (w56y3 N [lF2x4,lF2x5] (w58y1 N z37 z38 z39) (IntKind.i64.wrap (w58y2 N z37 z38 z39+(1:Int))) (w58y3 N z37 z38 z39))) (w57y3 N [] (0:Int) (9999:Int) (w56y1 N [lF2x4,lF2x5] (w58y1 N z37 z38 z39) (IntKind.i64.wrap (w58y2 N z37 z38 z39+(1:Int))) (w58y3 N z37 z38 z39)) (w56y2 N [lF2x4,lF2x5] (w58y1 N z37 z38 z39) (IntKind.i64.wrap (w58y2 N z37 z38 z39+(1:Int))) (w58y3 N z37 z38 z39)) (w56y3 N [lF2x4,lF2x5] (w58y1 N z37 z38 z39) (IntKind.i64.wrap (w58y2 N z37 z38 z39+(1:Int))) (w58y3 N z37 z38 z39)))))
         (br (decide (w56y0 N [lF2x4,lF2x5] (w58y1 N z37 z38 z39) (IntKind.i64.wrap (w58y2 N z37 z38 z39+(1:Int))) (w58y3 N z37 z38 z39)=(1:Int)))
          (ck (w57p N [] (0:Int) (9999:Int) (w56y1 N [lF2x4,lF2x5] (w58y1 N z37 z38 z39) (IntKind.i64.wrap (w58y2 N z37 z38 z39+(1:Int))) (w58y3 N z37 z38 z39)) (w56y2 N [lF2x4,lF2x5] (w58y1 N z37 z38 z39) (IntKind.i64.wrap (w58y2 N z37 z38 z39+(1:Int))) (w58y3 N z37 z38 z39)) (w56y3 N [lF2x4,lF2x5] (w58y1 N z37 z38 z39) (IntKind.i64.wrap (w58y2 N z37 z38 z39+(1:Int))) (w58y3 N z37 z38 z39))) <|
          some (w42r0 z44 0 (IntKind.i64.wrap ((-1:Int) - w57y0 N [] (0:Int) (9999:Int) (w56y1 N [lF2x4,lF2x5] (w58y1 N z37 z38 z39) (IntKind.i64.wrap (w58y2 N z37 z38 z39+(1:Int))) (w58y3 N z37 z38 z39)) (w56y2 N [lF2x4,lF2x5] (w58y1 N z37 z38 z39) (IntKind.i64.wrap (w58y2 N z37 z38 z39+(1:Int))) (w58y3 N z37 z38 z39)) (w56y3 N [lF2x4,lF2x5] (w58y1 N z37 z38 z39) (IntKind.i64.wrap (w58y2 N z37 z38 z39+(1:Int))) (w58y3 N z37 z38 z39)))) (w57y1 N [] (0:Int) (9999:Int) (w56y1 N [lF2x4,lF2x5] (w58y1 N z37 z38 z39) (IntKind.i64.wrap (w58y2 N z37 z38 z39+(1:Int))) (w58y3 N z37 z38 z39)) (w56y2 N [lF2x4,lF2x5] (w58y1 N z37 z38 z39) (IntKind.i64.wrap (w58y2 N z37 z38 z39+(1:Int))) (w58y3 N z37 z38 z39)) (w56y3 N [lF2x4,lF2x5] (w58y1 N z37 z38 z39) (IntKind.i64.wrap (w58y2 N z37 z38 z39+(1:Int))) (w58y3 N z37 z38 z39))) (w57y2 N [] (0:Int) (9999:Int) (w56y1 N [lF2x4,lF2x5] (w58y1 N z37 z38 z39) (IntKind.i64.wrap (w58y2 N z37 z38 z39+(1:Int))) (w58y3 N z37 z38 z39)) (w56y2 N [lF2x4,lF2x5] (w58y1 N z37 z38 z39) (IntKind.i64.wrap (w58y2 N z37 z38 z39+(1:Int))) (w58y3 N z37 z38 z39)) (w56y3 N [lF2x4,lF2x5] (w58y1 N z37 z38 z39) (IntKind.i64.wrap (w58y2 N z37 z38 z39+(1:Int))) (w58y3 N z37 z38 z39))) (w57y3 N [] (0:Int) (9999:Int) (w56y1 N [lF2x4,lF2x5] (w58y1 N z37 z38 z39) (IntKind.i64.wrap (w58y2 N z37 z38 z39+(1:Int))) (w58y3 N z37 z38 z39)) (w56y2 N [lF2x4,lF2x5] (w58y1 N z37 z38 z39) (IntKind.i64.wrap (w58y2 N z37 z38 z39+(1:Int))) (w58y3 N z37 z38 z39)) (w56y3 N [lF2x4,lF2x5] (w58y1 N z37 z38 z39) (IntKind.i64.wrap (w58y2 N z37 z38 z39+(1:Int))) (w58y3 N z37 z38 z39)))))
          (some (w42r0 z44 0 z43 (w56y1 N [lF2x4,lF2x5] (w58y1 N z37 z38 z39) (IntKind.i64.wrap (w58y2 N z37 z38 z39+(1:Int))) (w58y3 N z37 z38 z39)) (w56y2 N [lF2x4,lF2x5] (w58y1 N z37 z38 z39) (IntKind.i64.wrap (w58y2 N z37 z38 z39+(1:Int))) (w58y3 N z37 z38 z39)) true)))))))))
def w42 [Alg] N h50_0 h50_1 h50_2:=w42G N (w42n0 N) (w42n1 N) h50_0 h50_1 h50_2
def w42h [Alg] (N:Nat):Hint:=(.seq .d (.seq .d (.seq .d (.seq (.sub w42m1 _ _ _ w42X1_0 (noX 1) (noX 2) (subL w42I1 w42u1 (w42l1 N N))) (.seq (.seq .d (.cond (.seq (.reg [] [.cv 3 0 (.sl (.i .i64))] []) .d) .d)) (.seq (.reg [] [] [[],[],[50],[],[],[],[],[],[]]) (.seq (.seq .d (.cond (.seq .d (.seq (.reg [] [.cv 3 0 (.sl (.i .i64))] []) .d)) .d)) (.seq .d (.seq .d (.seq .d (.seq (.reg [] [.cv 3 0 (.sl (.i .i64))] []) .d)))))))))))
theorem w42hk N (hc:CxOk (w42c N)):HintOk (w42c N) Tryd.f42.ntmps (w42h N) w42b:=hk_of _ _ (And.intro trivial (And.intro trivial (And.intro trivial (And.intro (w42S1 N hc) (And.intro (And.intro trivial (And.intro (And.intro trivial trivial) trivial)) (And.intro trivial (And.intro (And.intro trivial (And.intro (And.intro trivial (And.intro trivial trivial)) trivial)) (And.intro trivial (And.intro trivial (And.intro trivial (And.intro trivial trivial)))))))))))
theorem w42q [Alg] N h50_0 h50_1 h50_2:w42G N (w42s0 N) (w42s1 N) h50_0 h50_1 h50_2=exec (w42c N) Tryd.f42.ntmps (w42h N) w42b ⟨argT 0 [.ref 50 0],[(50,.box 89 [.e (.sl (.pr .tx (.i .i64))) h50_0,.e (.i .i64) h50_1,.e .bo h50_2])],100⟩ (finX (w42c N) Tryd.f42 true):=by kernel_rfl
def w42un (r:Res):Option ((List Int)×Int×Int×(List (YF2×Int))×Int×Bool):=match r with
 | (.agg [x0,x1,x2],[(50,.box 89 [x3,x4,x5])])=>(match ue (.sl (.i .i64)) x0,ue (.i .i64) x1,ue (.i .i64) x2,ue (.sl (.pr .tx (.i .i64))) x3,ue (.i .i64) x4,ue .bo x5 with | some a0,some a1,some a2,some a3,some a4,some a5=>some (a0,a1,a2,a3,a4,a5) | _,_,_,_,_,_=>none)
 | _=>none
theorem w42uo {r d} (h:w42un r=some d):r=w42r0 d.1 d.2.1 d.2.2.1 d.2.2.2.1 d.2.2.2.2.1 d.2.2.2.2.2:=by
 unfold w42un at h;split at h
 ·split at h
  ·rename_i h0 h1 h2 h3 h4 h5;cases h;rw [ue_some h0,ue_some h1,ue_some h2,ue_some h3,ue_some h4,ue_some h5];rfl
  ·cases h
 ·cases h
def w42z N h50_0 h50_1 h50_2:=(w42 N h50_0 h50_1 h50_2).bind w42un
theorem w42fin {N} (hc:CxOk (w42c N)) {h50_0 h50_1 h50_2 d} (hd:w42z N h50_0 h50_1 h50_2=some d):DoK Tryd.prog 42 [.ref 50 0] [(50,.box 89 [.e (.sl (.pr .tx (.i .i64))) h50_0,.e (.i .i64) h50_1,.e .bo h50_2])] (w42r0 d.1 d.2.1 d.2.2.1 d.2.2.2.1 d.2.2.2.2.1 d.2.2.2.2.2):=
 finJ hc (by kernel_rfl) (by kernel_rfl) (w42hk N hc) (by kernel_rfl) w42uo (fun hr=>(w42q N h50_0 h50_1 h50_2).symm.trans (by rw [w42e0 N,w42e1 N];exact hr)) hd
def w42p N h50_0 h50_1 h50_2:=(w42z N h50_0 h50_1 h50_2).isSome
def w42y0 N h50_0 h50_1 h50_2:=((w42z N h50_0 h50_1 h50_2).getD ([],0,0,[],0,false)).1
def w42y1 N h50_0 h50_1 h50_2:=((w42z N h50_0 h50_1 h50_2).getD ([],0,0,[],0,false)).2.1
def w42y2 N h50_0 h50_1 h50_2:=((w42z N h50_0 h50_1 h50_2).getD ([],0,0,[],0,false)).2.2.1
def w42y3 N h50_0 h50_1 h50_2:=((w42z N h50_0 h50_1 h50_2).getD ([],0,0,[],0,false)).2.2.2.1
def w42y4 N h50_0 h50_1 h50_2:=((w42z N h50_0 h50_1 h50_2).getD ([],0,0,[],0,false)).2.2.2.2.1
def w42y5 N h50_0 h50_1 h50_2:=((w42z N h50_0 h50_1 h50_2).getD ([],0,0,[],0,false)).2.2.2.2.2
def w42in (xs:List X) (H:XH):Option ((List (YF2×Int))×Int×Bool):=match xs,H with
 | [.ref 50 0],[(50,.box 89 [x0,x1,x2])]=>(match ue (.sl (.pr .tx (.i .i64))) x0,ue (.i .i64) x1,ue .bo x2 with | some a0,some a1,some a2=>some (a0,a1,a2) | _,_,_=>none)
 | _,_=>none
theorem w42io {xs H d} (h:w42in xs H=some d):xs=[.ref 50 0]/\H=[(50,.box 89 [.e (.sl (.pr .tx (.i .i64))) d.1,.e (.i .i64) d.2.1,.e .bo d.2.2])]:=by
 unfold w42in at h;split at h
 ·split at h
  ·rename_i h0 h1 h2;cases h;rw [ue_some h0,ue_some h1,ue_some h2];exact ⟨rfl,rfl⟩
  ·cases h
 ·cases h
def w42e (N:Nat):Ent':=entR w42in (fun d=>w42p N d.1 d.2.1 d.2.2) (fun d=>w42r0 (w42y0 N d.1 d.2.1 d.2.2) (w42y1 N d.1 d.2.1 d.2.2) (w42y2 N d.1 d.2.1 d.2.2) (w42y3 N d.1 d.2.1 d.2.2) (w42y4 N d.1 d.2.1 d.2.2) (w42y5 N d.1 d.2.1 d.2.2))
theorem w42ok N:EOk Tryd.prog 42 (w42e N):=entR_ok w42io (fun d h=>okG (z:=w42z N d.1 d.2.1 d.2.2) h (w42fin (w42cx N)) rfl)
def w24r0 (a0:(List ((List Int)×(Int×Int)))) (a1 a2:Int):Res:=(.tup [.e (.sl (.pr (.sl (.i .i64)) (.pr (.i .i64) (.i .i64)))) a0,.e (.i .i64) a1,.e (.i .i64) a2],[])
def w24c (N:Nat):Cx:=⟨Tryd.prog,99999,[(41,w41e N),(42,w42e N)],[]⟩
def w24b:Code:=Tryd.f24.body.getD .skip
theorem w24cx N:CxOk (w24c N):=ctx_ok (by kernel_rfl) (.cons (by kernel_rfl) (w41ok N) (.cons (by kernel_rfl) (w42ok N) .nil)) .nil
def w24F0 [Alg] (N:Nat) (self:(List (YF2×Int))->Int->Bool->(List ((List Int)×(Int×Int)))->O) (k0:Int->Int->O) (k1:YF2->Int->(List ((List Int)×(Int×Int)))->O) (x0_0:YF2) (x0_1:(List (YF2×Int))) (x0_2:Int) (x0_3:(List (YF2×Int))) (x0_4:Int) (x0_5:Bool) (x0_6:(List ((List Int)×(Int×Int)))):O:=
 br (decide (x0_4 < (↑x0_1.length:Int)))
  (ck (w42p N x0_3 x0_4 x0_5) <|
  br (w42y5 N x0_3 x0_4 x0_5)
   (br (decide (w42y4 N x0_3 x0_4 x0_5 < (↑x0_1.length:Int)))
    (gx x0_1 (w42y4 N x0_3 x0_4 x0_5) fun y4=>
    k0 y4.2 2)
    (k0 x0_2 2))
   (ck (lim (x0_6++[(w42y0 N x0_3 x0_4 x0_5,w42y1 N x0_3 x0_4 x0_5,w42y2 N x0_3 x0_4 x0_5)]).length (40:Nat)) <|
   self (w42y3 N x0_3 x0_4 x0_5) (w42y4 N x0_3 x0_4 x0_5) (w42y5 N x0_3 x0_4 x0_5) (x0_6++[(w42y0 N x0_3 x0_4 x0_5,w42y1 N x0_3 x0_4 x0_5,w42y2 N x0_3 x0_4 x0_5)])))
  (k1 x0_0 x0_2 x0_6)
def w24b0:Code:=atC [1,1,1,1,1,0,0,0] w24b
def w24m0:Nm:=⟨[0,5,6,7,8],[],[.nilR 8 (.row 51 (.pr (.sl (.i .i64)) (.pr (.i .i64) (.i .i64))) [] true)]⟩
def w24I0 (x:YF2×(List (YF2×Int))×Int×(List (YF2×Int))×Int×Bool×(List ((List Int)×(Int×Int)))):Sg:=⟨[(0,.e .tx x.1),(5,.e (.sl (.pr .tx (.i .i64))) x.2.1),(6,.e (.i .i64) x.2.2.1),(7,.ref 0 0),(8,.own 1)],[(0,.box 89 [.e (.sl (.pr .tx (.i .i64))) x.2.2.2.1,.e (.i .i64) x.2.2.2.2.1,.e .bo x.2.2.2.2.2.1]),(1,.row 51 (.pr (.sl (.i .i64)) (.pr (.i .i64) (.i .i64))) x.2.2.2.2.2.2 true)],100⟩
def w24u0 (σ:Sg):YF2×(List (YF2×Int))×Int×(List (YF2×Int))×Int×Bool×(List ((List Int)×(Int×Int))):=(lvT .tx 0 0 σ,lvT (.sl (.pr .tx (.i .i64))) 5 0 σ,lvT (.i .i64) 6 0 σ,lvH (.sl (.pr .tx (.i .i64))) 0 0 σ,lvH (.i .i64) 0 1 σ,lvH .bo 0 2 σ,lvR (.pr (.sl (.i .i64)) (.pr (.i .i64) (.i .i64))) 1 σ)
theorem w24ui0:∀ x,w24u0 (w24I0 x)=x:=fun _=>by kernel_rfl
def w24X0_0 (y:Int×Int):Exit×Sg:=(.ret,⟨[(2,.nilS),(3,.e (.i .i64) y.1),(4,.e (.i .i64) y.2)],[],100⟩)
def w24v0_0 (_:Exit) (σ:Sg):Int×Int:=(lvT (.i .i64) 3 0 σ,lvT (.i .i64) 4 0 σ)
def w24X0_1 (y:YF2×Int×(List ((List Int)×(Int×Int)))):Exit×Sg:=((.exit 0),⟨[(0,.e .tx y.1),(6,.e (.i .i64) y.2.1),(8,.own 0)],[(0,.row 51 (.pr (.sl (.i .i64)) (.pr (.i .i64) (.i .i64))) y.2.2 true)],100⟩)
def w24v0_1 (_:Exit) (σ:Sg):YF2×Int×(List ((List Int)×(Int×Int))):=(lvT .tx 0 0 σ,lvT (.i .i64) 6 0 σ,lvR (.pr (.sl (.i .i64)) (.pr (.i .i64) (.i .i64))) 0 σ)
def w24w0:List (Exit×Nm):=[(.ret,⟨[2,3,4],[],[]⟩),((.exit 0),⟨[0,6,8],[],[]⟩)]
def w24l0 [Alg] (N:Nat):Nat->(YF2×(List (YF2×Int))×Int×(List (YF2×Int))×Int×Bool×(List ((List Int)×(Int×Int))))->((Int×Int)->O)->((YF2×Int×(List ((List Int)×(Int×Int))))->O)->((Unit)->O)->O
 | 0,_,_,_,_=>none
 | n+1,x,k0,k1,k2=>w24F0 N (fun v0 v1 v2 v3=>w24l0 N n (x.1,x.2.1,x.2.2.1,v0,v1,v2,v3) k0 k1 k2) (fun y0 y1=>k0 (y0,y1)) (fun y0 y1 y2=>k1 (y0,y1,y2)) x.1 x.2.1 x.2.2.1 x.2.2.2.1 x.2.2.2.2.1 x.2.2.2.2.2.1 x.2.2.2.2.2.2
def w24n0 [Alg] N a0 a1 a2 a3 a4 a5 a6 (k0:Int->Int->O) (k1:YF2->Int->(List ((List Int)×(Int×Int)))->O):=w24l0 N N (a0,a1,a2,a3,a4,a5,a6) (fun y=>k0 y.1 y.2) (fun y=>k1 y.1 y.2.1 y.2.2) (fun _=>none)
def w24s0 [Alg] N a0 a1 a2 a3 a4 a5 a6 (k0:Int->Int->O) (k1:YF2->Int->(List ((List Int)×(Int×Int)))->O):=subL w24I0 w24u0 (w24l0 N N) (w24I0 (a0,a1,a2,a3,a4,a5,a6)) (fun y=>k0 y.1 y.2) (fun y=>k1 y.1 y.2.1 y.2.2) (fun _=>none)
theorem w24e0 [Alg] N:w24s0 N=w24n0 N:=funext fun _=>funext fun _=>funext fun _=>funext fun _=>funext fun _=>funext fun _=>funext fun _=>funext fun _=>funext fun _=>subL_I w24ui0 _ _ _ _
theorem w24q0 [Alg] (N:Nat) (self:Sg->O) (K:Exit->Sg->O) (x:YF2×(List (YF2×Int))×Int×(List (YF2×Int))×Int×Bool×(List ((List Int)×(Int×Int)))):w24F0 N (fun v0 v1 v2 v3=>self (w24I0 (x.1,x.2.1,x.2.2.1,v0,v1,v2,v3))) (fun y0 y1=>K (w24X0_0 (y0,y1)).1 (w24X0_0 (y0,y1)).2) (fun y0 y1 y2=>K (w24X0_1 (y0,y1,y2)).1 (w24X0_1 (y0,y1,y2)).2) x.1 x.2.1 x.2.2.1 x.2.2.2.1 x.2.2.2.2.1 x.2.2.2.2.2.1 x.2.2.2.2.2.2=exec (w24c N) Tryd.f24.ntmps .d w24b0 (w24I0 x) (roundX w24m0 w24w0 self K):=by kernel_rfl
theorem w24S0 N (hc:CxOk (w24c N)):SubOk (w24c N) Tryd.f24.ntmps (.loop w24b0) w24X0_0 w24X0_1 (noX 2) (subL w24I0 w24u0 (w24l0 N N)):=
 sub_loop hc (hk_d w24b0) (oK2 w24v0_0 w24v0_1 .ret (.exit 0) (fun _=>by kernel_rfl) (fun _=>by kernel_rfl) (fun _=>rfl) (fun _=>rfl) (by kernel_rfl)) (n:=N) (fun x K=>loop_ind (w24l0 N) (fun _ _ _ _=>rfl) (fun n K ih x=>by
  refine Eq.trans ?_ (w24q0 N _ K x);simp only [← ih];rfl) N x K)
def w24G [Alg] (N:Nat) (in0:YF2->(List (YF2×Int))->Int->(List (YF2×Int))->Int->Bool->(List ((List Int)×(Int×Int)))->(Int->Int->O)->(YF2->Int->(List ((List Int)×(Int×Int)))->O)->O) (s0:YF2):O:=
 br (decide ((8192:Int) < (↑s0.length:Int)))
  (some (w24r0 [] 0 4))
  (ck (w41p N s0) <|
  in0 s0 (w41y0 N s0) (w41y1 N s0) (w41y0 N s0) 0 false []
   (fun z5 z6=>
    some (w24r0 [] z5 z6))
   (fun z7 z8 z9=>
    br (decide (z8 < (↑z7.length:Int)))
     (some (w24r0 [] z8 2))
     (br (decide ((32:Int) < (↑z9.length:Int)))
      (some (w24r0 [] 0 4))
      (some (w24r0 z9 0 0)))))
def w24 [Alg] N s0:=w24G N (w24n0 N) s0
def w24h [Alg] (N:Nat):Hint:=(.seq .d (.seq .d (.seq .d (.seq .d (.seq .d (.seq (.block (.sub w24m0 _ _ _ w24X0_0 w24X0_1 (noX 2) (subL w24I0 w24u0 (w24l0 N N)))) .d))))))
theorem w24hk N (hc:CxOk (w24c N)):HintOk (w24c N) Tryd.f24.ntmps (w24h N) w24b:=hk_of _ _ (And.intro trivial (And.intro trivial (And.intro trivial (And.intro trivial (And.intro trivial (And.intro (w24S0 N hc) trivial))))))
theorem w24q [Alg] N s0:w24G N (w24s0 N) s0=exec (w24c N) Tryd.f24.ntmps (w24h N) w24b ⟨argT 0 [.e .tx s0],[],100⟩ (finX (w24c N) Tryd.f24 false):=by kernel_rfl
def w24un (r:Res):Option ((List ((List Int)×(Int×Int)))×Int×Int):=match r with
 | (.tup [x0,x1,x2],[])=>(match ue (.sl (.pr (.sl (.i .i64)) (.pr (.i .i64) (.i .i64)))) x0,ue (.i .i64) x1,ue (.i .i64) x2 with | some a0,some a1,some a2=>some (a0,a1,a2) | _,_,_=>none)
 | _=>none
theorem w24uo {r d} (h:w24un r=some d):r=w24r0 d.1 d.2.1 d.2.2:=by
 unfold w24un at h;split at h
 ·split at h
  ·rename_i h0 h1 h2;cases h;rw [ue_some h0,ue_some h1,ue_some h2];rfl
  ·cases h
 ·cases h
def w24z N s0:=(w24 N s0).bind w24un
theorem w24fin {N} (hc:CxOk (w24c N)) {s0 d} (hd:w24z N s0=some d):DoK Tryd.prog 24 [.e .tx s0] [] (w24r0 d.1 d.2.1 d.2.2):=
 finJ hc (by kernel_rfl) (by kernel_rfl) (w24hk N hc) (by kernel_rfl) w24uo (fun hr=>(w24q N s0).symm.trans (by rw [w24e0 N];exact hr)) hd
def w24p N s0:=(w24z N s0).isSome
def w24y0 N s0:=((w24z N s0).getD ([],0,0)).1
def w24y1 N s0:=((w24z N s0).getD ([],0,0)).2.1
def w24y2 N s0:=((w24z N s0).getD ([],0,0)).2.2
def w24e (N:Nat):Ent':=E1 .tx (fun x0=>(w24p N x0,w24r0 (w24y0 N x0) (w24y1 N x0) (w24y2 N x0)))
theorem w24ok N:EOk Tryd.prog 24 (w24e N):=EOk.e1 (fun x0 h=>okG (z:=w24z N x0) h (w24fin (w24cx N)) rfl)
end
end Go.Proofs
