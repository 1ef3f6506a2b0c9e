/- What the reference of package linear does. Conditions are in the theorems. -/
import Derived.Test.YtlhdefefoaldfaaGreatDoorE7
import Derived.Test.YtlhdefefoaldfaaGreatDoorProg
import Derived.KernelRfl
import Derived.Test.YtlhdefefoaldfaaGreatDoorF0
import Derived.Test.YtlhdefefoaldfaaGreatDoorL1
import Derived.Test.YtlhdefefoaldfaaGreatDoorF1
import Derived.Test.YtlhdefefoaldfaaGreatDoorF2
import Derived.Test.YtlhdefefoaldfaaGreatDoorF3
import Derived.Test.YtlhdefefoaldfaaGreatDoorF4
import Derived.Test.YtlhdefefoaldfaaGreatDoorF5
/- What functions do. -/
namespace Go.Proofs
noncomputable section
open Go.Ax Go.Ax.Alg Go.RowKit Go.Ab
open Go
abbrev YL2:=List UInt8
def w48r0 (a0:Bool):Res:=(.e .bo a0,[])
def w48L (N:Nat):List (Nat×Ent'):=[(43,w43e N)]
def w48c (N:Nat):Cx:=⟨Tryz.prog,25,w48L N,[]⟩
def w48b:Code:=Tryz.f48.body.getD .skip
theorem w48cx (N:Nat):CxOk (w48c N):=ctx_ok (by kernel_rfl) (.cons (by kernel_rfl) (w43ok N) .nil) .nil
def w48F0 [Alg] (N:Nat)  (self:Int->O) (k0:Bool->O) (k1:Unit->O) (x0_0:(List YL2)) (x0_1:(List YL2)) (x0_2:Int) (x0_3:Int):O:=
  br (decide (x0_3 < x0_2))
    (gx x0_1 x0_3 fun y5=>
    gx x0_0 x0_3 fun y6=>
    ck (w43p N y5 y6) <|
    br (!w43y0 N y5 y6)
      (k0 false)
      (self (IntKind.i64.wrap (x0_3+1))))
    (k1 ())
def w48b0:Code:=atC [1,1,0,1,0,0] w48b
def w48m0:Nm:=⟨[1,2,15,16,17],[],[]⟩
def w48I0 (x:(List YL2)×(List YL2)×Int×Int):Sg:=⟨[(1,.e (.sl (.sl .u8)) x.1),(2,.fn 43 []),(15,.e (.sl (.sl .u8)) x.2.1),(16,.e (.i .i64) x.2.2.1),(17,.e (.i .i64) x.2.2.2)],[],100⟩
def w48u0 (σ:Sg):(List YL2)×(List YL2)×Int×Int:=(lvT (.sl (.sl .u8)) 1 0 σ,lvT (.sl (.sl .u8)) 15 0 σ,lvT (.i .i64) 16 0 σ,lvT (.i .i64) 17 0 σ)
theorem w48ui0:∀ x,w48u0 (w48I0 x)=x:=fun _=>by kernel_rfl
def w48X0_0 (y:Bool):Exit×Sg:=(.ret,⟨[(6,.e .bo y)],[],100⟩)
def w48v0_0 (_:Exit) (σ:Sg):Bool:=lvT .bo 6 0 σ
def w48X0_1 (_:Unit):Exit×Sg:=((.exit 0),⟨[],[],100⟩)
def w48v0_1 (_:Exit) (_:Sg):Unit:=()
def w48w0:List (Exit×Nm):=[(.ret,⟨[6],[],[]⟩),((.exit 0),⟨[],[],[]⟩)]
theorem w48o0:Outs w48v0_0 w48v0_1 (fun _ _=>()) w48X0_0 w48X0_1 (noX 2) (exC .ret) (exC (.exit 0)) (exC (.goto 2)):=⟨fun _=>by kernel_rfl,fun _=>by kernel_rfl,fun _=>by kernel_rfl,fun _=>by kernel_rfl,fun _=>by kernel_rfl,fun _=>by kernel_rfl,exNe_ok (by kernel_rfl),exNe_ok (by kernel_rfl),exNe_ok (by kernel_rfl)⟩
def w48l0 [Alg] (N:Nat):Nat->((List YL2)×(List YL2)×Int×Int)->((Bool)->O)->((Unit)->O)->((Unit)->O)->O
  | 0,_,_,_,_=>none
  | n+1,x,k0,k1,k2=>w48F0 N  (fun v0=>w48l0 N n (x.1,x.2.1,x.2.2.1,v0) k0 k1 k2) (fun y0=>k0 y0) (fun (_:Unit)=>k1 ()) x.1 x.2.1 x.2.2.1 x.2.2.2
def w48n0 [Alg] (N:Nat) (a0:(List YL2)) (a1:(List YL2)) (a2:Int) (a3:Int) (k0:Bool->O) (k1:Unit->O):O:=w48l0 N N (a0,a1,a2,a3) (fun y=>k0 y) (fun y=>k1 y) (fun _=>none)
def w48s0 [Alg] (N:Nat) (a0:(List YL2)) (a1:(List YL2)) (a2:Int) (a3:Int) (k0:Bool->O) (k1:Unit->O):O:=subL w48I0 w48u0 (w48l0 N N) (w48I0 (a0,a1,a2,a3)) (fun y=>k0 y) (fun y=>k1 y) (fun _=>none)
theorem w48e0 [Alg] (N:Nat):w48s0 N=w48n0 N:=funext fun _=>funext fun _=>funext fun _=>funext fun _=>funext fun _=>funext fun _=>subL_I w48ui0 _ _ _ _
def w48h0 [Alg] (_:Nat):Hint:=.d
theorem w48hk0 (N:Nat):HintOk (w48c N) Tryz.f48.ntmps (w48h0 N) w48b0:=hk_of _ _ trivial
theorem w48q0 [Alg] (N:Nat) (self:Sg->O) (K:Exit->Sg->O) (x:(List YL2)×(List YL2)×Int×Int):w48F0 N  (fun v0=>self (w48I0 (x.1,x.2.1,x.2.2.1,v0))) (fun y0=>K (w48X0_0 y0).1 (w48X0_0 y0).2) (fun (_:Unit)=>K (w48X0_1 ()).1 (w48X0_1 ()).2) x.1 x.2.1 x.2.2.1 x.2.2.2=exec (w48c N) Tryz.f48.ntmps (w48h0 N) w48b0 (w48I0 x) (roundX w48m0 w48w0 self K):=by kernel_rfl
theorem w48S0 (N:Nat) (hc:CxOk (w48c N)):SubOk (w48c N) Tryz.f48.ntmps (.loop w48b0) w48X0_0 w48X0_1 (noX 2) (subL w48I0 w48u0 (w48l0 N N)):=
  sub_loop hc (w48hk0 N) w48o0 (n:=N) (fun x K=>loop_ind (w48l0 N) (fun _ _ _ _=>rfl) (fun n K ih x=>by
    refine Eq.trans ?_ (w48q0 N _ K x)
    simp only [← ih]
    rfl) N x K)
def w48G [Alg] (_:Nat) (in0:(List YL2)->(List YL2)->Int->Int->(Bool->O)->(Unit->O)->O) (s10:(List YL2)) (s21:(List YL2)):O:=
  br (decide ((↑s10.length:Int)≠(↑s21.length:Int)))
    (some (w48r0 false))
    (in0 s21 s10 ((↑s10.length:Int)) 0
      (fun z7=>
        some (w48r0 z7))
      (fun (_:Unit)=>
        some (w48r0 true)))
def w48 [Alg] (N:Nat) (s10:(List YL2)) (s21:(List YL2)):O:=w48G N (w48n0 N) s10 s21
def w48h [Alg] (N:Nat):Hint:=(.seq .d (.seq .d (.seq (.seq .d (.block (.sub w48m0 _ _ _ w48X0_0 w48X0_1 (noX 2) (subL w48I0 w48u0 (w48l0 N N))))) .d)))
theorem w48hk (N:Nat) (hc:CxOk (w48c N)):HintOk (w48c N) Tryz.f48.ntmps (w48h N) w48b:=hk_of _ _ (And.intro trivial (And.intro trivial (And.intro (And.intro trivial (w48S0 N hc)) trivial)))
theorem w48q [Alg] (N:Nat) (s10:(List YL2)) (s21:(List YL2)):w48G N (w48s0 N) s10 s21=exec (w48c N) Tryz.f48.ntmps (w48h N) w48b ⟨argT 0 [.e (.sl (.sl .u8)) s10,.e (.sl (.sl .u8)) s21,.fn 43 []],[],100⟩ (finX (w48c N) Tryz.f48 false):=by kernel_rfl
def w48un (r:Res):Option (Bool):=match r with
  | (x0,[])=>(match ue .bo x0 with | some a0=>some a0 | _=>none)
  | _=>none
theorem w48uo {r:Res} {d:Bool} (h:w48un r=some d):r=w48r0 (d):=by
  unfold w48un at h
  split at h
  . split at h
    . rename_i h0;cases h;rw [ue_some h0];rfl
    . cases h
  . cases h
def w48z (N:Nat) (s10:(List YL2)) (s21:(List YL2)):Option (Bool):=(w48 N s10 s21).bind w48un
theorem w48fin {N:Nat} (hc:CxOk (w48c N)) {s10:(List YL2)} {s21:(List YL2)} {d:Bool} (hd:w48z N s10 s21=some d):Does Tryz.prog 48 (([.e (.sl (.sl .u8)) s10,.e (.sl (.sl .u8)) s21,.fn 43 []]:List X).map X.D) (HA []) (w48r0 (d)).1.D (HA (w48r0 (d)).2):=by
  obtain ⟨r,hr,hu⟩:=Option.bind_eq_some_iff.1 hd
  have:=fun_ok (r:=r) hc (f:=48) (fn:=Tryz.f48) (code:=w48b) (by kernel_rfl) (by kernel_rfl) (w48hk N hc) (Nat.le_of_ble_eq_true (by kernel_rfl)) (ow:=false) ((w48q N s10 s21).symm.trans (by rw [w48e0 N];exact hr))
  rw [w48uo hu] at this
  exact this
def w48p (N:Nat) (s10:(List YL2)) (s21:(List YL2)):Bool:=(w48z N s10 s21).isSome
def w48y0 (N:Nat) (s10:(List YL2)) (s21:(List YL2)):Bool:=((w48z N s10 s21).getD false)
def w48e (N:Nat):Ent':=Ef2 (.sl (.sl .u8)) (.sl (.sl .u8)) 43 (fun x0 x1=>(w48p N x0 x1,w48r0 (w48y0 N x0 x1)))
theorem w48re {N:Nat} {s10:(List YL2)} {s21:(List YL2)} {d:Bool} (hd:w48z N s10 s21=some d):w48r0 (w48y0 N s10 s21)=w48r0 (d):=by unfold w48y0;rw [hd];rfl
theorem w48ok (N:Nat):EOk Tryz.prog 48 (w48e N):=EOk.f2 (fun x0 x1 h=>by
  have h:(w48z N x0 x1).isSome=true:=h
  obtain ⟨d,hd⟩:=Option.isSome_iff_exists.1 h
  have f:=w48fin (w48cx N) hd
  rw [← w48re hd] at f
  exact f)
def w27r0 (a0:Int) (a1:Int) (a2:(List Ex)) (a3:Int):Res:=(.tup [.agg [.e (.i .i64) a0,.e (.i .i64) a1,.e (.sl .ex) a2],.e (.i .i64) a3],[])
def w27L (N:Nat):List (Nat×Ent'):=[(20,w20e N),(24,w24e N),(48,w48e N),(43,w43e N)]
def w27c (N:Nat):Cx:=⟨Tryz.prog,25,w27L N,[]⟩
def w27b:Code:=Tryz.f27.body.getD .skip
theorem w27cx (N:Nat):CxOk (w27c N):=ctx_ok (by kernel_rfl) (.cons (by kernel_rfl) (w20ok N) (.cons (by kernel_rfl) (w24ok N) (.cons (by kernel_rfl) (w48ok N) (.cons (by kernel_rfl) (w43ok N) .nil)))) .nil
def w27F0 [Alg] (_:Nat)  (self:Int->Int->YL2->O) (k0:Int->Int->Int->O) (k1:(List YL2)->Int->Int->Int->YL2->O) (x0_0:(List YL2)) (_x0_1:Int) (x0_3:(List YL2)) (x0_4:Int) (x0_6:Int) (x0_7:Int) (x0_2:Int) (x0_5:Int) (x0_8:YL2):O:=
  br (decide (x0_5 < x0_4))
    (gx x0_3 x0_5 fun y10=>
    br (decide (0 < x0_5))
      (gc (!decide ((↑y10.length:Int) < (2:Int))) 0 y10 0 fun y11=>
      gc (!(decide ((↑y10.length:Int) < (2:Int))||decide (y11≠0))) 0 y10 1 fun y12=>
      br (decide ((↑y10.length:Int) < (2:Int))||decide (y11≠0)||decide (y12≠0))
        (k0 2 0 0)
        (ck (slcOk y10.length (some (2:Int)) none) <|
        ck (lim (x0_8++slc y10 (some (2:Int)) none).length (1:Nat)) <|
        self (max x0_2 (↑y10.length:Int)) (IntKind.i64.wrap (x0_5+1)) (x0_8++slc y10 (some (2:Int)) none)))
      (ck (lim (x0_8++y10).length (1:Nat)) <|
      self (max x0_2 (↑y10.length:Int)) (IntKind.i64.wrap (x0_5+1)) (x0_8++y10)))
    (k1 x0_0 x0_2 x0_6 x0_7 x0_8)
def w27b0:Code:=atC [1,1,1,0,1,0,0] w27b
def w27m0:Nm:=⟨[0,2,3,4,5,14,15,16],[],[.nilR 4 (.row 5 .u8 [] true)]⟩
def w27I0 (x:(List YL2)×Int×Int×(List YL2)×Int×Int×Int×Int×YL2):Sg:=⟨[(0,.e (.sl (.sl .u8)) x.1),(2,.ref 0 0),(3,.e (.i .i64) x.2.1),(4,.own 1),(5,.e (.i .i64) x.2.2.1),(14,.e (.sl (.sl .u8)) x.2.2.2.1),(15,.e (.i .i64) x.2.2.2.2.1),(16,.e (.i .i64) x.2.2.2.2.2.1)],[(0,.box 25 [.e (.i .i64) x.2.2.2.2.2.2.1,.e (.i .i64) x.2.2.2.2.2.2.2.1,.nilS]),(1,.row 5 .u8 x.2.2.2.2.2.2.2.2 true)],100⟩
def w27u0 (σ:Sg):(List YL2)×Int×Int×(List YL2)×Int×Int×Int×Int×YL2:=(lvT (.sl (.sl .u8)) 0 0 σ,lvT (.i .i64) 3 0 σ,lvT (.i .i64) 5 0 σ,lvT (.sl (.sl .u8)) 14 0 σ,lvT (.i .i64) 15 0 σ,lvT (.i .i64) 16 0 σ,lvH (.i .i64) 0 0 σ,lvH (.i .i64) 0 1 σ,lvR .u8 1 σ)
theorem w27ui0:∀ x,w27u0 (w27I0 x)=x:=fun _=>by kernel_rfl
def w27X0_0 (y:Int×Int×Int):Exit×Sg:=(.ret,⟨[(2,.ref 0 0),(3,.e (.i .i64) y.1)],[(0,.box 25 [.e (.i .i64) y.2.1,.e (.i .i64) y.2.2,.nilS])],100⟩)
def w27v0_0 (_:Exit) (σ:Sg):Int×Int×Int:=(lvT (.i .i64) 3 0 σ,lvH (.i .i64) 0 0 σ,lvH (.i .i64) 0 1 σ)
def w27X0_1 (y:(List YL2)×Int×Int×Int×YL2):Exit×Sg:=((.exit 0),⟨[(0,.e (.sl (.sl .u8)) y.1),(2,.ref 0 0),(4,.own 1),(5,.e (.i .i64) y.2.1)],[(0,.box 25 [.e (.i .i64) y.2.2.1,.e (.i .i64) y.2.2.2.1,.nilS]),(1,.row 5 .u8 y.2.2.2.2 true)],100⟩)
def w27v0_1 (_:Exit) (σ:Sg):(List YL2)×Int×Int×Int×YL2:=(lvT (.sl (.sl .u8)) 0 0 σ,lvT (.i .i64) 5 0 σ,lvH (.i .i64) 0 0 σ,lvH (.i .i64) 0 1 σ,lvR .u8 1 σ)
def w27w0:List (Exit×Nm):=[(.ret,⟨[2,3],[],[]⟩),((.exit 0),⟨[0,2,4,5],[],[]⟩)]
theorem w27o0:Outs w27v0_0 w27v0_1 (fun _ _=>()) w27X0_0 w27X0_1 (noX 2) (exC .ret) (exC (.exit 0)) (exC (.goto 2)):=⟨fun _=>by kernel_rfl,fun _=>by kernel_rfl,fun _=>by kernel_rfl,fun _=>by kernel_rfl,fun _=>by kernel_rfl,fun _=>by kernel_rfl,exNe_ok (by kernel_rfl),exNe_ok (by kernel_rfl),exNe_ok (by kernel_rfl)⟩
def w27l0 [Alg] (N:Nat):Nat->((List YL2)×Int×Int×(List YL2)×Int×Int×Int×Int×YL2)->((Int×Int×Int)->O)->(((List YL2)×Int×Int×Int×YL2)->O)->((Unit)->O)->O
  | 0,_,_,_,_=>none
  | n+1,x,k0,k1,k2=>w27F0 N  (fun v0 v1 v2=>w27l0 N n (x.1,x.2.1,v0,x.2.2.2.1,x.2.2.2.2.1,v1,x.2.2.2.2.2.2.1,x.2.2.2.2.2.2.2.1,v2) k0 k1 k2) (fun y0 y1 y2=>k0 (y0,y1,y2)) (fun y0 y1 y2 y3 y4=>k1 (y0,y1,y2,y3,y4)) x.1 x.2.1 x.2.2.2.1 x.2.2.2.2.1 x.2.2.2.2.2.2.1 x.2.2.2.2.2.2.2.1 x.2.2.1 x.2.2.2.2.2.1 x.2.2.2.2.2.2.2.2
def w27n0 [Alg] (N:Nat) (a0:(List YL2)) (a1:Int) (a2:Int) (a3:(List YL2)) (a4:Int) (a5:Int) (a6:Int) (a7:Int) (a8:YL2) (k0:Int->Int->Int->O) (k1:(List YL2)->Int->Int->Int->YL2->O):O:=w27l0 N N (a0,a1,a2,a3,a4,a5,a6,a7,a8) (fun y=>k0 y.1 y.2.1 y.2.2) (fun y=>k1 y.1 y.2.1 y.2.2.1 y.2.2.2.1 y.2.2.2.2) (fun _=>none)
def w27s0 [Alg] (N:Nat) (a0:(List YL2)) (a1:Int) (a2:Int) (a3:(List YL2)) (a4:Int) (a5:Int) (a6:Int) (a7:Int) (a8:YL2) (k0:Int->Int->Int->O) (k1:(List YL2)->Int->Int->Int->YL2->O):O:=subL w27I0 w27u0 (w27l0 N N) (w27I0 (a0,a1,a2,a3,a4,a5,a6,a7,a8)) (fun y=>k0 y.1 y.2.1 y.2.2) (fun y=>k1 y.1 y.2.1 y.2.2.1 y.2.2.2.1 y.2.2.2.2) (fun _=>none)
theorem w27e0 [Alg] (N:Nat):w27s0 N=w27n0 N:=funext fun _=>funext fun _=>funext fun _=>funext fun _=>funext fun _=>funext fun _=>funext fun _=>funext fun _=>funext fun _=>funext fun _=>funext fun _=>subL_I w27ui0 _ _ _ _
def w27h0 [Alg] (_:Nat):Hint:=.d
theorem w27hk0 (N:Nat):HintOk (w27c N) Tryz.f27.ntmps (w27h0 N) w27b0:=hk_of _ _ trivial
theorem w27q0 [Alg] (N:Nat) (self:Sg->O) (K:Exit->Sg->O) (x:(List YL2)×Int×Int×(List YL2)×Int×Int×Int×Int×YL2):w27F0 N  (fun v0 v1 v2=>self (w27I0 (x.1,x.2.1,v0,x.2.2.2.1,x.2.2.2.2.1,v1,x.2.2.2.2.2.2.1,x.2.2.2.2.2.2.2.1,v2))) (fun y0 y1 y2=>K (w27X0_0 (y0,y1,y2)).1 (w27X0_0 (y0,y1,y2)).2) (fun y0 y1 y2 y3 y4=>K (w27X0_1 (y0,y1,y2,y3,y4)).1 (w27X0_1 (y0,y1,y2,y3,y4)).2) x.1 x.2.1 x.2.2.2.1 x.2.2.2.2.1 x.2.2.2.2.2.2.1 x.2.2.2.2.2.2.2.1 x.2.2.1 x.2.2.2.2.2.1 x.2.2.2.2.2.2.2.2=exec (w27c N) Tryz.f27.ntmps (w27h0 N) w27b0 (w27I0 x) (roundX w27m0 w27w0 self K):=by kernel_rfl
theorem w27S0 (N:Nat) (hc:CxOk (w27c N)):SubOk (w27c N) Tryz.f27.ntmps (.loop w27b0) w27X0_0 w27X0_1 (noX 2) (subL w27I0 w27u0 (w27l0 N N)):=
  sub_loop hc (w27hk0 N) w27o0 (n:=N) (fun x K=>loop_ind (w27l0 N) (fun _ _ _ _=>rfl) (fun n K ih x=>by
    refine Eq.trans ?_ (w27q0 N _ K x)
    simp only [← ih]
    rfl) N x K)
def w27F1 [Alg] (N:Nat)  (self:Int->O) (k0:Int->Int->Int->(List Ex)->O) (k1:Int->Int->O) (x21_0:(List YL2)) (x21_2:Int) (x21_3:Int) (x21_4:Int) (x21_5:Int) (x21_6:(List Ex)) (x21_1:Int):O:=
  let b0:=Ex.mk (Ex.mk x21_4 x21_5 x21_6).op (Ex.mk x21_4 x21_5 x21_6).num (Ex.mk x21_4 x21_5 x21_6).kids
  br (decide (x21_1<=40))
    (ck (w24p N b0.op b0.num b0.kids x21_1) <|
    ck (!decide (w24y1 N b0.op b0.num b0.kids x21_1=(0:Int))||w48p N x21_0 (w24y0 N b0.op b0.num b0.kids x21_1)) <|
    br (decide (w24y1 N b0.op b0.num b0.kids x21_1=(0:Int))&&w48y0 N x21_0 (w24y0 N b0.op b0.num b0.kids x21_1))
      (k0 0 x21_4 x21_5 x21_6)
      (self (IntKind.i64.wrap (x21_1+1))))
    (k1 x21_2 x21_3)
def w27b1:Code:=atC [1,1,1,1,1,1,0,1,0,0] w27b
def w27m1:Nm:=⟨[0,2,8,11],[],[]⟩
def w27I1 (x:(List YL2)×Int×Int×Int×Int×Int×(List Ex)):Sg:=⟨[(0,.e (.sl (.sl .u8)) x.1),(2,.ref 0 0),(8,.ref 1 0),(11,.e (.i .i64) x.2.1)],[(0,.box 25 [.e (.i .i64) x.2.2.1,.e (.i .i64) x.2.2.2.1,.nilS]),(1,.box 25 [.e (.i .i64) x.2.2.2.2.1,.e (.i .i64) x.2.2.2.2.2.1,.e (.sl .ex) x.2.2.2.2.2.2])],100⟩
def w27u1 (σ:Sg):(List YL2)×Int×Int×Int×Int×Int×(List Ex):=(lvT (.sl (.sl .u8)) 0 0 σ,lvT (.i .i64) 11 0 σ,lvH (.i .i64) 0 0 σ,lvH (.i .i64) 0 1 σ,lvH (.i .i64) 1 0 σ,lvH (.i .i64) 1 1 σ,lvH (.sl .ex) 1 2 σ)
theorem w27ui1:∀ x,w27u1 (w27I1 x)=x:=fun _=>by kernel_rfl
def w27X1_0 (y:Int×Int×Int×(List Ex)):Exit×Sg:=(.ret,⟨[(2,.ref 0 0),(3,.e (.i .i64) y.1)],[(0,.box 25 [.e (.i .i64) y.2.1,.e (.i .i64) y.2.2.1,.e (.sl .ex) y.2.2.2])],100⟩)
def w27v1_0 (_:Exit) (σ:Sg):Int×Int×Int×(List Ex):=(lvT (.i .i64) 3 0 σ,lvH (.i .i64) 0 0 σ,lvH (.i .i64) 0 1 σ,lvH (.sl .ex) 0 2 σ)
def w27X1_1 (y:Int×Int):Exit×Sg:=((.exit 2),⟨[(2,.ref 0 0)],[(0,.box 25 [.e (.i .i64) y.1,.e (.i .i64) y.2,.nilS])],100⟩)
def w27v1_1 (_:Exit) (σ:Sg):Int×Int:=(lvH (.i .i64) 0 0 σ,lvH (.i .i64) 0 1 σ)
def w27w1:List (Exit×Nm):=[(.ret,⟨[2,3],[],[]⟩),((.exit 2),⟨[2],[],[]⟩)]
theorem w27o1:Outs w27v1_0 w27v1_1 (fun _ _=>()) w27X1_0 w27X1_1 (noX 2) (exC .ret) (exC (.exit 2)) (exC (.goto 2)):=⟨fun _=>by kernel_rfl,fun _=>by kernel_rfl,fun _=>by kernel_rfl,fun _=>by kernel_rfl,fun _=>by kernel_rfl,fun _=>by kernel_rfl,exNe_ok (by kernel_rfl),exNe_ok (by kernel_rfl),exNe_ok (by kernel_rfl)⟩
def w27l1 [Alg] (N:Nat):Nat->((List YL2)×Int×Int×Int×Int×Int×(List Ex))->((Int×Int×Int×(List Ex))->O)->((Int×Int)->O)->((Unit)->O)->O
  | 0,_,_,_,_=>none
  | n+1,x,k0,k1,k2=>w27F1 N  (fun v0=>w27l1 N n (x.1,v0,x.2.2.1,x.2.2.2.1,x.2.2.2.2.1,x.2.2.2.2.2.1,x.2.2.2.2.2.2) k0 k1 k2) (fun y0 y1 y2 y3=>k0 (y0,y1,y2,y3)) (fun y0 y1=>k1 (y0,y1)) x.1 x.2.2.1 x.2.2.2.1 x.2.2.2.2.1 x.2.2.2.2.2.1 x.2.2.2.2.2.2 x.2.1
def w27n1 [Alg] (N:Nat) (a0:(List YL2)) (a1:Int) (a2:Int) (a3:Int) (a4:Int) (a5:Int) (a6:(List Ex)) (k0:Int->Int->Int->(List Ex)->O) (k1:Int->Int->O):O:=w27l1 N N (a0,a1,a2,a3,a4,a5,a6) (fun y=>k0 y.1 y.2.1 y.2.2.1 y.2.2.2) (fun y=>k1 y.1 y.2) (fun _=>none)
def w27s1 [Alg] (N:Nat) (a0:(List YL2)) (a1:Int) (a2:Int) (a3:Int) (a4:Int) (a5:Int) (a6:(List Ex)) (k0:Int->Int->Int->(List Ex)->O) (k1:Int->Int->O):O:=subL w27I1 w27u1 (w27l1 N N) (w27I1 (a0,a1,a2,a3,a4,a5,a6)) (fun y=>k0 y.1 y.2.1 y.2.2.1 y.2.2.2) (fun y=>k1 y.1 y.2) (fun _=>none)
theorem w27e1 [Alg] (N:Nat):w27s1 N=w27n1 N:=funext fun _=>funext fun _=>funext fun _=>funext fun _=>funext fun _=>funext fun _=>funext fun _=>funext fun _=>funext fun _=>subL_I w27ui1 _ _ _ _
def w27h1 [Alg] (_:Nat):Hint:=.d
theorem w27hk1 (N:Nat):HintOk (w27c N) Tryz.f27.ntmps (w27h1 N) w27b1:=hk_of _ _ trivial
theorem w27q1 [Alg] (N:Nat) (self:Sg->O) (K:Exit->Sg->O) (x:(List YL2)×Int×Int×Int×Int×Int×(List Ex)):w27F1 N  (fun v0=>self (w27I1 (x.1,v0,x.2.2.1,x.2.2.2.1,x.2.2.2.2.1,x.2.2.2.2.2.1,x.2.2.2.2.2.2))) (fun y0 y1 y2 y3=>K (w27X1_0 (y0,y1,y2,y3)).1 (w27X1_0 (y0,y1,y2,y3)).2) (fun y0 y1=>K (w27X1_1 (y0,y1)).1 (w27X1_1 (y0,y1)).2) x.1 x.2.2.1 x.2.2.2.1 x.2.2.2.2.1 x.2.2.2.2.2.1 x.2.2.2.2.2.2 x.2.1=exec (w27c N) Tryz.f27.ntmps (w27h1 N) w27b1 (w27I1 x) (roundX w27m1 w27w1 self K):=by kernel_rfl
theorem w27S1 (N:Nat) (hc:CxOk (w27c N)):SubOk (w27c N) Tryz.f27.ntmps (.loop w27b1) w27X1_0 w27X1_1 (noX 2) (subL w27I1 w27u1 (w27l1 N N)):=
  sub_loop hc (w27hk1 N) w27o1 (n:=N) (fun x K=>loop_ind (w27l1 N) (fun _ _ _ _=>rfl) (fun n K ih x=>by
    refine Eq.trans ?_ (w27q1 N _ K x)
    simp only [← ih]
    rfl) N x K)
def w27G [Alg] (N:Nat) (in0:(List YL2)->Int->Int->(List YL2)->Int->Int->Int->Int->YL2->(Int->Int->Int->O)->((List YL2)->Int->Int->Int->YL2->O)->O) (in1:(List YL2)->Int->Int->Int->Int->Int->(List Ex)->(Int->Int->Int->(List Ex)->O)->(Int->Int->O)->O) (p0:(List YL2)):O:=
  in0 p0 0 0 p0 ((↑p0.length:Int)) 0 0 0 []
    (fun z13 z14 z15=>
      some (w27r0 ((Ex.mk z14 z15 []).op) ((Ex.mk z14 z15 []).num) ((Ex.mk z14 z15 []).kids) z13))
    (fun z16 z17 z18 z19 z20=>
      ck (w20p N z20) <|
      br (decide (w20y4 N z20≠(0:Int))||decide (w20y3 N z20≠(↑z20.length:Int))||decide (40 < z17))
        (some (w27r0 0 0 [] 2))
        (in1 z16 4 z18 z19 (w20y0 N z20) (w20y1 N z20) (w20y2 N z20)
          (fun z22 z23 z24 z25=>
            some (w27r0 ((Ex.mk z23 z24 z25).op) ((Ex.mk z23 z24 z25).num) ((Ex.mk z23 z24 z25).kids) z22))
          (fun _ _=>
            some (w27r0 0 0 [] 2))))
def w27 [Alg] (N:Nat) (p0:(List YL2)):O:=w27G N (w27n0 N) (w27n1 N) p0
def w27h [Alg] (N:Nat):Hint:=(.seq .d (.seq .d (.seq .d (.seq (.seq .d (.block (.sub w27m0 _ _ _ w27X0_0 w27X0_1 (noX 2) (subL w27I0 w27u0 (w27l0 N N))))) (.seq .d (.seq .d (.seq (.seq .d (.block (.sub w27m1 _ _ _ w27X1_0 w27X1_1 (noX 2) (subL w27I1 w27u1 (w27l1 N N))))) .d)))))))
theorem w27hk (N:Nat) (hc:CxOk (w27c N)):HintOk (w27c N) Tryz.f27.ntmps (w27h N) w27b:=hk_of _ _ (And.intro trivial (And.intro trivial (And.intro trivial (And.intro (And.intro trivial (w27S0 N hc)) (And.intro trivial (And.intro trivial (And.intro (And.intro trivial (w27S1 N hc)) trivial)))))))
theorem w27q [Alg] (N:Nat) (p0:(List YL2)):w27G N (w27s0 N) (w27s1 N) p0=exec (w27c N) Tryz.f27.ntmps (w27h N) w27b ⟨argT 0 [.e (.sl (.sl .u8)) p0],[],100⟩ (finX (w27c N) Tryz.f27 false):=by kernel_rfl
def w27un (r:Res):Option (Int×Int×(List Ex)×Int):=match r with
  | (.tup [.agg [x0,x1,x2],x3],[])=>(match ue (.i .i64) x0,ue (.i .i64) x1,ue (.sl .ex) x2,ue (.i .i64) x3 with | some a0,some a1,some a2,some a3=>some (a0,a1,a2,a3) | _,_,_,_=>none)
  | _=>none
theorem w27uo {r:Res} {d:Int×Int×(List Ex)×Int} (h:w27un r=some d):r=w27r0 (d.1) (d.2.1) (d.2.2.1) (d.2.2.2):=by
  unfold w27un at h
  split at h
  . split at h
    . rename_i h0 h1 h2 h3;cases h;rw [ue_some h0,ue_some h1,ue_some h2,ue_some h3];rfl
    . cases h
  . cases h
def w27z (N:Nat) (p0:(List YL2)):Option (Int×Int×(List Ex)×Int):=(w27 N p0).bind w27un
theorem w27fin {N:Nat} (hc:CxOk (w27c N)) {p0:(List YL2)} {d:Int×Int×(List Ex)×Int} (hd:w27z N p0=some d):Does Tryz.prog 27 (([.e (.sl (.sl .u8)) p0]:List X).map X.D) (HA []) (w27r0 (d.1) (d.2.1) (d.2.2.1) (d.2.2.2)).1.D (HA (w27r0 (d.1) (d.2.1) (d.2.2.1) (d.2.2.2)).2):=by
  obtain ⟨r,hr,hu⟩:=Option.bind_eq_some_iff.1 hd
  have:=fun_ok (r:=r) hc (f:=27) (fn:=Tryz.f27) (code:=w27b) (by kernel_rfl) (by kernel_rfl) (w27hk N hc) (Nat.le_of_ble_eq_true (by kernel_rfl)) (ow:=false) ((w27q N p0).symm.trans (by rw [w27e0 N,w27e1 N];exact hr))
  rw [w27uo hu] at this
  exact this
def w27p (N:Nat) (p0:(List YL2)):Bool:=(w27z N p0).isSome
def w27y0 (N:Nat) (p0:(List YL2)):Int:=((w27z N p0).getD (0,0,[],0)).1
def w27y1 (N:Nat) (p0:(List YL2)):Int:=((w27z N p0).getD (0,0,[],0)).2.1
def w27y2 (N:Nat) (p0:(List YL2)):(List Ex):=((w27z N p0).getD (0,0,[],0)).2.2.1
def w27y3 (N:Nat) (p0:(List YL2)):Int:=((w27z N p0).getD (0,0,[],0)).2.2.2
def w27e (N:Nat):Ent':=E1 (.sl (.sl .u8))  (fun x0=>(w27p N x0,w27r0 (w27y0 N x0) (w27y1 N x0) (w27y2 N x0) (w27y3 N x0)))
theorem w27re {N:Nat} {p0:(List YL2)} {d:Int×Int×(List Ex)×Int} (hd:w27z N p0=some d):w27r0 (w27y0 N p0) (w27y1 N p0) (w27y2 N p0) (w27y3 N p0)=w27r0 (d.1) (d.2.1) (d.2.2.1) (d.2.2.2):=by unfold w27y0 w27y1 w27y2 w27y3;rw [hd];rfl
theorem w27ok (N:Nat):EOk Tryz.prog 27 (w27e N):=EOk.e1 (fun x0 h=>by
  have h:(w27z N x0).isSome=true:=h
  obtain ⟨d,hd⟩:=Option.isSome_iff_exists.1 h
  have f:=w27fin (w27cx N) hd
  rw [← w27re hd] at f
  exact f)
def w30r0 (a0:Int):Res:=(.e (.i .i64) a0,[])
def w30L (_:Nat):List (Nat×Ent'):=[]
def w30c (N:Nat):Cx:=⟨Tryz.prog,25,w30L N,[]⟩
def w30b:Code:=Tryz.f30.body.getD .skip
theorem w30cx (N:Nat):CxOk (w30c N):=ctx_ok (by kernel_rfl) .nil .nil
def w30F0 [Alg] (_:Nat)   (k0:Int->Int->Int->Int->(List Int)->(List Int)->O) (x76_0:Int) (x76_1:Int) (x76_2:Int) (x76_3:Int) (x76_4:(List Int)) (x76_5:(List Int)):O:=
  br (decide (0 < x76_1))
    (k0 x76_0 x76_1 x76_2 (IntKind.i64.wrap (x76_0 - 2)) x76_4 x76_5)
    (k0 x76_0 x76_1 x76_2 x76_3 x76_4 x76_5)
def w30b0:Code:=atC [1,1,1,0,1,0,0,1,0,0,1,1,0] w30b
def w30m0:Nm:=⟨[2,7,18,8,9,24,10],[],[]⟩
def w30I0 (x:Int×Int×Int×Int×(List Int)×(List Int)):Sg:=⟨[(2,.e (.i .i64) x.1),(7,.own 0),(18,.own 0),(8,.own 1),(9,.e (.i .i64) x.2.1),(24,.e (.i .i64) x.2.2.1),(10,.e (.i .i64) x.2.2.2.1)],[(0,.row 3 (.i .i64) x.2.2.2.2.1 true),(1,.row 3 (.i .i64) x.2.2.2.2.2 false)],100⟩
def w30u0 (σ:Sg):Int×Int×Int×Int×(List Int)×(List Int):=(lvT (.i .i64) 2 0 σ,lvT (.i .i64) 9 0 σ,lvT (.i .i64) 24 0 σ,lvT (.i .i64) 10 0 σ,lvR (.i .i64) 0 σ,lvR (.i .i64) 1 σ)
theorem w30ui0:∀ x,w30u0 (w30I0 x)=x:=fun _=>by kernel_rfl
def w30X0_0 (y:Int×Int×Int×Int×(List Int)×(List Int)):Exit×Sg:=(.normal,⟨[(2,.e (.i .i64) y.1),(7,.own 0),(18,.own 0),(8,.own 1),(9,.e (.i .i64) y.2.1),(24,.e (.i .i64) y.2.2.1),(10,.e (.i .i64) y.2.2.2.1)],[(0,.row 3 (.i .i64) y.2.2.2.2.1 true),(1,.row 3 (.i .i64) y.2.2.2.2.2 false)],100⟩)
def w30v0_0 (_:Exit) (σ:Sg):Int×Int×Int×Int×(List Int)×(List Int):=(lvT (.i .i64) 2 0 σ,lvT (.i .i64) 9 0 σ,lvT (.i .i64) 24 0 σ,lvT (.i .i64) 10 0 σ,lvR (.i .i64) 0 σ,lvR (.i .i64) 1 σ)
def w30w0:List (Exit×Nm):=[(.normal,⟨[2,7,18,8,9,24,10],[],[]⟩)]
theorem w30o0:Outs w30v0_0 (fun _ _=>()) (fun _ _=>()) w30X0_0 (noX 1) (noX 2) (exC .normal) (exC (.goto 1)) (exC (.goto 2)):=⟨fun _=>by kernel_rfl,fun _=>by kernel_rfl,fun _=>by kernel_rfl,fun _=>by kernel_rfl,fun _=>by kernel_rfl,fun _=>by kernel_rfl,exNe_ok (by kernel_rfl),exNe_ok (by kernel_rfl),exNe_ok (by kernel_rfl)⟩
def w30l0 [Alg] (N:Nat) (_:Nat) (x:Int×Int×Int×Int×(List Int)×(List Int)) (k0:(Int×Int×Int×Int×(List Int)×(List Int))->O) (_:(Unit)->O) (_:(Unit)->O):O:=w30F0 N   (fun y0 y1 y2 y3 y4 y5=>k0 (y0,y1,y2,y3,y4,y5)) x.1 x.2.1 x.2.2.1 x.2.2.2.1 x.2.2.2.2.1 x.2.2.2.2.2
def w30n0 [Alg] (N:Nat) (a0:Int) (a1:Int) (a2:Int) (a3:Int) (a4:(List Int)) (a5:(List Int)) (k0:Int->Int->Int->Int->(List Int)->(List Int)->O):O:=w30l0 N N (a0,a1,a2,a3,a4,a5) (fun y=>k0 y.1 y.2.1 y.2.2.1 y.2.2.2.1 y.2.2.2.2.1 y.2.2.2.2.2) (fun _=>none) (fun _=>none)
def w30s0 [Alg] (N:Nat) (a0:Int) (a1:Int) (a2:Int) (a3:Int) (a4:(List Int)) (a5:(List Int)) (k0:Int->Int->Int->Int->(List Int)->(List Int)->O):O:=subL w30I0 w30u0 (w30l0 N N) (w30I0 (a0,a1,a2,a3,a4,a5)) (fun y=>k0 y.1 y.2.1 y.2.2.1 y.2.2.2.1 y.2.2.2.2.1 y.2.2.2.2.2) (fun _=>none) (fun _=>none)
theorem w30e0 [Alg] (N:Nat):w30s0 N=w30n0 N:=funext fun _=>funext fun _=>funext fun _=>funext fun _=>funext fun _=>funext fun _=>funext fun _=>subL_I w30ui0 _ _ _ _
def w30h0 [Alg] (_:Nat):Hint:=.d
theorem w30hk0 (N:Nat):HintOk (w30c N) Tryz.f30.ntmps (w30h0 N) w30b0:=hk_of _ _ trivial
theorem w30q0 [Alg] (N:Nat) (K:Exit->Sg->O) (x:Int×Int×Int×Int×(List Int)×(List Int)):w30F0 N   (fun y0 y1 y2 y3 y4 y5=>K (w30X0_0 (y0,y1,y2,y3,y4,y5)).1 (w30X0_0 (y0,y1,y2,y3,y4,y5)).2) x.1 x.2.1 x.2.2.1 x.2.2.2.1 x.2.2.2.2.1 x.2.2.2.2.2=exec (w30c N) Tryz.f30.ntmps (w30h0 N) w30b0 (w30I0 x) (partX w30w0 K):=by kernel_rfl
theorem w30S0 (N:Nat) (hc:CxOk (w30c N)):SubOk (w30c N) Tryz.f30.ntmps w30b0 w30X0_0 (noX 1) (noX 2) (subL w30I0 w30u0 (w30l0 N N)):=
  sub_part hc (w30hk0 N) w30o0 (fun x K=>by
    exact w30q0 N K x)
def w30F1 [Alg] (_:Nat)  (self:Int->(List Int)->O) (k0:Int->Int->(List Int)->(List Int)->O) (x83_0:Int) (x83_1:Int) (_x83_2:Int) (x83_3:Int) (x83_5:(List Int)) (x83_4:Int) (x83_6:(List Int)):O:=
  let b0:=(0:Int)<=x83_4/\x83_4 < (↑x83_6.length:Int)
  let b1:=(0:Int)<=x83_1/\x83_1 < (↑x83_6.length:Int)
  br (decide (x83_4 < (↑x83_5.length:Int)))
    (gx x83_5 x83_4 fun y100=>
    gx x83_5 x83_1 fun y101=>
    ck (!decide (IntKind.i64.wrap (y100 - y101)<=x83_3)||decide b0) <|
    gn x83_6 x83_4.toNat fun y102=>
    ck (!(decide (IntKind.i64.wrap (y100 - y101)<=x83_3)&&decide (0<=y102))||decide b1) <|
    gn x83_6 x83_1.toNat fun y103=>
    ck (!(decide (IntKind.i64.wrap (y100 - y101)<=x83_3)&&decide (0<=y102)&&!decide (y103 < 0))||decide b0) <|
    gn x83_6 x83_4.toNat fun y104=>
    ck (!(decide (IntKind.i64.wrap (y100 - y101)<=x83_3)&&decide (0<=y102)&&!decide (y103 < 0))||decide b1) <|
    gn x83_6 x83_1.toNat fun y105=>
    br (decide (IntKind.i64.wrap (y100 - y101)<=x83_3)&&decide (0<=y102)&&(decide (y103 < 0)||decide (IntKind.i64.wrap (y104+1) < y105)))
      (ck (decide b0) <|
      gn x83_6 x83_4.toNat fun y106=>
      ck (decide b1) <|
      gn x83_6 x83_1.toNat fun _=>
      self (IntKind.i64.wrap (x83_4+1)) (x83_6.set x83_1.toNat (IntKind.i64.wrap (y106+1))))
      (self (IntKind.i64.wrap (x83_4+1)) x83_6))
    (k0 x83_0 x83_1 x83_5 x83_6)
def w30b1:Code:=atC [1,1,1,0,1,0,0,1,0,0,1,1,1,1,0,0] w30b
def w30m1:Nm:=⟨[2,7,18,8,9,24,10,11],[],[]⟩
def w30I1 (x:Int×Int×Int×Int×Int×(List Int)×(List Int)):Sg:=⟨[(2,.e (.i .i64) x.1),(7,.own 0),(18,.own 0),(8,.own 1),(9,.e (.i .i64) x.2.1),(24,.e (.i .i64) x.2.2.1),(10,.e (.i .i64) x.2.2.2.1),(11,.e (.i .i64) x.2.2.2.2.1)],[(0,.row 3 (.i .i64) x.2.2.2.2.2.1 true),(1,.row 3 (.i .i64) x.2.2.2.2.2.2 false)],100⟩
def w30u1 (σ:Sg):Int×Int×Int×Int×Int×(List Int)×(List Int):=(lvT (.i .i64) 2 0 σ,lvT (.i .i64) 9 0 σ,lvT (.i .i64) 24 0 σ,lvT (.i .i64) 10 0 σ,lvT (.i .i64) 11 0 σ,lvR (.i .i64) 0 σ,lvR (.i .i64) 1 σ)
theorem w30ui1:∀ x,w30u1 (w30I1 x)=x:=fun _=>by kernel_rfl
def w30X1_0 (y:Int×Int×(List Int)×(List Int)):Exit×Sg:=((.exit 2),⟨[(2,.e (.i .i64) y.1),(7,.own 0),(18,.own 0),(8,.own 1),(9,.e (.i .i64) y.2.1)],[(0,.row 3 (.i .i64) y.2.2.1 true),(1,.row 3 (.i .i64) y.2.2.2 false)],100⟩)
def w30v1_0 (_:Exit) (σ:Sg):Int×Int×(List Int)×(List Int):=(lvT (.i .i64) 2 0 σ,lvT (.i .i64) 9 0 σ,lvR (.i .i64) 0 σ,lvR (.i .i64) 1 σ)
def w30w1:List (Exit×Nm):=[((.exit 2),⟨[2,7,18,8,9],[],[]⟩)]
theorem w30o1:Outs w30v1_0 (fun _ _=>()) (fun _ _=>()) w30X1_0 (noX 1) (noX 2) (exC (.exit 2)) (exC (.goto 1)) (exC (.goto 2)):=⟨fun _=>by kernel_rfl,fun _=>by kernel_rfl,fun _=>by kernel_rfl,fun _=>by kernel_rfl,fun _=>by kernel_rfl,fun _=>by kernel_rfl,exNe_ok (by kernel_rfl),exNe_ok (by kernel_rfl),exNe_ok (by kernel_rfl)⟩
def w30l1 [Alg] (N:Nat):Nat->(Int×Int×Int×Int×Int×(List Int)×(List Int))->((Int×Int×(List Int)×(List Int))->O)->((Unit)->O)->((Unit)->O)->O
  | 0,_,_,_,_=>none
  | n+1,x,k0,k1,k2=>w30F1 N  (fun v0 v1=>w30l1 N n (x.1,x.2.1,x.2.2.1,x.2.2.2.1,v0,x.2.2.2.2.2.1,v1) k0 k1 k2) (fun y0 y1 y2 y3=>k0 (y0,y1,y2,y3)) x.1 x.2.1 x.2.2.1 x.2.2.2.1 x.2.2.2.2.2.1 x.2.2.2.2.1 x.2.2.2.2.2.2
def w30n1 [Alg] (N:Nat) (a0:Int) (a1:Int) (a2:Int) (a3:Int) (a4:Int) (a5:(List Int)) (a6:(List Int)) (k0:Int->Int->(List Int)->(List Int)->O):O:=w30l1 N N (a0,a1,a2,a3,a4,a5,a6) (fun y=>k0 y.1 y.2.1 y.2.2.1 y.2.2.2) (fun _=>none) (fun _=>none)
def w30s1 [Alg] (N:Nat) (a0:Int) (a1:Int) (a2:Int) (a3:Int) (a4:Int) (a5:(List Int)) (a6:(List Int)) (k0:Int->Int->(List Int)->(List Int)->O):O:=subL w30I1 w30u1 (w30l1 N N) (w30I1 (a0,a1,a2,a3,a4,a5,a6)) (fun y=>k0 y.1 y.2.1 y.2.2.1 y.2.2.2) (fun _=>none) (fun _=>none)
theorem w30e1 [Alg] (N:Nat):w30s1 N=w30n1 N:=funext fun _=>funext fun _=>funext fun _=>funext fun _=>funext fun _=>funext fun _=>funext fun _=>funext fun _=>subL_I w30ui1 _ _ _ _
def w30h1 [Alg] (_:Nat):Hint:=.d
theorem w30hk1 (N:Nat):HintOk (w30c N) Tryz.f30.ntmps (w30h1 N) w30b1:=hk_of _ _ trivial
theorem w30q1 [Alg] (N:Nat) (self:Sg->O) (K:Exit->Sg->O) (x:Int×Int×Int×Int×Int×(List Int)×(List Int)):w30F1 N  (fun v0 v1=>self (w30I1 (x.1,x.2.1,x.2.2.1,x.2.2.2.1,v0,x.2.2.2.2.2.1,v1))) (fun y0 y1 y2 y3=>K (w30X1_0 (y0,y1,y2,y3)).1 (w30X1_0 (y0,y1,y2,y3)).2) x.1 x.2.1 x.2.2.1 x.2.2.2.1 x.2.2.2.2.2.1 x.2.2.2.2.1 x.2.2.2.2.2.2=exec (w30c N) Tryz.f30.ntmps (w30h1 N) w30b1 (w30I1 x) (roundX w30m1 w30w1 self K):=by kernel_rfl
theorem w30S1 (N:Nat) (hc:CxOk (w30c N)):SubOk (w30c N) Tryz.f30.ntmps (.loop w30b1) w30X1_0 (noX 1) (noX 2) (subL w30I1 w30u1 (w30l1 N N)):=
  sub_loop hc (w30hk1 N) w30o1 (n:=N) (fun x K=>loop_ind (w30l1 N) (fun _ _ _ _=>rfl) (fun n K ih x=>by
    refine Eq.trans ?_ (w30q1 N _ K x)
    simp only [← ih]
    rfl) N x K)
def w30F2 [Alg] (_:Nat) (in0:Int->Int->Int->Int->(List Int)->(List Int)->(Int->Int->Int->Int->(List Int)->(List Int)->O)->O) (in1:Int->Int->Int->Int->Int->(List Int)->(List Int)->(Int->Int->(List Int)->(List Int)->O)->O) (self:Int->Int->(List Int)->(List Int)->O) (k0:(List Int)->O) (x0_0:Int) (x0_1:Int) (x0_2:(List Int)) (x0_3:(List Int)):O:=
  br (decide (0<=x0_1))
    (ck (decide ((0:Int)<=x0_1/\x0_1 < (↑x0_3.length:Int))) <|
    gn x0_3 x0_1.toNat fun _=>
    in0 x0_0 x0_1 x0_1 x0_0 x0_2 (x0_3.set x0_1.toNat (-1:Int))
      (fun z77 z78 z79 z80 z81 z82=>
        in1 z77 z78 z79 z80 (IntKind.i64.wrap (z78+1)) z81 z82
          (fun z108 z109 z110 z111=>
            self z108 (IntKind.i64.wrap (z109 - 1)) z110 z111)))
    (k0 x0_3)
def w30b2:Code:=atC [1,1,1,0,1,0,0] w30b
def w30m2:Nm:=⟨[2,7,18,8,9],[],[]⟩
def w30I2 (x:Int×Int×(List Int)×(List Int)):Sg:=⟨[(2,.e (.i .i64) x.1),(7,.own 0),(18,.own 0),(8,.own 1),(9,.e (.i .i64) x.2.1)],[(0,.row 3 (.i .i64) x.2.2.1 true),(1,.row 3 (.i .i64) x.2.2.2 false)],100⟩
def w30u2 (σ:Sg):Int×Int×(List Int)×(List Int):=(lvT (.i .i64) 2 0 σ,lvT (.i .i64) 9 0 σ,lvR (.i .i64) 0 σ,lvR (.i .i64) 1 σ)
theorem w30ui2:∀ x,w30u2 (w30I2 x)=x:=fun _=>by kernel_rfl
def w30X2_0 (y:(List Int)):Exit×Sg:=((.exit 0),⟨[(8,.own 0)],[(0,.row 3 (.i .i64) y false)],100⟩)
def w30v2_0 (_:Exit) (σ:Sg):(List Int):=lvR (.i .i64) 0 σ
def w30w2:List (Exit×Nm):=[((.exit 0),⟨[8],[],[]⟩)]
theorem w30o2:Outs w30v2_0 (fun _ _=>()) (fun _ _=>()) w30X2_0 (noX 1) (noX 2) (exC (.exit 0)) (exC (.goto 1)) (exC (.goto 2)):=⟨fun _=>by kernel_rfl,fun _=>by kernel_rfl,fun _=>by kernel_rfl,fun _=>by kernel_rfl,fun _=>by kernel_rfl,fun _=>by kernel_rfl,exNe_ok (by kernel_rfl),exNe_ok (by kernel_rfl),exNe_ok (by kernel_rfl)⟩
def w30l2 [Alg] (N:Nat):Nat->(Int×Int×(List Int)×(List Int))->(((List Int))->O)->((Unit)->O)->((Unit)->O)->O
  | 0,_,_,_,_=>none
  | n+1,x,k0,k1,k2=>w30F2 N (w30n0 N) (w30n1 N) (fun v0 v1 v2 v3=>w30l2 N n (v0,v1,v2,v3) k0 k1 k2) (fun y0=>k0 y0) x.1 x.2.1 x.2.2.1 x.2.2.2
def w30n2 [Alg] (N:Nat) (a0:Int) (a1:Int) (a2:(List Int)) (a3:(List Int)) (k0:(List Int)->O):O:=w30l2 N N (a0,a1,a2,a3) (fun y=>k0 y) (fun _=>none) (fun _=>none)
def w30s2 [Alg] (N:Nat) (a0:Int) (a1:Int) (a2:(List Int)) (a3:(List Int)) (k0:(List Int)->O):O:=subL w30I2 w30u2 (w30l2 N N) (w30I2 (a0,a1,a2,a3)) (fun y=>k0 y) (fun _=>none) (fun _=>none)
theorem w30e2 [Alg] (N:Nat):w30s2 N=w30n2 N:=funext fun _=>funext fun _=>funext fun _=>funext fun _=>funext fun _=>subL_I w30ui2 _ _ _ _
def w30h2 [Alg] (N:Nat):Hint:=(.seq .d (.seq (.block (.seq .d (.seq .d (.seq (.sub w30m0 _ _ _ w30X0_0 (noX 1) (noX 2) (subL w30I0 w30u0 (w30l0 N N))) (.seq .d (.block (.sub w30m1 _ _ _ w30X1_0 (noX 1) (noX 2) (subL w30I1 w30u1 (w30l1 N N))))))))) .d))
theorem w30hk2 (N:Nat) (hc:CxOk (w30c N)):HintOk (w30c N) Tryz.f30.ntmps (w30h2 N) w30b2:=hk_of _ _ (And.intro trivial (And.intro (And.intro trivial (And.intro trivial (And.intro (w30S0 N hc) (And.intro trivial (w30S1 N hc))))) trivial))
theorem w30q2 [Alg] (N:Nat) (self:Sg->O) (K:Exit->Sg->O) (x:Int×Int×(List Int)×(List Int)):w30F2 N (w30s0 N) (w30s1 N) (fun v0 v1 v2 v3=>self (w30I2 (v0,v1,v2,v3))) (fun y0=>K (w30X2_0 y0).1 (w30X2_0 y0).2) x.1 x.2.1 x.2.2.1 x.2.2.2=exec (w30c N) Tryz.f30.ntmps (w30h2 N) w30b2 (w30I2 x) (roundX w30m2 w30w2 self K):=by kernel_rfl
theorem w30S2 (N:Nat) (hc:CxOk (w30c N)):SubOk (w30c N) Tryz.f30.ntmps (.loop w30b2) w30X2_0 (noX 1) (noX 2) (subL w30I2 w30u2 (w30l2 N N)):=
  sub_loop hc (w30hk2 N hc) w30o2 (n:=N) (fun x K=>loop_ind (w30l2 N) (fun _ _ _ _=>rfl) (fun n K ih x=>by
    refine Eq.trans ?_ (w30q2 N _ K x)
    simp only [w30e0 N,w30e1 N,← ih]
    rfl) N x K)
def w30G [Alg] (_:Nat) (_in0:Int->Int->Int->Int->(List Int)->(List Int)->(Int->Int->Int->Int->(List Int)->(List Int)->O)->O) (_in1:Int->Int->Int->Int->Int->(List Int)->(List Int)->(Int->Int->(List Int)->(List Int)->O)->O) (in2:Int->Int->(List Int)->(List Int)->((List Int)->O)->O) (cells0:Int) (places1:(List Int)) (width2:Int):O:=
  let b0:=[(0:Int)]++places1++[cells0]
  ck (lim ([(0:Int)]++places1).length (8:Nat)) <|
  ck (lim b0.length (8:Nat)) <|
  ck (decide ((0:Int)<=(↑b0.length:Int))) <|
  ck (lim (↑b0.length:Int).toNat (8:Nat)) <|
  in2 width2 (IntKind.i64.wrap ((↑b0.length:Int) - (2:Int))) b0 (List.replicate (↑b0.length:Int).toNat (0:Int))
    (fun z112=>
      ck (decide ((0:Int)<=(0:Int)/\(0:Int) < (↑z112.length:Int))) <|
      gn z112 0 fun y113=>
      some (w30r0 y113))
def w30 [Alg] (N:Nat) (cells0:Int) (places1:(List Int)) (width2:Int):O:=w30G N (w30n0 N) (w30n1 N) (w30n2 N) cells0 places1 width2
def w30h [Alg] (N:Nat):Hint:=(.seq .d (.seq .d (.seq .d (.seq (.seq .d (.block (.sub w30m2 _ _ _ w30X2_0 (noX 1) (noX 2) (subL w30I2 w30u2 (w30l2 N N))))) .d))))
theorem w30hk (N:Nat) (hc:CxOk (w30c N)):HintOk (w30c N) Tryz.f30.ntmps (w30h N) w30b:=hk_of _ _ (And.intro trivial (And.intro trivial (And.intro trivial (And.intro (And.intro trivial (w30S2 N hc)) trivial))))
theorem w30q [Alg] (N:Nat) (cells0:Int) (places1:(List Int)) (width2:Int):w30G N (w30s0 N) (w30s1 N) (w30s2 N) cells0 places1 width2=exec (w30c N) Tryz.f30.ntmps (w30h N) w30b ⟨argT 0 [.e (.i .i64) cells0,.e (.sl (.i .i64)) places1,.e (.i .i64) width2],[],100⟩ (finX (w30c N) Tryz.f30 false):=by kernel_rfl
def w30un (r:Res):Option (Int):=match r with
  | (x0,[])=>(match ue (.i .i64) x0 with | some a0=>some a0 | _=>none)
  | _=>none
theorem w30uo {r:Res} {d:Int} (h:w30un r=some d):r=w30r0 (d):=by
  unfold w30un at h
  split at h
  . split at h
    . rename_i h0;cases h;rw [ue_some h0];rfl
    . cases h
  . cases h
def w30z (N:Nat) (cells0:Int) (places1:(List Int)) (width2:Int):Option (Int):=(w30 N cells0 places1 width2).bind w30un
theorem w30fin {N:Nat} (hc:CxOk (w30c N)) {cells0:Int} {places1:(List Int)} {width2:Int} {d:Int} (hd:w30z N cells0 places1 width2=some d):Does Tryz.prog 30 (([.e (.i .i64) cells0,.e (.sl (.i .i64)) places1,.e (.i .i64) width2]:List X).map X.D) (HA []) (w30r0 (d)).1.D (HA (w30r0 (d)).2):=by
  obtain ⟨r,hr,hu⟩:=Option.bind_eq_some_iff.1 hd
  have:=fun_ok (r:=r) hc (f:=30) (fn:=Tryz.f30) (code:=w30b) (by kernel_rfl) (by kernel_rfl) (w30hk N hc) (Nat.le_of_ble_eq_true (by kernel_rfl)) (ow:=false) ((w30q N cells0 places1 width2).symm.trans (by rw [w30e0 N,w30e1 N,w30e2 N];exact hr))
  rw [w30uo hu] at this
  exact this
def w30p (N:Nat) (cells0:Int) (places1:(List Int)) (width2:Int):Bool:=(w30z N cells0 places1 width2).isSome
def w30y0 (N:Nat) (cells0:Int) (places1:(List Int)) (width2:Int):Int:=((w30z N cells0 places1 width2).getD 0)
def w30e (N:Nat):Ent':=E3 (.i .i64) (.sl (.i .i64)) (.i .i64)  (fun x0 x1 x2=>(w30p N x0 x1 x2,w30r0 (w30y0 N x0 x1 x2)))
theorem w30re {N:Nat} {cells0:Int} {places1:(List Int)} {width2:Int} {d:Int} (hd:w30z N cells0 places1 width2=some d):w30r0 (w30y0 N cells0 places1 width2)=w30r0 (d):=by unfold w30y0;rw [hd];rfl
theorem w30ok (N:Nat):EOk Tryz.prog 30 (w30e N):=EOk.e3 (fun x0 x1 x2 h=>by
  have h:(w30z N x0 x1 x2).isSome=true:=h
  obtain ⟨d,hd⟩:=Option.isSome_iff_exists.1 h
  have f:=w30fin (w30cx N) hd
  rw [← w30re hd] at f
  exact f)
end
end Go.Proofs
