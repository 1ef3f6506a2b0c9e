/- What functions do: the pen; Normal by all ways. Conditions are in the theorems. -/
import Derived.Test.YtmbdfpgaokbkkaaDoorE7
import Derived.Test.YtmbdfpgaokbkkaaDoorProg
import Derived.KernelRfl
import Derived.Test.YtmbdfpgaokbkkaaDoorF1
/- What functions do. -/
namespace Go.Proofs
noncomputable section
open Go.Ax Go.Ax.Alg Go.RowKit Go.Ab
abbrev YF3:=List UInt8
open Go
def p33r0 (a0:(List Bool)):Res:=(.ifc 100 73,[(100,.arr 77 .bo a0)])
def p33L (_:Nat):List (Nat×Ent'):=[]
def p33c (N:Nat):Cx:=⟨Tryd.prog,99999,p33L N,[]⟩
def p33b:Code:=Tryd.f33.body.getD .skip
theorem p33cx (N:Nat):CxOk (p33c N):=ctx_ok (by kernel_rfl) .nil .nil
def p33G [Alg] (_:Nat)   : O:=
 some (p33r0 (List.replicate (5080:Nat) false))
def p33 [Alg] (N:Nat)  : O:=p33G N  
def p33h [Alg] (_:Nat):Hint:=.d
theorem p33hk (N:Nat):HintOk (p33c N) Tryd.f33.ntmps (p33h N) p33b:=hk_of _ _ trivial
theorem p33q [Alg] (N:Nat)  : p33G N   = exec (p33c N) Tryd.f33.ntmps (p33h N) p33b ⟨argT 0 [],[],100⟩ (finX (p33c N) Tryd.f33 true):=by kernel_rfl
theorem p33does {N:Nat} (hc:CxOk (p33c N))  {r:Res} (h:p33 N  = some r):DoesR Tryd.prog 33 (([]:List X).map X.D) (HA []) r:=
 fun_ok hc (f:=33) (fn:=Tryd.f33) (code:=p33b) (by kernel_rfl) (by kernel_rfl) (p33hk N) (Nat.le_of_ble_eq_true (by kernel_rfl)) (ow:=true) ((p33q N ).symm.trans (by exact h))
def p33un (r:Res):Option ((List Bool)):=match r with
 | (.ifc 100 73,[(100,x0)])=>(match uz 77 .bo x0 with | some a0=>some a0 | _=>none)
 | _=>none
theorem p33uo {r:Res} {d:(List Bool)} (h:p33un r=some d):r=p33r0 (d):=by
 unfold p33un at h;split at h
 ·split at h
  ·rename_i h0;cases h;rw [uz_some h0];rfl
  ·cases h
 ·cases h
def p33z (N:Nat)  : Option ((List Bool)):=(p33 N ).bind p33un
theorem p33fin {N:Nat} (hc:CxOk (p33c N))  {d:(List Bool)} (hd:p33z N  = some d):Does Tryd.prog 33 (([]:List X).map X.D) (HA []) (p33r0 (d)).1.D (HA (p33r0 (d)).2):=by
 obtain ⟨r,hr,hu⟩:=Option.bind_eq_some_iff.1 hd;have:=p33does hc hr;rw [p33uo hu] at this;exact this
def p33p (N:Nat)  : Bool:=(p33z N ).isSome
def p33y0 (N:Nat)  : (List Bool):=((p33z N ).getD [])
def p33e (N:Nat):Ent':=E0   (p33p N ,p33r0 (p33y0 N ))
theorem p33re {N:Nat}  {d:(List Bool)} (hd:p33z N  = some d):p33r0 (p33y0 N )=p33r0 (d):=by unfold p33y0;rw [hd];rfl
theorem p33ok (N:Nat):EOk Tryd.prog 33 (p33e N):=EOk.e0 (fun h=>by
 have h:(p33z N ).isSome=true:=h;obtain ⟨d,hd⟩:=Option.isSome_iff_exists.1 h;have f:=p33fin (p33cx N) hd;rw [← p33re hd] at f;exact f)
def p80r0 (a0:(List Bool)):Res:=(.tup [],[(50,.arr 77 .bo a0)])
def p80L (N:Nat):List (Nat×Ent'):=[(19,w19e N)]
def p80c (N:Nat):Cx:=⟨Tryd.prog,99999,p80L N,[]⟩
def p80b:Code:=Tryd.f80.body.getD .skip
theorem p80cx (N:Nat):CxOk (p80c N):=ctx_ok (by kernel_rfl) (.cons (by kernel_rfl) (w19ok N) .nil) .nil
def p80G [Alg] (N:Nat)  (_e1_0:Int) (_e1_1:Int) (e1_2:Int) (e1_3:Int) (e1_4:Int) (h50_0:(List Bool)):O:=
 ck (!(decide ((0:Int)<=e1_2)&&decide (e1_2 < (40:Int)))||w19p N e1_3) <|
 br (decide ((0:Int)<=e1_2)&&decide (e1_2 < (40:Int))&&w19y0 N e1_3&&(decide (e1_4=(0:Int))||decide (e1_4=(1:Int))))
  (ck (decide ((0:Int)<=e1_2/\e1_2 < (40:Int))) <|
  ck (decide ((0:Int)<=e1_3/\e1_3 < (127:Int))) <|
  gn h50_0 ((0:Nat)+e1_2.toNat * (127:Nat)+e1_3.toNat * (1:Nat)) fun _=>
  some (p80r0 (h50_0.set ((0:Nat)+e1_2.toNat * (127:Nat)+e1_3.toNat * (1:Nat)) (decide (e1_4=(1:Int))))))
  (some (p80r0 h50_0))
def p80 [Alg] (N:Nat) (e1_0:Int) (e1_1:Int) (e1_2:Int) (e1_3:Int) (e1_4:Int) (h50_0:(List Bool)):O:=p80G N  e1_0 e1_1 e1_2 e1_3 e1_4 h50_0
def p80h [Alg] (_:Nat):Hint:=(.seq .d (.seq .d (.cond (.reg [] [] [[],[],[],[],[],[],[],[],[],[],[],[],[50]]) .d)))
theorem p80hk (N:Nat):HintOk (p80c N) Tryd.f80.ntmps (p80h N) p80b:=hk_of _ _ (And.intro trivial (And.intro trivial (And.intro trivial trivial)))
theorem p80q [Alg] (N:Nat) (e1_0:Int) (e1_1:Int) (e1_2:Int) (e1_3:Int) (e1_4:Int) (h50_0:(List Bool)):p80G N  e1_0 e1_1 e1_2 e1_3 e1_4 h50_0=exec (p80c N) Tryd.f80.ntmps (p80h N) p80b ⟨argT 0 [.ref 50 0,.agg [.e (.i .i64) e1_0,.e (.i .i64) e1_1,.e (.i .i64) e1_2,.e (.i .i64) e1_3,.e (.i .i64) e1_4]],[(50,.arr 77 .bo h50_0)],100⟩ (finX (p80c N) Tryd.f80 true):=by kernel_rfl
theorem p80does {N:Nat} (hc:CxOk (p80c N)) {e1_0:Int} {e1_1:Int} {e1_2:Int} {e1_3:Int} {e1_4:Int} {h50_0:(List Bool)} {r:Res} (h:p80 N e1_0 e1_1 e1_2 e1_3 e1_4 h50_0=some r):DoesR Tryd.prog 80 (([.ref 50 0,.agg [.e (.i .i64) e1_0,.e (.i .i64) e1_1,.e (.i .i64) e1_2,.e (.i .i64) e1_3,.e (.i .i64) e1_4]]:List X).map X.D) (HA [(50,.arr 77 .bo h50_0)]) r:=
 fun_ok hc (f:=80) (fn:=Tryd.f80) (code:=p80b) (by kernel_rfl) (by kernel_rfl) (p80hk N) (Nat.le_of_ble_eq_true (by kernel_rfl)) (ow:=true) ((p80q N e1_0 e1_1 e1_2 e1_3 e1_4 h50_0).symm.trans (by exact h))
def p80un (r:Res):Option ((List Bool)):=match r with
 | (.tup [],[(50,x0)])=>(match uz 77 .bo x0 with | some a0=>some a0 | _=>none)
 | _=>none
theorem p80uo {r:Res} {d:(List Bool)} (h:p80un r=some d):r=p80r0 (d):=by
 unfold p80un at h;split at h
 ·split at h
  ·rename_i h0;cases h;rw [uz_some h0];rfl
  ·cases h
 ·cases h
def p80z (N:Nat) (e1_0:Int) (e1_1:Int) (e1_2:Int) (e1_3:Int) (e1_4:Int) (h50_0:(List Bool)):Option ((List Bool)):=(p80 N e1_0 e1_1 e1_2 e1_3 e1_4 h50_0).bind p80un
theorem p80fin {N:Nat} (hc:CxOk (p80c N)) {e1_0:Int} {e1_1:Int} {e1_2:Int} {e1_3:Int} {e1_4:Int} {h50_0:(List Bool)} {d:(List Bool)} (hd:p80z N e1_0 e1_1 e1_2 e1_3 e1_4 h50_0=some d):Does Tryd.prog 80 (([.ref 50 0,.agg [.e (.i .i64) e1_0,.e (.i .i64) e1_1,.e (.i .i64) e1_2,.e (.i .i64) e1_3,.e (.i .i64) e1_4]]:List X).map X.D) (HA [(50,.arr 77 .bo h50_0)]) (p80r0 (d)).1.D (HA (p80r0 (d)).2):=by
 obtain ⟨r,hr,hu⟩:=Option.bind_eq_some_iff.1 hd;have:=p80does hc hr;rw [p80uo hu] at this;exact this
def p80p (N:Nat) (e1_0:Int) (e1_1:Int) (e1_2:Int) (e1_3:Int) (e1_4:Int) (h50_0:(List Bool)):Bool:=(p80z N e1_0 e1_1 e1_2 e1_3 e1_4 h50_0).isSome
def p80y0 (N:Nat) (e1_0:Int) (e1_1:Int) (e1_2:Int) (e1_3:Int) (e1_4:Int) (h50_0:(List Bool)):(List Bool):=((p80z N e1_0 e1_1 e1_2 e1_3 e1_4 h50_0).getD [])
def p80in (xs:List X) (H:XH):Option (Int×Int×Int×Int×Int×(List Bool)):=match xs,H with
 | [.ref 50 0,.agg [x0,x1,x2,x3,x4]],[(50,x5)]=>(match ue (.i .i64) x0,ue (.i .i64) x1,ue (.i .i64) x2,ue (.i .i64) x3,ue (.i .i64) x4,uz 77 .bo x5 with | some a0,some a1,some a2,some a3,some a4,some a5=>some (a0,a1,a2,a3,a4,a5) | _,_,_,_,_,_=>none)
 | _,_=>none
theorem p80io {xs:List X} {H:XH} {d:Int×Int×Int×Int×Int×(List Bool)} (h:p80in xs H=some d):xs=[.ref 50 0,.agg [.e (.i .i64) (d.1),.e (.i .i64) (d.2.1),.e (.i .i64) (d.2.2.1),.e (.i .i64) (d.2.2.2.1),.e (.i .i64) (d.2.2.2.2.1)]]/\H=[(50,.arr 77 .bo (d.2.2.2.2.2))]:=by
 unfold p80in at h;split at h
 ·split at h
  ·rename_i h0 h1 h2 h3 h4 h5;cases h;rw [ue_some h0,ue_some h1,ue_some h2,ue_some h3,ue_some h4,uz_some h5];exact ⟨rfl,rfl⟩
  ·cases h
 ·cases h
def p80e (N:Nat):Ent':=fun xs H=>match p80in xs H with | some d=>some (p80p N (d.1) (d.2.1) (d.2.2.1) (d.2.2.2.1) (d.2.2.2.2.1) (d.2.2.2.2.2),p80r0 (p80y0 N (d.1) (d.2.1) (d.2.2.1) (d.2.2.2.1) (d.2.2.2.2.1) (d.2.2.2.2.2))) | none=>none
theorem p80re {N:Nat} {e1_0:Int} {e1_1:Int} {e1_2:Int} {e1_3:Int} {e1_4:Int} {h50_0:(List Bool)} {d:(List Bool)} (hd:p80z N e1_0 e1_1 e1_2 e1_3 e1_4 h50_0=some d):p80r0 (p80y0 N e1_0 e1_1 e1_2 e1_3 e1_4 h50_0)=p80r0 (d):=by unfold p80y0;rw [hd];rfl
theorem p80ok (N:Nat):EOk Tryd.prog 80 (p80e N):=fun xs H pre r he hp=>by
 unfold p80e at he;split at he
 ·rename_i d hd
  have he:=Option.some.inj he;have h1:=congrArg Prod.fst he;have h2:=congrArg Prod.snd he;simp only at h1 h2;obtain ⟨e1,e2⟩:=p80io hd;rw [e1,e2,← h2];have h:(p80z N (d.1) (d.2.1) (d.2.2.1) (d.2.2.2.1) (d.2.2.2.2.1) (d.2.2.2.2.2)).isSome=true:=h1.trans hp;obtain ⟨d',hd'⟩:=Option.isSome_iff_exists.1 h;have f:=p80fin (p80cx N) hd';rw [← p80re hd'] at f;exact f
 ·cases he
def p84r0 (a0:YF3) (a1:Int) (a2:(List Bool)):Res:=(.tup [.e .tx a0,.e (.i .i64) a1],[(50,.arr 77 .bo a2)])
def p84L (_:Nat):List (Nat×Ent'):=[]
def p84c (N:Nat):Cx:=⟨Tryd.prog,99999,p84L N,[]⟩
def p84b:Code:=Tryd.f84.body.getD .skip
theorem p84cx (N:Nat):CxOk (p84c N):=ctx_ok (by kernel_rfl) .nil .nil
def p84F0 [Alg] (_:Nat)  (self:Int->Int->YF3->O) (k0:YF3->Int->Bool->Bool->(List Bool)->Int->Int->(List Bool)->YF3->O) (x27_0:YF3) (x27_1:Int) (x27_2:Bool) (x27_3:Bool) (x27_4:(List Bool)) (x27_5:Int) (x27_7:(List Bool)) (x27_9:(List Bool)) (x27_6:Int) (x27_8:Int) (x27_10:YF3):O:=
 br (decide (x27_8 < (127:Int)))
  (ck (decide (x27_7.length=(127:Nat))) <|
  gx x27_7 x27_8 fun y30=>
  br y30
   (br (!x27_2&&decide (IntKind.i64.wrap (x27_6+(1:Int))=(1:Int)))
    (ck (lim (x27_10++[u8of x27_8]).length (1:Nat)) <|
    self (IntKind.i64.wrap (x27_6+(1:Int))) (IntKind.i64.wrap (x27_8+(1:Int))) (x27_10++[u8of x27_8]))
    (self (IntKind.i64.wrap (x27_6+(1:Int))) (IntKind.i64.wrap (x27_8+(1:Int))) x27_10))
   (self x27_6 (IntKind.i64.wrap (x27_8+(1:Int))) x27_10))
  (k0 x27_0 x27_1 x27_2 x27_3 x27_4 x27_5 x27_6 x27_9 x27_10)
def p84b0:Code:=atC [1,1,1,0,1,0,0,1,1,0,0,1,1,0,1,0,0] p84b
def p84m0:Nm:=⟨[2,3,4,5,6,15,16,9,19,20],[],[]⟩
def p84I0 (x:YF3×Int×Bool×Bool×(List Bool)×Int×Int×(List Bool)×Int×(List Bool)×YF3):Sg:=⟨[(2,.e .tx x.1),(3,.e (.i .i64) x.2.1),(4,.own 0),(5,.e .bo x.2.2.1),(6,.e .bo x.2.2.2.1),(15,.ag .bo x.2.2.2.2.1),(16,.e (.i .i64) x.2.2.2.2.2.1),(9,.e (.i .i64) x.2.2.2.2.2.2.1),(19,.ag .bo x.2.2.2.2.2.2.2.1),(20,.e (.i .i64) x.2.2.2.2.2.2.2.2.1)],[(50,.arr 77 .bo x.2.2.2.2.2.2.2.2.2.1),(0,.row 5 .u8 x.2.2.2.2.2.2.2.2.2.2 true)],100⟩
def p84u0 (σ:Sg):YF3×Int×Bool×Bool×(List Bool)×Int×Int×(List Bool)×Int×(List Bool)×YF3:=(lvT .tx 2 0 σ,lvT (.i .i64) 3 0 σ,lvT .bo 5 0 σ,lvT .bo 6 0 σ,lvA .bo 15 σ,lvT (.i .i64) 16 0 σ,lvT (.i .i64) 9 0 σ,lvA .bo 19 σ,lvT (.i .i64) 20 0 σ,lvQ .bo 50 σ,lvR .u8 0 σ)
theorem p84ui0:∀ x,p84u0 (p84I0 x)=x:=fun _=>by kernel_rfl
def p84X0_0 (y:YF3×Int×Bool×Bool×(List Bool)×Int×Int×(List Bool)×YF3):Exit×Sg:=((.exit 2),⟨[(2,.e .tx y.1),(3,.e (.i .i64) y.2.1),(4,.own 0),(5,.e .bo y.2.2.1),(6,.e .bo y.2.2.2.1),(15,.ag .bo y.2.2.2.2.1),(16,.e (.i .i64) y.2.2.2.2.2.1),(9,.e (.i .i64) y.2.2.2.2.2.2.1)],[(50,.arr 77 .bo y.2.2.2.2.2.2.2.1),(0,.row 5 .u8 y.2.2.2.2.2.2.2.2 true)],100⟩)
def p84v0_0 (_:Exit) (σ:Sg):YF3×Int×Bool×Bool×(List Bool)×Int×Int×(List Bool)×YF3:=(lvT .tx 2 0 σ,lvT (.i .i64) 3 0 σ,lvT .bo 5 0 σ,lvT .bo 6 0 σ,lvA .bo 15 σ,lvT (.i .i64) 16 0 σ,lvT (.i .i64) 9 0 σ,lvQ .bo 50 σ,lvR .u8 0 σ)
def p84w0:List (Exit×Nm):=[((.exit 2),⟨[2,3,4,5,6,15,16,9],[],[]⟩)]
theorem p84o0:Outs p84v0_0 (fun _ _=>()) (fun _ _=>()) p84X0_0 (noX 1) (noX 2) (exC (.exit 2)) (exC (.goto 1)) (exC (.goto 2)):=⟨fun _=>by kernel_rfl,fun _=>by kernel_rfl,fun _=>by kernel_rfl,fun _=>by kernel_rfl,fun _=>by kernel_rfl,fun _=>by kernel_rfl,exNe_ok (by kernel_rfl),exNe_ok (by kernel_rfl),exNe_ok (by kernel_rfl)⟩
def p84l0 [Alg] (N:Nat):Nat->(YF3×Int×Bool×Bool×(List Bool)×Int×Int×(List Bool)×Int×(List Bool)×YF3)->((YF3×Int×Bool×Bool×(List Bool)×Int×Int×(List Bool)×YF3)->O)->((Unit)->O)->((Unit)->O)->O
 | 0,_,_,_,_=>none
 | n+1,x,k0,k1,k2=>p84F0 N  (fun v0 v1 v2=>p84l0 N n (x.1,x.2.1,x.2.2.1,x.2.2.2.1,x.2.2.2.2.1,x.2.2.2.2.2.1,v0,x.2.2.2.2.2.2.2.1,v1,x.2.2.2.2.2.2.2.2.2.1,v2) k0 k1 k2) (fun y0 y1 y2 y3 y4 y5 y6 y7 y8=>k0 (y0,y1,y2,y3,y4,y5,y6,y7,y8)) x.1 x.2.1 x.2.2.1 x.2.2.2.1 x.2.2.2.2.1 x.2.2.2.2.2.1 x.2.2.2.2.2.2.2.1 x.2.2.2.2.2.2.2.2.2.1 x.2.2.2.2.2.2.1 x.2.2.2.2.2.2.2.2.1 x.2.2.2.2.2.2.2.2.2.2
def p84n0 [Alg] (N:Nat) (a0:YF3) (a1:Int) (a2:Bool) (a3:Bool) (a4:(List Bool)) (a5:Int) (a6:Int) (a7:(List Bool)) (a8:Int) (a9:(List Bool)) (a10:YF3) (k0:YF3->Int->Bool->Bool->(List Bool)->Int->Int->(List Bool)->YF3->O):O:=p84l0 N N (a0,a1,a2,a3,a4,a5,a6,a7,a8,a9,a10) (fun y=>k0 y.1 y.2.1 y.2.2.1 y.2.2.2.1 y.2.2.2.2.1 y.2.2.2.2.2.1 y.2.2.2.2.2.2.1 y.2.2.2.2.2.2.2.1 y.2.2.2.2.2.2.2.2) (fun _=>none) (fun _=>none)
def p84s0 [Alg] (N:Nat) (a0:YF3) (a1:Int) (a2:Bool) (a3:Bool) (a4:(List Bool)) (a5:Int) (a6:Int) (a7:(List Bool)) (a8:Int) (a9:(List Bool)) (a10:YF3) (k0:YF3->Int->Bool->Bool->(List Bool)->Int->Int->(List Bool)->YF3->O):O:=subL p84I0 p84u0 (p84l0 N N) (p84I0 (a0,a1,a2,a3,a4,a5,a6,a7,a8,a9,a10)) (fun y=>k0 y.1 y.2.1 y.2.2.1 y.2.2.2.1 y.2.2.2.2.1 y.2.2.2.2.2.1 y.2.2.2.2.2.2.1 y.2.2.2.2.2.2.2.1 y.2.2.2.2.2.2.2.2) (fun _=>none) (fun _=>none)
theorem p84e0 [Alg] (N:Nat):p84s0 N=p84n0 N:=funext fun _=>funext fun _=>funext fun _=>funext fun _=>funext fun _=>funext fun _=>funext fun _=>funext fun _=>funext fun _=>funext fun _=>funext fun _=>funext fun _=>subL_I p84ui0 _ _ _ _
def p84h0 [Alg] (_:Nat):Hint:=.d
theorem p84hk0 (N:Nat):HintOk (p84c N) Tryd.f84.ntmps (p84h0 N) p84b0:=hk_of _ _ trivial
theorem p84q0 [Alg] (N:Nat) (self:Sg->O) (K:Exit->Sg->O) (x:YF3×Int×Bool×Bool×(List Bool)×Int×Int×(List Bool)×Int×(List Bool)×YF3):p84F0 N  (fun v0 v1 v2=>self (p84I0 (x.1,x.2.1,x.2.2.1,x.2.2.2.1,x.2.2.2.2.1,x.2.2.2.2.2.1,v0,x.2.2.2.2.2.2.2.1,v1,x.2.2.2.2.2.2.2.2.2.1,v2))) (fun y0 y1 y2 y3 y4 y5 y6 y7 y8=>K (p84X0_0 (y0,y1,y2,y3,y4,y5,y6,y7,y8)).1 (p84X0_0 (y0,y1,y2,y3,y4,y5,y6,y7,y8)).2) x.1 x.2.1 x.2.2.1 x.2.2.2.1 x.2.2.2.2.1 x.2.2.2.2.2.1 x.2.2.2.2.2.2.2.1 x.2.2.2.2.2.2.2.2.2.1 x.2.2.2.2.2.2.1 x.2.2.2.2.2.2.2.2.1 x.2.2.2.2.2.2.2.2.2.2=exec (p84c N) Tryd.f84.ntmps (p84h0 N) p84b0 (p84I0 x) (roundX p84m0 p84w0 self K):=by kernel_rfl
theorem p84S0 (N:Nat) (hc:CxOk (p84c N)):SubOk (p84c N) Tryd.f84.ntmps (.loop p84b0) p84X0_0 (noX 1) (noX 2) (subL p84I0 p84u0 (p84l0 N N)):=
 sub_loop hc (p84hk0 N) p84o0 (n:=N) (fun x K=>loop_ind (p84l0 N) (fun _ _ _ _=>rfl) (fun n K ih x=>by
  have h:p84F0 N  (fun v0 v1 v2=>p84l0 N n (x.1,x.2.1,x.2.2.1,x.2.2.2.1,x.2.2.2.2.1,x.2.2.2.2.2.1,v0,x.2.2.2.2.2.2.2.1,v1,x.2.2.2.2.2.2.2.2.2.1,v2) (fun y=>K (p84X0_0 y).1 (p84X0_0 y).2) (fun y=>K ((noX 1) y).1 ((noX 1) y).2) (fun y=>K ((noX 2) y).1 ((noX 2) y).2)) (fun y0 y1 y2 y3 y4 y5 y6 y7 y8=>K (p84X0_0 (y0,y1,y2,y3,y4,y5,y6,y7,y8)).1 (p84X0_0 (y0,y1,y2,y3,y4,y5,y6,y7,y8)).2) x.1 x.2.1 x.2.2.1 x.2.2.2.1 x.2.2.2.2.1 x.2.2.2.2.2.1 x.2.2.2.2.2.2.2.1 x.2.2.2.2.2.2.2.2.2.1 x.2.2.2.2.2.2.1 x.2.2.2.2.2.2.2.2.1 x.2.2.2.2.2.2.2.2.2.2=p84F0 N  (fun v0 v1 v2=>loopX (p84c N) Tryd.f84.ntmps (p84h0 N) p84b0 p84m0 p84w0 n (p84I0 (x.1,x.2.1,x.2.2.1,x.2.2.2.1,x.2.2.2.2.1,x.2.2.2.2.2.1,v0,x.2.2.2.2.2.2.2.1,v1,x.2.2.2.2.2.2.2.2.2.1,v2)) K) (fun y0 y1 y2 y3 y4 y5 y6 y7 y8=>K (p84X0_0 (y0,y1,y2,y3,y4,y5,y6,y7,y8)).1 (p84X0_0 (y0,y1,y2,y3,y4,y5,y6,y7,y8)).2) x.1 x.2.1 x.2.2.1 x.2.2.2.1 x.2.2.2.2.1 x.2.2.2.2.2.1 x.2.2.2.2.2.2.2.1 x.2.2.2.2.2.2.2.2.2.1 x.2.2.2.2.2.2.1 x.2.2.2.2.2.2.2.2.1 x.2.2.2.2.2.2.2.2.2.2:=by rw [ show (fun v0 v1 v2=>p84l0 N n (x.1,x.2.1,x.2.2.1,x.2.2.2.1,x.2.2.2.2.1,x.2.2.2.2.2.1,v0,x.2.2.2.2.2.2.2.1,v1,x.2.2.2.2.2.2.2.2.2.1,v2) (fun y=>K (p84X0_0 y).1 (p84X0_0 y).2) (fun y=>K ((noX 1) y).1 ((noX 1) y).2) (fun y=>K ((noX 2) y).1 ((noX 2) y).2))=(fun v0 v1 v2=>loopX (p84c N) Tryd.f84.ntmps (p84h0 N) p84b0 p84m0 p84w0 n (p84I0 (x.1,x.2.1,x.2.2.1,x.2.2.2.1,x.2.2.2.2.1,x.2.2.2.2.2.1,v0,x.2.2.2.2.2.2.2.1,v1,x.2.2.2.2.2.2.2.2.2.1,v2)) K) from funext fun _=>funext fun _=>funext fun _=>ih _]
  exact h.trans (p84q0 N (fun σ=>loopX (p84c N) Tryd.f84.ntmps (p84h0 N) p84b0 p84m0 p84w0 n σ K) K x)) N x K)
def p84F1 [Alg] (_:Nat) (in0:YF3->Int->Bool->Bool->(List Bool)->Int->Int->(List Bool)->Int->(List Bool)->YF3->(YF3->Int->Bool->Bool->(List Bool)->Int->Int->(List Bool)->YF3->O)->O) (self:YF3->Int->Bool->Bool->(List Bool)->Int->(List Bool)->YF3->O) (k0:YF3->Int->(List Bool)->O) (k1:Bool->(List Bool)->YF3->O) (x0_0:YF3) (x0_1:Int) (x0_2:Bool) (x0_3:Bool) (x0_4:(List Bool)) (x0_5:Int) (x0_6:(List Bool)) (x0_7:YF3):O:=
 br (decide (x0_5 < (40:Int)))
  (ck (decide (x0_4.length=(5080:Nat))) <|
  ck (decide ((0:Int)<=x0_5/\x0_5 < (40:Int))) <|
  ck (decide ((0:Nat) < (127:Nat)/\(List.take (127:Nat) (List.drop (x0_5.toNat * (127:Nat)) x0_4)).length=(127:Nat)/\(127:Nat)=(127:Nat))) <|
  ck (decide ((127:Nat)<=(List.take (127:Nat) (List.drop (x0_5.toNat * (127:Nat)) x0_4)).length)) <|
  in0 x0_0 x0_1 x0_2 x0_3 x0_4 x0_5 ((0:Int)) (List.take (127:Nat) (List.drop (0:Nat) (List.take (127:Nat) (List.drop (x0_5.toNat * (127:Nat)) x0_4)))) ((0:Int)) x0_6 x0_7
   (fun z31 z32 z33 z34 z35 z36 z37 z38 z39=>
    br (decide ((1:Int) < z37))
     (k0 [] ((17:Int)) z38)
     (self z31 z32 (z33||decide (z37=(0:Int))) (z34||z33&&decide ((0:Int) < z37)) z35 (IntKind.i64.wrap (z36+(1:Int))) z38 z39)))
  (k1 x0_3 x0_6 x0_7)
def p84b1:Code:=atC [1,1,1,0,1,0,0] p84b
def p84m1:Nm:=⟨[2,3,4,5,6,15,16],[],[]⟩
def p84I1 (x:YF3×Int×Bool×Bool×(List Bool)×Int×(List Bool)×YF3):Sg:=⟨[(2,.e .tx x.1),(3,.e (.i .i64) x.2.1),(4,.own 0),(5,.e .bo x.2.2.1),(6,.e .bo x.2.2.2.1),(15,.ag .bo x.2.2.2.2.1),(16,.e (.i .i64) x.2.2.2.2.2.1)],[(50,.arr 77 .bo x.2.2.2.2.2.2.1),(0,.row 5 .u8 x.2.2.2.2.2.2.2 true)],100⟩
def p84u1 (σ:Sg):YF3×Int×Bool×Bool×(List Bool)×Int×(List Bool)×YF3:=(lvT .tx 2 0 σ,lvT (.i .i64) 3 0 σ,lvT .bo 5 0 σ,lvT .bo 6 0 σ,lvA .bo 15 σ,lvT (.i .i64) 16 0 σ,lvQ .bo 50 σ,lvR .u8 0 σ)
theorem p84ui1:∀ x,p84u1 (p84I1 x)=x:=fun _=>by kernel_rfl
def p84X1_0 (y:YF3×Int×(List Bool)):Exit×Sg:=(.ret,⟨[(2,.e .tx y.1),(3,.e (.i .i64) y.2.1)],[(50,.arr 77 .bo y.2.2)],100⟩)
def p84v1_0 (_:Exit) (σ:Sg):YF3×Int×(List Bool):=(lvT .tx 2 0 σ,lvT (.i .i64) 3 0 σ,lvQ .bo 50 σ)
def p84X1_1 (y:Bool×(List Bool)×YF3):Exit×Sg:=((.exit 0),⟨[(4,.own 0),(6,.e .bo y.1)],[(50,.arr 77 .bo y.2.1),(0,.row 5 .u8 y.2.2 true)],100⟩)
def p84v1_1 (_:Exit) (σ:Sg):Bool×(List Bool)×YF3:=(lvT .bo 6 0 σ,lvQ .bo 50 σ,lvR .u8 0 σ)
def p84w1:List (Exit×Nm):=[(.ret,⟨[2,3],[],[]⟩),((.exit 0),⟨[4,6],[],[]⟩)]
theorem p84o1:Outs p84v1_0 p84v1_1 (fun _ _=>()) p84X1_0 p84X1_1 (noX 2) (exC .ret) (exC (.exit 0)) (exC (.goto 2)):=⟨fun _=>by kernel_rfl,fun _=>by kernel_rfl,fun _=>by kernel_rfl,fun _=>by kernel_rfl,fun _=>by kernel_rfl,fun _=>by kernel_rfl,exNe_ok (by kernel_rfl),exNe_ok (by kernel_rfl),exNe_ok (by kernel_rfl)⟩
def p84l1 [Alg] (N:Nat):Nat->(YF3×Int×Bool×Bool×(List Bool)×Int×(List Bool)×YF3)->((YF3×Int×(List Bool))->O)->((Bool×(List Bool)×YF3)->O)->((Unit)->O)->O
 | 0,_,_,_,_=>none
 | n+1,x,k0,k1,k2=>p84F1 N (p84n0 N) (fun v0 v1 v2 v3 v4 v5 v6 v7=>p84l1 N n (v0,v1,v2,v3,v4,v5,v6,v7) k0 k1 k2) (fun y0 y1 y2=>k0 (y0,y1,y2)) (fun y0 y1 y2=>k1 (y0,y1,y2)) x.1 x.2.1 x.2.2.1 x.2.2.2.1 x.2.2.2.2.1 x.2.2.2.2.2.1 x.2.2.2.2.2.2.1 x.2.2.2.2.2.2.2
def p84n1 [Alg] (N:Nat) (a0:YF3) (a1:Int) (a2:Bool) (a3:Bool) (a4:(List Bool)) (a5:Int) (a6:(List Bool)) (a7:YF3) (k0:YF3->Int->(List Bool)->O) (k1:Bool->(List Bool)->YF3->O):O:=p84l1 N N (a0,a1,a2,a3,a4,a5,a6,a7) (fun y=>k0 y.1 y.2.1 y.2.2) (fun y=>k1 y.1 y.2.1 y.2.2) (fun _=>none)
def p84s1 [Alg] (N:Nat) (a0:YF3) (a1:Int) (a2:Bool) (a3:Bool) (a4:(List Bool)) (a5:Int) (a6:(List Bool)) (a7:YF3) (k0:YF3->Int->(List Bool)->O) (k1:Bool->(List Bool)->YF3->O):O:=subL p84I1 p84u1 (p84l1 N N) (p84I1 (a0,a1,a2,a3,a4,a5,a6,a7)) (fun y=>k0 y.1 y.2.1 y.2.2) (fun y=>k1 y.1 y.2.1 y.2.2) (fun _=>none)
theorem p84e1 [Alg] (N:Nat):p84s1 N=p84n1 N:=funext fun _=>funext fun _=>funext fun _=>funext fun _=>funext fun _=>funext fun _=>funext fun _=>funext fun _=>funext fun _=>funext fun _=>subL_I p84ui1 _ _ _ _
def p84h1 [Alg] (N:Nat):Hint:=(.seq .d (.seq .d (.seq (.block (.seq .d (.seq .d (.seq (.seq .d (.block (.sub p84m0 _ _ _ p84X0_0 (noX 1) (noX 2) (subL p84I0 p84u0 (p84l0 N N))))) .d)))) .d)))
theorem p84hk1 (N:Nat) (hc:CxOk (p84c N)):HintOk (p84c N) Tryd.f84.ntmps (p84h1 N) p84b1:=hk_of _ _ (And.intro trivial (And.intro trivial (And.intro (And.intro trivial (And.intro trivial (And.intro (And.intro trivial (p84S0 N hc)) trivial))) trivial)))
theorem p84q1 [Alg] (N:Nat) (self:Sg->O) (K:Exit->Sg->O) (x:YF3×Int×Bool×Bool×(List Bool)×Int×(List Bool)×YF3):p84F1 N (p84s0 N) (fun v0 v1 v2 v3 v4 v5 v6 v7=>self (p84I1 (v0,v1,v2,v3,v4,v5,v6,v7))) (fun y0 y1 y2=>K (p84X1_0 (y0,y1,y2)).1 (p84X1_0 (y0,y1,y2)).2) (fun y0 y1 y2=>K (p84X1_1 (y0,y1,y2)).1 (p84X1_1 (y0,y1,y2)).2) x.1 x.2.1 x.2.2.1 x.2.2.2.1 x.2.2.2.2.1 x.2.2.2.2.2.1 x.2.2.2.2.2.2.1 x.2.2.2.2.2.2.2=exec (p84c N) Tryd.f84.ntmps (p84h1 N) p84b1 (p84I1 x) (roundX p84m1 p84w1 self K):=by kernel_rfl
theorem p84S1 (N:Nat) (hc:CxOk (p84c N)):SubOk (p84c N) Tryd.f84.ntmps (.loop p84b1) p84X1_0 p84X1_1 (noX 2) (subL p84I1 p84u1 (p84l1 N N)):=
 sub_loop hc (p84hk1 N hc) p84o1 (n:=N) (fun x K=>loop_ind (p84l1 N) (fun _ _ _ _=>rfl) (fun n K ih x=>by
  have h:p84F1 N (p84n0 N) (fun v0 v1 v2 v3 v4 v5 v6 v7=>p84l1 N n (v0,v1,v2,v3,v4,v5,v6,v7) (fun y=>K (p84X1_0 y).1 (p84X1_0 y).2) (fun y=>K (p84X1_1 y).1 (p84X1_1 y).2) (fun y=>K ((noX 2) y).1 ((noX 2) y).2)) (fun y0 y1 y2=>K (p84X1_0 (y0,y1,y2)).1 (p84X1_0 (y0,y1,y2)).2) (fun y0 y1 y2=>K (p84X1_1 (y0,y1,y2)).1 (p84X1_1 (y0,y1,y2)).2) x.1 x.2.1 x.2.2.1 x.2.2.2.1 x.2.2.2.2.1 x.2.2.2.2.2.1 x.2.2.2.2.2.2.1 x.2.2.2.2.2.2.2=p84F1 N (p84s0 N) (fun v0 v1 v2 v3 v4 v5 v6 v7=>loopX (p84c N) Tryd.f84.ntmps (p84h1 N) p84b1 p84m1 p84w1 n (p84I1 (v0,v1,v2,v3,v4,v5,v6,v7)) K) (fun y0 y1 y2=>K (p84X1_0 (y0,y1,y2)).1 (p84X1_0 (y0,y1,y2)).2) (fun y0 y1 y2=>K (p84X1_1 (y0,y1,y2)).1 (p84X1_1 (y0,y1,y2)).2) x.1 x.2.1 x.2.2.1 x.2.2.2.1 x.2.2.2.2.1 x.2.2.2.2.2.1 x.2.2.2.2.2.2.1 x.2.2.2.2.2.2.2:=by rw [p84e0 N,show (fun v0 v1 v2 v3 v4 v5 v6 v7=>p84l1 N n (v0,v1,v2,v3,v4,v5,v6,v7) (fun y=>K (p84X1_0 y).1 (p84X1_0 y).2) (fun y=>K (p84X1_1 y).1 (p84X1_1 y).2) (fun y=>K ((noX 2) y).1 ((noX 2) y).2))=(fun v0 v1 v2 v3 v4 v5 v6 v7=>loopX (p84c N) Tryd.f84.ntmps (p84h1 N) p84b1 p84m1 p84w1 n (p84I1 (v0,v1,v2,v3,v4,v5,v6,v7)) K) from funext fun _=>funext fun _=>funext fun _=>funext fun _=>funext fun _=>funext fun _=>funext fun _=>funext fun _=>ih _]
  exact h.trans (p84q1 N (fun σ=>loopX (p84c N) Tryd.f84.ntmps (p84h1 N) p84b1 p84m1 p84w1 n σ K) K x)) N x K)
def p84G [Alg] (_:Nat) (_in0:YF3->Int->Bool->Bool->(List Bool)->Int->Int->(List Bool)->Int->(List Bool)->YF3->(YF3->Int->Bool->Bool->(List Bool)->Int->Int->(List Bool)->YF3->O)->O) (in1:YF3->Int->Bool->Bool->(List Bool)->Int->(List Bool)->YF3->(YF3->Int->(List Bool)->O)->(Bool->(List Bool)->YF3->O)->O) (h50_0:(List Bool)):O:=
 ck (decide ((5080:Nat)<=h50_0.length)) <|
 in1 [] ((0:Int)) false false (List.take (5080:Nat) (List.drop (0:Nat) h50_0)) ((0:Int)) h50_0 []
  (fun z40 z41 z42=>
   some (p84r0 z40 z41 z42))
  (fun z43 z44 z45=>
   br z43
    (some (p84r0 [] ((2:Int)) z44))
    (some (p84r0 z45 ((0:Int)) z44)))
def p84 [Alg] (N:Nat) (h50_0:(List Bool)):O:=p84G N (p84n0 N) (p84n1 N) h50_0
def p84h [Alg] (N:Nat):Hint:=(.seq .d (.seq .d (.seq .d (.seq (.seq (.reg [] [.nilR 4 (.row 5 .u8 [] true)] []) (.block (.sub p84m1 _ _ _ p84X1_0 p84X1_1 (noX 2) (subL p84I1 p84u1 (p84l1 N N))))) .d))))
theorem p84hk (N:Nat) (hc:CxOk (p84c N)):HintOk (p84c N) Tryd.f84.ntmps (p84h N) p84b:=hk_of _ _ (And.intro trivial (And.intro trivial (And.intro trivial (And.intro (And.intro trivial (p84S1 N hc)) trivial))))
theorem p84q [Alg] (N:Nat) (h50_0:(List Bool)):p84G N (p84s0 N) (p84s1 N) h50_0=exec (p84c N) Tryd.f84.ntmps (p84h N) p84b ⟨argT 0 [.ref 50 0],[(50,.arr 77 .bo h50_0)],100⟩ (finX (p84c N) Tryd.f84 true):=by kernel_rfl
theorem p84does {N:Nat} (hc:CxOk (p84c N)) {h50_0:(List Bool)} {r:Res} (h:p84 N h50_0=some r):DoesR Tryd.prog 84 (([.ref 50 0]:List X).map X.D) (HA [(50,.arr 77 .bo h50_0)]) r:=
 fun_ok hc (f:=84) (fn:=Tryd.f84) (code:=p84b) (by kernel_rfl) (by kernel_rfl) (p84hk N hc) (Nat.le_of_ble_eq_true (by kernel_rfl)) (ow:=true) ((p84q N h50_0).symm.trans (by rw [p84e0 N,p84e1 N];exact h))
def p84un (r:Res):Option (YF3×Int×(List Bool)):=match r with
 | (.tup [x0,x1],[(50,x2)])=>(match ue .tx x0,ue (.i .i64) x1,uz 77 .bo x2 with | some a0,some a1,some a2=>some (a0,a1,a2) | _,_,_=>none)
 | _=>none
theorem p84uo {r:Res} {d:YF3×Int×(List Bool)} (h:p84un r=some d):r=p84r0 (d.1) (d.2.1) (d.2.2):=by
 unfold p84un at h;split at h
 ·split at h
  ·rename_i h0 h1 h2;cases h;rw [ue_some h0,ue_some h1,uz_some h2];rfl
  ·cases h
 ·cases h
def p84z (N:Nat) (h50_0:(List Bool)):Option (YF3×Int×(List Bool)):=(p84 N h50_0).bind p84un
theorem p84fin {N:Nat} (hc:CxOk (p84c N)) {h50_0:(List Bool)} {d:YF3×Int×(List Bool)} (hd:p84z N h50_0=some d):Does Tryd.prog 84 (([.ref 50 0]:List X).map X.D) (HA [(50,.arr 77 .bo h50_0)]) (p84r0 (d.1) (d.2.1) (d.2.2)).1.D (HA (p84r0 (d.1) (d.2.1) (d.2.2)).2):=by
 obtain ⟨r,hr,hu⟩:=Option.bind_eq_some_iff.1 hd;have:=p84does hc hr;rw [p84uo hu] at this;exact this
def p84p (N:Nat) (h50_0:(List Bool)):Bool:=(p84z N h50_0).isSome
def p84y0 (N:Nat) (h50_0:(List Bool)):YF3:=((p84z N h50_0).getD ([],0,[])).1
def p84y1 (N:Nat) (h50_0:(List Bool)):Int:=((p84z N h50_0).getD ([],0,[])).2.1
def p84y2 (N:Nat) (h50_0:(List Bool)):(List Bool):=((p84z N h50_0).getD ([],0,[])).2.2
def p84in (xs:List X) (H:XH):Option ((List Bool)):=match xs,H with
 | [.ref 50 0],[(50,x0)]=>(match uz 77 .bo x0 with | some a0=>some a0 | _=>none)
 | _,_=>none
theorem p84io {xs:List X} {H:XH} {d:(List Bool)} (h:p84in xs H=some d):xs=[.ref 50 0]/\H=[(50,.arr 77 .bo (d))]:=by
 unfold p84in at h;split at h
 ·split at h
  ·rename_i h0;cases h;rw [uz_some h0];exact ⟨rfl,rfl⟩
  ·cases h
 ·cases h
def p84e (N:Nat):Ent':=fun xs H=>match p84in xs H with | some d=>some (p84p N (d),p84r0 (p84y0 N (d)) (p84y1 N (d)) (p84y2 N (d))) | none=>none
theorem p84re {N:Nat} {h50_0:(List Bool)} {d:YF3×Int×(List Bool)} (hd:p84z N h50_0=some d):p84r0 (p84y0 N h50_0) (p84y1 N h50_0) (p84y2 N h50_0)=p84r0 (d.1) (d.2.1) (d.2.2):=by unfold p84y0 p84y1 p84y2;rw [hd];rfl
theorem p84ok (N:Nat):EOk Tryd.prog 84 (p84e N):=fun xs H pre r he hp=>by
 unfold p84e at he;split at he
 ·rename_i d hd
  have he:=Option.some.inj he;have h1:=congrArg Prod.fst he;have h2:=congrArg Prod.snd he;simp only at h1 h2;obtain ⟨e1,e2⟩:=p84io hd;rw [e1,e2,← h2];have h:(p84z N (d)).isSome=true:=h1.trans hp;obtain ⟨d',hd'⟩:=Option.isSome_iff_exists.1 h;have f:=p84fin (p84cx N) hd';rw [← p84re hd'] at f;exact f
 ·cases he
end
end Go.Proofs
/- What functions do. -/
namespace Go.Proofs
noncomputable section
open Go.Ax Go.Ax.Alg Go.RowKit Go.Ab
open Go
def p13r0 (a0:YF3) (a1:Int):Res:=(.tup [.e .tx a0,.e (.i .i64) a1],[])
def p13L (N:Nat):List (Nat×Ent'):=[(25,w25e N),(16,w16e N),(8,w8e N),(33,p33e N),(80,p80e N),(84,p84e N)]
def p13c (N:Nat):Cx:=⟨Tryd.prog,99999,p13L N,[]⟩
def p13b:Code:=Tryd.f13.body.getD .skip
theorem p13cx (N:Nat):CxOk (p13c N):=ctx_ok (by kernel_rfl) (.cons (by kernel_rfl) (w25ok N) (.cons (by kernel_rfl) (w16ok N) (.cons (by kernel_rfl) (w8ok N) (.cons (by kernel_rfl) (p33ok N) (.cons (by kernel_rfl) (p80ok N) (.cons (by kernel_rfl) (p84ok N) .nil)))))) .nil
def p13F0 [Alg] (N:Nat)  (self:Int->(List Bool)->O) (k0:Int->Int->(List Bool)->O) (x0_0:Int) (x0_1:Int) (x0_2:(List (Int×(Int×(Int×(Int×Int)))))) (x0_3:Int) (x0_4:Int) (x0_5:(List Bool)):O:=
 br (decide (x0_4 < x0_3))
  (gx x0_2 x0_4 fun y3=>
  ck (p80p N y3.1 y3.2.1 y3.2.2.1 y3.2.2.2.1 y3.2.2.2.2 x0_5) <|
  self (IntKind.i64.wrap (x0_4+(1:Int))) (p80y0 N y3.1 y3.2.1 y3.2.2.1 y3.2.2.2.1 y3.2.2.2.2 x0_5))
  (k0 x0_0 x0_1 x0_5)
def p13b0:Code:=atC [1,1,1,1,0,1,0,0] p13b
def p13m0:Nm:=⟨[1,2,12,33,34,35],[],[]⟩
def p13I0 (x:Int×Int×(List (Int×(Int×(Int×(Int×Int)))))×Int×Int×(List Bool)):Sg:=⟨[(1,.e (.i .i64) x.1),(2,.e (.i .i64) x.2.1),(12,.ifc 0 73),(33,.e (.sl (.pr (.i .i64) (.pr (.i .i64) (.pr (.i .i64) (.pr (.i .i64) (.i .i64)))))) x.2.2.1),(34,.e (.i .i64) x.2.2.2.1),(35,.e (.i .i64) x.2.2.2.2.1)],[(0,.arr 77 .bo x.2.2.2.2.2)],100⟩
def p13u0 (σ:Sg):Int×Int×(List (Int×(Int×(Int×(Int×Int)))))×Int×Int×(List Bool):=(lvT (.i .i64) 1 0 σ,lvT (.i .i64) 2 0 σ,lvT (.sl (.pr (.i .i64) (.pr (.i .i64) (.pr (.i .i64) (.pr (.i .i64) (.i .i64)))))) 33 0 σ,lvT (.i .i64) 34 0 σ,lvT (.i .i64) 35 0 σ,lvQ .bo 0 σ)
theorem p13ui0:∀ x,p13u0 (p13I0 x)=x:=fun _=>by kernel_rfl
def p13X0_0 (y:Int×Int×(List Bool)):Exit×Sg:=((.exit 0),⟨[(1,.e (.i .i64) y.1),(2,.e (.i .i64) y.2.1),(12,.ifc 0 73)],[(0,.arr 77 .bo y.2.2)],100⟩)
def p13v0_0 (_:Exit) (σ:Sg):Int×Int×(List Bool):=(lvT (.i .i64) 1 0 σ,lvT (.i .i64) 2 0 σ,lvQ .bo 0 σ)
def p13w0:List (Exit×Nm):=[((.exit 0),⟨[1,2,12],[],[]⟩)]
theorem p13o0:Outs p13v0_0 (fun _ _=>()) (fun _ _=>()) p13X0_0 (noX 1) (noX 2) (exC (.exit 0)) (exC (.goto 1)) (exC (.goto 2)):=⟨fun _=>by kernel_rfl,fun _=>by kernel_rfl,fun _=>by kernel_rfl,fun _=>by kernel_rfl,fun _=>by kernel_rfl,fun _=>by kernel_rfl,exNe_ok (by kernel_rfl),exNe_ok (by kernel_rfl),exNe_ok (by kernel_rfl)⟩
def p13l0 [Alg] (N:Nat):Nat->(Int×Int×(List (Int×(Int×(Int×(Int×Int)))))×Int×Int×(List Bool))->((Int×Int×(List Bool))->O)->((Unit)->O)->((Unit)->O)->O
 | 0,_,_,_,_=>none
 | n+1,x,k0,k1,k2=>p13F0 N  (fun v0 v1=>p13l0 N n (x.1,x.2.1,x.2.2.1,x.2.2.2.1,v0,v1) k0 k1 k2) (fun y0 y1 y2=>k0 (y0,y1,y2)) x.1 x.2.1 x.2.2.1 x.2.2.2.1 x.2.2.2.2.1 x.2.2.2.2.2
def p13n0 [Alg] (N:Nat) (a0:Int) (a1:Int) (a2:(List (Int×(Int×(Int×(Int×Int)))))) (a3:Int) (a4:Int) (a5:(List Bool)) (k0:Int->Int->(List Bool)->O):O:=p13l0 N N (a0,a1,a2,a3,a4,a5) (fun y=>k0 y.1 y.2.1 y.2.2) (fun _=>none) (fun _=>none)
def p13s0 [Alg] (N:Nat) (a0:Int) (a1:Int) (a2:(List (Int×(Int×(Int×(Int×Int)))))) (a3:Int) (a4:Int) (a5:(List Bool)) (k0:Int->Int->(List Bool)->O):O:=subL p13I0 p13u0 (p13l0 N N) (p13I0 (a0,a1,a2,a3,a4,a5)) (fun y=>k0 y.1 y.2.1 y.2.2) (fun _=>none) (fun _=>none)
theorem p13e0 [Alg] (N:Nat):p13s0 N=p13n0 N:=funext fun _=>funext fun _=>funext fun _=>funext fun _=>funext fun _=>funext fun _=>funext fun _=>subL_I p13ui0 _ _ _ _
def p13h0 [Alg] (_:Nat):Hint:=.d
theorem p13hk0 (N:Nat):HintOk (p13c N) Tryd.f13.ntmps (p13h0 N) p13b0:=hk_of _ _ trivial
theorem p13q0 [Alg] (N:Nat) (self:Sg->O) (K:Exit->Sg->O) (x:Int×Int×(List (Int×(Int×(Int×(Int×Int)))))×Int×Int×(List Bool)):p13F0 N  (fun v0 v1=>self (p13I0 (x.1,x.2.1,x.2.2.1,x.2.2.2.1,v0,v1))) (fun y0 y1 y2=>K (p13X0_0 (y0,y1,y2)).1 (p13X0_0 (y0,y1,y2)).2) x.1 x.2.1 x.2.2.1 x.2.2.2.1 x.2.2.2.2.1 x.2.2.2.2.2=exec (p13c N) Tryd.f13.ntmps (p13h0 N) p13b0 (p13I0 x) (roundX p13m0 p13w0 self K):=by kernel_rfl
theorem p13S0 (N:Nat) (hc:CxOk (p13c N)):SubOk (p13c N) Tryd.f13.ntmps (.loop p13b0) p13X0_0 (noX 1) (noX 2) (subL p13I0 p13u0 (p13l0 N N)):=
 sub_loop hc (p13hk0 N) p13o0 (n:=N) (fun x K=>loop_ind (p13l0 N) (fun _ _ _ _=>rfl) (fun n K ih x=>by
  have h:p13F0 N  (fun v0 v1=>p13l0 N n (x.1,x.2.1,x.2.2.1,x.2.2.2.1,v0,v1) (fun y=>K (p13X0_0 y).1 (p13X0_0 y).2) (fun y=>K ((noX 1) y).1 ((noX 1) y).2) (fun y=>K ((noX 2) y).1 ((noX 2) y).2)) (fun y0 y1 y2=>K (p13X0_0 (y0,y1,y2)).1 (p13X0_0 (y0,y1,y2)).2) x.1 x.2.1 x.2.2.1 x.2.2.2.1 x.2.2.2.2.1 x.2.2.2.2.2=p13F0 N  (fun v0 v1=>loopX (p13c N) Tryd.f13.ntmps (p13h0 N) p13b0 p13m0 p13w0 n (p13I0 (x.1,x.2.1,x.2.2.1,x.2.2.2.1,v0,v1)) K) (fun y0 y1 y2=>K (p13X0_0 (y0,y1,y2)).1 (p13X0_0 (y0,y1,y2)).2) x.1 x.2.1 x.2.2.1 x.2.2.2.1 x.2.2.2.2.1 x.2.2.2.2.2:=by rw [ show (fun v0 v1=>p13l0 N n (x.1,x.2.1,x.2.2.1,x.2.2.2.1,v0,v1) (fun y=>K (p13X0_0 y).1 (p13X0_0 y).2) (fun y=>K ((noX 1) y).1 ((noX 1) y).2) (fun y=>K ((noX 2) y).1 ((noX 2) y).2))=(fun v0 v1=>loopX (p13c N) Tryd.f13.ntmps (p13h0 N) p13b0 p13m0 p13w0 n (p13I0 (x.1,x.2.1,x.2.2.1,x.2.2.2.1,v0,v1)) K) from funext fun _=>funext fun _=>ih _]
  exact h.trans (p13q0 N (fun σ=>loopX (p13c N) Tryd.f13.ntmps (p13h0 N) p13b0 p13m0 p13w0 n σ K) K x)) N x K)
def p13G [Alg] (N:Nat) (in0:Int->Int->(List (Int×(Int×(Int×(Int×Int)))))->Int->Int->(List Bool)->(Int->Int->(List Bool)->O)->O) (way0:Int) (kind1:Int) (options2:Int) (l3:(List (Int×(Int×(Int×(Int×Int)))))):O:=
 ck true <|
 br (decide ((0:Int)=way0))
  (ck (false||w16p N kind1 options2) <|
  br (false||!w16y0 N kind1 options2)
   (some (p13r0 [] ((1:Int))))
   (ck (p33p N) <|
   in0 kind1 options2 l3 ((↑l3.length:Int)) ((0:Int)) (p33y0 N)
    (fun z4 z5 z6=>
     ck (p84p N z6) <|
     ck (!decide (p84y1 N z6=(0:Int))||w8p N z4 z5 (p84y0 N z6)) <|
     br (decide (p84y1 N z6=(0:Int))&&!w8y0 N z4 z5 (p84y0 N z6))
      (br true
       (some (p13r0 [] ((2:Int))))
       (some (p13r0 (p84y0 N z6) ((0:Int)))))
      (br (decide (p84y1 N z6≠(0:Int)))
       (some (p13r0 [] (p84y1 N z6)))
       (some (p13r0 (p84y0 N z6) ((0:Int))))))))
  (br (decide ((1:Int)=way0))
   (ck (false||w16p N kind1 options2) <|
   br (false||!w16y0 N kind1 options2)
    (some (p13r0 [] ((1:Int))))
    (none))
   (br (decide ((2:Int)=way0))
    (ck (false||w16p N kind1 options2) <|
    br (false||!w16y0 N kind1 options2)
     (some (p13r0 [] ((1:Int))))
     (none))
    (br (decide ((3:Int)=way0))
     (ck (false||w16p N kind1 options2) <|
     br (false||!w16y0 N kind1 options2)
      (some (p13r0 [] ((1:Int))))
      (none))
     (ck (true||w16p N kind1 options2) <|
     br (true||!w16y0 N kind1 options2)
      (some (p13r0 [] ((1:Int))))
      (none)))))
def p13 [Alg] (N:Nat) (way0:Int) (kind1:Int) (options2:Int) (l3:(List (Int×(Int×(Int×(Int×Int)))))):O:=p13G N (p13n0 N) way0 kind1 options2 l3
def p13h [Alg] (N:Nat):Hint:=(.seq .d (.seq .d (.seq .d (.seq .d (.seq (.seq .d (.block (.sub p13m0 _ _ _ p13X0_0 (noX 1) (noX 2) (subL p13I0 p13u0 (p13l0 N N))))) .d)))))
theorem p13hk (N:Nat) (hc:CxOk (p13c N)):HintOk (p13c N) Tryd.f13.ntmps (p13h N) p13b:=hk_of _ _ (And.intro trivial (And.intro trivial (And.intro trivial (And.intro trivial (And.intro (And.intro trivial (p13S0 N hc)) trivial)))))
theorem p13q [Alg] (N:Nat) (way0:Int) (kind1:Int) (options2:Int) (l3:(List (Int×(Int×(Int×(Int×Int)))))):p13G N (p13s0 N) way0 kind1 options2 l3=exec (p13c N) Tryd.f13.ntmps (p13h N) p13b ⟨argT 0 [.e (.i .i64) way0,.e (.i .i64) kind1,.e (.i .i64) options2,.e (.sl (.pr (.i .i64) (.pr (.i .i64) (.pr (.i .i64) (.pr (.i .i64) (.i .i64)))))) l3],[],100⟩ (finX (p13c N) Tryd.f13 false):=by kernel_rfl
theorem p13does {N:Nat} (hc:CxOk (p13c N)) {way0:Int} {kind1:Int} {options2:Int} {l3:(List (Int×(Int×(Int×(Int×Int)))))} {r:Res} (h:p13 N way0 kind1 options2 l3=some r):DoesR Tryd.prog 13 (([.e (.i .i64) way0,.e (.i .i64) kind1,.e (.i .i64) options2,.e (.sl (.pr (.i .i64) (.pr (.i .i64) (.pr (.i .i64) (.pr (.i .i64) (.i .i64)))))) l3]:List X).map X.D) (HA []) r:=
 fun_ok hc (f:=13) (fn:=Tryd.f13) (code:=p13b) (by kernel_rfl) (by kernel_rfl) (p13hk N hc) (Nat.le_of_ble_eq_true (by kernel_rfl)) (ow:=false) ((p13q N way0 kind1 options2 l3).symm.trans (by rw [p13e0 N];exact h))
def p13un (r:Res):Option (YF3×Int):=match r with
 | (.tup [x0,x1],[])=>(match ue .tx x0,ue (.i .i64) x1 with | some a0,some a1=>some (a0,a1) | _,_=>none)
 | _=>none
theorem p13uo {r:Res} {d:YF3×Int} (h:p13un r=some d):r=p13r0 (d.1) (d.2):=by
 unfold p13un at h;split at h
 ·split at h
  ·rename_i h0 h1;cases h;rw [ue_some h0,ue_some h1];rfl
  ·cases h
 ·cases h
def p13z (N:Nat) (way0:Int) (kind1:Int) (options2:Int) (l3:(List (Int×(Int×(Int×(Int×Int)))))):Option (YF3×Int):=(p13 N way0 kind1 options2 l3).bind p13un
theorem p13fin {N:Nat} (hc:CxOk (p13c N)) {way0:Int} {kind1:Int} {options2:Int} {l3:(List (Int×(Int×(Int×(Int×Int)))))} {d:YF3×Int} (hd:p13z N way0 kind1 options2 l3=some d):Does Tryd.prog 13 (([.e (.i .i64) way0,.e (.i .i64) kind1,.e (.i .i64) options2,.e (.sl (.pr (.i .i64) (.pr (.i .i64) (.pr (.i .i64) (.pr (.i .i64) (.i .i64)))))) l3]:List X).map X.D) (HA []) (p13r0 (d.1) (d.2)).1.D (HA (p13r0 (d.1) (d.2)).2):=by
 obtain ⟨r,hr,hu⟩:=Option.bind_eq_some_iff.1 hd;have:=p13does hc hr;rw [p13uo hu] at this;exact this
end
end Go.Proofs
/- Normal: its contract, out of its four tellings. -/
namespace Go.Proofs
open Go Go.Ax Go.Ax.Alg Go.RowKit Go.Ab
abbrev Ev:Type:=Int×Int×Int×Int×Int
noncomputable def l13z (N:Nat) (w k n:Int) (l:List Ev):Option (List UInt8×Int):=(c13z N w k n l).or ((o13z N w k n l).or ((k13z N w k n l).or (p13z N w k n l)))
noncomputable def l13p (N:Nat) (w k n:Int) (l:List Ev):Bool:=(l13z N w k n l).isSome
noncomputable def l13y0 (N:Nat) (w k n:Int) (l:List Ev):List UInt8:=((l13z N w k n l).getD ([],0)).1
noncomputable def l13y1 (N:Nat) (w k n:Int) (l:List Ev):Int:=((l13z N w k n l).getD ([],0)).2
noncomputable def l13e (N:Nat):Ent':=E4 (.i .i64) (.i .i64) (.i .i64) (.sl (.pr (.i .i64) (.pr (.i .i64) (.pr (.i .i64) (.pr (.i .i64) (.i .i64)))))) fun w k n l=>(l13p N w k n l,(.tup [.e .tx (l13y0 N w k n l),.e (.i .i64) (l13y1 N w k n l)],[]))
theorem l13ok (N:Nat):EOk Tryd.prog 13 (l13e N):=EOk.e4 fun w k n l h=>by
 have h:(l13z N w k n l).isSome=true:=h;obtain ⟨d,hd⟩:=Option.isSome_iff_exists.1 h;show Does Tryd.prog 13 _ _ (X.D (.tup [.e .tx (l13y0 N w k n l),.e (.i .i64) (l13y1 N w k n l)])) (HA []);unfold l13y0 l13y1;rw [hd];unfold l13z at hd;rcases Option.or_eq_some_iff.1 hd with h1 | ⟨_,h1⟩
 ·exact c13fin (c13cx N) h1
 rcases Option.or_eq_some_iff.1 h1 with h1 | ⟨_,h1⟩
 ·exact o13fin (o13cx N) h1
 rcases Option.or_eq_some_iff.1 h1 with h1 | ⟨_,h1⟩
 ·exact k13fin (k13cx N) h1
 ·exact p13fin (p13cx N) h1
end Go.Proofs
