/- The reference reader. Conditions are in the theorems. -/
import Derived.Test.YtlhdefefoaldfaaDoorE7
import Derived.Test.YtlhdefefoaldfaaDoorProg
import Derived.KernelRfl
import Derived.Test.YtlhdefefoaldfaaDoorF0
import Derived.Test.YtlhdefefoaldfaaDoorF3
/- What functions do. -/
namespace Go.Proofs
noncomputable section
open Go.Ax Go.Ax.Alg Go.RowKit Go.Ab
open Go
def w63r0 (a0:(List UInt8)) (a1:Int) (a2:Bool):Res:=(.tup [],[(50,.box 84 [.e .tx a0,.e (.i .i64) a1,.e .bo a2])])
noncomputable def w63L (_:Nat):List (Nat×Ent'):=[]
noncomputable def w63c (N:Nat):Cx:=⟨Tryd.prog,25,w63L N,[]⟩
noncomputable def w63b:Code:=Tryd.f63.body.getD .skip
theorem w63cx (N:Nat):CxOk (w63c N):=ctx_ok (by kernel_rfl) .nil .nil
def w63F0 [Alg] (_:Nat)  (self:Int→O) (k0:(List UInt8)→Int→Bool→O) (x0_0:(List UInt8)) (x0_2:Bool) (x0_1:Int):O:=
 gc (decide (x0_1 < (↑x0_0.length:Int))) ((0:UInt8)) x0_0 x0_1 fun y3=>
 br (decide (x0_1 < (↑x0_0.length:Int))&&decide (y3=(32:UInt8)))
  (self (IntKind.i64.wrap (x0_1+(1:Int))))
  (k0 x0_0 x0_1 x0_2)
noncomputable def w63b0:Code:=atC [0,0] w63b
def w63m0:Nm:=⟨[0],[],[]⟩
def w63I0 (x:(List UInt8)×Int×Bool):Sg:=⟨[(0,.ref 50 0)],[(50,.box 84 [.e .tx x.1,.e (.i .i64) x.2.1,.e .bo x.2.2])],100⟩
def w63u0 (σ:Sg):(List UInt8)×Int×Bool:=(lvH .tx 50 0 σ,lvH (.i .i64) 50 1 σ,lvH .bo 50 2 σ)
theorem w63ui0:∀ x,w63u0 (w63I0 x)=x:=fun _=>by kernel_rfl
def w63X0_0 (y:(List UInt8)×Int×Bool):Exit×Sg:=((.exit 0),⟨[],[(50,.box 84 [.e .tx y.1,.e (.i .i64) y.2.1,.e .bo y.2.2])],100⟩)
def w63v0_0 (_:Exit) (σ:Sg):(List UInt8)×Int×Bool:=(lvH .tx 50 0 σ,lvH (.i .i64) 50 1 σ,lvH .bo 50 2 σ)
def w63w0:List (Exit×Nm):=[((.exit 0),⟨[],[],[]⟩)]
theorem w63o0:Outs w63v0_0 (fun _ _=>()) (fun _ _=>()) w63X0_0 (noX 1) (noX 2) (exC (.exit 0)) (exC (.goto 1)) (exC (.goto 2)):=⟨fun _=>by kernel_rfl,fun _=>by kernel_rfl,fun _=>by kernel_rfl,fun _=>by kernel_rfl,fun _=>by kernel_rfl,fun _=>by kernel_rfl,exNe_ok (by kernel_rfl),exNe_ok (by kernel_rfl),exNe_ok (by kernel_rfl)⟩
def w63l0 [Alg] (N:Nat):Nat→((List UInt8)×Int×Bool)→(((List UInt8)×Int×Bool)→O)→((Unit)→O)→((Unit)→O)→O
 | 0,_,_,_,_=>none
 | n+1,x,k0,k1,k2=>w63F0 N  (fun v0=>w63l0 N n (x.1,v0,x.2.2) k0 k1 k2) (fun y0 y1 y2=>k0 (y0,y1,y2)) x.1 x.2.2 x.2.1
def w63n0 [Alg] (N:Nat) (a0:(List UInt8)) (a1:Int) (a2:Bool) (k0:(List UInt8)→Int→Bool→O):O:=w63l0 N N (a0,a1,a2) (fun y=>k0 y.1 y.2.1 y.2.2) (fun _=>none) (fun _=>none)
noncomputable def w63s0 [Alg] (N:Nat) (a0:(List UInt8)) (a1:Int) (a2:Bool) (k0:(List UInt8)→Int→Bool→O):O:=subL w63I0 w63u0 (w63l0 N N) (w63I0 (a0,a1,a2)) (fun y=>k0 y.1 y.2.1 y.2.2) (fun _=>none) (fun _=>none)
theorem w63e0 [Alg] (N:Nat):w63s0 N=w63n0 N:=funext fun _=>funext fun _=>funext fun _=>funext fun _=>subL_I w63ui0 _ _ _ _
noncomputable def w63h0 [Alg] (_:Nat):Hint:=.d
theorem w63hk0 (N:Nat):HintOk (w63c N) Tryd.f63.ntmps (w63h0 N) w63b0:=hk_of _ _ trivial
theorem w63q0 [Alg] (N:Nat) (self:Sg→O) (K:Exit→Sg→O) (x:(List UInt8)×Int×Bool):w63F0 N  (fun v0=>self (w63I0 (x.1,v0,x.2.2))) (fun y0 y1 y2=>K (w63X0_0 (y0,y1,y2)).1 (w63X0_0 (y0,y1,y2)).2) x.1 x.2.2 x.2.1=exec (w63c N) Tryd.f63.ntmps (w63h0 N) w63b0 (w63I0 x) (roundX w63m0 w63w0 self K):=by kernel_rfl
theorem w63S0 (N:Nat) (hc:CxOk (w63c N)):SubOk (w63c N) Tryd.f63.ntmps (.loop w63b0) w63X0_0 (noX 1) (noX 2) (subL w63I0 w63u0 (w63l0 N N)):=
 sub_loop hc (w63hk0 N) w63o0 (n:=N) (fun x K=>loop_ind (w63l0 N) (fun _ _ _ _=>rfl) (fun n K ih x=>by
  have h:w63F0 N  (fun v0=>w63l0 N n (x.1,v0,x.2.2) (fun y=>K (w63X0_0 y).1 (w63X0_0 y).2) (fun y=>K ((noX 1) y).1 ((noX 1) y).2) (fun y=>K ((noX 2) y).1 ((noX 2) y).2)) (fun y0 y1 y2=>K (w63X0_0 (y0,y1,y2)).1 (w63X0_0 (y0,y1,y2)).2) x.1 x.2.2 x.2.1=w63F0 N  (fun v0=>loopX (w63c N) Tryd.f63.ntmps (w63h0 N) w63b0 w63m0 w63w0 n (w63I0 (x.1,v0,x.2.2)) K) (fun y0 y1 y2=>K (w63X0_0 (y0,y1,y2)).1 (w63X0_0 (y0,y1,y2)).2) x.1 x.2.2 x.2.1:=by rw [ show (fun v0=>w63l0 N n (x.1,v0,x.2.2) (fun y=>K (w63X0_0 y).1 (w63X0_0 y).2) (fun y=>K ((noX 1) y).1 ((noX 1) y).2) (fun y=>K ((noX 2) y).1 ((noX 2) y).2))=(fun v0=>loopX (w63c N) Tryd.f63.ntmps (w63h0 N) w63b0 w63m0 w63w0 n (w63I0 (x.1,v0,x.2.2)) K) from funext fun _=>ih _]
  exact h.trans (w63q0 N (fun σ=>loopX (w63c N) Tryd.f63.ntmps (w63h0 N) w63b0 w63m0 w63w0 n σ K) K x)) N x K)
def w63G [Alg] (_:Nat) (in0:(List UInt8)→Int→Bool→((List UInt8)→Int→Bool→O)→O) (g0:(List UInt8)) (g1:Int) (g2:Bool):O:=
 in0 g0 g1 g2
  (fun z4 z5 z6=>
   some (w63r0 z4 z5 z6))
def w63 [Alg] (N:Nat) (g0:(List UInt8)) (g1:Int) (g2:Bool):O:=w63G N (w63n0 N) g0 g1 g2
noncomputable def w63h [Alg] (N:Nat):Hint:=(.block (.sub w63m0 _ _ _ w63X0_0 (noX 1) (noX 2) (subL w63I0 w63u0 (w63l0 N N))))
theorem w63hk (N:Nat) (hc:CxOk (w63c N)):HintOk (w63c N) Tryd.f63.ntmps (w63h N) w63b:=hk_of _ _ (w63S0 N hc)
theorem w63q [Alg] (N:Nat) (g0:(List UInt8)) (g1:Int) (g2:Bool):w63G N (w63s0 N) g0 g1 g2=exec (w63c N) Tryd.f63.ntmps (w63h N) w63b ⟨argT 0 [.ref 50 0],[(50,.box 84 [.e .tx g0,.e (.i .i64) g1,.e .bo g2])],100⟩ (finX (w63c N) Tryd.f63 false):=by kernel_rfl
theorem w63does {N:Nat} (hc:CxOk (w63c N)) {g0:(List UInt8)} {g1:Int} {g2:Bool} {r:Res} (h:w63 N g0 g1 g2=some r):DoesR Tryd.prog 63 (([.ref 50 0]:List X).map X.D) (HA [(50,.box 84 [.e .tx g0,.e (.i .i64) g1,.e .bo g2])]) r:=
 fun_ok hc (f:=63) (fn:=Tryd.f63) (code:=w63b) (by kernel_rfl) (by kernel_rfl) (w63hk N hc) (Nat.le_of_ble_eq_true (by kernel_rfl)) (ow:=false) ((w63q N g0 g1 g2).symm.trans (by rw [w63e0 N];exact h))
def w63un (r:Res):Option ((List UInt8)×Int×Bool):=match r with
 | (.tup [],[(50,.box 84 [x0,x1,x2])])=>(match ue .tx x0,ue (.i .i64) x1,ue .bo x2 with | some a0,some a1,some a2=>some (a0,a1,a2) | _,_,_=>none)
 | _=>none
theorem w63uo {r:Res} {d:(List UInt8)×Int×Bool} (h:w63un r=some d):r=w63r0 (d.1) (d.2.1) (d.2.2):=by
 unfold w63un at h
 split at h
 ·split at h
  ·rename_i h0 h1 h2;cases h;rw [ue_some h0,ue_some h1,ue_some h2];rfl
  ·cases h
 ·cases h
def w63z (N:Nat) (g0:(List UInt8)) (g1:Int) (g2:Bool):Option ((List UInt8)×Int×Bool):=(w63 N g0 g1 g2).bind w63un
theorem w63fin {N:Nat} (hc:CxOk (w63c N)) {g0:(List UInt8)} {g1:Int} {g2:Bool} {d:(List UInt8)×Int×Bool} (hd:w63z N g0 g1 g2=some d):Does Tryd.prog 63 (([.ref 50 0]:List X).map X.D) (HA [(50,.box 84 [.e .tx g0,.e (.i .i64) g1,.e .bo g2])]) (w63r0 (d.1) (d.2.1) (d.2.2)).1.D (HA (w63r0 (d.1) (d.2.1) (d.2.2)).2):=by
 obtain ⟨r,hr,hu⟩:=Option.bind_eq_some_iff.1 hd
 have:=w63does hc hr
 rw [w63uo hu] at this
 exact this
def w63p (N:Nat) (g0:(List UInt8)) (g1:Int) (g2:Bool):Bool:=(w63z N g0 g1 g2).isSome
def w63y0 (N:Nat) (g0:(List UInt8)) (g1:Int) (g2:Bool):(List UInt8):=((w63z N g0 g1 g2).getD ([],0,false)).1
def w63y1 (N:Nat) (g0:(List UInt8)) (g1:Int) (g2:Bool):Int:=((w63z N g0 g1 g2).getD ([],0,false)).2.1
def w63y2 (N:Nat) (g0:(List UInt8)) (g1:Int) (g2:Bool):Bool:=((w63z N g0 g1 g2).getD ([],0,false)).2.2
def w63in (xs:List X) (H:XH):Option ((List UInt8)×Int×Bool):=match xs,H with
 | [.ref 50 0],[(50,.box 84 [x0,x1,x2])]=>(match ue .tx x0,ue (.i .i64) x1,ue .bo x2 with | some a0,some a1,some a2=>some (a0,a1,a2) | _,_,_=>none)
 | _,_=>none
theorem w63io {xs:List X} {H:XH} {d:(List UInt8)×Int×Bool} (h:w63in xs H=some d):xs=[.ref 50 0]∧H=[(50,.box 84 [.e .tx (d.1),.e (.i .i64) (d.2.1),.e .bo (d.2.2)])]:=by
 unfold w63in at h
 split at h
 ·split at h
  ·rename_i h0 h1 h2;cases h;rw [ue_some h0,ue_some h1,ue_some h2];exact ⟨rfl,rfl⟩
  ·cases h
 ·cases h
def w63e (N:Nat):Ent':=fun xs H=>match w63in xs H with | some d=>some (w63p N (d.1) (d.2.1) (d.2.2),w63r0 (w63y0 N (d.1) (d.2.1) (d.2.2)) (w63y1 N (d.1) (d.2.1) (d.2.2)) (w63y2 N (d.1) (d.2.1) (d.2.2))) | none=>none
theorem w63re {N:Nat} {g0:(List UInt8)} {g1:Int} {g2:Bool} {d:(List UInt8)×Int×Bool} (hd:w63z N g0 g1 g2=some d):w63r0 (w63y0 N g0 g1 g2) (w63y1 N g0 g1 g2) (w63y2 N g0 g1 g2)=w63r0 (d.1) (d.2.1) (d.2.2):=by unfold w63y0 w63y1 w63y2;rw [hd];rfl
theorem w63ok (N:Nat):EOk Tryd.prog 63 (w63e N):=fun xs H pre r he hp=>by
 unfold w63e at he
 split at he
 ·rename_i d hd
  have he:=Option.some.inj he
  have h1:=congrArg Prod.fst he
  have h2:=congrArg Prod.snd he
  simp only at h1 h2
  obtain ⟨e1,e2⟩:=w63io hd
  rw [e1,e2,← h2]
  have h:(w63z N (d.1) (d.2.1) (d.2.2)).isSome=true:=h1.trans hp
  obtain ⟨d',hd'⟩:=Option.isSome_iff_exists.1 h
  have f:=w63fin (w63cx N) hd'
  rw [← w63re hd'] at f
  exact f
 ·cases he
def w91r0 (a0:UInt8) (a1:(List UInt8)) (a2:Int) (a3:Bool):Res:=(.e .u8 a0,[(50,.box 84 [.e .tx a1,.e (.i .i64) a2,.e .bo a3])])
noncomputable def w91L (N:Nat):List (Nat×Ent'):=[(63,w63e N)]
noncomputable def w91c (N:Nat):Cx:=⟨Tryd.prog,25,w91L N,[]⟩
noncomputable def w91b:Code:=Tryd.f91.body.getD .skip
theorem w91cx (N:Nat):CxOk (w91c N):=ctx_ok (by kernel_rfl) (.cons (by kernel_rfl) (w63ok N) .nil) .nil
def w91G [Alg] (N:Nat)  (g0:(List UInt8)) (g1:Int) (g2:Bool):O:=
 ck (w63p N g0 g1 g2) <|
 br (decide ((↑(w63y0 N g0 g1 g2).length:Int)≤w63y1 N g0 g1 g2))
  (some (w91r0 ((0:UInt8)) (w63y0 N g0 g1 g2) (w63y1 N g0 g1 g2) (w63y2 N g0 g1 g2)))
  (gx (w63y0 N g0 g1 g2) (w63y1 N g0 g1 g2) fun y0=>
  some (w91r0 y0 (w63y0 N g0 g1 g2) (w63y1 N g0 g1 g2) (w63y2 N g0 g1 g2)))
def w91 [Alg] (N:Nat) (g0:(List UInt8)) (g1:Int) (g2:Bool):O:=w91G N  g0 g1 g2
noncomputable def w91h [Alg] (_:Nat):Hint:=.d
theorem w91hk (N:Nat):HintOk (w91c N) Tryd.f91.ntmps (w91h N) w91b:=hk_of _ _ trivial
theorem w91q [Alg] (N:Nat) (g0:(List UInt8)) (g1:Int) (g2:Bool):w91G N  g0 g1 g2=exec (w91c N) Tryd.f91.ntmps (w91h N) w91b ⟨argT 0 [.ref 50 0],[(50,.box 84 [.e .tx g0,.e (.i .i64) g1,.e .bo g2])],100⟩ (finX (w91c N) Tryd.f91 false):=by kernel_rfl
theorem w91does {N:Nat} (hc:CxOk (w91c N)) {g0:(List UInt8)} {g1:Int} {g2:Bool} {r:Res} (h:w91 N g0 g1 g2=some r):DoesR Tryd.prog 91 (([.ref 50 0]:List X).map X.D) (HA [(50,.box 84 [.e .tx g0,.e (.i .i64) g1,.e .bo g2])]) r:=
 fun_ok hc (f:=91) (fn:=Tryd.f91) (code:=w91b) (by kernel_rfl) (by kernel_rfl) (w91hk N) (Nat.le_of_ble_eq_true (by kernel_rfl)) (ow:=false) ((w91q N g0 g1 g2).symm.trans (by exact h))
def w91un (r:Res):Option (UInt8×(List UInt8)×Int×Bool):=match r with
 | (x0,[(50,.box 84 [x1,x2,x3])])=>(match ue .u8 x0,ue .tx x1,ue (.i .i64) x2,ue .bo x3 with | some a0,some a1,some a2,some a3=>some (a0,a1,a2,a3) | _,_,_,_=>none)
 | _=>none
theorem w91uo {r:Res} {d:UInt8×(List UInt8)×Int×Bool} (h:w91un r=some d):r=w91r0 (d.1) (d.2.1) (d.2.2.1) (d.2.2.2):=by
 unfold w91un at h
 split at h
 ·split at h
  ·rename_i h0 h1 h2 h3;cases h;rw [ue_some h0,ue_some h1,ue_some h2,ue_some h3];rfl
  ·cases h
 ·cases h
def w91z (N:Nat) (g0:(List UInt8)) (g1:Int) (g2:Bool):Option (UInt8×(List UInt8)×Int×Bool):=(w91 N g0 g1 g2).bind w91un
theorem w91fin {N:Nat} (hc:CxOk (w91c N)) {g0:(List UInt8)} {g1:Int} {g2:Bool} {d:UInt8×(List UInt8)×Int×Bool} (hd:w91z N g0 g1 g2=some d):Does Tryd.prog 91 (([.ref 50 0]:List X).map X.D) (HA [(50,.box 84 [.e .tx g0,.e (.i .i64) g1,.e .bo g2])]) (w91r0 (d.1) (d.2.1) (d.2.2.1) (d.2.2.2)).1.D (HA (w91r0 (d.1) (d.2.1) (d.2.2.1) (d.2.2.2)).2):=by
 obtain ⟨r,hr,hu⟩:=Option.bind_eq_some_iff.1 hd
 have:=w91does hc hr
 rw [w91uo hu] at this
 exact this
def w91p (N:Nat) (g0:(List UInt8)) (g1:Int) (g2:Bool):Bool:=(w91z N g0 g1 g2).isSome
def w91y0 (N:Nat) (g0:(List UInt8)) (g1:Int) (g2:Bool):UInt8:=((w91z N g0 g1 g2).getD (0,[],0,false)).1
def w91y1 (N:Nat) (g0:(List UInt8)) (g1:Int) (g2:Bool):(List UInt8):=((w91z N g0 g1 g2).getD (0,[],0,false)).2.1
def w91y2 (N:Nat) (g0:(List UInt8)) (g1:Int) (g2:Bool):Int:=((w91z N g0 g1 g2).getD (0,[],0,false)).2.2.1
def w91y3 (N:Nat) (g0:(List UInt8)) (g1:Int) (g2:Bool):Bool:=((w91z N g0 g1 g2).getD (0,[],0,false)).2.2.2
def w91in (xs:List X) (H:XH):Option ((List UInt8)×Int×Bool):=match xs,H with
 | [.ref 50 0],[(50,.box 84 [x0,x1,x2])]=>(match ue .tx x0,ue (.i .i64) x1,ue .bo x2 with | some a0,some a1,some a2=>some (a0,a1,a2) | _,_,_=>none)
 | _,_=>none
theorem w91io {xs:List X} {H:XH} {d:(List UInt8)×Int×Bool} (h:w91in xs H=some d):xs=[.ref 50 0]∧H=[(50,.box 84 [.e .tx (d.1),.e (.i .i64) (d.2.1),.e .bo (d.2.2)])]:=by
 unfold w91in at h
 split at h
 ·split at h
  ·rename_i h0 h1 h2;cases h;rw [ue_some h0,ue_some h1,ue_some h2];exact ⟨rfl,rfl⟩
  ·cases h
 ·cases h
def w91e (N:Nat):Ent':=fun xs H=>match w91in xs H with | some d=>some (w91p N (d.1) (d.2.1) (d.2.2),w91r0 (w91y0 N (d.1) (d.2.1) (d.2.2)) (w91y1 N (d.1) (d.2.1) (d.2.2)) (w91y2 N (d.1) (d.2.1) (d.2.2)) (w91y3 N (d.1) (d.2.1) (d.2.2))) | none=>none
theorem w91re {N:Nat} {g0:(List UInt8)} {g1:Int} {g2:Bool} {d:UInt8×(List UInt8)×Int×Bool} (hd:w91z N g0 g1 g2=some d):w91r0 (w91y0 N g0 g1 g2) (w91y1 N g0 g1 g2) (w91y2 N g0 g1 g2) (w91y3 N g0 g1 g2)=w91r0 (d.1) (d.2.1) (d.2.2.1) (d.2.2.2):=by unfold w91y0 w91y1 w91y2 w91y3;rw [hd];rfl
theorem w91ok (N:Nat):EOk Tryd.prog 91 (w91e N):=fun xs H pre r he hp=>by
 unfold w91e at he
 split at he
 ·rename_i d hd
  have he:=Option.some.inj he
  have h1:=congrArg Prod.fst he
  have h2:=congrArg Prod.snd he
  simp only at h1 h2
  obtain ⟨e1,e2⟩:=w91io hd
  rw [e1,e2,← h2]
  have h:(w91z N (d.1) (d.2.1) (d.2.2)).isSome=true:=h1.trans hp
  obtain ⟨d',hd'⟩:=Option.isSome_iff_exists.1 h
  have f:=w91fin (w91cx N) hd'
  rw [← w91re hd'] at f
  exact f
 ·cases he
def w62r0 (a0:Bool) (a1:(List UInt8)) (a2:Int) (a3:Bool):Res:=(.e .bo a0,[(50,.box 84 [.e .tx a1,.e (.i .i64) a2,.e .bo a3])])
noncomputable def w62L (N:Nat):List (Nat×Ent'):=[(91,w91e N)]
noncomputable def w62c (N:Nat):Cx:=⟨Tryd.prog,25,w62L N,[]⟩
noncomputable def w62b:Code:=Tryd.f62.body.getD .skip
theorem w62cx (N:Nat):CxOk (w62c N):=ctx_ok (by kernel_rfl) (.cons (by kernel_rfl) (w91ok N) .nil) .nil
def w62G [Alg] (N:Nat)  (c1:UInt8) (g0:(List UInt8)) (g1:Int) (g2:Bool):O:=
 br g2
  (br (true||decide ((↑g0.length:Int)≤g1))
   (some (w62r0 false g0 g1 g2))
   (some (w62r0 true g0 (IntKind.i64.wrap (g1+(1:Int))) g2)))
  (ck (w91p N g0 g1 g2) <|
  br (decide (w91y0 N g0 g1 g2≠c1)||decide ((↑(w91y1 N g0 g1 g2).length:Int)≤w91y2 N g0 g1 g2))
   (some (w62r0 false (w91y1 N g0 g1 g2) (w91y2 N g0 g1 g2) (w91y3 N g0 g1 g2)))
   (some (w62r0 true (w91y1 N g0 g1 g2) (IntKind.i64.wrap (w91y2 N g0 g1 g2+(1:Int))) (w91y3 N g0 g1 g2))))
def w62 [Alg] (N:Nat) (c1:UInt8) (g0:(List UInt8)) (g1:Int) (g2:Bool):O:=w62G N  c1 g0 g1 g2
noncomputable def w62h [Alg] (_:Nat):Hint:=(.seq .d (.seq (.seq (.reg [1005] [] [[],[],[],[],[],[],[50],[],[],[],[],[],[],[],[],[],[],[],[],[],[],[]]) .d) .d))
theorem w62hk (N:Nat):HintOk (w62c N) Tryd.f62.ntmps (w62h N) w62b:=hk_of _ _ (And.intro trivial (And.intro (And.intro trivial trivial) trivial))
theorem w62q [Alg] (N:Nat) (c1:UInt8) (g0:(List UInt8)) (g1:Int) (g2:Bool):w62G N  c1 g0 g1 g2=exec (w62c N) Tryd.f62.ntmps (w62h N) w62b ⟨argT 0 [.ref 50 0,.e .u8 c1],[(50,.box 84 [.e .tx g0,.e (.i .i64) g1,.e .bo g2])],100⟩ (finX (w62c N) Tryd.f62 false):=by kernel_rfl
theorem w62does {N:Nat} (hc:CxOk (w62c N)) {c1:UInt8} {g0:(List UInt8)} {g1:Int} {g2:Bool} {r:Res} (h:w62 N c1 g0 g1 g2=some r):DoesR Tryd.prog 62 (([.ref 50 0,.e .u8 c1]:List X).map X.D) (HA [(50,.box 84 [.e .tx g0,.e (.i .i64) g1,.e .bo g2])]) r:=
 fun_ok hc (f:=62) (fn:=Tryd.f62) (code:=w62b) (by kernel_rfl) (by kernel_rfl) (w62hk N) (Nat.le_of_ble_eq_true (by kernel_rfl)) (ow:=false) ((w62q N c1 g0 g1 g2).symm.trans (by exact h))
def w62un (r:Res):Option (Bool×(List UInt8)×Int×Bool):=match r with
 | (x0,[(50,.box 84 [x1,x2,x3])])=>(match ue .bo x0,ue .tx x1,ue (.i .i64) x2,ue .bo x3 with | some a0,some a1,some a2,some a3=>some (a0,a1,a2,a3) | _,_,_,_=>none)
 | _=>none
theorem w62uo {r:Res} {d:Bool×(List UInt8)×Int×Bool} (h:w62un r=some d):r=w62r0 (d.1) (d.2.1) (d.2.2.1) (d.2.2.2):=by
 unfold w62un at h
 split at h
 ·split at h
  ·rename_i h0 h1 h2 h3;cases h;rw [ue_some h0,ue_some h1,ue_some h2,ue_some h3];rfl
  ·cases h
 ·cases h
def w62z (N:Nat) (c1:UInt8) (g0:(List UInt8)) (g1:Int) (g2:Bool):Option (Bool×(List UInt8)×Int×Bool):=(w62 N c1 g0 g1 g2).bind w62un
theorem w62fin {N:Nat} (hc:CxOk (w62c N)) {c1:UInt8} {g0:(List UInt8)} {g1:Int} {g2:Bool} {d:Bool×(List UInt8)×Int×Bool} (hd:w62z N c1 g0 g1 g2=some d):Does Tryd.prog 62 (([.ref 50 0,.e .u8 c1]:List X).map X.D) (HA [(50,.box 84 [.e .tx g0,.e (.i .i64) g1,.e .bo g2])]) (w62r0 (d.1) (d.2.1) (d.2.2.1) (d.2.2.2)).1.D (HA (w62r0 (d.1) (d.2.1) (d.2.2.1) (d.2.2.2)).2):=by
 obtain ⟨r,hr,hu⟩:=Option.bind_eq_some_iff.1 hd
 have:=w62does hc hr
 rw [w62uo hu] at this
 exact this
def w62p (N:Nat) (c1:UInt8) (g0:(List UInt8)) (g1:Int) (g2:Bool):Bool:=(w62z N c1 g0 g1 g2).isSome
def w62y0 (N:Nat) (c1:UInt8) (g0:(List UInt8)) (g1:Int) (g2:Bool):Bool:=((w62z N c1 g0 g1 g2).getD (false,[],0,false)).1
def w62y1 (N:Nat) (c1:UInt8) (g0:(List UInt8)) (g1:Int) (g2:Bool):(List UInt8):=((w62z N c1 g0 g1 g2).getD (false,[],0,false)).2.1
def w62y2 (N:Nat) (c1:UInt8) (g0:(List UInt8)) (g1:Int) (g2:Bool):Int:=((w62z N c1 g0 g1 g2).getD (false,[],0,false)).2.2.1
def w62y3 (N:Nat) (c1:UInt8) (g0:(List UInt8)) (g1:Int) (g2:Bool):Bool:=((w62z N c1 g0 g1 g2).getD (false,[],0,false)).2.2.2
def w62in (xs:List X) (H:XH):Option (UInt8×(List UInt8)×Int×Bool):=match xs,H with
 | [.ref 50 0,x0],[(50,.box 84 [x1,x2,x3])]=>(match ue .u8 x0,ue .tx x1,ue (.i .i64) x2,ue .bo x3 with | some a0,some a1,some a2,some a3=>some (a0,a1,a2,a3) | _,_,_,_=>none)
 | _,_=>none
theorem w62io {xs:List X} {H:XH} {d:UInt8×(List UInt8)×Int×Bool} (h:w62in xs H=some d):xs=[.ref 50 0,.e .u8 (d.1)]∧H=[(50,.box 84 [.e .tx (d.2.1),.e (.i .i64) (d.2.2.1),.e .bo (d.2.2.2)])]:=by
 unfold w62in at h
 split at h
 ·split at h
  ·rename_i h0 h1 h2 h3;cases h;rw [ue_some h0,ue_some h1,ue_some h2,ue_some h3];exact ⟨rfl,rfl⟩
  ·cases h
 ·cases h
def w62e (N:Nat):Ent':=fun xs H=>match w62in xs H with | some d=>some (w62p N (d.1) (d.2.1) (d.2.2.1) (d.2.2.2),w62r0 (w62y0 N (d.1) (d.2.1) (d.2.2.1) (d.2.2.2)) (w62y1 N (d.1) (d.2.1) (d.2.2.1) (d.2.2.2)) (w62y2 N (d.1) (d.2.1) (d.2.2.1) (d.2.2.2)) (w62y3 N (d.1) (d.2.1) (d.2.2.1) (d.2.2.2))) | none=>none
theorem w62re {N:Nat} {c1:UInt8} {g0:(List UInt8)} {g1:Int} {g2:Bool} {d:Bool×(List UInt8)×Int×Bool} (hd:w62z N c1 g0 g1 g2=some d):w62r0 (w62y0 N c1 g0 g1 g2) (w62y1 N c1 g0 g1 g2) (w62y2 N c1 g0 g1 g2) (w62y3 N c1 g0 g1 g2)=w62r0 (d.1) (d.2.1) (d.2.2.1) (d.2.2.2):=by unfold w62y0 w62y1 w62y2 w62y3;rw [hd];rfl
theorem w62ok (N:Nat):EOk Tryd.prog 62 (w62e N):=fun xs H pre r he hp=>by
 unfold w62e at he
 split at he
 ·rename_i d hd
  have he:=Option.some.inj he
  have h1:=congrArg Prod.fst he
  have h2:=congrArg Prod.snd he
  simp only at h1 h2
  obtain ⟨e1,e2⟩:=w62io hd
  rw [e1,e2,← h2]
  have h:(w62z N (d.1) (d.2.1) (d.2.2.1) (d.2.2.2)).isSome=true:=h1.trans hp
  obtain ⟨d',hd'⟩:=Option.isSome_iff_exists.1 h
  have f:=w62fin (w62cx N) hd'
  rw [← w62re hd'] at f
  exact f
 ·cases he
def w127r0 (a0 a1:Int) (a2:(List Ex)) (a3:(List UInt8)) (a4:Int) (a5:Bool):Res:=(.agg [.e (.i .i64) a0,.e (.i .i64) a1,.e (.sl .ex) a2],[(50,.box 84 [.e .tx a3,.e (.i .i64) a4,.e .bo a5])])
noncomputable def w127L (_:Nat):List (Nat×Ent'):=[]
noncomputable def w127c (N:Nat):Cx:=⟨Tryd.prog,25,w127L N,[]⟩
noncomputable def w127b:Code:=Tryd.f127.body.getD .skip
theorem w127cx (N:Nat):CxOk (w127c N):=ctx_ok (by kernel_rfl) .nil .nil
def w127F0 [Alg] (_:Nat)  (self:Int→Int→O) (k0:Int→Int→Int→Int→(List UInt8)→Int→Bool→Int→Int→O) (x0_0 x0_1:Int) (x0_4:(List UInt8)) (x0_5:Int) (x0_6:Bool) (x0_7 x0_8 x0_2 x0_3:Int):O:=
 gc (decide (x0_3 < (↑x0_4.length:Int))) ((0:UInt8)) x0_4 x0_3 fun y7=>
 gc (decide (x0_3 < (↑x0_4.length:Int))&&decide ((48:UInt8)≤y7)) ((0:UInt8)) x0_4 x0_3 fun y8=>
 br (decide (x0_3 < (↑x0_4.length:Int))&&decide ((48:UInt8)≤y7)&&decide (y8≤(57:UInt8)))
  (br (decide (IntKind.i64.wrap (x0_3 - x0_1) < (7:Int)))
   (gx x0_4 x0_3 fun y9=>
   self (IntKind.i64.wrap (IntKind.i64.wrap ((10:Int) * x0_2)+IntKind.i64.wrap (↑(y9 - (48:UInt8)).toNat:Int))) (IntKind.i64.wrap (x0_3+(1:Int))))
   (self x0_2 (IntKind.i64.wrap (x0_3+(1:Int)))))
  (k0 x0_0 x0_1 x0_2 x0_3 x0_4 x0_5 x0_6 x0_7 x0_8)
noncomputable def w127b0:Code:=atC [1,1,1,1,0,0,0] w127b
def w127m0:Nm:=⟨[0,2,7,9,3,4,5],[],[]⟩
def w127I0 (x:Int×Int×Int×Int×(List UInt8)×Int×Bool×Int×Int):Sg:=⟨[(0,.ref 50 0),(2,.ref 0 0),(7,.ref 50 0),(9,.e (.i .i64) x.1),(3,.e (.i .i64) x.2.1),(4,.e (.i .i64) x.2.2.1),(5,.e (.i .i64) x.2.2.2.1)],[(50,.box 84 [.e .tx x.2.2.2.2.1,.e (.i .i64) x.2.2.2.2.2.1,.e .bo x.2.2.2.2.2.2.1]),(0,.box 25 [.e (.i .i64) x.2.2.2.2.2.2.2.1,.e (.i .i64) x.2.2.2.2.2.2.2.2,.nilS])],100⟩
def w127u0 (σ:Sg):Int×Int×Int×Int×(List UInt8)×Int×Bool×Int×Int:=(lvT (.i .i64) 9 0 σ,lvT (.i .i64) 3 0 σ,lvT (.i .i64) 4 0 σ,lvT (.i .i64) 5 0 σ,lvH .tx 50 0 σ,lvH (.i .i64) 50 1 σ,lvH .bo 50 2 σ,lvH (.i .i64) 0 0 σ,lvH (.i .i64) 0 1 σ)
theorem w127ui0:∀ x,w127u0 (w127I0 x)=x:=fun _=>by kernel_rfl
def w127X0_0 (y:Int×Int×Int×Int×(List UInt8)×Int×Bool×Int×Int):Exit×Sg:=((.exit 0),⟨[(0,.ref 50 0),(2,.ref 0 0),(9,.e (.i .i64) y.1),(3,.e (.i .i64) y.2.1),(4,.e (.i .i64) y.2.2.1),(5,.e (.i .i64) y.2.2.2.1)],[(50,.box 84 [.e .tx y.2.2.2.2.1,.e (.i .i64) y.2.2.2.2.2.1,.e .bo y.2.2.2.2.2.2.1]),(0,.box 25 [.e (.i .i64) y.2.2.2.2.2.2.2.1,.e (.i .i64) y.2.2.2.2.2.2.2.2,.nilS])],100⟩)
def w127v0_0 (_:Exit) (σ:Sg):Int×Int×Int×Int×(List UInt8)×Int×Bool×Int×Int:=(lvT (.i .i64) 9 0 σ,lvT (.i .i64) 3 0 σ,lvT (.i .i64) 4 0 σ,lvT (.i .i64) 5 0 σ,lvH .tx 50 0 σ,lvH (.i .i64) 50 1 σ,lvH .bo 50 2 σ,lvH (.i .i64) 0 0 σ,lvH (.i .i64) 0 1 σ)
def w127w0:List (Exit×Nm):=[((.exit 0),⟨[0,2,9,3,4,5],[],[]⟩)]
theorem w127o0:Outs w127v0_0 (fun _ _=>()) (fun _ _=>()) w127X0_0 (noX 1) (noX 2) (exC (.exit 0)) (exC (.goto 1)) (exC (.goto 2)):=⟨fun _=>by kernel_rfl,fun _=>by kernel_rfl,fun _=>by kernel_rfl,fun _=>by kernel_rfl,fun _=>by kernel_rfl,fun _=>by kernel_rfl,exNe_ok (by kernel_rfl),exNe_ok (by kernel_rfl),exNe_ok (by kernel_rfl)⟩
def w127l0 [Alg] (N:Nat):Nat→(Int×Int×Int×Int×(List UInt8)×Int×Bool×Int×Int)→((Int×Int×Int×Int×(List UInt8)×Int×Bool×Int×Int)→O)→((Unit)→O)→((Unit)→O)→O
 | 0,_,_,_,_=>none
 | n+1,x,k0,k1,k2=>w127F0 N  (fun v0 v1=>w127l0 N n (x.1,x.2.1,v0,v1,x.2.2.2.2.1,x.2.2.2.2.2.1,x.2.2.2.2.2.2.1,x.2.2.2.2.2.2.2.1,x.2.2.2.2.2.2.2.2) k0 k1 k2) (fun y0 y1 y2 y3 y4 y5 y6 y7 y8=>k0 (y0,y1,y2,y3,y4,y5,y6,y7,y8)) x.1 x.2.1 x.2.2.2.2.1 x.2.2.2.2.2.1 x.2.2.2.2.2.2.1 x.2.2.2.2.2.2.2.1 x.2.2.2.2.2.2.2.2 x.2.2.1 x.2.2.2.1
def w127n0 [Alg] (N:Nat) (a0 a1 a2 a3:Int) (a4:(List UInt8)) (a5:Int) (a6:Bool) (a7 a8:Int) (k0:Int→Int→Int→Int→(List UInt8)→Int→Bool→Int→Int→O):O:=w127l0 N N (a0,a1,a2,a3,a4,a5,a6,a7,a8) (fun y=>k0 y.1 y.2.1 y.2.2.1 y.2.2.2.1 y.2.2.2.2.1 y.2.2.2.2.2.1 y.2.2.2.2.2.2.1 y.2.2.2.2.2.2.2.1 y.2.2.2.2.2.2.2.2) (fun _=>none) (fun _=>none)
noncomputable def w127s0 [Alg] (N:Nat) (a0 a1 a2 a3:Int) (a4:(List UInt8)) (a5:Int) (a6:Bool) (a7 a8:Int) (k0:Int→Int→Int→Int→(List UInt8)→Int→Bool→Int→Int→O):O:=subL w127I0 w127u0 (w127l0 N N) (w127I0 (a0,a1,a2,a3,a4,a5,a6,a7,a8)) (fun y=>k0 y.1 y.2.1 y.2.2.1 y.2.2.2.1 y.2.2.2.2.1 y.2.2.2.2.2.1 y.2.2.2.2.2.2.1 y.2.2.2.2.2.2.2.1 y.2.2.2.2.2.2.2.2) (fun _=>none) (fun _=>none)
theorem w127e0 [Alg] (N:Nat):w127s0 N=w127n0 N:=funext fun _=>funext fun _=>funext fun _=>funext fun _=>funext fun _=>funext fun _=>funext fun _=>funext fun _=>funext fun _=>funext fun _=>subL_I w127ui0 _ _ _ _
noncomputable def w127h0 [Alg] (_:Nat):Hint:=.d
theorem w127hk0 (N:Nat):HintOk (w127c N) Tryd.f127.ntmps (w127h0 N) w127b0:=hk_of _ _ trivial
theorem w127q0 [Alg] (N:Nat) (self:Sg→O) (K:Exit→Sg→O) (x:Int×Int×Int×Int×(List UInt8)×Int×Bool×Int×Int):w127F0 N  (fun v0 v1=>self (w127I0 (x.1,x.2.1,v0,v1,x.2.2.2.2.1,x.2.2.2.2.2.1,x.2.2.2.2.2.2.1,x.2.2.2.2.2.2.2.1,x.2.2.2.2.2.2.2.2))) (fun y0 y1 y2 y3 y4 y5 y6 y7 y8=>K (w127X0_0 (y0,y1,y2,y3,y4,y5,y6,y7,y8)).1 (w127X0_0 (y0,y1,y2,y3,y4,y5,y6,y7,y8)).2) x.1 x.2.1 x.2.2.2.2.1 x.2.2.2.2.2.1 x.2.2.2.2.2.2.1 x.2.2.2.2.2.2.2.1 x.2.2.2.2.2.2.2.2 x.2.2.1 x.2.2.2.1=exec (w127c N) Tryd.f127.ntmps (w127h0 N) w127b0 (w127I0 x) (roundX w127m0 w127w0 self K):=by kernel_rfl
theorem w127S0 (N:Nat) (hc:CxOk (w127c N)):SubOk (w127c N) Tryd.f127.ntmps (.loop w127b0) w127X0_0 (noX 1) (noX 2) (subL w127I0 w127u0 (w127l0 N N)):=
 sub_loop hc (w127hk0 N) w127o0 (n:=N) (fun x K=>loop_ind (w127l0 N) (fun _ _ _ _=>rfl) (fun n K ih x=>by
  have h:w127F0 N  (fun v0 v1=>w127l0 N n (x.1,x.2.1,v0,v1,x.2.2.2.2.1,x.2.2.2.2.2.1,x.2.2.2.2.2.2.1,x.2.2.2.2.2.2.2.1,x.2.2.2.2.2.2.2.2) (fun y=>K (w127X0_0 y).1 (w127X0_0 y).2) (fun y=>K ((noX 1) y).1 ((noX 1) y).2) (fun y=>K ((noX 2) y).1 ((noX 2) y).2)) (fun y0 y1 y2 y3 y4 y5 y6 y7 y8=>K (w127X0_0 (y0,y1,y2,y3,y4,y5,y6,y7,y8)).1 (w127X0_0 (y0,y1,y2,y3,y4,y5,y6,y7,y8)).2) x.1 x.2.1 x.2.2.2.2.1 x.2.2.2.2.2.1 x.2.2.2.2.2.2.1 x.2.2.2.2.2.2.2.1 x.2.2.2.2.2.2.2.2 x.2.2.1 x.2.2.2.1=w127F0 N  (fun v0 v1=>loopX (w127c N) Tryd.f127.ntmps (w127h0 N) w127b0 w127m0 w127w0 n (w127I0 (x.1,x.2.1,v0,v1,x.2.2.2.2.1,x.2.2.2.2.2.1,x.2.2.2.2.2.2.1,x.2.2.2.2.2.2.2.1,x.2.2.2.2.2.2.2.2)) K) (fun y0 y1 y2 y3 y4 y5 y6 y7 y8=>K (w127X0_0 (y0,y1,y2,y3,y4,y5,y6,y7,y8)).1 (w127X0_0 (y0,y1,y2,y3,y4,y5,y6,y7,y8)).2) x.1 x.2.1 x.2.2.2.2.1 x.2.2.2.2.2.1 x.2.2.2.2.2.2.1 x.2.2.2.2.2.2.2.1 x.2.2.2.2.2.2.2.2 x.2.2.1 x.2.2.2.1:=by rw [ show (fun v0 v1=>w127l0 N n (x.1,x.2.1,v0,v1,x.2.2.2.2.1,x.2.2.2.2.2.1,x.2.2.2.2.2.2.1,x.2.2.2.2.2.2.2.1,x.2.2.2.2.2.2.2.2) (fun y=>K (w127X0_0 y).1 (w127X0_0 y).2) (fun y=>K ((noX 1) y).1 ((noX 1) y).2) (fun y=>K ((noX 2) y).1 ((noX 2) y).2))=(fun v0 v1=>loopX (w127c N) Tryd.f127.ntmps (w127h0 N) w127b0 w127m0 w127w0 n (w127I0 (x.1,x.2.1,v0,v1,x.2.2.2.2.1,x.2.2.2.2.2.1,x.2.2.2.2.2.2.1,x.2.2.2.2.2.2.2.1,x.2.2.2.2.2.2.2.2)) K) from funext fun _=>funext fun _=>ih _]
  exact h.trans (w127q0 N (fun σ=>loopX (w127c N) Tryd.f127.ntmps (w127h0 N) w127b0 w127m0 w127w0 n σ K) K x)) N x K)
def w127G [Alg] (_:Nat) (in0:Int→Int→Int→Int→(List UInt8)→Int→Bool→Int→Int→(Int→Int→Int→Int→(List UInt8)→Int→Bool→Int→Int→O)→O) (g0:(List UInt8)) (g1:Int) (g2:Bool):O:=
 in0 g1 g1 ((0:Int)) g1 g0 g1 g2 ((0:Int)) ((0:Int))
  (fun _ z11 z12 z13 z14 z15 z16 _ _=>
   gc (!decide ((6:Int) < IntKind.i64.wrap (z13 - z11))&&decide ((1:Int) < IntKind.i64.wrap (z13 - z11))) ((0:UInt8)) z14 z11 fun y19=>
   br (decide ((6:Int) < IntKind.i64.wrap (z13 - z11))||decide ((1:Int) < IntKind.i64.wrap (z13 - z11))&&decide (y19=(48:UInt8)))
    (some (w127r0 ((0:Int)) ((0:Int)) [] z14 z15 true))
    (some (w127r0 ((0:Int)) (z12) ([]) z14 z13 z16)))
def w127 [Alg] (N:Nat) (g0:(List UInt8)) (g1:Int) (g2:Bool):O:=w127G N (w127n0 N) g0 g1 g2
noncomputable def w127h [Alg] (N:Nat):Hint:=(.seq .d (.seq .d (.seq .d (.seq .d (.seq (.block (.sub w127m0 _ _ _ w127X0_0 (noX 1) (noX 2) (subL w127I0 w127u0 (w127l0 N N)))) .d)))))
theorem w127hk (N:Nat) (hc:CxOk (w127c N)):HintOk (w127c N) Tryd.f127.ntmps (w127h N) w127b:=hk_of _ _ (And.intro trivial (And.intro trivial (And.intro trivial (And.intro trivial (And.intro (w127S0 N hc) trivial)))))
theorem w127q [Alg] (N:Nat) (g0:(List UInt8)) (g1:Int) (g2:Bool):w127G N (w127s0 N) g0 g1 g2=exec (w127c N) Tryd.f127.ntmps (w127h N) w127b ⟨argT 0 [.ref 50 0],[(50,.box 84 [.e .tx g0,.e (.i .i64) g1,.e .bo g2])],100⟩ (finX (w127c N) Tryd.f127 false):=by kernel_rfl
theorem w127does {N:Nat} (hc:CxOk (w127c N)) {g0:(List UInt8)} {g1:Int} {g2:Bool} {r:Res} (h:w127 N g0 g1 g2=some r):DoesR Tryd.prog 127 (([.ref 50 0]:List X).map X.D) (HA [(50,.box 84 [.e .tx g0,.e (.i .i64) g1,.e .bo g2])]) r:=
 fun_ok hc (f:=127) (fn:=Tryd.f127) (code:=w127b) (by kernel_rfl) (by kernel_rfl) (w127hk N hc) (Nat.le_of_ble_eq_true (by kernel_rfl)) (ow:=false) ((w127q N g0 g1 g2).symm.trans (by rw [w127e0 N];exact h))
def w127un (r:Res):Option (Int×Int×(List Ex)×(List UInt8)×Int×Bool):=match r with
 | (.agg [x0,x1,x2],[(50,.box 84 [x3,x4,x5])])=>(match ue (.i .i64) x0,ue (.i .i64) x1,ue (.sl .ex) x2,ue .tx x3,ue (.i .i64) x4,ue .bo x5 with | some a0,some a1,some a2,some a3,some a4,some a5=>some (a0,a1,a2,a3,a4,a5) | _,_,_,_,_,_=>none)
 | _=>none
theorem w127uo {r:Res} {d:Int×Int×(List Ex)×(List UInt8)×Int×Bool} (h:w127un r=some d):r=w127r0 (d.1) (d.2.1) (d.2.2.1) (d.2.2.2.1) (d.2.2.2.2.1) (d.2.2.2.2.2):=by
 unfold w127un at h
 split at h
 ·split at h
  ·rename_i h0 h1 h2 h3 h4 h5;cases h;rw [ue_some h0,ue_some h1,ue_some h2,ue_some h3,ue_some h4,ue_some h5];rfl
  ·cases h
 ·cases h
def w127z (N:Nat) (g0:(List UInt8)) (g1:Int) (g2:Bool):Option (Int×Int×(List Ex)×(List UInt8)×Int×Bool):=(w127 N g0 g1 g2).bind w127un
theorem w127fin {N:Nat} (hc:CxOk (w127c N)) {g0:(List UInt8)} {g1:Int} {g2:Bool} {d:Int×Int×(List Ex)×(List UInt8)×Int×Bool} (hd:w127z N g0 g1 g2=some d):Does Tryd.prog 127 (([.ref 50 0]:List X).map X.D) (HA [(50,.box 84 [.e .tx g0,.e (.i .i64) g1,.e .bo g2])]) (w127r0 (d.1) (d.2.1) (d.2.2.1) (d.2.2.2.1) (d.2.2.2.2.1) (d.2.2.2.2.2)).1.D (HA (w127r0 (d.1) (d.2.1) (d.2.2.1) (d.2.2.2.1) (d.2.2.2.2.1) (d.2.2.2.2.2)).2):=by
 obtain ⟨r,hr,hu⟩:=Option.bind_eq_some_iff.1 hd
 have:=w127does hc hr
 rw [w127uo hu] at this
 exact this
def w127p (N:Nat) (g0:(List UInt8)) (g1:Int) (g2:Bool):Bool:=(w127z N g0 g1 g2).isSome
def w127y0 (N:Nat) (g0:(List UInt8)) (g1:Int) (g2:Bool):Int:=((w127z N g0 g1 g2).getD (0,0,[],[],0,false)).1
def w127y1 (N:Nat) (g0:(List UInt8)) (g1:Int) (g2:Bool):Int:=((w127z N g0 g1 g2).getD (0,0,[],[],0,false)).2.1
def w127y2 (N:Nat) (g0:(List UInt8)) (g1:Int) (g2:Bool):(List Ex):=((w127z N g0 g1 g2).getD (0,0,[],[],0,false)).2.2.1
def w127y3 (N:Nat) (g0:(List UInt8)) (g1:Int) (g2:Bool):(List UInt8):=((w127z N g0 g1 g2).getD (0,0,[],[],0,false)).2.2.2.1
def w127y4 (N:Nat) (g0:(List UInt8)) (g1:Int) (g2:Bool):Int:=((w127z N g0 g1 g2).getD (0,0,[],[],0,false)).2.2.2.2.1
def w127y5 (N:Nat) (g0:(List UInt8)) (g1:Int) (g2:Bool):Bool:=((w127z N g0 g1 g2).getD (0,0,[],[],0,false)).2.2.2.2.2
def w127in (xs:List X) (H:XH):Option ((List UInt8)×Int×Bool):=match xs,H with
 | [.ref 50 0],[(50,.box 84 [x0,x1,x2])]=>(match ue .tx x0,ue (.i .i64) x1,ue .bo x2 with | some a0,some a1,some a2=>some (a0,a1,a2) | _,_,_=>none)
 | _,_=>none
theorem w127io {xs:List X} {H:XH} {d:(List UInt8)×Int×Bool} (h:w127in xs H=some d):xs=[.ref 50 0]∧H=[(50,.box 84 [.e .tx (d.1),.e (.i .i64) (d.2.1),.e .bo (d.2.2)])]:=by
 unfold w127in at h
 split at h
 ·split at h
  ·rename_i h0 h1 h2;cases h;rw [ue_some h0,ue_some h1,ue_some h2];exact ⟨rfl,rfl⟩
  ·cases h
 ·cases h
def w127e (N:Nat):Ent':=fun xs H=>match w127in xs H with | some d=>some (w127p N (d.1) (d.2.1) (d.2.2),w127r0 (w127y0 N (d.1) (d.2.1) (d.2.2)) (w127y1 N (d.1) (d.2.1) (d.2.2)) (w127y2 N (d.1) (d.2.1) (d.2.2)) (w127y3 N (d.1) (d.2.1) (d.2.2)) (w127y4 N (d.1) (d.2.1) (d.2.2)) (w127y5 N (d.1) (d.2.1) (d.2.2))) | none=>none
theorem w127re {N:Nat} {g0:(List UInt8)} {g1:Int} {g2:Bool} {d:Int×Int×(List Ex)×(List UInt8)×Int×Bool} (hd:w127z N g0 g1 g2=some d):w127r0 (w127y0 N g0 g1 g2) (w127y1 N g0 g1 g2) (w127y2 N g0 g1 g2) (w127y3 N g0 g1 g2) (w127y4 N g0 g1 g2) (w127y5 N g0 g1 g2)=w127r0 (d.1) (d.2.1) (d.2.2.1) (d.2.2.2.1) (d.2.2.2.2.1) (d.2.2.2.2.2):=by unfold w127y0 w127y1 w127y2 w127y3 w127y4 w127y5;rw [hd];rfl
theorem w127ok (N:Nat):EOk Tryd.prog 127 (w127e N):=fun xs H pre r he hp=>by
 unfold w127e at he
 split at he
 ·rename_i d hd
  have he:=Option.some.inj he
  have h1:=congrArg Prod.fst he
  have h2:=congrArg Prod.snd he
  simp only at h1 h2
  obtain ⟨e1,e2⟩:=w127io hd
  rw [e1,e2,← h2]
  have h:(w127z N (d.1) (d.2.1) (d.2.2)).isSome=true:=h1.trans hp
  obtain ⟨d',hd'⟩:=Option.isSome_iff_exists.1 h
  have f:=w127fin (w127cx N) hd'
  rw [← w127re hd'] at f
  exact f
 ·cases he
def w128r0 (a0:(List UInt8)) (a1:Int) (a2:Bool):Res:=(.tup [],[(50,.box 84 [.e .tx a0,.e (.i .i64) a1,.e .bo a2])])
noncomputable def w128L (N:Nat):List (Nat×Ent'):=[(62,w62e N)]
noncomputable def w128c (N:Nat):Cx:=⟨Tryd.prog,25,w128L N,[]⟩
noncomputable def w128b:Code:=Tryd.f128.body.getD .skip
theorem w128cx (N:Nat):CxOk (w128c N):=ctx_ok (by kernel_rfl) (.cons (by kernel_rfl) (w62ok N) .nil) .nil
def w128G [Alg] (N:Nat)  (c1:UInt8) (g0:(List UInt8)) (g1:Int) (g2:Bool):O:=
 ck (w62p N c1 g0 g1 g2) <|
 br (!w62y0 N c1 g0 g1 g2)
  (some (w128r0 (w62y1 N c1 g0 g1 g2) (w62y2 N c1 g0 g1 g2) true))
  (some (w128r0 (w62y1 N c1 g0 g1 g2) (w62y2 N c1 g0 g1 g2) (w62y3 N c1 g0 g1 g2)))
def w128 [Alg] (N:Nat) (c1:UInt8) (g0:(List UInt8)) (g1:Int) (g2:Bool):O:=w128G N  c1 g0 g1 g2
noncomputable def w128h [Alg] (_:Nat):Hint:=.d
theorem w128hk (N:Nat):HintOk (w128c N) Tryd.f128.ntmps (w128h N) w128b:=hk_of _ _ trivial
theorem w128q [Alg] (N:Nat) (c1:UInt8) (g0:(List UInt8)) (g1:Int) (g2:Bool):w128G N  c1 g0 g1 g2=exec (w128c N) Tryd.f128.ntmps (w128h N) w128b ⟨argT 0 [.ref 50 0,.e .u8 c1],[(50,.box 84 [.e .tx g0,.e (.i .i64) g1,.e .bo g2])],100⟩ (finX (w128c N) Tryd.f128 false):=by kernel_rfl
theorem w128does {N:Nat} (hc:CxOk (w128c N)) {c1:UInt8} {g0:(List UInt8)} {g1:Int} {g2:Bool} {r:Res} (h:w128 N c1 g0 g1 g2=some r):DoesR Tryd.prog 128 (([.ref 50 0,.e .u8 c1]:List X).map X.D) (HA [(50,.box 84 [.e .tx g0,.e (.i .i64) g1,.e .bo g2])]) r:=
 fun_ok hc (f:=128) (fn:=Tryd.f128) (code:=w128b) (by kernel_rfl) (by kernel_rfl) (w128hk N) (Nat.le_of_ble_eq_true (by kernel_rfl)) (ow:=false) ((w128q N c1 g0 g1 g2).symm.trans (by exact h))
def w128un (r:Res):Option ((List UInt8)×Int×Bool):=match r with
 | (.tup [],[(50,.box 84 [x0,x1,x2])])=>(match ue .tx x0,ue (.i .i64) x1,ue .bo x2 with | some a0,some a1,some a2=>some (a0,a1,a2) | _,_,_=>none)
 | _=>none
theorem w128uo {r:Res} {d:(List UInt8)×Int×Bool} (h:w128un r=some d):r=w128r0 (d.1) (d.2.1) (d.2.2):=by
 unfold w128un at h
 split at h
 ·split at h
  ·rename_i h0 h1 h2;cases h;rw [ue_some h0,ue_some h1,ue_some h2];rfl
  ·cases h
 ·cases h
def w128z (N:Nat) (c1:UInt8) (g0:(List UInt8)) (g1:Int) (g2:Bool):Option ((List UInt8)×Int×Bool):=(w128 N c1 g0 g1 g2).bind w128un
theorem w128fin {N:Nat} (hc:CxOk (w128c N)) {c1:UInt8} {g0:(List UInt8)} {g1:Int} {g2:Bool} {d:(List UInt8)×Int×Bool} (hd:w128z N c1 g0 g1 g2=some d):Does Tryd.prog 128 (([.ref 50 0,.e .u8 c1]:List X).map X.D) (HA [(50,.box 84 [.e .tx g0,.e (.i .i64) g1,.e .bo g2])]) (w128r0 (d.1) (d.2.1) (d.2.2)).1.D (HA (w128r0 (d.1) (d.2.1) (d.2.2)).2):=by
 obtain ⟨r,hr,hu⟩:=Option.bind_eq_some_iff.1 hd
 have:=w128does hc hr
 rw [w128uo hu] at this
 exact this
def w128p (N:Nat) (c1:UInt8) (g0:(List UInt8)) (g1:Int) (g2:Bool):Bool:=(w128z N c1 g0 g1 g2).isSome
def w128y0 (N:Nat) (c1:UInt8) (g0:(List UInt8)) (g1:Int) (g2:Bool):(List UInt8):=((w128z N c1 g0 g1 g2).getD ([],0,false)).1
def w128y1 (N:Nat) (c1:UInt8) (g0:(List UInt8)) (g1:Int) (g2:Bool):Int:=((w128z N c1 g0 g1 g2).getD ([],0,false)).2.1
def w128y2 (N:Nat) (c1:UInt8) (g0:(List UInt8)) (g1:Int) (g2:Bool):Bool:=((w128z N c1 g0 g1 g2).getD ([],0,false)).2.2
def w128in (xs:List X) (H:XH):Option (UInt8×(List UInt8)×Int×Bool):=match xs,H with
 | [.ref 50 0,x0],[(50,.box 84 [x1,x2,x3])]=>(match ue .u8 x0,ue .tx x1,ue (.i .i64) x2,ue .bo x3 with | some a0,some a1,some a2,some a3=>some (a0,a1,a2,a3) | _,_,_,_=>none)
 | _,_=>none
theorem w128io {xs:List X} {H:XH} {d:UInt8×(List UInt8)×Int×Bool} (h:w128in xs H=some d):xs=[.ref 50 0,.e .u8 (d.1)]∧H=[(50,.box 84 [.e .tx (d.2.1),.e (.i .i64) (d.2.2.1),.e .bo (d.2.2.2)])]:=by
 unfold w128in at h
 split at h
 ·split at h
  ·rename_i h0 h1 h2 h3;cases h;rw [ue_some h0,ue_some h1,ue_some h2,ue_some h3];exact ⟨rfl,rfl⟩
  ·cases h
 ·cases h
def w128e (N:Nat):Ent':=fun xs H=>match w128in xs H with | some d=>some (w128p N (d.1) (d.2.1) (d.2.2.1) (d.2.2.2),w128r0 (w128y0 N (d.1) (d.2.1) (d.2.2.1) (d.2.2.2)) (w128y1 N (d.1) (d.2.1) (d.2.2.1) (d.2.2.2)) (w128y2 N (d.1) (d.2.1) (d.2.2.1) (d.2.2.2))) | none=>none
theorem w128re {N:Nat} {c1:UInt8} {g0:(List UInt8)} {g1:Int} {g2:Bool} {d:(List UInt8)×Int×Bool} (hd:w128z N c1 g0 g1 g2=some d):w128r0 (w128y0 N c1 g0 g1 g2) (w128y1 N c1 g0 g1 g2) (w128y2 N c1 g0 g1 g2)=w128r0 (d.1) (d.2.1) (d.2.2):=by unfold w128y0 w128y1 w128y2;rw [hd];rfl
theorem w128ok (N:Nat):EOk Tryd.prog 128 (w128e N):=fun xs H pre r he hp=>by
 unfold w128e at he
 split at he
 ·rename_i d hd
  have he:=Option.some.inj he
  have h1:=congrArg Prod.fst he
  have h2:=congrArg Prod.snd he
  simp only at h1 h2
  obtain ⟨e1,e2⟩:=w128io hd
  rw [e1,e2,← h2]
  have h:(w128z N (d.1) (d.2.1) (d.2.2.1) (d.2.2.2)).isSome=true:=h1.trans hp
  obtain ⟨d',hd'⟩:=Option.isSome_iff_exists.1 h
  have f:=w128fin (w128cx N) hd'
  rw [← w128re hd'] at f
  exact f
 ·cases he
def w119r0 (a0 a1:Int) (a2:(List Ex)) (a3:(List UInt8)) (a4:Int) (a5:Bool):Res:=(.agg [.e (.i .i64) a0,.e (.i .i64) a1,.e (.sl .ex) a2],[(50,.box 84 [.e .tx a3,.e (.i .i64) a4,.e .bo a5])])
def w119in (xs:List X) (H:XH):Option ((List UInt8)×Int×Bool):=match xs,H with
 | [.ref 50 0],[(50,.box 84 [x0,x1,x2])]=>(match ue .tx x0,ue (.i .i64) x1,ue .bo x2 with | some a0,some a1,some a2=>some (a0,a1,a2) | _,_,_=>none)
 | _,_=>none
theorem w119io {xs:List X} {H:XH} {d:(List UInt8)×Int×Bool} (h:w119in xs H=some d):xs=[.ref 50 0]∧H=[(50,.box 84 [.e .tx (d.1),.e (.i .i64) (d.2.1),.e .bo (d.2.2)])]:=by
 unfold w119in at h
 split at h
 ·split at h
  ·rename_i h0 h1 h2;cases h;rw [ue_some h0,ue_some h1,ue_some h2];exact ⟨rfl,rfl⟩
  ·cases h
 ·cases h
abbrev w119T:=Nat×(((List UInt8)→Int→Bool→Option (Int×Int×(List Ex)×(List UInt8)×Int×Bool))×((List UInt8)→Int→Bool→Option (Int×Int×(List Ex)×(List UInt8)×Int×Bool))×((List UInt8)→Int→Bool→Option (Int×Int×(List Ex)×(List UInt8)×Int×Bool))×((List UInt8)→Int→Bool→Option (Int×Int×(List Ex)×(List UInt8)×Int×Bool)))
def w119E (N:w119T):Ent':=entR w119in (fun d=>(N.2.1 (d.1) (d.2.1) (d.2.2)).isSome) (fun d=>w119r0 (((N.2.1 (d.1) (d.2.1) (d.2.2)).getD (0,0,[],[],0,false)).1) (((N.2.1 (d.1) (d.2.1) (d.2.2)).getD (0,0,[],[],0,false)).2.1) (((N.2.1 (d.1) (d.2.1) (d.2.2)).getD (0,0,[],[],0,false)).2.2.1) (((N.2.1 (d.1) (d.2.1) (d.2.2)).getD (0,0,[],[],0,false)).2.2.2.1) (((N.2.1 (d.1) (d.2.1) (d.2.2)).getD (0,0,[],[],0,false)).2.2.2.2.1) (((N.2.1 (d.1) (d.2.1) (d.2.2)).getD (0,0,[],[],0,false)).2.2.2.2.2))
def w109r0 (a0 a1:Int) (a2:(List Ex)) (a3:(List UInt8)) (a4:Int) (a5:Bool):Res:=(.agg [.e (.i .i64) a0,.e (.i .i64) a1,.e (.sl .ex) a2],[(50,.box 84 [.e .tx a3,.e (.i .i64) a4,.e .bo a5])])
def w109in (xs:List X) (H:XH):Option ((List UInt8)×Int×Bool):=match xs,H with
 | [.ref 50 0],[(50,.box 84 [x0,x1,x2])]=>(match ue .tx x0,ue (.i .i64) x1,ue .bo x2 with | some a0,some a1,some a2=>some (a0,a1,a2) | _,_,_=>none)
 | _,_=>none
theorem w109io {xs:List X} {H:XH} {d:(List UInt8)×Int×Bool} (h:w109in xs H=some d):xs=[.ref 50 0]∧H=[(50,.box 84 [.e .tx (d.1),.e (.i .i64) (d.2.1),.e .bo (d.2.2)])]:=by
 unfold w109in at h
 split at h
 ·split at h
  ·rename_i h0 h1 h2;cases h;rw [ue_some h0,ue_some h1,ue_some h2];exact ⟨rfl,rfl⟩
  ·cases h
 ·cases h
def w109E (N:w119T):Ent':=entR w109in (fun d=>(N.2.2.1 (d.1) (d.2.1) (d.2.2)).isSome) (fun d=>w109r0 (((N.2.2.1 (d.1) (d.2.1) (d.2.2)).getD (0,0,[],[],0,false)).1) (((N.2.2.1 (d.1) (d.2.1) (d.2.2)).getD (0,0,[],[],0,false)).2.1) (((N.2.2.1 (d.1) (d.2.1) (d.2.2)).getD (0,0,[],[],0,false)).2.2.1) (((N.2.2.1 (d.1) (d.2.1) (d.2.2)).getD (0,0,[],[],0,false)).2.2.2.1) (((N.2.2.1 (d.1) (d.2.1) (d.2.2)).getD (0,0,[],[],0,false)).2.2.2.2.1) (((N.2.2.1 (d.1) (d.2.1) (d.2.2)).getD (0,0,[],[],0,false)).2.2.2.2.2))
def w90r0 (a0 a1:Int) (a2:(List Ex)) (a3:(List UInt8)) (a4:Int) (a5:Bool):Res:=(.agg [.e (.i .i64) a0,.e (.i .i64) a1,.e (.sl .ex) a2],[(50,.box 84 [.e .tx a3,.e (.i .i64) a4,.e .bo a5])])
def w90in (xs:List X) (H:XH):Option ((List UInt8)×Int×Bool):=match xs,H with
 | [.ref 50 0],[(50,.box 84 [x0,x1,x2])]=>(match ue .tx x0,ue (.i .i64) x1,ue .bo x2 with | some a0,some a1,some a2=>some (a0,a1,a2) | _,_,_=>none)
 | _,_=>none
theorem w90io {xs:List X} {H:XH} {d:(List UInt8)×Int×Bool} (h:w90in xs H=some d):xs=[.ref 50 0]∧H=[(50,.box 84 [.e .tx (d.1),.e (.i .i64) (d.2.1),.e .bo (d.2.2)])]:=by
 unfold w90in at h
 split at h
 ·split at h
  ·rename_i h0 h1 h2;cases h;rw [ue_some h0,ue_some h1,ue_some h2];exact ⟨rfl,rfl⟩
  ·cases h
 ·cases h
def w90E (N:w119T):Ent':=entR w90in (fun d=>(N.2.2.2.1 (d.1) (d.2.1) (d.2.2)).isSome) (fun d=>w90r0 (((N.2.2.2.1 (d.1) (d.2.1) (d.2.2)).getD (0,0,[],[],0,false)).1) (((N.2.2.2.1 (d.1) (d.2.1) (d.2.2)).getD (0,0,[],[],0,false)).2.1) (((N.2.2.2.1 (d.1) (d.2.1) (d.2.2)).getD (0,0,[],[],0,false)).2.2.1) (((N.2.2.2.1 (d.1) (d.2.1) (d.2.2)).getD (0,0,[],[],0,false)).2.2.2.1) (((N.2.2.2.1 (d.1) (d.2.1) (d.2.2)).getD (0,0,[],[],0,false)).2.2.2.2.1) (((N.2.2.2.1 (d.1) (d.2.1) (d.2.2)).getD (0,0,[],[],0,false)).2.2.2.2.2))
def w61r0 (a0 a1:Int) (a2:(List Ex)) (a3:(List UInt8)) (a4:Int) (a5:Bool):Res:=(.agg [.e (.i .i64) a0,.e (.i .i64) a1,.e (.sl .ex) a2],[(50,.box 84 [.e .tx a3,.e (.i .i64) a4,.e .bo a5])])
def w61in (xs:List X) (H:XH):Option ((List UInt8)×Int×Bool):=match xs,H with
 | [.ref 50 0],[(50,.box 84 [x0,x1,x2])]=>(match ue .tx x0,ue (.i .i64) x1,ue .bo x2 with | some a0,some a1,some a2=>some (a0,a1,a2) | _,_,_=>none)
 | _,_=>none
theorem w61io {xs:List X} {H:XH} {d:(List UInt8)×Int×Bool} (h:w61in xs H=some d):xs=[.ref 50 0]∧H=[(50,.box 84 [.e .tx (d.1),.e (.i .i64) (d.2.1),.e .bo (d.2.2)])]:=by
 unfold w61in at h
 split at h
 ·split at h
  ·rename_i h0 h1 h2;cases h;rw [ue_some h0,ue_some h1,ue_some h2];exact ⟨rfl,rfl⟩
  ·cases h
 ·cases h
def w61E (N:w119T):Ent':=entR w61in (fun d=>(N.2.2.2.2 (d.1) (d.2.1) (d.2.2)).isSome) (fun d=>w61r0 (((N.2.2.2.2 (d.1) (d.2.1) (d.2.2)).getD (0,0,[],[],0,false)).1) (((N.2.2.2.2 (d.1) (d.2.1) (d.2.2)).getD (0,0,[],[],0,false)).2.1) (((N.2.2.2.2 (d.1) (d.2.1) (d.2.2)).getD (0,0,[],[],0,false)).2.2.1) (((N.2.2.2.2 (d.1) (d.2.1) (d.2.2)).getD (0,0,[],[],0,false)).2.2.2.1) (((N.2.2.2.2 (d.1) (d.2.1) (d.2.2)).getD (0,0,[],[],0,false)).2.2.2.2.1) (((N.2.2.2.2 (d.1) (d.2.1) (d.2.2)).getD (0,0,[],[],0,false)).2.2.2.2.2))
noncomputable def w119L (N:w119T):List (Nat×Ent'):=[(119,w119E N),(109,w109E N),(90,w90E N),(61,w61E N),(91,w91e N.1),(127,w127e N.1),(62,w62e N.1),(128,w128e N.1)]
noncomputable def w119c (N:w119T):Cx:=⟨Tryd.prog,25,w119L N,[]⟩
noncomputable def w119b:Code:=Tryd.f119.body.getD .skip
theorem w119cx (N:w119T) (hw119:EOk Tryd.prog 119 (w119E N)) (hw109:EOk Tryd.prog 109 (w109E N)) (hw90:EOk Tryd.prog 90 (w90E N)) (hw61:EOk Tryd.prog 61 (w61E N)):CxOk (w119c N):=ctx_ok (by kernel_rfl) (.cons (by kernel_rfl) hw119 (.cons (by kernel_rfl) hw109 (.cons (by kernel_rfl) hw90 (.cons (by kernel_rfl) hw61 (.cons (by kernel_rfl) (w91ok N.1) (.cons (by kernel_rfl) (w127ok N.1) (.cons (by kernel_rfl) (w62ok N.1) (.cons (by kernel_rfl) (w128ok N.1) .nil)))))))) .nil
def w119G [Alg] (N:w119T)  (g0:(List UInt8)) (g1:Int) (g2:Bool):O:=
 let b1:=w91y3 N.1 g0 g1 g2
 let b2:=w91y1 N.1 g0 g1 g2
 let b3:=w91y2 N.1 g0 g1 g2
 let b4:=w62y1 N.1 (82:UInt8) b2 b3 b1
 let b5:=w62y2 N.1 (82:UInt8) b2 b3 b1
 let b6:=w62y3 N.1 (82:UInt8) b2 b3 b1
 let b10:=N.snd.snd.snd.2 (w128y0 N.1 (40:UInt8) b4 b5 b6) (w128y1 N.1 (40:UInt8) b4 b5 b6) (w128y2 N.1 (40:UInt8) b4 b5 b6)
 let b0:=b10.getD ((0:Int),(0:Int),[],[],(0:Int),false)
 let b7:=w128y0 N.1 (41:UInt8) b0.2.2.2.1 b0.2.2.2.2.1 b0.2.2.2.2.2
 let b8:=w128y1 N.1 (41:UInt8) b0.2.2.2.1 b0.2.2.2.2.1 b0.2.2.2.2.2
 let b9:=w128y2 N.1 (41:UInt8) b0.2.2.2.1 b0.2.2.2.2.1 b0.2.2.2.2.2
 ck (w91p N.1 g0 g1 g2) <|
 br b1
  (some (w119r0 ((0:Int)) ((0:Int)) [] b2 b3 b1))
  (br (decide ((48:UInt8)≤w91y0 N.1 g0 g1 g2)&&decide (w91y0 N.1 g0 g1 g2≤(57:UInt8)))
   (ck (w127p N.1 b2 b3 b1) <|
   some (w119r0 ((w127y0 N.1 b2 b3 b1)) ((w127y1 N.1 b2 b3 b1)) ((w127y2 N.1 b2 b3 b1)) (w127y3 N.1 b2 b3 b1) (w127y4 N.1 b2 b3 b1) (w127y5 N.1 b2 b3 b1)))
   (br (decide ((97:UInt8)≤w91y0 N.1 g0 g1 g2)&&decide (w91y0 N.1 g0 g1 g2≤(122:UInt8)))
    (some (w119r0 ((1:Int)) ((IntKind.i64.wrap (↑(w91y0 N.1 g0 g1 g2 - (97:UInt8)).toNat:Int))) ([]) b2 (IntKind.i64.wrap (w91y2 N.1 g0 g1 g2+(1:Int))) b1))
    (ck (w62p N.1 (82:UInt8) b2 b3 b1) <|
    ck (w128p N.1 (40:UInt8) b4 b5 b6) <|
    ck (b10.isSome) <|
    ck (w128p N.1 (41:UInt8) b0.2.2.2.1 b0.2.2.2.2.1 b0.2.2.2.2.2) <|
    br (w62y0 N.1 (82:UInt8) b2 b3 b1)
     (some (w119r0 ((8:Int)) ((0:Int)) ([Ex.mk b0.1 b0.2.1 b0.2.2.1]) b7 b8 b9))
     (some (w119r0 (b0.1) (b0.2.1) (b0.2.2.1) b7 b8 b9)))))
def w119 [Alg] (N:w119T) (g0:(List UInt8)) (g1:Int) (g2:Bool):O:=w119G N  g0 g1 g2
noncomputable def w119h [Alg] (_:w119T):Hint:=.d
theorem w119hk (N:w119T):HintOk (w119c N) Tryd.f119.ntmps (w119h N) w119b:=hk_of _ _ trivial
theorem w119q [Alg] (N:w119T) (g0:(List UInt8)) (g1:Int) (g2:Bool):w119G N  g0 g1 g2=exec (w119c N) Tryd.f119.ntmps (w119h N) w119b ⟨argT 0 [.ref 50 0],[(50,.box 84 [.e .tx g0,.e (.i .i64) g1,.e .bo g2])],100⟩ (finX (w119c N) Tryd.f119 false):=by kernel_rfl
theorem w119does {N:w119T} (hc:CxOk (w119c N)) {g0:(List UInt8)} {g1:Int} {g2:Bool} {r:Res} (h:w119 N g0 g1 g2=some r):DoesR Tryd.prog 119 (([.ref 50 0]:List X).map X.D) (HA [(50,.box 84 [.e .tx g0,.e (.i .i64) g1,.e .bo g2])]) r:=
 fun_ok hc (f:=119) (fn:=Tryd.f119) (code:=w119b) (by kernel_rfl) (by kernel_rfl) (w119hk N) (Nat.le_of_ble_eq_true (by kernel_rfl)) (ow:=false) ((w119q N g0 g1 g2).symm.trans (by exact h))
def w119un (r:Res):Option (Int×Int×(List Ex)×(List UInt8)×Int×Bool):=match r with
 | (.agg [x0,x1,x2],[(50,.box 84 [x3,x4,x5])])=>(match ue (.i .i64) x0,ue (.i .i64) x1,ue (.sl .ex) x2,ue .tx x3,ue (.i .i64) x4,ue .bo x5 with | some a0,some a1,some a2,some a3,some a4,some a5=>some (a0,a1,a2,a3,a4,a5) | _,_,_,_,_,_=>none)
 | _=>none
theorem w119uo {r:Res} {d:Int×Int×(List Ex)×(List UInt8)×Int×Bool} (h:w119un r=some d):r=w119r0 (d.1) (d.2.1) (d.2.2.1) (d.2.2.2.1) (d.2.2.2.2.1) (d.2.2.2.2.2):=by
 unfold w119un at h
 split at h
 ·split at h
  ·rename_i h0 h1 h2 h3 h4 h5;cases h;rw [ue_some h0,ue_some h1,ue_some h2,ue_some h3,ue_some h4,ue_some h5];rfl
  ·cases h
 ·cases h
def w119z (N:w119T) (g0:(List UInt8)) (g1:Int) (g2:Bool):Option (Int×Int×(List Ex)×(List UInt8)×Int×Bool):=(w119 N g0 g1 g2).bind w119un
theorem w119fin {N:w119T} (hc:CxOk (w119c N)) {g0:(List UInt8)} {g1:Int} {g2:Bool} {d:Int×Int×(List Ex)×(List UInt8)×Int×Bool} (hd:w119z N g0 g1 g2=some d):Does Tryd.prog 119 (([.ref 50 0]:List X).map X.D) (HA [(50,.box 84 [.e .tx g0,.e (.i .i64) g1,.e .bo g2])]) (w119r0 (d.1) (d.2.1) (d.2.2.1) (d.2.2.2.1) (d.2.2.2.2.1) (d.2.2.2.2.2)).1.D (HA (w119r0 (d.1) (d.2.1) (d.2.2.1) (d.2.2.2.1) (d.2.2.2.2.1) (d.2.2.2.2.2)).2):=by
 obtain ⟨r,hr,hu⟩:=Option.bind_eq_some_iff.1 hd
 have:=w119does hc hr
 rw [w119uo hu] at this
 exact this
noncomputable def w109L (N:w119T):List (Nat×Ent'):=[(119,w119E N),(109,w109E N),(90,w90E N),(61,w61E N),(62,w62e N.1)]
noncomputable def w109c (N:w119T):Cx:=⟨Tryd.prog,25,w109L N,[]⟩
noncomputable def w109b:Code:=Tryd.f109.body.getD .skip
theorem w109cx (N:w119T) (hw119:EOk Tryd.prog 119 (w119E N)) (hw109:EOk Tryd.prog 109 (w109E N)) (hw90:EOk Tryd.prog 90 (w90E N)) (hw61:EOk Tryd.prog 61 (w61E N)):CxOk (w109c N):=ctx_ok (by kernel_rfl) (.cons (by kernel_rfl) hw119 (.cons (by kernel_rfl) hw109 (.cons (by kernel_rfl) hw90 (.cons (by kernel_rfl) hw61 (.cons (by kernel_rfl) (w62ok N.1) .nil))))) .nil
def w109G [Alg] (N:w119T)  (g0:(List UInt8)) (g1:Int) (g2:Bool):O:=
 let b6:=N.snd.snd.1 (w62y1 N.1 (45:UInt8) g0 g1 g2) (w62y2 N.1 (45:UInt8) g0 g1 g2) (w62y3 N.1 (45:UInt8) g0 g1 g2)
 let b7:=N.snd.1 (w62y1 N.1 (45:UInt8) g0 g1 g2) (w62y2 N.1 (45:UInt8) g0 g1 g2) (w62y3 N.1 (45:UInt8) g0 g1 g2)
 let b8:=((0:Int),(0:Int),[],[],(0:Int),false)
 let b0:=b7.getD b8
 let b2:=b6.getD b8
 let b3:=w62y1 N.1 (94:UInt8) b0.2.2.2.1 b0.2.2.2.2.1 b0.2.2.2.2.2
 let b4:=w62y2 N.1 (94:UInt8) b0.2.2.2.1 b0.2.2.2.2.1 b0.2.2.2.2.2
 let b5:=w62y3 N.1 (94:UInt8) b0.2.2.2.1 b0.2.2.2.2.1 b0.2.2.2.2.2
 let b1:=(N.snd.snd.1 b3 b4 b5).getD b8
 br g2
  (some (w109r0 ((0:Int)) ((0:Int)) [] g0 g1 g2))
  (ck (w62p N.1 (45:UInt8) g0 g1 g2) <|
  br (w62y0 N.1 (45:UInt8) g0 g1 g2)
   (ck (b6.isSome) <|
   some (w109r0 ((2:Int)) ((0:Int)) ([Ex.mk b2.1 b2.2.1 b2.2.2.1]) (b2.2.2.2.1) (b2.2.2.2.2.1) (b2.2.2.2.2.2)))
   (ck (b7.isSome) <|
   ck (w62p N.1 (94:UInt8) b0.2.2.2.1 b0.2.2.2.2.1 b0.2.2.2.2.2) <|
   br (w62y0 N.1 (94:UInt8) b0.2.2.2.1 b0.2.2.2.2.1 b0.2.2.2.2.2)
    (ck ((N.snd.snd.1 b3 b4 b5).isSome) <|
    some (w109r0 ((7:Int)) ((0:Int)) ([Ex.mk b0.1 b0.2.1 b0.2.2.1,Ex.mk b1.1 b1.2.1 b1.2.2.1]) (b1.2.2.2.1) (b1.2.2.2.2.1) (b1.2.2.2.2.2)))
    (some (w109r0 (b0.1) (b0.2.1) (b0.2.2.1) b3 b4 b5))))
def w109 [Alg] (N:w119T) (g0:(List UInt8)) (g1:Int) (g2:Bool):O:=w109G N  g0 g1 g2
noncomputable def w109h [Alg] (_:w119T):Hint:=(.seq .d (.seq .d (.seq .d (.seq .d (.seq (.seq .d (.cond (.seq (.reg [] [] [[],[],[50],[],[],[100]]) .d) .d)) .d)))))
theorem w109hk (N:w119T):HintOk (w109c N) Tryd.f109.ntmps (w109h N) w109b:=hk_of _ _ (And.intro trivial (And.intro trivial (And.intro trivial (And.intro trivial (And.intro (And.intro trivial (And.intro (And.intro trivial trivial) trivial)) trivial)))))
theorem w109q [Alg] (N:w119T) (g0:(List UInt8)) (g1:Int) (g2:Bool):w109G N  g0 g1 g2=exec (w109c N) Tryd.f109.ntmps (w109h N) w109b ⟨argT 0 [.ref 50 0],[(50,.box 84 [.e .tx g0,.e (.i .i64) g1,.e .bo g2])],100⟩ (finX (w109c N) Tryd.f109 false):=by kernel_rfl
theorem w109does {N:w119T} (hc:CxOk (w109c N)) {g0:(List UInt8)} {g1:Int} {g2:Bool} {r:Res} (h:w109 N g0 g1 g2=some r):DoesR Tryd.prog 109 (([.ref 50 0]:List X).map X.D) (HA [(50,.box 84 [.e .tx g0,.e (.i .i64) g1,.e .bo g2])]) r:=
 fun_ok hc (f:=109) (fn:=Tryd.f109) (code:=w109b) (by kernel_rfl) (by kernel_rfl) (w109hk N) (Nat.le_of_ble_eq_true (by kernel_rfl)) (ow:=false) ((w109q N g0 g1 g2).symm.trans (by exact h))
def w109un (r:Res):Option (Int×Int×(List Ex)×(List UInt8)×Int×Bool):=match r with
 | (.agg [x0,x1,x2],[(50,.box 84 [x3,x4,x5])])=>(match ue (.i .i64) x0,ue (.i .i64) x1,ue (.sl .ex) x2,ue .tx x3,ue (.i .i64) x4,ue .bo x5 with | some a0,some a1,some a2,some a3,some a4,some a5=>some (a0,a1,a2,a3,a4,a5) | _,_,_,_,_,_=>none)
 | _=>none
theorem w109uo {r:Res} {d:Int×Int×(List Ex)×(List UInt8)×Int×Bool} (h:w109un r=some d):r=w109r0 (d.1) (d.2.1) (d.2.2.1) (d.2.2.2.1) (d.2.2.2.2.1) (d.2.2.2.2.2):=by
 unfold w109un at h
 split at h
 ·split at h
  ·rename_i h0 h1 h2 h3 h4 h5;cases h;rw [ue_some h0,ue_some h1,ue_some h2,ue_some h3,ue_some h4,ue_some h5];rfl
  ·cases h
 ·cases h
def w109z (N:w119T) (g0:(List UInt8)) (g1:Int) (g2:Bool):Option (Int×Int×(List Ex)×(List UInt8)×Int×Bool):=(w109 N g0 g1 g2).bind w109un
theorem w109fin {N:w119T} (hc:CxOk (w109c N)) {g0:(List UInt8)} {g1:Int} {g2:Bool} {d:Int×Int×(List Ex)×(List UInt8)×Int×Bool} (hd:w109z N g0 g1 g2=some d):Does Tryd.prog 109 (([.ref 50 0]:List X).map X.D) (HA [(50,.box 84 [.e .tx g0,.e (.i .i64) g1,.e .bo g2])]) (w109r0 (d.1) (d.2.1) (d.2.2.1) (d.2.2.2.1) (d.2.2.2.2.1) (d.2.2.2.2.2)).1.D (HA (w109r0 (d.1) (d.2.1) (d.2.2.1) (d.2.2.2.1) (d.2.2.2.2.1) (d.2.2.2.2.2)).2):=by
 obtain ⟨r,hr,hu⟩:=Option.bind_eq_some_iff.1 hd
 have:=w109does hc hr
 rw [w109uo hu] at this
 exact this
noncomputable def w90L (N:w119T):List (Nat×Ent'):=[(119,w119E N),(109,w109E N),(90,w90E N),(61,w61E N),(62,w62e N.1)]
noncomputable def w90c (N:w119T):Cx:=⟨Tryd.prog,25,w90L N,[]⟩
noncomputable def w90b:Code:=Tryd.f90.body.getD .skip
theorem w90cx (N:w119T) (hw119:EOk Tryd.prog 119 (w119E N)) (hw109:EOk Tryd.prog 109 (w109E N)) (hw90:EOk Tryd.prog 90 (w90E N)) (hw61:EOk Tryd.prog 61 (w61E N)):CxOk (w90c N):=ctx_ok (by kernel_rfl) (.cons (by kernel_rfl) hw119 (.cons (by kernel_rfl) hw109 (.cons (by kernel_rfl) hw90 (.cons (by kernel_rfl) hw61 (.cons (by kernel_rfl) (w62ok N.1) .nil))))) .nil
def w90F0 [Alg] (N:w119T)  (self:(List UInt8)→Int→Bool→Int→Int→(List Ex)→O) (k0:(List UInt8)→Int→Bool→Int→Int→Int→Int→(List Ex)→O) (x0_3 x0_4:Int) (x0_0:(List UInt8)) (x0_1:Int) (x0_2:Bool) (x0_5 x0_6:Int) (x0_7:(List Ex)):O:=
 let b3:=w62y1 N.1 (42:UInt8) x0_0 x0_1 x0_2
 let b4:=w62y2 N.1 (42:UInt8) x0_0 x0_1 x0_2
 let b5:=w62y3 N.1 (42:UInt8) x0_0 x0_1 x0_2
 let b0:=N.snd.snd.1 (w62y1 N.1 (47:UInt8) b3 b4 b5) (w62y2 N.1 (47:UInt8) b3 b4 b5) (w62y3 N.1 (47:UInt8) b3 b4 b5)
 let b1:=(N.snd.snd.1 b3 b4 b5).getD ((0:Int),(0:Int),[],[],(0:Int),false)
 let b2:=b0.getD ((0:Int),(0:Int),[],[],(0:Int),false)
 br (!x0_2)
  (ck (w62p N.1 (42:UInt8) x0_0 x0_1 x0_2) <|
  br (w62y0 N.1 (42:UInt8) x0_0 x0_1 x0_2)
   (ck ((N.snd.snd.1 b3 b4 b5).isSome) <|
   self (b1.2.2.2.1) (b1.2.2.2.2.1) (b1.2.2.2.2.2) ((5:Int)) ((0:Int)) [Ex.mk x0_5 x0_6 x0_7,Ex.mk b1.1 b1.2.1 b1.2.2.1])
   (ck (w62p N.1 (47:UInt8) b3 b4 b5) <|
   br (w62y0 N.1 (47:UInt8) b3 b4 b5)
    (ck (b0.isSome) <|
    self (b2.2.2.2.1) (b2.2.2.2.2.1) (b2.2.2.2.2.2) ((6:Int)) ((0:Int)) [Ex.mk x0_5 x0_6 x0_7,Ex.mk b2.1 b2.2.1 b2.2.2.1])
    (k0 (w62y1 N.1 (47:UInt8) b3 b4 b5) (w62y2 N.1 (47:UInt8) b3 b4 b5) (w62y3 N.1 (47:UInt8) b3 b4 b5) x0_3 x0_4 x0_5 x0_6 x0_7)))
  (k0 x0_0 x0_1 x0_2 x0_3 x0_4 x0_5 x0_6 x0_7)
noncomputable def w90b0:Code:=atC [1,1,0,0,0] w90b
def w90m0:Nm:=⟨[0,2,3],[],[.cv 3 2 (.sl .ex)]⟩
def w90I0 (x:(List UInt8)×Int×Bool×Int×Int×Int×Int×(List Ex)):Sg:=⟨[(0,.ref 50 0),(2,.ref 0 0),(3,.ref 1 0)],[(50,.box 84 [.e .tx x.1,.e (.i .i64) x.2.1,.e .bo x.2.2.1]),(0,.box 25 [.e (.i .i64) x.2.2.2.1,.e (.i .i64) x.2.2.2.2.1,.nilS]),(1,.box 25 [.e (.i .i64) x.2.2.2.2.2.1,.e (.i .i64) x.2.2.2.2.2.2.1,.e (.sl .ex) x.2.2.2.2.2.2.2])],100⟩
def w90u0 (σ:Sg):(List UInt8)×Int×Bool×Int×Int×Int×Int×(List Ex):=(lvH .tx 50 0 σ,lvH (.i .i64) 50 1 σ,lvH .bo 50 2 σ,lvH (.i .i64) 0 0 σ,lvH (.i .i64) 0 1 σ,lvH (.i .i64) 1 0 σ,lvH (.i .i64) 1 1 σ,lvH (.sl .ex) 1 2 σ)
theorem w90ui0:∀ x,w90u0 (w90I0 x)=x:=fun _=>by kernel_rfl
def w90X0_0 (y:(List UInt8)×Int×Bool×Int×Int×Int×Int×(List Ex)):Exit×Sg:=((.exit 0),⟨[(2,.ref 0 0),(3,.ref 1 0)],[(50,.box 84 [.e .tx y.1,.e (.i .i64) y.2.1,.e .bo y.2.2.1]),(0,.box 25 [.e (.i .i64) y.2.2.2.1,.e (.i .i64) y.2.2.2.2.1,.nilS]),(1,.box 25 [.e (.i .i64) y.2.2.2.2.2.1,.e (.i .i64) y.2.2.2.2.2.2.1,.e (.sl .ex) y.2.2.2.2.2.2.2])],100⟩)
def w90v0_0 (_:Exit) (σ:Sg):(List UInt8)×Int×Bool×Int×Int×Int×Int×(List Ex):=(lvH .tx 50 0 σ,lvH (.i .i64) 50 1 σ,lvH .bo 50 2 σ,lvH (.i .i64) 0 0 σ,lvH (.i .i64) 0 1 σ,lvH (.i .i64) 1 0 σ,lvH (.i .i64) 1 1 σ,lvH (.sl .ex) 1 2 σ)
def w90w0:List (Exit×Nm):=[((.exit 0),⟨[2,3],[],[]⟩)]
theorem w90o0:Outs w90v0_0 (fun _ _=>()) (fun _ _=>()) w90X0_0 (noX 1) (noX 2) (exC (.exit 0)) (exC (.goto 1)) (exC (.goto 2)):=⟨fun _=>by kernel_rfl,fun _=>by kernel_rfl,fun _=>by kernel_rfl,fun _=>by kernel_rfl,fun _=>by kernel_rfl,fun _=>by kernel_rfl,exNe_ok (by kernel_rfl),exNe_ok (by kernel_rfl),exNe_ok (by kernel_rfl)⟩
def w90l0 [Alg] (N:w119T):Nat→((List UInt8)×Int×Bool×Int×Int×Int×Int×(List Ex))→(((List UInt8)×Int×Bool×Int×Int×Int×Int×(List Ex))→O)→((Unit)→O)→((Unit)→O)→O
 | 0,_,_,_,_=>none
 | n+1,x,k0,k1,k2=>w90F0 N  (fun v0 v1 v2 v3 v4 v5=>w90l0 N n (v0,v1,v2,x.2.2.2.1,x.2.2.2.2.1,v3,v4,v5) k0 k1 k2) (fun y0 y1 y2 y3 y4 y5 y6 y7=>k0 (y0,y1,y2,y3,y4,y5,y6,y7)) x.2.2.2.1 x.2.2.2.2.1 x.1 x.2.1 x.2.2.1 x.2.2.2.2.2.1 x.2.2.2.2.2.2.1 x.2.2.2.2.2.2.2
def w90n0 [Alg] (N:w119T) (a0:(List UInt8)) (a1:Int) (a2:Bool) (a3 a4 a5 a6:Int) (a7:(List Ex)) (k0:(List UInt8)→Int→Bool→Int→Int→Int→Int→(List Ex)→O):O:=w90l0 N N.1 (a0,a1,a2,a3,a4,a5,a6,a7) (fun y=>k0 y.1 y.2.1 y.2.2.1 y.2.2.2.1 y.2.2.2.2.1 y.2.2.2.2.2.1 y.2.2.2.2.2.2.1 y.2.2.2.2.2.2.2) (fun _=>none) (fun _=>none)
noncomputable def w90s0 [Alg] (N:w119T) (a0:(List UInt8)) (a1:Int) (a2:Bool) (a3 a4 a5 a6:Int) (a7:(List Ex)) (k0:(List UInt8)→Int→Bool→Int→Int→Int→Int→(List Ex)→O):O:=subL w90I0 w90u0 (w90l0 N N.1) (w90I0 (a0,a1,a2,a3,a4,a5,a6,a7)) (fun y=>k0 y.1 y.2.1 y.2.2.1 y.2.2.2.1 y.2.2.2.2.1 y.2.2.2.2.2.1 y.2.2.2.2.2.2.1 y.2.2.2.2.2.2.2) (fun _=>none) (fun _=>none)
theorem w90e0 [Alg] (N:w119T):w90s0 N=w90n0 N:=funext fun _=>funext fun _=>funext fun _=>funext fun _=>funext fun _=>funext fun _=>funext fun _=>funext fun _=>funext fun _=>subL_I w90ui0 _ _ _ _
noncomputable def w90h0 [Alg] (_:w119T):Hint:=(.seq .d (.block (.seq .d (.seq .d (.reg [] [] [[],[],[],[50],[],[],[1]])))))
theorem w90hk0 (N:w119T):HintOk (w90c N) Tryd.f90.ntmps (w90h0 N) w90b0:=hk_of _ _ (And.intro trivial (And.intro trivial (And.intro trivial trivial)))
theorem w90q0 [Alg] (N:w119T) (self:Sg→O) (K:Exit→Sg→O) (x:(List UInt8)×Int×Bool×Int×Int×Int×Int×(List Ex)):w90F0 N  (fun v0 v1 v2 v3 v4 v5=>self (w90I0 (v0,v1,v2,x.2.2.2.1,x.2.2.2.2.1,v3,v4,v5))) (fun y0 y1 y2 y3 y4 y5 y6 y7=>K (w90X0_0 (y0,y1,y2,y3,y4,y5,y6,y7)).1 (w90X0_0 (y0,y1,y2,y3,y4,y5,y6,y7)).2) x.2.2.2.1 x.2.2.2.2.1 x.1 x.2.1 x.2.2.1 x.2.2.2.2.2.1 x.2.2.2.2.2.2.1 x.2.2.2.2.2.2.2=exec (w90c N) Tryd.f90.ntmps (w90h0 N) w90b0 (w90I0 x) (roundX w90m0 w90w0 self K):=by kernel_rfl
theorem w90S0 (N:w119T) (hc:CxOk (w90c N)):SubOk (w90c N) Tryd.f90.ntmps (.loop w90b0) w90X0_0 (noX 1) (noX 2) (subL w90I0 w90u0 (w90l0 N N.1)):=
 sub_loop hc (w90hk0 N) w90o0 (n:=N.1) (fun x K=>loop_ind (w90l0 N) (fun _ _ _ _=>rfl) (fun n K ih x=>by
  have h:w90F0 N  (fun v0 v1 v2 v3 v4 v5=>w90l0 N n (v0,v1,v2,x.2.2.2.1,x.2.2.2.2.1,v3,v4,v5) (fun y=>K (w90X0_0 y).1 (w90X0_0 y).2) (fun y=>K ((noX 1) y).1 ((noX 1) y).2) (fun y=>K ((noX 2) y).1 ((noX 2) y).2)) (fun y0 y1 y2 y3 y4 y5 y6 y7=>K (w90X0_0 (y0,y1,y2,y3,y4,y5,y6,y7)).1 (w90X0_0 (y0,y1,y2,y3,y4,y5,y6,y7)).2) x.2.2.2.1 x.2.2.2.2.1 x.1 x.2.1 x.2.2.1 x.2.2.2.2.2.1 x.2.2.2.2.2.2.1 x.2.2.2.2.2.2.2=w90F0 N  (fun v0 v1 v2 v3 v4 v5=>loopX (w90c N) Tryd.f90.ntmps (w90h0 N) w90b0 w90m0 w90w0 n (w90I0 (v0,v1,v2,x.2.2.2.1,x.2.2.2.2.1,v3,v4,v5)) K) (fun y0 y1 y2 y3 y4 y5 y6 y7=>K (w90X0_0 (y0,y1,y2,y3,y4,y5,y6,y7)).1 (w90X0_0 (y0,y1,y2,y3,y4,y5,y6,y7)).2) x.2.2.2.1 x.2.2.2.2.1 x.1 x.2.1 x.2.2.1 x.2.2.2.2.2.1 x.2.2.2.2.2.2.1 x.2.2.2.2.2.2.2:=by rw [ show (fun v0 v1 v2 v3 v4 v5=>w90l0 N n (v0,v1,v2,x.2.2.2.1,x.2.2.2.2.1,v3,v4,v5) (fun y=>K (w90X0_0 y).1 (w90X0_0 y).2) (fun y=>K ((noX 1) y).1 ((noX 1) y).2) (fun y=>K ((noX 2) y).1 ((noX 2) y).2))=(fun v0 v1 v2 v3 v4 v5=>loopX (w90c N) Tryd.f90.ntmps (w90h0 N) w90b0 w90m0 w90w0 n (w90I0 (v0,v1,v2,x.2.2.2.1,x.2.2.2.2.1,v3,v4,v5)) K) from funext fun _=>funext fun _=>funext fun _=>funext fun _=>funext fun _=>funext fun _=>ih _]
  exact h.trans (w90q0 N (fun σ=>loopX (w90c N) Tryd.f90.ntmps (w90h0 N) w90b0 w90m0 w90w0 n σ K) K x)) N.1 x K)
def w90G [Alg] (N:w119T) (in0:(List UInt8)→Int→Bool→Int→Int→Int→Int→(List Ex)→((List UInt8)→Int→Bool→Int→Int→Int→Int→(List Ex)→O)→O) (g0:(List UInt8)) (g1:Int) (g2:Bool):O:=
 let b0:=(N.snd.snd.1 g0 g1 g2).getD ((0:Int),(0:Int),[],[],(0:Int),false)
 ck ((N.snd.snd.1 g0 g1 g2).isSome) <|
 in0 (b0.2.2.2.1) (b0.2.2.2.2.1) (b0.2.2.2.2.2) ((0:Int)) ((0:Int)) (b0.1) (b0.2.1) (b0.2.2.1)
  (fun z1 z2 z3 _ _ z6 z7 z8=>
   some (w90r0 (z6) (z7) (z8) z1 z2 z3))
def w90 [Alg] (N:w119T) (g0:(List UInt8)) (g1:Int) (g2:Bool):O:=w90G N (w90n0 N) g0 g1 g2
noncomputable def w90h [Alg] (N:w119T):Hint:=(.seq .d (.seq .d (.seq (.block (.sub w90m0 _ _ _ w90X0_0 (noX 1) (noX 2) (subL w90I0 w90u0 (w90l0 N N.1)))) .d)))
theorem w90hk (N:w119T) (hc:CxOk (w90c N)):HintOk (w90c N) Tryd.f90.ntmps (w90h N) w90b:=hk_of _ _ (And.intro trivial (And.intro trivial (And.intro (w90S0 N hc) trivial)))
theorem w90q [Alg] (N:w119T) (g0:(List UInt8)) (g1:Int) (g2:Bool):w90G N (w90s0 N) g0 g1 g2=exec (w90c N) Tryd.f90.ntmps (w90h N) w90b ⟨argT 0 [.ref 50 0],[(50,.box 84 [.e .tx g0,.e (.i .i64) g1,.e .bo g2])],100⟩ (finX (w90c N) Tryd.f90 false):=by kernel_rfl
theorem w90does {N:w119T} (hc:CxOk (w90c N)) {g0:(List UInt8)} {g1:Int} {g2:Bool} {r:Res} (h:w90 N g0 g1 g2=some r):DoesR Tryd.prog 90 (([.ref 50 0]:List X).map X.D) (HA [(50,.box 84 [.e .tx g0,.e (.i .i64) g1,.e .bo g2])]) r:=
 fun_ok hc (f:=90) (fn:=Tryd.f90) (code:=w90b) (by kernel_rfl) (by kernel_rfl) (w90hk N hc) (Nat.le_of_ble_eq_true (by kernel_rfl)) (ow:=false) ((w90q N g0 g1 g2).symm.trans (by rw [w90e0 N];exact h))
def w90un (r:Res):Option (Int×Int×(List Ex)×(List UInt8)×Int×Bool):=match r with
 | (.agg [x0,x1,x2],[(50,.box 84 [x3,x4,x5])])=>(match ue (.i .i64) x0,ue (.i .i64) x1,ue (.sl .ex) x2,ue .tx x3,ue (.i .i64) x4,ue .bo x5 with | some a0,some a1,some a2,some a3,some a4,some a5=>some (a0,a1,a2,a3,a4,a5) | _,_,_,_,_,_=>none)
 | _=>none
theorem w90uo {r:Res} {d:Int×Int×(List Ex)×(List UInt8)×Int×Bool} (h:w90un r=some d):r=w90r0 (d.1) (d.2.1) (d.2.2.1) (d.2.2.2.1) (d.2.2.2.2.1) (d.2.2.2.2.2):=by
 unfold w90un at h
 split at h
 ·split at h
  ·rename_i h0 h1 h2 h3 h4 h5;cases h;rw [ue_some h0,ue_some h1,ue_some h2,ue_some h3,ue_some h4,ue_some h5];rfl
  ·cases h
 ·cases h
def w90z (N:w119T) (g0:(List UInt8)) (g1:Int) (g2:Bool):Option (Int×Int×(List Ex)×(List UInt8)×Int×Bool):=(w90 N g0 g1 g2).bind w90un
theorem w90fin {N:w119T} (hc:CxOk (w90c N)) {g0:(List UInt8)} {g1:Int} {g2:Bool} {d:Int×Int×(List Ex)×(List UInt8)×Int×Bool} (hd:w90z N g0 g1 g2=some d):Does Tryd.prog 90 (([.ref 50 0]:List X).map X.D) (HA [(50,.box 84 [.e .tx g0,.e (.i .i64) g1,.e .bo g2])]) (w90r0 (d.1) (d.2.1) (d.2.2.1) (d.2.2.2.1) (d.2.2.2.2.1) (d.2.2.2.2.2)).1.D (HA (w90r0 (d.1) (d.2.1) (d.2.2.1) (d.2.2.2.1) (d.2.2.2.2.1) (d.2.2.2.2.2)).2):=by
 obtain ⟨r,hr,hu⟩:=Option.bind_eq_some_iff.1 hd
 have:=w90does hc hr
 rw [w90uo hu] at this
 exact this
noncomputable def w61L (N:w119T):List (Nat×Ent'):=[(119,w119E N),(109,w109E N),(90,w90E N),(61,w61E N),(62,w62e N.1)]
noncomputable def w61c (N:w119T):Cx:=⟨Tryd.prog,25,w61L N,[]⟩
noncomputable def w61b:Code:=Tryd.f61.body.getD .skip
theorem w61cx (N:w119T) (hw119:EOk Tryd.prog 119 (w119E N)) (hw109:EOk Tryd.prog 109 (w109E N)) (hw90:EOk Tryd.prog 90 (w90E N)) (hw61:EOk Tryd.prog 61 (w61E N)):CxOk (w61c N):=ctx_ok (by kernel_rfl) (.cons (by kernel_rfl) hw119 (.cons (by kernel_rfl) hw109 (.cons (by kernel_rfl) hw90 (.cons (by kernel_rfl) hw61 (.cons (by kernel_rfl) (w62ok N.1) .nil))))) .nil
def w61F0 [Alg] (N:w119T)  (self:(List UInt8)→Int→Bool→Int→Int→(List Ex)→O) (k0:(List UInt8)→Int→Bool→Int→Int→Int→Int→(List Ex)→O) (x0_3 x0_4:Int) (x0_0:(List UInt8)) (x0_1:Int) (x0_2:Bool) (x0_5 x0_6:Int) (x0_7:(List Ex)):O:=
 let b3:=w62y1 N.1 (43:UInt8) x0_0 x0_1 x0_2
 let b4:=w62y2 N.1 (43:UInt8) x0_0 x0_1 x0_2
 let b5:=w62y3 N.1 (43:UInt8) x0_0 x0_1 x0_2
 let b0:=N.snd.snd.snd.1 (w62y1 N.1 (45:UInt8) b3 b4 b5) (w62y2 N.1 (45:UInt8) b3 b4 b5) (w62y3 N.1 (45:UInt8) b3 b4 b5)
 let b1:=(N.snd.snd.snd.1 b3 b4 b5).getD ((0:Int),(0:Int),[],[],(0:Int),false)
 let b2:=b0.getD ((0:Int),(0:Int),[],[],(0:Int),false)
 br (!x0_2)
  (ck (w62p N.1 (43:UInt8) x0_0 x0_1 x0_2) <|
  br (w62y0 N.1 (43:UInt8) x0_0 x0_1 x0_2)
   (ck ((N.snd.snd.snd.1 b3 b4 b5).isSome) <|
   self (b1.2.2.2.1) (b1.2.2.2.2.1) (b1.2.2.2.2.2) ((3:Int)) ((0:Int)) [Ex.mk x0_5 x0_6 x0_7,Ex.mk b1.1 b1.2.1 b1.2.2.1])
   (ck (w62p N.1 (45:UInt8) b3 b4 b5) <|
   br (w62y0 N.1 (45:UInt8) b3 b4 b5)
    (ck (b0.isSome) <|
    self (b2.2.2.2.1) (b2.2.2.2.2.1) (b2.2.2.2.2.2) ((4:Int)) ((0:Int)) [Ex.mk x0_5 x0_6 x0_7,Ex.mk b2.1 b2.2.1 b2.2.2.1])
    (k0 (w62y1 N.1 (45:UInt8) b3 b4 b5) (w62y2 N.1 (45:UInt8) b3 b4 b5) (w62y3 N.1 (45:UInt8) b3 b4 b5) x0_3 x0_4 x0_5 x0_6 x0_7)))
  (k0 x0_0 x0_1 x0_2 x0_3 x0_4 x0_5 x0_6 x0_7)
noncomputable def w61b0:Code:=atC [1,1,0,0,0] w61b
def w61m0:Nm:=⟨[0,2,3],[],[.cv 3 2 (.sl .ex)]⟩
def w61I0 (x:(List UInt8)×Int×Bool×Int×Int×Int×Int×(List Ex)):Sg:=⟨[(0,.ref 50 0),(2,.ref 0 0),(3,.ref 1 0)],[(50,.box 84 [.e .tx x.1,.e (.i .i64) x.2.1,.e .bo x.2.2.1]),(0,.box 25 [.e (.i .i64) x.2.2.2.1,.e (.i .i64) x.2.2.2.2.1,.nilS]),(1,.box 25 [.e (.i .i64) x.2.2.2.2.2.1,.e (.i .i64) x.2.2.2.2.2.2.1,.e (.sl .ex) x.2.2.2.2.2.2.2])],100⟩
def w61u0 (σ:Sg):(List UInt8)×Int×Bool×Int×Int×Int×Int×(List Ex):=(lvH .tx 50 0 σ,lvH (.i .i64) 50 1 σ,lvH .bo 50 2 σ,lvH (.i .i64) 0 0 σ,lvH (.i .i64) 0 1 σ,lvH (.i .i64) 1 0 σ,lvH (.i .i64) 1 1 σ,lvH (.sl .ex) 1 2 σ)
theorem w61ui0:∀ x,w61u0 (w61I0 x)=x:=fun _=>by kernel_rfl
def w61X0_0 (y:(List UInt8)×Int×Bool×Int×Int×Int×Int×(List Ex)):Exit×Sg:=((.exit 0),⟨[(2,.ref 0 0),(3,.ref 1 0)],[(50,.box 84 [.e .tx y.1,.e (.i .i64) y.2.1,.e .bo y.2.2.1]),(0,.box 25 [.e (.i .i64) y.2.2.2.1,.e (.i .i64) y.2.2.2.2.1,.nilS]),(1,.box 25 [.e (.i .i64) y.2.2.2.2.2.1,.e (.i .i64) y.2.2.2.2.2.2.1,.e (.sl .ex) y.2.2.2.2.2.2.2])],100⟩)
def w61v0_0 (_:Exit) (σ:Sg):(List UInt8)×Int×Bool×Int×Int×Int×Int×(List Ex):=(lvH .tx 50 0 σ,lvH (.i .i64) 50 1 σ,lvH .bo 50 2 σ,lvH (.i .i64) 0 0 σ,lvH (.i .i64) 0 1 σ,lvH (.i .i64) 1 0 σ,lvH (.i .i64) 1 1 σ,lvH (.sl .ex) 1 2 σ)
def w61w0:List (Exit×Nm):=[((.exit 0),⟨[2,3],[],[]⟩)]
theorem w61o0:Outs w61v0_0 (fun _ _=>()) (fun _ _=>()) w61X0_0 (noX 1) (noX 2) (exC (.exit 0)) (exC (.goto 1)) (exC (.goto 2)):=⟨fun _=>by kernel_rfl,fun _=>by kernel_rfl,fun _=>by kernel_rfl,fun _=>by kernel_rfl,fun _=>by kernel_rfl,fun _=>by kernel_rfl,exNe_ok (by kernel_rfl),exNe_ok (by kernel_rfl),exNe_ok (by kernel_rfl)⟩
def w61l0 [Alg] (N:w119T):Nat→((List UInt8)×Int×Bool×Int×Int×Int×Int×(List Ex))→(((List UInt8)×Int×Bool×Int×Int×Int×Int×(List Ex))→O)→((Unit)→O)→((Unit)→O)→O
 | 0,_,_,_,_=>none
 | n+1,x,k0,k1,k2=>w61F0 N  (fun v0 v1 v2 v3 v4 v5=>w61l0 N n (v0,v1,v2,x.2.2.2.1,x.2.2.2.2.1,v3,v4,v5) k0 k1 k2) (fun y0 y1 y2 y3 y4 y5 y6 y7=>k0 (y0,y1,y2,y3,y4,y5,y6,y7)) x.2.2.2.1 x.2.2.2.2.1 x.1 x.2.1 x.2.2.1 x.2.2.2.2.2.1 x.2.2.2.2.2.2.1 x.2.2.2.2.2.2.2
def w61n0 [Alg] (N:w119T) (a0:(List UInt8)) (a1:Int) (a2:Bool) (a3 a4 a5 a6:Int) (a7:(List Ex)) (k0:(List UInt8)→Int→Bool→Int→Int→Int→Int→(List Ex)→O):O:=w61l0 N N.1 (a0,a1,a2,a3,a4,a5,a6,a7) (fun y=>k0 y.1 y.2.1 y.2.2.1 y.2.2.2.1 y.2.2.2.2.1 y.2.2.2.2.2.1 y.2.2.2.2.2.2.1 y.2.2.2.2.2.2.2) (fun _=>none) (fun _=>none)
noncomputable def w61s0 [Alg] (N:w119T) (a0:(List UInt8)) (a1:Int) (a2:Bool) (a3 a4 a5 a6:Int) (a7:(List Ex)) (k0:(List UInt8)→Int→Bool→Int→Int→Int→Int→(List Ex)→O):O:=subL w61I0 w61u0 (w61l0 N N.1) (w61I0 (a0,a1,a2,a3,a4,a5,a6,a7)) (fun y=>k0 y.1 y.2.1 y.2.2.1 y.2.2.2.1 y.2.2.2.2.1 y.2.2.2.2.2.1 y.2.2.2.2.2.2.1 y.2.2.2.2.2.2.2) (fun _=>none) (fun _=>none)
theorem w61e0 [Alg] (N:w119T):w61s0 N=w61n0 N:=funext fun _=>funext fun _=>funext fun _=>funext fun _=>funext fun _=>funext fun _=>funext fun _=>funext fun _=>funext fun _=>subL_I w61ui0 _ _ _ _
noncomputable def w61h0 [Alg] (_:w119T):Hint:=(.seq .d (.block (.seq .d (.seq .d (.reg [] [] [[],[],[],[50],[],[],[1]])))))
theorem w61hk0 (N:w119T):HintOk (w61c N) Tryd.f61.ntmps (w61h0 N) w61b0:=hk_of _ _ (And.intro trivial (And.intro trivial (And.intro trivial trivial)))
theorem w61q0 [Alg] (N:w119T) (self:Sg→O) (K:Exit→Sg→O) (x:(List UInt8)×Int×Bool×Int×Int×Int×Int×(List Ex)):w61F0 N  (fun v0 v1 v2 v3 v4 v5=>self (w61I0 (v0,v1,v2,x.2.2.2.1,x.2.2.2.2.1,v3,v4,v5))) (fun y0 y1 y2 y3 y4 y5 y6 y7=>K (w61X0_0 (y0,y1,y2,y3,y4,y5,y6,y7)).1 (w61X0_0 (y0,y1,y2,y3,y4,y5,y6,y7)).2) x.2.2.2.1 x.2.2.2.2.1 x.1 x.2.1 x.2.2.1 x.2.2.2.2.2.1 x.2.2.2.2.2.2.1 x.2.2.2.2.2.2.2=exec (w61c N) Tryd.f61.ntmps (w61h0 N) w61b0 (w61I0 x) (roundX w61m0 w61w0 self K):=by kernel_rfl
theorem w61S0 (N:w119T) (hc:CxOk (w61c N)):SubOk (w61c N) Tryd.f61.ntmps (.loop w61b0) w61X0_0 (noX 1) (noX 2) (subL w61I0 w61u0 (w61l0 N N.1)):=
 sub_loop hc (w61hk0 N) w61o0 (n:=N.1) (fun x K=>loop_ind (w61l0 N) (fun _ _ _ _=>rfl) (fun n K ih x=>by
  have h:w61F0 N  (fun v0 v1 v2 v3 v4 v5=>w61l0 N n (v0,v1,v2,x.2.2.2.1,x.2.2.2.2.1,v3,v4,v5) (fun y=>K (w61X0_0 y).1 (w61X0_0 y).2) (fun y=>K ((noX 1) y).1 ((noX 1) y).2) (fun y=>K ((noX 2) y).1 ((noX 2) y).2)) (fun y0 y1 y2 y3 y4 y5 y6 y7=>K (w61X0_0 (y0,y1,y2,y3,y4,y5,y6,y7)).1 (w61X0_0 (y0,y1,y2,y3,y4,y5,y6,y7)).2) x.2.2.2.1 x.2.2.2.2.1 x.1 x.2.1 x.2.2.1 x.2.2.2.2.2.1 x.2.2.2.2.2.2.1 x.2.2.2.2.2.2.2=w61F0 N  (fun v0 v1 v2 v3 v4 v5=>loopX (w61c N) Tryd.f61.ntmps (w61h0 N) w61b0 w61m0 w61w0 n (w61I0 (v0,v1,v2,x.2.2.2.1,x.2.2.2.2.1,v3,v4,v5)) K) (fun y0 y1 y2 y3 y4 y5 y6 y7=>K (w61X0_0 (y0,y1,y2,y3,y4,y5,y6,y7)).1 (w61X0_0 (y0,y1,y2,y3,y4,y5,y6,y7)).2) x.2.2.2.1 x.2.2.2.2.1 x.1 x.2.1 x.2.2.1 x.2.2.2.2.2.1 x.2.2.2.2.2.2.1 x.2.2.2.2.2.2.2:=by rw [ show (fun v0 v1 v2 v3 v4 v5=>w61l0 N n (v0,v1,v2,x.2.2.2.1,x.2.2.2.2.1,v3,v4,v5) (fun y=>K (w61X0_0 y).1 (w61X0_0 y).2) (fun y=>K ((noX 1) y).1 ((noX 1) y).2) (fun y=>K ((noX 2) y).1 ((noX 2) y).2))=(fun v0 v1 v2 v3 v4 v5=>loopX (w61c N) Tryd.f61.ntmps (w61h0 N) w61b0 w61m0 w61w0 n (w61I0 (v0,v1,v2,x.2.2.2.1,x.2.2.2.2.1,v3,v4,v5)) K) from funext fun _=>funext fun _=>funext fun _=>funext fun _=>funext fun _=>funext fun _=>ih _]
  exact h.trans (w61q0 N (fun σ=>loopX (w61c N) Tryd.f61.ntmps (w61h0 N) w61b0 w61m0 w61w0 n σ K) K x)) N.1 x K)
def w61G [Alg] (N:w119T) (in0:(List UInt8)→Int→Bool→Int→Int→Int→Int→(List Ex)→((List UInt8)→Int→Bool→Int→Int→Int→Int→(List Ex)→O)→O) (g0:(List UInt8)) (g1:Int) (g2:Bool):O:=
 let b0:=(N.snd.snd.snd.1 g0 g1 g2).getD ((0:Int),(0:Int),[],[],(0:Int),false)
 ck ((N.snd.snd.snd.1 g0 g1 g2).isSome) <|
 in0 (b0.2.2.2.1) (b0.2.2.2.2.1) (b0.2.2.2.2.2) ((0:Int)) ((0:Int)) (b0.1) (b0.2.1) (b0.2.2.1)
  (fun z1 z2 z3 _ _ z6 z7 z8=>
   some (w61r0 (z6) (z7) (z8) z1 z2 z3))
def w61 [Alg] (N:w119T) (g0:(List UInt8)) (g1:Int) (g2:Bool):O:=w61G N (w61n0 N) g0 g1 g2
noncomputable def w61h [Alg] (N:w119T):Hint:=(.seq .d (.seq .d (.seq (.block (.sub w61m0 _ _ _ w61X0_0 (noX 1) (noX 2) (subL w61I0 w61u0 (w61l0 N N.1)))) .d)))
theorem w61hk (N:w119T) (hc:CxOk (w61c N)):HintOk (w61c N) Tryd.f61.ntmps (w61h N) w61b:=hk_of _ _ (And.intro trivial (And.intro trivial (And.intro (w61S0 N hc) trivial)))
theorem w61q [Alg] (N:w119T) (g0:(List UInt8)) (g1:Int) (g2:Bool):w61G N (w61s0 N) g0 g1 g2=exec (w61c N) Tryd.f61.ntmps (w61h N) w61b ⟨argT 0 [.ref 50 0],[(50,.box 84 [.e .tx g0,.e (.i .i64) g1,.e .bo g2])],100⟩ (finX (w61c N) Tryd.f61 false):=by kernel_rfl
theorem w61does {N:w119T} (hc:CxOk (w61c N)) {g0:(List UInt8)} {g1:Int} {g2:Bool} {r:Res} (h:w61 N g0 g1 g2=some r):DoesR Tryd.prog 61 (([.ref 50 0]:List X).map X.D) (HA [(50,.box 84 [.e .tx g0,.e (.i .i64) g1,.e .bo g2])]) r:=
 fun_ok hc (f:=61) (fn:=Tryd.f61) (code:=w61b) (by kernel_rfl) (by kernel_rfl) (w61hk N hc) (Nat.le_of_ble_eq_true (by kernel_rfl)) (ow:=false) ((w61q N g0 g1 g2).symm.trans (by rw [w61e0 N];exact h))
def w61un (r:Res):Option (Int×Int×(List Ex)×(List UInt8)×Int×Bool):=match r with
 | (.agg [x0,x1,x2],[(50,.box 84 [x3,x4,x5])])=>(match ue (.i .i64) x0,ue (.i .i64) x1,ue (.sl .ex) x2,ue .tx x3,ue (.i .i64) x4,ue .bo x5 with | some a0,some a1,some a2,some a3,some a4,some a5=>some (a0,a1,a2,a3,a4,a5) | _,_,_,_,_,_=>none)
 | _=>none
theorem w61uo {r:Res} {d:Int×Int×(List Ex)×(List UInt8)×Int×Bool} (h:w61un r=some d):r=w61r0 (d.1) (d.2.1) (d.2.2.1) (d.2.2.2.1) (d.2.2.2.2.1) (d.2.2.2.2.2):=by
 unfold w61un at h
 split at h
 ·split at h
  ·rename_i h0 h1 h2 h3 h4 h5;cases h;rw [ue_some h0,ue_some h1,ue_some h2,ue_some h3,ue_some h4,ue_some h5];rfl
  ·cases h
 ·cases h
def w61z (N:w119T) (g0:(List UInt8)) (g1:Int) (g2:Bool):Option (Int×Int×(List Ex)×(List UInt8)×Int×Bool):=(w61 N g0 g1 g2).bind w61un
theorem w61fin {N:w119T} (hc:CxOk (w61c N)) {g0:(List UInt8)} {g1:Int} {g2:Bool} {d:Int×Int×(List Ex)×(List UInt8)×Int×Bool} (hd:w61z N g0 g1 g2=some d):Does Tryd.prog 61 (([.ref 50 0]:List X).map X.D) (HA [(50,.box 84 [.e .tx g0,.e (.i .i64) g1,.e .bo g2])]) (w61r0 (d.1) (d.2.1) (d.2.2.1) (d.2.2.2.1) (d.2.2.2.2.1) (d.2.2.2.2.2)).1.D (HA (w61r0 (d.1) (d.2.1) (d.2.2.1) (d.2.2.2.1) (d.2.2.2.2.1) (d.2.2.2.2.2)).2):=by
 obtain ⟨r,hr,hu⟩:=Option.bind_eq_some_iff.1 hd
 have:=w61does hc hr
 rw [w61uo hu] at this
 exact this
def w119gY (N:Nat):Nat→((List UInt8)→Int→Bool→Option (Int×Int×(List Ex)×(List UInt8)×Int×Bool))×((List UInt8)→Int→Bool→Option (Int×Int×(List Ex)×(List UInt8)×Int×Bool))×((List UInt8)→Int→Bool→Option (Int×Int×(List Ex)×(List UInt8)×Int×Bool))×((List UInt8)→Int→Bool→Option (Int×Int×(List Ex)×(List UInt8)×Int×Bool))
 | 0=>(fun _ _ _=>none,fun _ _ _=>none,fun _ _ _=>none,fun _ _ _=>none)
 | n+1=>(fun g0 g1 g2=>w119z (N,w119gY N n) g0 g1 g2,fun g0 g1 g2=>w109z (N,w119gY N n) g0 g1 g2,fun g0 g1 g2=>w90z (N,w119gY N n) g0 g1 g2,fun g0 g1 g2=>w61z (N,w119gY N n) g0 g1 g2)
theorem w119gYok (N:Nat):∀ n,EOk Tryd.prog 119 (w119E (N,w119gY N n))∧EOk Tryd.prog 109 (w109E (N,w119gY N n))∧EOk Tryd.prog 90 (w90E (N,w119gY N n))∧EOk Tryd.prog 61 (w61E (N,w119gY N n))
 | 0=>⟨entR_ok w119io (fun _ h=>by cases h),entR_ok w109io (fun _ h=>by cases h),entR_ok w90io (fun _ h=>by cases h),entR_ok w61io (fun _ h=>by cases h)⟩
 | n+1=>
   have ih:=w119gYok N n
   ⟨entR_ok w119io (fun d h=>norStep (zz:=w119z (N,w119gY N n) (d.1) (d.2.1) (d.2.2)) (R:=fun y=>w119r0 (y.1) (y.2.1) (y.2.2.1) (y.2.2.2.1) (y.2.2.2.2.1) (y.2.2.2.2.2)) (d0:=(0,0,[],[],0,false)) (fun _ hy=>w119fin (w119cx (N,w119gY N n) ih.1 ih.2.1 ih.2.2.1 ih.2.2.2) hy) h),entR_ok w109io (fun d h=>norStep (zz:=w109z (N,w119gY N n) (d.1) (d.2.1) (d.2.2)) (R:=fun y=>w109r0 (y.1) (y.2.1) (y.2.2.1) (y.2.2.2.1) (y.2.2.2.2.1) (y.2.2.2.2.2)) (d0:=(0,0,[],[],0,false)) (fun _ hy=>w109fin (w109cx (N,w119gY N n) ih.1 ih.2.1 ih.2.2.1 ih.2.2.2) hy) h),entR_ok w90io (fun d h=>norStep (zz:=w90z (N,w119gY N n) (d.1) (d.2.1) (d.2.2)) (R:=fun y=>w90r0 (y.1) (y.2.1) (y.2.2.1) (y.2.2.2.1) (y.2.2.2.2.1) (y.2.2.2.2.2)) (d0:=(0,0,[],[],0,false)) (fun _ hy=>w90fin (w90cx (N,w119gY N n) ih.1 ih.2.1 ih.2.2.1 ih.2.2.2) hy) h),entR_ok w61io (fun d h=>norStep (zz:=w61z (N,w119gY N n) (d.1) (d.2.1) (d.2.2)) (R:=fun y=>w61r0 (y.1) (y.2.1) (y.2.2.1) (y.2.2.2.1) (y.2.2.2.2.1) (y.2.2.2.2.2)) (d0:=(0,0,[],[],0,false)) (fun _ hy=>w61fin (w61cx (N,w119gY N n) ih.1 ih.2.1 ih.2.2.1 ih.2.2.2) hy) h)⟩
def w61p (N:Nat) (g0:(List UInt8)) (g1:Int) (g2:Bool):Bool:=((w119gY N N).2.2.2 g0 g1 g2).isSome
def w61y0 (N:Nat) (g0:(List UInt8)) (g1:Int) (g2:Bool):Int:=(((w119gY N N).2.2.2 g0 g1 g2).getD (0,0,[],[],0,false)).1
def w61y1 (N:Nat) (g0:(List UInt8)) (g1:Int) (g2:Bool):Int:=(((w119gY N N).2.2.2 g0 g1 g2).getD (0,0,[],[],0,false)).2.1
def w61y2 (N:Nat) (g0:(List UInt8)) (g1:Int) (g2:Bool):(List Ex):=(((w119gY N N).2.2.2 g0 g1 g2).getD (0,0,[],[],0,false)).2.2.1
def w61y3 (N:Nat) (g0:(List UInt8)) (g1:Int) (g2:Bool):(List UInt8):=(((w119gY N N).2.2.2 g0 g1 g2).getD (0,0,[],[],0,false)).2.2.2.1
def w61y4 (N:Nat) (g0:(List UInt8)) (g1:Int) (g2:Bool):Int:=(((w119gY N N).2.2.2 g0 g1 g2).getD (0,0,[],[],0,false)).2.2.2.2.1
def w61y5 (N:Nat) (g0:(List UInt8)) (g1:Int) (g2:Bool):Bool:=(((w119gY N N).2.2.2 g0 g1 g2).getD (0,0,[],[],0,false)).2.2.2.2.2
def w61e (N:Nat):Ent':=entR w61in (fun d=>w61p N (d.1) (d.2.1) (d.2.2)) (fun d=>w61r0 (w61y0 N (d.1) (d.2.1) (d.2.2)) (w61y1 N (d.1) (d.2.1) (d.2.2)) (w61y2 N (d.1) (d.2.1) (d.2.2)) (w61y3 N (d.1) (d.2.1) (d.2.2)) (w61y4 N (d.1) (d.2.1) (d.2.2)) (w61y5 N (d.1) (d.2.1) (d.2.2)))
theorem w61ok (N:Nat):EOk Tryd.prog 61 (w61e N):=(w119gYok N N).2.2.2
end
end Go.Proofs
/- What functions do. -/
namespace Go.Proofs
noncomputable section
open Go.Ax Go.Ax.Alg Go.RowKit Go.Ab
open Go
def w23r0 (a0 a1:Int) (a2:(List Ex)) (a3 a4:Int):Res:=(.tup [.agg [.e (.i .i64) a0,.e (.i .i64) a1,.e (.sl .ex) a2],.e (.i .i64) a3,.e (.i .i64) a4],[])
noncomputable def w23L (N:Nat):List (Nat×Ent'):=[(61,w61e N),(62,w62e N),(63,w63e N),(31,w31e N)]
noncomputable def w23c (N:Nat):Cx:=⟨Tryd.prog,25,w23L N,[]⟩
noncomputable def w23b:Code:=Tryd.f23.body.getD .skip
theorem w23cx (N:Nat):CxOk (w23c N):=ctx_ok (by kernel_rfl) (.cons (by kernel_rfl) (w61ok N) (.cons (by kernel_rfl) (w62ok N) (.cons (by kernel_rfl) (w63ok N) (.cons (by kernel_rfl) (w31ok N) .nil)))) .nil
def w23F0 [Alg] (N:Nat)   (k0:(List UInt8)→Int→Int→Int→(List UInt8)→Int→Bool→Int→Int→(List Ex)→O) (x0_0:(List UInt8)) (x0_1 x0_2 x0_3:Int) (x0_4:(List UInt8)) (x0_5:Int) (x0_6:Bool) (x0_7 x0_8:Int) (x0_9:(List Ex)):O:=
 let b0:=w62y1 N (61:UInt8) x0_4 x0_5 x0_6
 let b1:=w62y2 N (61:UInt8) x0_4 x0_5 x0_6
 let b2:=w62y3 N (61:UInt8) x0_4 x0_5 x0_6
 let b3:=w62y1 N (60:UInt8) b0 b1 b2
 let b4:=w62y2 N (60:UInt8) b0 b1 b2
 let b5:=w62y3 N (60:UInt8) b0 b1 b2
 ck (w62p N (61:UInt8) x0_4 x0_5 x0_6) <|
 br (w62y0 N (61:UInt8) x0_4 x0_5 x0_6)
  (ck (w61p N b0 b1 b2) <|
  k0 x0_0 x0_1 x0_2 x0_3 (w61y3 N b0 b1 b2) (w61y4 N b0 b1 b2) (w61y5 N b0 b1 b2) ((9:Int)) ((0:Int)) [Ex.mk x0_7 x0_8 x0_9,Ex.mk (w61y0 N b0 b1 b2) (w61y1 N b0 b1 b2) (w61y2 N b0 b1 b2)])
  (ck (w62p N (60:UInt8) b0 b1 b2) <|
  br (w62y0 N (60:UInt8) b0 b1 b2)
   (ck (w61p N b3 b4 b5) <|
   k0 x0_0 x0_1 x0_2 x0_3 (w61y3 N b3 b4 b5) (w61y4 N b3 b4 b5) (w61y5 N b3 b4 b5) ((10:Int)) ((0:Int)) [Ex.mk x0_7 x0_8 x0_9,Ex.mk (w61y0 N b3 b4 b5) (w61y1 N b3 b4 b5) (w61y2 N b3 b4 b5)])
   (k0 x0_0 x0_1 x0_2 x0_3 b3 b4 b5 x0_7 x0_8 x0_9))
noncomputable def w23b0:Code:=atC [1,1,1,1,0] w23b
def w23m0:Nm:=⟨[0,2,4,5,6],[],[]⟩
def w23I0 (x:(List UInt8)×Int×Int×Int×(List UInt8)×Int×Bool×Int×Int×(List Ex)):Sg:=⟨[(0,.e .tx x.1),(2,.ref 0 0),(4,.e (.i .i64) x.2.1),(5,.ref 1 0),(6,.ref 2 0)],[(0,.box 25 [.e (.i .i64) x.2.2.1,.e (.i .i64) x.2.2.2.1,.nilS]),(1,.box 84 [.e .tx x.2.2.2.2.1,.e (.i .i64) x.2.2.2.2.2.1,.e .bo x.2.2.2.2.2.2.1]),(2,.box 25 [.e (.i .i64) x.2.2.2.2.2.2.2.1,.e (.i .i64) x.2.2.2.2.2.2.2.2.1,.e (.sl .ex) x.2.2.2.2.2.2.2.2.2])],100⟩
def w23u0 (σ:Sg):(List UInt8)×Int×Int×Int×(List UInt8)×Int×Bool×Int×Int×(List Ex):=(lvT .tx 0 0 σ,lvT (.i .i64) 4 0 σ,lvH (.i .i64) 0 0 σ,lvH (.i .i64) 0 1 σ,lvH .tx 1 0 σ,lvH (.i .i64) 1 1 σ,lvH .bo 1 2 σ,lvH (.i .i64) 2 0 σ,lvH (.i .i64) 2 1 σ,lvH (.sl .ex) 2 2 σ)
theorem w23ui0:∀ x,w23u0 (w23I0 x)=x:=fun _=>by kernel_rfl
def w23X0_0 (y:(List UInt8)×Int×Int×Int×(List UInt8)×Int×Bool×Int×Int×(List Ex)):Exit×Sg:=(.normal,⟨[(0,.e .tx y.1),(2,.ref 0 0),(4,.e (.i .i64) y.2.1),(5,.ref 1 0),(6,.ref 2 0)],[(0,.box 25 [.e (.i .i64) y.2.2.1,.e (.i .i64) y.2.2.2.1,.nilS]),(1,.box 84 [.e .tx y.2.2.2.2.1,.e (.i .i64) y.2.2.2.2.2.1,.e .bo y.2.2.2.2.2.2.1]),(2,.box 25 [.e (.i .i64) y.2.2.2.2.2.2.2.1,.e (.i .i64) y.2.2.2.2.2.2.2.2.1,.e (.sl .ex) y.2.2.2.2.2.2.2.2.2])],100⟩)
def w23v0_0 (_:Exit) (σ:Sg):(List UInt8)×Int×Int×Int×(List UInt8)×Int×Bool×Int×Int×(List Ex):=(lvT .tx 0 0 σ,lvT (.i .i64) 4 0 σ,lvH (.i .i64) 0 0 σ,lvH (.i .i64) 0 1 σ,lvH .tx 1 0 σ,lvH (.i .i64) 1 1 σ,lvH .bo 1 2 σ,lvH (.i .i64) 2 0 σ,lvH (.i .i64) 2 1 σ,lvH (.sl .ex) 2 2 σ)
def w23w0:List (Exit×Nm):=[(.normal,⟨[0,2,4,5,6],[],[.cv 6 2 (.sl .ex)]⟩)]
theorem w23o0:Outs w23v0_0 (fun _ _=>()) (fun _ _=>()) w23X0_0 (noX 1) (noX 2) (exC .normal) (exC (.goto 1)) (exC (.goto 2)):=⟨fun _=>by kernel_rfl,fun _=>by kernel_rfl,fun _=>by kernel_rfl,fun _=>by kernel_rfl,fun _=>by kernel_rfl,fun _=>by kernel_rfl,exNe_ok (by kernel_rfl),exNe_ok (by kernel_rfl),exNe_ok (by kernel_rfl)⟩
def w23l0 [Alg] (N _:Nat) (x:(List UInt8)×Int×Int×Int×(List UInt8)×Int×Bool×Int×Int×(List Ex)) (k0:((List UInt8)×Int×Int×Int×(List UInt8)×Int×Bool×Int×Int×(List Ex))→O) (_:(Unit)→O) (_:(Unit)→O):O:=w23F0 N   (fun y0 y1 y2 y3 y4 y5 y6 y7 y8 y9=>k0 (y0,y1,y2,y3,y4,y5,y6,y7,y8,y9)) x.1 x.2.1 x.2.2.1 x.2.2.2.1 x.2.2.2.2.1 x.2.2.2.2.2.1 x.2.2.2.2.2.2.1 x.2.2.2.2.2.2.2.1 x.2.2.2.2.2.2.2.2.1 x.2.2.2.2.2.2.2.2.2
def w23n0 [Alg] (N:Nat) (a0:(List UInt8)) (a1 a2 a3:Int) (a4:(List UInt8)) (a5:Int) (a6:Bool) (a7 a8:Int) (a9:(List Ex)) (k0:(List UInt8)→Int→Int→Int→(List UInt8)→Int→Bool→Int→Int→(List Ex)→O):O:=w23l0 N N (a0,a1,a2,a3,a4,a5,a6,a7,a8,a9) (fun y=>k0 y.1 y.2.1 y.2.2.1 y.2.2.2.1 y.2.2.2.2.1 y.2.2.2.2.2.1 y.2.2.2.2.2.2.1 y.2.2.2.2.2.2.2.1 y.2.2.2.2.2.2.2.2.1 y.2.2.2.2.2.2.2.2.2) (fun _=>none) (fun _=>none)
noncomputable def w23s0 [Alg] (N:Nat) (a0:(List UInt8)) (a1 a2 a3:Int) (a4:(List UInt8)) (a5:Int) (a6:Bool) (a7 a8:Int) (a9:(List Ex)) (k0:(List UInt8)→Int→Int→Int→(List UInt8)→Int→Bool→Int→Int→(List Ex)→O):O:=subL w23I0 w23u0 (w23l0 N N) (w23I0 (a0,a1,a2,a3,a4,a5,a6,a7,a8,a9)) (fun y=>k0 y.1 y.2.1 y.2.2.1 y.2.2.2.1 y.2.2.2.2.1 y.2.2.2.2.2.1 y.2.2.2.2.2.2.1 y.2.2.2.2.2.2.2.1 y.2.2.2.2.2.2.2.2.1 y.2.2.2.2.2.2.2.2.2) (fun _=>none) (fun _=>none)
theorem w23e0 [Alg] (N:Nat):w23s0 N=w23n0 N:=funext fun _=>funext fun _=>funext fun _=>funext fun _=>funext fun _=>funext fun _=>funext fun _=>funext fun _=>funext fun _=>funext fun _=>funext fun _=>subL_I w23ui0 _ _ _ _
noncomputable def w23h0 [Alg] (_:Nat):Hint:=(.seq .d (.cond (.reg [] [] [[],[],[1],[],[],[2]]) (.seq .d (.cond (.reg [] [] [[],[],[1],[],[],[2]]) .d))))
theorem w23hk0 (N:Nat):HintOk (w23c N) Tryd.f23.ntmps (w23h0 N) w23b0:=hk_of _ _ (And.intro trivial (And.intro trivial (And.intro trivial (And.intro trivial trivial))))
theorem w23q0 [Alg] (N:Nat) (K:Exit→Sg→O) (x:(List UInt8)×Int×Int×Int×(List UInt8)×Int×Bool×Int×Int×(List Ex)):w23F0 N   (fun y0 y1 y2 y3 y4 y5 y6 y7 y8 y9=>K (w23X0_0 (y0,y1,y2,y3,y4,y5,y6,y7,y8,y9)).1 (w23X0_0 (y0,y1,y2,y3,y4,y5,y6,y7,y8,y9)).2) x.1 x.2.1 x.2.2.1 x.2.2.2.1 x.2.2.2.2.1 x.2.2.2.2.2.1 x.2.2.2.2.2.2.1 x.2.2.2.2.2.2.2.1 x.2.2.2.2.2.2.2.2.1 x.2.2.2.2.2.2.2.2.2=exec (w23c N) Tryd.f23.ntmps (w23h0 N) w23b0 (w23I0 x) (partX w23w0 K):=by kernel_rfl
theorem w23S0 (N:Nat) (hc:CxOk (w23c N)):SubOk (w23c N) Tryd.f23.ntmps w23b0 w23X0_0 (noX 1) (noX 2) (subL w23I0 w23u0 (w23l0 N N)):=
 sub_part hc (w23hk0 N) w23o0 (fun x K=>by
  have h:w23F0 N   (fun y0 y1 y2 y3 y4 y5 y6 y7 y8 y9=>K (w23X0_0 (y0,y1,y2,y3,y4,y5,y6,y7,y8,y9)).1 (w23X0_0 (y0,y1,y2,y3,y4,y5,y6,y7,y8,y9)).2) x.1 x.2.1 x.2.2.1 x.2.2.2.1 x.2.2.2.2.1 x.2.2.2.2.2.1 x.2.2.2.2.2.2.1 x.2.2.2.2.2.2.2.1 x.2.2.2.2.2.2.2.2.1 x.2.2.2.2.2.2.2.2.2=w23F0 N   (fun y0 y1 y2 y3 y4 y5 y6 y7 y8 y9=>K (w23X0_0 (y0,y1,y2,y3,y4,y5,y6,y7,y8,y9)).1 (w23X0_0 (y0,y1,y2,y3,y4,y5,y6,y7,y8,y9)).2) x.1 x.2.1 x.2.2.1 x.2.2.2.1 x.2.2.2.2.1 x.2.2.2.2.2.1 x.2.2.2.2.2.2.1 x.2.2.2.2.2.2.2.1 x.2.2.2.2.2.2.2.2.1 x.2.2.2.2.2.2.2.2.2:=by rfl
  exact h.trans (w23q0 N K x))
def w23F1 [Alg] (N:Nat)   (k0:(List UInt8)→Int→Int→Int→(List UInt8)→Int→Bool→Int→Int→(List Ex)→O) (x11_0:(List UInt8)) (x11_1 x11_2 x11_3:Int) (x11_4:(List UInt8)) (x11_5:Int) (x11_6:Bool) (x11_7 x11_8:Int) (x11_9:(List Ex)):O:=
 br (!x11_6)
  (ck (w63p N x11_4 x11_5 x11_6) <|
  k0 x11_0 x11_1 x11_2 x11_3 (w63y0 N x11_4 x11_5 x11_6) (w63y1 N x11_4 x11_5 x11_6) (w63y2 N x11_4 x11_5 x11_6) x11_7 x11_8 x11_9)
  (k0 x11_0 x11_1 x11_2 x11_3 x11_4 x11_5 x11_6 x11_7 x11_8 x11_9)
noncomputable def w23b1:Code:=atC [1,1,1,1,1,0] w23b
def w23m1:Nm:=⟨[0,2,4,5,6],[],[]⟩
def w23I1 (x:(List UInt8)×Int×Int×Int×(List UInt8)×Int×Bool×Int×Int×(List Ex)):Sg:=⟨[(0,.e .tx x.1),(2,.ref 0 0),(4,.e (.i .i64) x.2.1),(5,.ref 1 0),(6,.ref 2 0)],[(0,.box 25 [.e (.i .i64) x.2.2.1,.e (.i .i64) x.2.2.2.1,.nilS]),(1,.box 84 [.e .tx x.2.2.2.2.1,.e (.i .i64) x.2.2.2.2.2.1,.e .bo x.2.2.2.2.2.2.1]),(2,.box 25 [.e (.i .i64) x.2.2.2.2.2.2.2.1,.e (.i .i64) x.2.2.2.2.2.2.2.2.1,.e (.sl .ex) x.2.2.2.2.2.2.2.2.2])],100⟩
def w23u1 (σ:Sg):(List UInt8)×Int×Int×Int×(List UInt8)×Int×Bool×Int×Int×(List Ex):=(lvT .tx 0 0 σ,lvT (.i .i64) 4 0 σ,lvH (.i .i64) 0 0 σ,lvH (.i .i64) 0 1 σ,lvH .tx 1 0 σ,lvH (.i .i64) 1 1 σ,lvH .bo 1 2 σ,lvH (.i .i64) 2 0 σ,lvH (.i .i64) 2 1 σ,lvH (.sl .ex) 2 2 σ)
theorem w23ui1:∀ x,w23u1 (w23I1 x)=x:=fun _=>by kernel_rfl
def w23X1_0 (y:(List UInt8)×Int×Int×Int×(List UInt8)×Int×Bool×Int×Int×(List Ex)):Exit×Sg:=(.normal,⟨[(0,.e .tx y.1),(2,.ref 0 0),(4,.e (.i .i64) y.2.1),(5,.ref 1 0),(6,.ref 2 0)],[(0,.box 25 [.e (.i .i64) y.2.2.1,.e (.i .i64) y.2.2.2.1,.nilS]),(1,.box 84 [.e .tx y.2.2.2.2.1,.e (.i .i64) y.2.2.2.2.2.1,.e .bo y.2.2.2.2.2.2.1]),(2,.box 25 [.e (.i .i64) y.2.2.2.2.2.2.2.1,.e (.i .i64) y.2.2.2.2.2.2.2.2.1,.e (.sl .ex) y.2.2.2.2.2.2.2.2.2])],100⟩)
def w23v1_0 (_:Exit) (σ:Sg):(List UInt8)×Int×Int×Int×(List UInt8)×Int×Bool×Int×Int×(List Ex):=(lvT .tx 0 0 σ,lvT (.i .i64) 4 0 σ,lvH (.i .i64) 0 0 σ,lvH (.i .i64) 0 1 σ,lvH .tx 1 0 σ,lvH (.i .i64) 1 1 σ,lvH .bo 1 2 σ,lvH (.i .i64) 2 0 σ,lvH (.i .i64) 2 1 σ,lvH (.sl .ex) 2 2 σ)
def w23w1:List (Exit×Nm):=[(.normal,⟨[0,2,4,5,6],[],[]⟩)]
theorem w23o1:Outs w23v1_0 (fun _ _=>()) (fun _ _=>()) w23X1_0 (noX 1) (noX 2) (exC .normal) (exC (.goto 1)) (exC (.goto 2)):=⟨fun _=>by kernel_rfl,fun _=>by kernel_rfl,fun _=>by kernel_rfl,fun _=>by kernel_rfl,fun _=>by kernel_rfl,fun _=>by kernel_rfl,exNe_ok (by kernel_rfl),exNe_ok (by kernel_rfl),exNe_ok (by kernel_rfl)⟩
def w23l1 [Alg] (N _:Nat) (x:(List UInt8)×Int×Int×Int×(List UInt8)×Int×Bool×Int×Int×(List Ex)) (k0:((List UInt8)×Int×Int×Int×(List UInt8)×Int×Bool×Int×Int×(List Ex))→O) (_:(Unit)→O) (_:(Unit)→O):O:=w23F1 N   (fun y0 y1 y2 y3 y4 y5 y6 y7 y8 y9=>k0 (y0,y1,y2,y3,y4,y5,y6,y7,y8,y9)) x.1 x.2.1 x.2.2.1 x.2.2.2.1 x.2.2.2.2.1 x.2.2.2.2.2.1 x.2.2.2.2.2.2.1 x.2.2.2.2.2.2.2.1 x.2.2.2.2.2.2.2.2.1 x.2.2.2.2.2.2.2.2.2
def w23n1 [Alg] (N:Nat) (a0:(List UInt8)) (a1 a2 a3:Int) (a4:(List UInt8)) (a5:Int) (a6:Bool) (a7 a8:Int) (a9:(List Ex)) (k0:(List UInt8)→Int→Int→Int→(List UInt8)→Int→Bool→Int→Int→(List Ex)→O):O:=w23l1 N N (a0,a1,a2,a3,a4,a5,a6,a7,a8,a9) (fun y=>k0 y.1 y.2.1 y.2.2.1 y.2.2.2.1 y.2.2.2.2.1 y.2.2.2.2.2.1 y.2.2.2.2.2.2.1 y.2.2.2.2.2.2.2.1 y.2.2.2.2.2.2.2.2.1 y.2.2.2.2.2.2.2.2.2) (fun _=>none) (fun _=>none)
noncomputable def w23s1 [Alg] (N:Nat) (a0:(List UInt8)) (a1 a2 a3:Int) (a4:(List UInt8)) (a5:Int) (a6:Bool) (a7 a8:Int) (a9:(List Ex)) (k0:(List UInt8)→Int→Int→Int→(List UInt8)→Int→Bool→Int→Int→(List Ex)→O):O:=subL w23I1 w23u1 (w23l1 N N) (w23I1 (a0,a1,a2,a3,a4,a5,a6,a7,a8,a9)) (fun y=>k0 y.1 y.2.1 y.2.2.1 y.2.2.2.1 y.2.2.2.2.1 y.2.2.2.2.2.1 y.2.2.2.2.2.2.1 y.2.2.2.2.2.2.2.1 y.2.2.2.2.2.2.2.2.1 y.2.2.2.2.2.2.2.2.2) (fun _=>none) (fun _=>none)
theorem w23e1 [Alg] (N:Nat):w23s1 N=w23n1 N:=funext fun _=>funext fun _=>funext fun _=>funext fun _=>funext fun _=>funext fun _=>funext fun _=>funext fun _=>funext fun _=>funext fun _=>funext fun _=>subL_I w23ui1 _ _ _ _
noncomputable def w23h1 [Alg] (_:Nat):Hint:=.d
theorem w23hk1 (N:Nat):HintOk (w23c N) Tryd.f23.ntmps (w23h1 N) w23b1:=hk_of _ _ trivial
theorem w23q1 [Alg] (N:Nat) (K:Exit→Sg→O) (x:(List UInt8)×Int×Int×Int×(List UInt8)×Int×Bool×Int×Int×(List Ex)):w23F1 N   (fun y0 y1 y2 y3 y4 y5 y6 y7 y8 y9=>K (w23X1_0 (y0,y1,y2,y3,y4,y5,y6,y7,y8,y9)).1 (w23X1_0 (y0,y1,y2,y3,y4,y5,y6,y7,y8,y9)).2) x.1 x.2.1 x.2.2.1 x.2.2.2.1 x.2.2.2.2.1 x.2.2.2.2.2.1 x.2.2.2.2.2.2.1 x.2.2.2.2.2.2.2.1 x.2.2.2.2.2.2.2.2.1 x.2.2.2.2.2.2.2.2.2=exec (w23c N) Tryd.f23.ntmps (w23h1 N) w23b1 (w23I1 x) (partX w23w1 K):=by kernel_rfl
theorem w23S1 (N:Nat) (hc:CxOk (w23c N)):SubOk (w23c N) Tryd.f23.ntmps w23b1 w23X1_0 (noX 1) (noX 2) (subL w23I1 w23u1 (w23l1 N N)):=
 sub_part hc (w23hk1 N) w23o1 (fun x K=>by
  have h:w23F1 N   (fun y0 y1 y2 y3 y4 y5 y6 y7 y8 y9=>K (w23X1_0 (y0,y1,y2,y3,y4,y5,y6,y7,y8,y9)).1 (w23X1_0 (y0,y1,y2,y3,y4,y5,y6,y7,y8,y9)).2) x.1 x.2.1 x.2.2.1 x.2.2.2.1 x.2.2.2.2.1 x.2.2.2.2.2.1 x.2.2.2.2.2.2.1 x.2.2.2.2.2.2.2.1 x.2.2.2.2.2.2.2.2.1 x.2.2.2.2.2.2.2.2.2=w23F1 N   (fun y0 y1 y2 y3 y4 y5 y6 y7 y8 y9=>K (w23X1_0 (y0,y1,y2,y3,y4,y5,y6,y7,y8,y9)).1 (w23X1_0 (y0,y1,y2,y3,y4,y5,y6,y7,y8,y9)).2) x.1 x.2.1 x.2.2.1 x.2.2.2.1 x.2.2.2.2.1 x.2.2.2.2.2.1 x.2.2.2.2.2.2.1 x.2.2.2.2.2.2.2.1 x.2.2.2.2.2.2.2.2.1 x.2.2.2.2.2.2.2.2.2:=by rfl
  exact h.trans (w23q1 N K x))
def w23G [Alg] (N:Nat) (in0:(List UInt8)→Int→Int→Int→(List UInt8)→Int→Bool→Int→Int→(List Ex)→((List UInt8)→Int→Int→Int→(List UInt8)→Int→Bool→Int→Int→(List Ex)→O)→O) (in1:(List UInt8)→Int→Int→Int→(List UInt8)→Int→Bool→Int→Int→(List Ex)→((List UInt8)→Int→Int→Int→(List UInt8)→Int→Bool→Int→Int→(List Ex)→O)→O) (s0:(List UInt8)):O:=
 let b0:=some (w23r0 ((0:Int)) ((0:Int)) [] ((0:Int)) ((4:Int)))
 br (decide ((8192:Int) < (↑s0.length:Int)))
  b0
  (ck (w61p N s0 (0:Int) false) <|
  in0 s0 ((0:Int)) ((0:Int)) ((0:Int)) (w61y3 N s0 (0:Int) false) (w61y4 N s0 (0:Int) false) (w61y5 N s0 (0:Int) false) (w61y0 N s0 (0:Int) false) (w61y1 N s0 (0:Int) false) (w61y2 N s0 (0:Int) false)
   (fun z1 z2 z3 z4 z5 z6 z7 z8 z9 z10=>
    in1 z1 z2 z3 z4 z5 z6 z7 z8 z9 z10
     (fun z12 _ _ _ _ z17 z18 z19 z20 z21=>
      br (z18||decide (z17 < (↑z12.length:Int)))
       (some (w23r0 ((0:Int)) ((0:Int)) [] z17 ((2:Int))))
       (ck (w31p N z19 z20 z21) <|
       br (decide (w31y0 N z19 z20 z21≠(0:Int)))
        b0
        (some (w23r0 (z19) (z20) (z21) ((0:Int)) ((0:Int))))))))
def w23 [Alg] (N:Nat) (s0:(List UInt8)):O:=w23G N (w23n0 N) (w23n1 N) s0
noncomputable def w23h [Alg] (N:Nat):Hint:=(.seq .d (.seq .d (.seq .d (.seq .d (.seq (.sub w23m0 _ _ _ w23X0_0 (noX 1) (noX 2) (subL w23I0 w23u0 (w23l0 N N))) (.seq (.sub w23m1 _ _ _ w23X1_0 (noX 1) (noX 2) (subL w23I1 w23u1 (w23l1 N N))) (.seq (.seq .d (.cond (.seq (.reg [] [] [[],[],[],[],[],[0],[],[]]) .d) .d)) .d)))))))
theorem w23hk (N:Nat) (hc:CxOk (w23c N)):HintOk (w23c N) Tryd.f23.ntmps (w23h N) w23b:=hk_of _ _ (And.intro trivial (And.intro trivial (And.intro trivial (And.intro trivial (And.intro (w23S0 N hc) (And.intro (w23S1 N hc) (And.intro (And.intro trivial (And.intro (And.intro trivial trivial) trivial)) trivial)))))))
theorem w23q [Alg] (N:Nat) (s0:(List UInt8)):w23G N (w23s0 N) (w23s1 N) s0=exec (w23c N) Tryd.f23.ntmps (w23h N) w23b ⟨argT 0 [.e .tx s0],[],100⟩ (finX (w23c N) Tryd.f23 false):=by kernel_rfl
theorem w23does {N:Nat} (hc:CxOk (w23c N)) {s0:(List UInt8)} {r:Res} (h:w23 N s0=some r):DoesR Tryd.prog 23 (([.e .tx s0]:List X).map X.D) (HA []) r:=
 fun_ok hc (f:=23) (fn:=Tryd.f23) (code:=w23b) (by kernel_rfl) (by kernel_rfl) (w23hk N hc) (Nat.le_of_ble_eq_true (by kernel_rfl)) (ow:=false) ((w23q N s0).symm.trans (by rw [w23e0 N,w23e1 N];exact h))
def w23un (r:Res):Option (Int×Int×(List Ex)×Int×Int):=match r with
 | (.tup [.agg [x0,x1,x2],x3,x4],[])=>(match ue (.i .i64) x0,ue (.i .i64) x1,ue (.sl .ex) x2,ue (.i .i64) x3,ue (.i .i64) x4 with | some a0,some a1,some a2,some a3,some a4=>some (a0,a1,a2,a3,a4) | _,_,_,_,_=>none)
 | _=>none
theorem w23uo {r:Res} {d:Int×Int×(List Ex)×Int×Int} (h:w23un r=some d):r=w23r0 (d.1) (d.2.1) (d.2.2.1) (d.2.2.2.1) (d.2.2.2.2):=by
 unfold w23un at h
 split at h
 ·split at h
  ·rename_i h0 h1 h2 h3 h4;cases h;rw [ue_some h0,ue_some h1,ue_some h2,ue_some h3,ue_some h4];rfl
  ·cases h
 ·cases h
def w23z (N:Nat) (s0:(List UInt8)):Option (Int×Int×(List Ex)×Int×Int):=(w23 N s0).bind w23un
theorem w23fin {N:Nat} (hc:CxOk (w23c N)) {s0:(List UInt8)} {d:Int×Int×(List Ex)×Int×Int} (hd:w23z N s0=some d):Does Tryd.prog 23 (([.e .tx s0]:List X).map X.D) (HA []) (w23r0 (d.1) (d.2.1) (d.2.2.1) (d.2.2.2.1) (d.2.2.2.2)).1.D (HA (w23r0 (d.1) (d.2.1) (d.2.2.1) (d.2.2.2.1) (d.2.2.2.2)).2):=by
 obtain ⟨r,hr,hu⟩:=Option.bind_eq_some_iff.1 hd
 have:=w23does hc hr
 rw [w23uo hu] at this
 exact this
def w23p (N:Nat) (s0:(List UInt8)):Bool:=(w23z N s0).isSome
def w23y0 (N:Nat) (s0:(List UInt8)):Int:=((w23z N s0).getD (0,0,[],0,0)).1
def w23y1 (N:Nat) (s0:(List UInt8)):Int:=((w23z N s0).getD (0,0,[],0,0)).2.1
def w23y2 (N:Nat) (s0:(List UInt8)):(List Ex):=((w23z N s0).getD (0,0,[],0,0)).2.2.1
def w23y3 (N:Nat) (s0:(List UInt8)):Int:=((w23z N s0).getD (0,0,[],0,0)).2.2.2.1
def w23y4 (N:Nat) (s0:(List UInt8)):Int:=((w23z N s0).getD (0,0,[],0,0)).2.2.2.2
def w23e (N:Nat):Ent':=E1 .tx  (fun x0=>(w23p N x0,w23r0 (w23y0 N x0) (w23y1 N x0) (w23y2 N x0) (w23y3 N x0) (w23y4 N x0)))
theorem w23re {N:Nat} {s0:(List UInt8)} {d:Int×Int×(List Ex)×Int×Int} (hd:w23z N s0=some d):w23r0 (w23y0 N s0) (w23y1 N s0) (w23y2 N s0) (w23y3 N s0) (w23y4 N s0)=w23r0 (d.1) (d.2.1) (d.2.2.1) (d.2.2.2.1) (d.2.2.2.2):=by unfold w23y0 w23y1 w23y2 w23y3 w23y4;rw [hd];rfl
theorem w23ok (N:Nat):EOk Tryd.prog 23 (w23e N):=EOk.e1 (fun x0 h=>by
 have h:(w23z N x0).isSome=true:=h
 obtain ⟨d,hd⟩:=Option.isSome_iff_exists.1 h
 have f:=w23fin (w23cx N) hd
 rw [← w23re hd] at f
 exact f)
end
end Go.Proofs
