/- Parse. Conditions are in the theorems. -/
import Derived.Test.YtlhdefefoaldfaaGreatDoorE7
import Derived.IntWalk
import Derived.Test.YtlhdefefoaldfaaGreatDoorF2
import Derived.Tactics
import Derived.Tactics2
import Derived.Recover
import Derived.Test.YtlhdefefoaldfaaGreatDoorProg
import Derived.KernelRfl
/- Small laws for what a run leaves to be shown. -/
namespace Go.Proofs
open Go Go.Ax Go.Ax.Alg
theorem br_t (x y:O):br true x y=x:=rfl
theorem br_f (x y:O):br false x y=y:=rfl
theorem ck_t (x:O):ck true x=x:=rfl
theorem ck_of {b:Bool} (h:b=true) (x:O):ck b x=x:=by rw [h];rfl
theorem gx_of {α:Type} {l:List α} {n:Int} {y:α} (h0:0<=n) (h:l[n.toNat]?=some y) (k:α->O):gx l n k=k y:=by
 show gx0 l n k=_
 unfold gx0
 rw [if_neg (by omega),h]
theorem gx_at {α:Type} {l:List α} {i:Nat} {y:α} (h:l[i]?=some y) (k:α->O):gx l (i:Int) k=k y:=gx_of (by omega) (by rw [Int.toNat_natCast];exact h) k
theorem gn_of {α:Type} {l:List α} {n:Nat} {y:α} (h:l[n]?=some y) (k:α->O):gn l n k=k y:=by
 show gn0 l n k=_
 unfold gn0
 rw [h]
theorem gx_0 {α:Type} (x:α) (l:List α) (k:α->O):gx (x::l) 0 k=k x:=rfl
theorem gx_1 {α:Type} (x y:α) (l:List α) (k:α->O):gx (x::y::l) 1 k=k y:=rfl
theorem gn_0 {α:Type} (x:α) (l:List α) (k:α->O):gn (x::l) 0 k=k x:=rfl
theorem gc_t {α:Type} (z:α) (l:List α) (n:Int) (k:α->O):gc true z l n k=gx l n k:=rfl
theorem gc_f {α:Type} (z:α) (l:List α) (n:Int) (k:α->O):gc false z l n k=k z:=rfl
theorem gc_at {α:Type} {c:Bool} {z:α} {l:List α} {i:Nat} {y:α} (h:l[i]?=some y) (k:α->O):gc c z l (i:Int) k=k (if c then y else z):=by
 cases c
 ·rfl
 ·rw [gc_t,gx_at h];rfl
theorem wr {x:Int} (h1:-9223372036854775808<=x) (h2:x<=9223372036854775807):IntKind.i64.wrap x=x:=IntWalk.i64_in x ⟨h1,h2⟩
end Go.Proofs
/- The closure that Parse defers. -/
namespace Go.Proofs
open Go.Ax Go.RowKit Go.Ab
open Go
theorem c75_idle (p q r:Addr) (w:World):
    CallsD Tryz.prog 75 #[.pointer (some p),.pointer (some q),.pointer (some r)] .returning w fun e u' w'=>e = .returned (.tuple #[])/\u' = .returning/\w'=w:=by
 have hnn:∀ w,(binOp .neq 20 .nilIface .nilIface).run Tryz.prog w = .ok (.bool false) w:=fun w=>by kernel_rfl
 refine callsD_of_wpS (fn:=Tryz.f75) (by kernel_rfl) (rfl:Tryz.f75.body=some _) fun c₀ cs hu=>?_
 apply wpS_seq
 apply wpS_region
 simp [wpOpsS,go_sem,recoverD,hu,Exit.thenS]
 apply wpS_seq
 apply wpS_region
 simp [wpOpsS,go_sem,hnn,Exit.thenS]
 refine wpS_cond (t:=false) (by simp [Act.eval,Array.replicate]) ?_
 simp only [Bool.false_eq_true,if_false]
 refine wpS_of_wp (wp_skip ?_)
 cases c₀
 simp_all [bodyPostS,results]
theorem execS {P:Program} {ops:Array Oper} {Q:Exit->Act->List Frame->World->Prop} {i:Nat} {rest:List Nat} {a:Act} {cs:List Frame} {w w':World} {o:Oper} (v:Value) (ho:ops[i]?=some o) (hg:o.guard=none)
    (hr:(execOp a.eval o).run P w = .ok (.value v) w') (k:wpOpsS P ops Q rest (a.put o.dst v) cs w'):wpOpsS P ops Q (i::rest) a cs w:=by
 unfold wpOpsS
 rw [ho]
 simp only []
 rw [if_pos (by simp [Region.wanted,hg]),hr]
 simp only [Oper.upon_value]
 exact k
theorem execT {P:Program} {ops:Array Oper} {Q:Exit->Act->List Frame->World->Prop} {i:Nat} {rest:List Nat} {a:Act} {cs:List Frame} {w w':World} {o:Oper} {t:TypeId} {x y:Operand} {vx vy:Value} (ho:ops[i]?=some o) (hg:o.guard=none) (hop:o.op = .store t x y) (hx:a.eval x=vx) (hy:a.eval y=vy)
    (hr:(Instr.storeAt t vx vy).run P w = .ok () w') (k:wpOpsS P ops Q rest (a.put o.dst undef) cs w'):wpOpsS P ops Q (i::rest) a cs w:=by
 have he:(execOp a.eval o).run P w = .ok .skip w':=by
  unfold execOp
  rw [hop]
  simp only [hx,hy,Sem.run_bind,hr]
  rfl
 unfold wpOpsS
 rw [ho]
 simp only []
 rw [if_pos (by simp [Region.wanted,hg]),he]
 simp only [Oper.upon_skip]
 exact k
theorem put_ne (a:Act) (t t':Nat) (v:Value) (h:t≠t'):(a.put (some t) v).eval (.tmp t')=a.eval (.tmp t'):=by
 simp [Act.put,Act.eval,Array.getD_eq_getD_getElem?,h]
theorem put_eq (a:Act) (t:Nat) (v:Value) (h:t < a.tmps.size):(a.put (some t) v).eval (.tmp t)=v:=by
 simp [Act.put,Act.eval,Array.getD_eq_getD_getElem?,h]
theorem put_none (a:Act) (v:Value):a.put none v=a:=rfl
theorem put_size (a:Act) (t:Nat) (v:Value):(a.put (some t) v).tmps.size=a.tmps.size:=by simp [Act.put]
theorem reg5 {P:Program} {ops:Array Oper} {Q:Exit->Act->List Frame->World->Prop} {a:Act} {cs:List Frame} {o0 o1 o2 o3 o4:Oper} (hops:ops = #[o0,o1,o2,o3,o4])
    (g0:o0.guard=none) (g1:o1.guard=none) (g2:o2.guard=none) (g3:o3.guard=none) (g4:o4.guard=none)
    (d0:o0.dst=some 17) (d1:o1.dst=some 18) (d2:o2.dst=none) (d3:o3.dst=none) (d4:o4.dst=none)
    (_e0:o0.op = .build 25 #[]) (e1:o1.op = .move (.tmp 4)) (e2:o2.op = .store 25 (.tmp 0) (.tmp 17)) (e3:o3.op = .store 3 (.tmp 1) (.tmp 18)) (e4:o4.op = .store 29 (.tmp 2) (.const (.int .i64 2)))
    {p q r n z:Value} (hz:∀ (a:Act) w,(execOp a.eval o0).run P w = .ok (.value z) w) (hsz:18 < a.tmps.size) (h0:a.eval (.tmp 0)=p) (h1:a.eval (.tmp 1)=q) (h2:a.eval (.tmp 2)=r) (h4:a.eval (.tmp 4)=n)
    {w w1 w2 w3:World} (s1:(Instr.storeAt 25 p z).run P w = .ok () w1) (s2:(Instr.storeAt 3 q n).run P w1 = .ok () w2) (s3:(Instr.storeAt 29 r (.int .i64 2)).run P w2 = .ok () w3)
    (k:∀ a',a'.defers=a.defers->Q .normal a' cs w3):wpOpsS P ops Q [0,1,2,3,4] a cs w:=by
 subst hops
 refine execS (o:=o0) z rfl g0 (hz a w) ?_
 rw [d0]
 refine execS (o:=o1) (w':=w) n rfl g1 ?_ ?_
 ·unfold execOp
  rw [e1]
  show Result.ok (Next.value ((a.put (some 17) z).eval (.tmp 4))) w=_
  rw [put_ne _ _ _ _ (by decide),h4]
 rw [d1]
 refine execT (o:=o2) (vx:=p) (vy:=z) rfl g2 e2 ?_ ?_ s1 ?_
 ·rw [put_ne _ _ _ _ (by decide),put_ne _ _ _ _ (by decide),h0]
 ·rw [put_ne _ _ _ _ (by decide),put_eq _ _ _ (by omega)]
 rw [d2]
 refine execT (o:=o3) (vx:=q) (vy:=n) rfl g3 e3 ?_ ?_ s2 ?_
 ·rw [put_none,put_ne _ _ _ _ (by decide),put_ne _ _ _ _ (by decide),h1]
 ·rw [put_none,put_eq _ _ _ (by rw [put_size];exact hsz)]
 rw [d3]
 refine execT (o:=o4) (vx:=r) (vy:=.int .i64 2) rfl g4 e4 ?_ rfl s3 ?_
 ·rw [put_none,put_none,put_ne _ _ _ _ (by decide),put_ne _ _ _ _ (by decide),h2]
 rw [d4]
 exact k _ rfl
set_option maxRecDepth 20000 in
theorem c75_catch (p q r:Addr) (n:Int) (w w1 w2 w3:World)
    (h1:(Instr.storeAt 25 (.pointer (some p)) (.agg #[.int .i64 0,.int .i64 0,.slice none 0 0])).run Tryz.prog w = .ok () w1)
    (h2:(Instr.storeAt 3 (.pointer (some q)) (.int .i64 n)).run Tryz.prog w1 = .ok () w2)
    (h3:(Instr.storeAt 29 (.pointer (some r)) (.int .i64 2)).run Tryz.prog w2 = .ok () w3):
    CallsD Tryz.prog 75 #[.pointer (some p),.pointer (some q),.pointer (some r)] (.panicking [pent (.iface 96 (.int .i64 n))]) w
     fun e u' w'=>e = .returned (.tuple #[])/\u' = .panicking [{ v:=.iface 96 (.int .i64 n),recovered:=true }]/\w'=w3:=by
 have hnn:∀ w,(binOp .neq 20 (.iface 96 (.int .i64 n)) .nilIface).run Tryz.prog w = .ok (.bool true) w:=fun w=>by kernel_rfl
 have hta:∀ w,(Instr.typeAssert (.iface 96 (.int .i64 n)) 20 96 true).run Tryz.prog w = .ok (.tuple #[.int .i64 n,.bool true]) w:=fun w=>by kernel_rfl
 refine callsD_of_wpS (fn:=Tryz.f75) (by kernel_rfl) (rfl:Tryz.f75.body=some _) fun c₀ cs hu=>?_
 apply wpS_seq
 apply wpS_region
 simp [wpOpsS,go_sem,recoverD,hu,Exit.thenS,pent]
 apply wpS_seq
 apply wpS_region
 simp [wpOpsS,go_sem,hnn,Exit.thenS]
 refine wpS_cond (t:=true) (by simp [Act.eval,Array.replicate]) ?_
 simp only [if_true]
 apply wpS_seq
 apply wpS_region
 simp [wpOpsS,go_sem,hta,Exit.thenS]
 apply wpS_seq
 apply wpS_seq
 apply wpS_region
 simp [wpOpsS,go_sem,Exit.thenS]
 refine wpS_cond (t:=false) (by simp [Act.eval,Array.replicate]) ?_
 simp only [Bool.false_eq_true,if_false]
 refine wpS_of_wp (wp_skip ?_)
 simp only [Exit.thenS]
 apply wpS_region
 show wpOpsS _ _ _ [0,1,2,3,4] _ _ _
 refine reg5 (p:=.pointer (some p)) (q:=.pointer (some q)) (r:=.pointer (some r)) (n:=.int .i64 n) (z:=.agg #[.int .i64 0,.int .i64 0,.slice none 0 0]) rfl rfl rfl rfl rfl rfl rfl rfl rfl rfl rfl rfl rfl rfl rfl rfl (fun _ _=>by kernel_rfl) (by simp) (by kernel_rfl) (by kernel_rfl) (by kernel_rfl) (by kernel_rfl) h1 h2 h3 fun a' ha=>?_
 have hd:a'.defers=[]:=ha.trans (by kernel_rfl)
 clear h1 h2 h3 ha
 exact ⟨hd,_,rfl,.tuple #[],by kernel_rfl,rfl,rfl,rfl⟩
end Go.Proofs
/- Parse: what it does. -/
namespace Go.Proofs
open Go.Ax Go.Ax.Alg Go.RowKit Go.Ab
open Go
theorem st_run {P:Program} {E:Env} {σ:St} {tm:Array Value} {w:World} {o:Oper} {t:TypeId} {x y:Operand} {N:Nat} {d:D} {W:Wr} (ho:o.op = .store t x y) (hd:o.dst=none) (h100:100<=N) (hf:∀ k,N<=k->k < N+8->σ.nm k=false)
    (hop:OpOk P o σ N d W) (hR:R E σ tm w):∃ w',(Instr.storeAt t ((⟨tm,[]⟩:Act).eval x) ((⟨tm,[]⟩:Act).eval y)).run P w = .ok () w'/\R E (σ.upd none d W N) tm w':=by
 have h:=hop E σ ⟨tm,[]⟩ w (fun _ _ h=>h) (fun _ _ h=>h) h100 hf (fun t ht=>by rw [hd] at ht;cases ht) hR (fun _ _ _=>False)
 unfold Oper.wp at h
 cases hr:(Instr.storeAt t ((⟨tm,[]⟩:Act).eval x) ((⟨tm,[]⟩:Act).eval y)).run P w with
 | ok u w'=>
   have he:(execOp (⟨tm,[]⟩:Act).eval o).run P w = .ok .skip w':=by
    unfold execOp
    rw [ho]
    simp only [Sem.run_bind,hr]
    rfl
   rw [he,Oper.upon_skip,hd] at h
   exact ⟨w',rfl,h.2⟩
 | halt x w'=>
   have he:(execOp (⟨tm,[]⟩:Act).eval o).run P w = .halt x w':=by
    unfold execOp
    rw [ho]
    simp only [Sem.run_bind,hr]
    rfl
   rw [he] at h
   cases x <;> simp only [Oper.upon] at h
noncomputable def mkSt (t : TypeId) (x y : Operand) : Oper := { dst := none, op := .store t x y, type := 0, pos := "", after := #[], guard := none }
noncomputable def w42b:Code:=Tryz.f42.body.getD .skip
noncomputable def w42b0:Code:=atC [0] w42b
noncomputable def w42b1:Code:=atC [1,0] w42b
noncomputable def w42b3:Code:=atC [1,1,0] w42b
noncomputable def w42b4:Code:=atC [1,1,1] w42b
theorem w42_code:Tryz.f42.body=some (.seq w42b0 (.seq w42b1 (.seq w42b3 w42b4))):=by kernel_rfl
noncomputable def w42L (N:Nat):List (Nat×Ent'):=[(77,w77e N),(29,w29e N)]
noncomputable def w42Lp (N:Nat):List (Nat×EntP):=[(76,w76e N),(78,w78e N)]
noncomputable def w42c (N:Nat):Cx:=⟨Tryz.prog,25,w42L N,w42Lp N⟩
theorem w42cx (N:Nat):CxOk (w42c N):=ctx_ok (by kernel_rfl) (.cons (by kernel_rfl) (w77ok N) (.cons (by kernel_rfl) (w29ok N) .nil)) (.cons (by kernel_rfl) (w76ok N) (.cons (by kernel_rfl) (w78ok N) .nil))
noncomputable def z25:XO:=.box 25 [.e (.i .i64) (0:Int),.e (.i .i64) (0:Int),.nilS]
noncomputable def refs (s:List UInt8):XT:=[(0,.e .tx s),(2,.ref 100 0),(3,.ref 108 0),(4,.ref 116 0)]
noncomputable def σ0 (s:List UInt8):Sg:=⟨argT 0 [.e .tx s],[],100⟩
noncomputable def σ1 (s:List UInt8):Sg:=⟨refs s,[(100,z25),(108,.box 3 [.e (.i .i64) (0:Int)]),(116,.box 29 [.e (.i .i64) (0:Int)])],124⟩
noncomputable def σ4 (s:List UInt8):Sg:=⟨[(0,.e .tx s),(2,.ref 50 0),(3,.ref 51 0),(4,.ref 52 0)],[(50,z25),(51,.box 3 [.e (.i .i64) (0:Int)]),(52,.box 29 [.e (.i .i64) (0:Int)])],148⟩
noncomputable def w42r0 (a0 a1:Int) (a2:List Ex) (a3 a4:Int):Res:=(.tup [.agg [.e (.i .i64) a0,.e (.i .i64) a1,.e (.sl .ex) a2],.e (.i .i64) a3,.e (.i .i64) a4],[])
noncomputable def isT:X->Bool
 | .e _ _=>true
 | .nilS=>true
 | _=>false
theorem isT_le {x:X} (h:isT x=true) {H:Nat->Option AObj} {nm':Nat->Bool} {ρ:Nat->Nat}:DLe false H nm' ρ x.D x.D:=by
 cases x with
 | e τ y=>
   unfold X.D
   split
   ·exact .t rfl
   ·exact .any
 | nilS=>exact .t rfl
 | _=>cases h
noncomputable def σv (q q' q'':Nat) (a b c d e:X) (N:Nat):Sg:=⟨[(2,.ref q 0),(3,.ref q' 0),(4,.ref q'' 0)],[(q,.box 25 [a,b,c]),(q',.box 3 [d]),(q'',.box 29 [e])],N⟩
noncomputable def pK (f:X->X->X->X->X->O) (σ:Sg):O:=match lk 2 σ.T,lk 3 σ.T,lk 4 σ.T with
 | some (.ref 50 0),some (.ref 51 0),some (.ref 52 0)=>match lk 50 σ.H,lk 51 σ.H,lk 52 σ.H with
   | some (.box 25 [a,b,c]),some (.box 3 [d]),some (.box 29 [e])=>match isT a&&isT b&&isT c&&isT d&&isT e&&Nat.ble 148 σ.N with
     | true=>f a b c d e
     | false=>none
   | _,_,_=>none
 | _,_,_=>none
noncomputable def panO (p:PanicEntry):O:=match p with
 | ⟨.iface 96 (.int .i64 n),false,false⟩=>some (.pan (.iface 96 (.int .i64 n)),[])
 | _=>none
theorem panO_some {p:PanicEntry} {r:Res} (h:panO p=some r):∃ n,p=pent (.iface 96 (.int .i64 n))/\r=(.pan (.iface 96 (.int .i64 n)),[]):=by
 unfold panO at h
 split at h
 ·cases h;exact ⟨_,rfl,rfl⟩
 ·cases h
noncomputable def w42K (N:Nat) (e:Exit) (σ:Sg):O:=match e with
 | .panic [p]=>pK (fun _ _ _ _ _=>panO p) σ
 | .normal=>pK (fun a b c d e=>finR (w42c N) Tryz.f42 false .ret (σv 100 108 116 a b c d e σ.N)) σ
 | .ret=>pK (fun a b c d e=>finR (w42c N) Tryz.f42 false .ret (σv 100 108 116 a b c d e σ.N)) σ
 | _=>none
theorem pK_some {f:X->X->X->X->X->O} {σ:Sg} {r:Res} (h:pK f σ=some r):∃ a b c d e,f a b c d e=some r/\isT a=true/\isT b=true/\isT c=true/\isT d=true/\isT e=true /\
    lk 2 σ.T=some (.ref 50 0)/\lk 3 σ.T=some (.ref 51 0)/\lk 4 σ.T=some (.ref 52 0)/\lk 50 σ.H=some (.box 25 [a,b,c])/\lk 51 σ.H=some (.box 3 [d])/\lk 52 σ.H=some (.box 29 [e])/\148<=σ.N:=by
 unfold pK at h
 split at h
 case h_2=>cases h
 rename_i t2 t3 t4
 split at h
 case h_2=>cases h
 rename_i a b c d e k1 k2 k3
 split at h
 case h_2=>cases h
 rename_i hb
 simp only [Bool.and_eq_true] at hb
 exact ⟨a,b,c,d,e,h,hb.1.1.1.1.1,hb.1.1.1.1.2,hb.1.1.1.2,hb.1.1.2,hb.1.2,t2,t3,t4,k1,k2,k3,Nat.le_of_ble_eq_true hb.2⟩
theorem run1 {c:Cx} (hc:CxOk c) {M:Nat} {code:Code} {σ:Sg} {e0:Exit} {σ1:Sg} (hh:HintOk c M .d code) (hN:100<=σ.N) (h:∀ k,exec c M .d code σ k=k e0 σ1):Runs c M code σ fun e σ'=>e=e0/\σ'=σ1:=by
 classical
 intro E hE
 refine aw_mono (exec_ok hc code .d σ (fun e σ=>if e=e0/\σ=σ1 then some (.tup [],[]) else none) (.tup [],[]) (by rw [h];simp) hh hN E hE) ?_
 rintro e s ⟨σ',⟨_,hk⟩,hent⟩
 by_cases hq:e=e0/\σ'=σ1
 ·exact ⟨σ',hq,hent⟩
 ·rw [if_neg hq] at hk;cases hk
noncomputable def σ2 (s:List UInt8):Sg:=⟨refs s++[(6,.e .tx s),(7,.e (.i .i64) (s.length:Int)),(8,.e .bo (decide ((8192:Int) < (s.length:Int))))],[(100,z25),(108,.box 3 [.e (.i .i64) (0:Int)]),(116,.box 29 [.e (.i .i64) (0:Int)])],148⟩
noncomputable def σr (s:List UInt8):Sg:=⟨refs s++[(6,.e .tx s),(7,.e (.i .i64) (s.length:Int)),(8,.e .bo (decide ((8192:Int) < (s.length:Int)))),(9,.agg [.e (.i .i64) (0:Int),.e (.i .i64) (0:Int),.nilS])],[(100,z25),(108,.box 3 [.e (.i .i64) (0:Int)]),(116,.box 29 [.e (.i .i64) (4:Int)])],180⟩
theorem ex0 (N:Nat) (s:List UInt8) (k:Exit->Sg->O):exec (w42c N) 35 .d w42b0 (σ0 s) k=k .normal (σ1 s):=by kernel_rfl
theorem ex1 (N:Nat) (s:List UInt8) (k:Exit->Sg->O):exec (w42c N) 35 .d w42b1 (σ1 s) k=br (decide ((8192:Int) < (s.length:Int))) (k .ret (σr s)) (k .normal (σ2 s)):=by kernel_rfl
noncomputable def w42G (N:Nat) (s:List UInt8):O:=
 ck (w76p N 0 s 0) <|
 br (w76b_ N 0 s 0)
  (ck (w77p N (w76y3 N 0 s 0) (w76y4 N 0 s 0)) <|
  br (decide (w77y0 N (w76y3 N 0 s 0) (w76y4 N 0 s 0)≠(0:UInt8))||decide (w77y2 N (w76y3 N 0 s 0) (w76y4 N 0 s 0) < (s.length:Int)))
   (ck (w78p N (w77y1 N (w76y3 N 0 s 0) (w76y4 N 0 s 0)) (w77y2 N (w76y3 N 0 s 0) (w76y4 N 0 s 0))) <|
   some (.pan (.iface 96 (.int .i64 (w78pv0 N (w77y1 N (w76y3 N 0 s 0) (w76y4 N 0 s 0)) (w77y2 N (w76y3 N 0 s 0) (w76y4 N 0 s 0))))),[]))
   (ck (w29p N (w76y0 N 0 s 0) (w76y1 N 0 s 0) (w76y2 N 0 s 0)) <|
   br (decide (w29y0 N (w76y0 N 0 s 0) (w76y1 N 0 s 0) (w76y2 N 0 s 0)≠(0:Int)))
    (some (w42r0 0 0 [] 0 4))
    (some (w42r0 (w76y0 N 0 s 0) (w76y1 N 0 s 0) (w76y2 N 0 s 0) 0 0))))
  (some (.pan (.iface 96 (.int .i64 (w76pv0 N 0 s 0))),[]))
theorem ex4 (N:Nat) (s:List UInt8):exec (w42c N) 35 .d w42b4 (σ4 s) (w42K N)=w42G N s:=by kernel_rfl
noncomputable def v25:Value:=.agg #[.int .i64 0,.int .i64 0,.slice none 0 0]
noncomputable def σp (n:Int) (N:Nat):Sg:=σv 50 51 52 (.e (.i .i64) (0:Int)) (.e (.i .i64) (0:Int)) .nilS (.e (.i .i64) n) (.e (.i .i64) (2:Int)) N
theorem mkSt_op {t:TypeId} {x y:Operand}:(mkSt t x y).op = .store t x y:=rfl
theorem pan_end {E:Env} {σ':Sg} {tm:Array Value} {w:World} {n:Int} {a b c d e:X} (hN:100<=σ'.N) (hR:R E (denS σ') tm w) (h2:lk 2 σ'.T=some (.ref 50 0)) (h3:lk 3 σ'.T=some (.ref 51 0)) (h4:lk 4 σ'.T=some (.ref 52 0))
    (k1:lk 50 σ'.H=some (.box 25 [a,b,c])) (k2:lk 51 σ'.H=some (.box 3 [d])) (k3:lk 52 σ'.H=some (.box 29 [e])):
    ∃ w1 w2 w3,(Instr.storeAt 25 ((⟨tm,[]⟩:Act).eval (.tmp 2)) v25).run Tryz.prog w = .ok () w1/\(Instr.storeAt 3 ((⟨tm,[]⟩:Act).eval (.tmp 3)) (.int .i64 n)).run Tryz.prog w1 = .ok () w2/\(Instr.storeAt 29 ((⟨tm,[]⟩:Act).eval (.tmp 4)) (.int .i64 2)).run Tryz.prog w2 = .ok () w3 /\
     R E (denS (σp n (σ'.N+24))) tm w3:=by
 have t2:(denS σ').T 2=some (.ref 50 0):=by show (lk 2 σ'.T).map X.D=_;rw [h2];rfl
 have t3:(denS σ').T 3=some (.ref 51 0):=by show (lk 3 σ'.T).map X.D=_;rw [h3];rfl
 have t4:(denS σ').T 4=some (.ref 52 0):=by show (lk 4 σ'.T).map X.D=_;rw [h4];rfl
 have o1:(denS σ').H 50=some (.box 25 [a.D,b.D,c.D]):=by show (lk 50 σ'.H).map XO.A=_;rw [k1];rfl
 have o2:(denS σ').H 51=some (.box 3 [d.D]):=by show (lk 51 σ'.H).map XO.A=_;rw [k2];rfl
 have o3:(denS σ').H 52=some (.box 29 [e.D]):=by show (lk 52 σ'.H).map XO.A=_;rw [k3];rfl
 have nm0:∀ k,σ'.N<=k->(denS σ').nm k=false:=fun k hk=>decide_eq_false (by omega)
 generalize denS σ'=s at *
 -- the first
 obtain ⟨w1,r1,R1⟩:=st_run (P:=Tryz.prog) (o:=mkSt 25 (.tmp 2) (.const v25)) (N:=σ'.N) mkSt_op rfl hN (fun k h _=>nm0 k h)
  (ok_store (d:=ofVal v25) (k:=50) (off:=0) (ob:=.box 25 [a.D,b.D,c.D]) (ob':=.box 25 (ofVal v25).cells) rfl (by kernel_rfl) t2 (.ev (by kernel_rfl)) (by kernel_rfl) o1 (by kernel_rfl) (by decide)) hR
 have n1:∀ k,σ'.N+8<=k->(s.upd none (.tup []) [(50,some (.box 25 (ofVal v25).cells))] σ'.N).nm k=false:=fun k hk=>by
  simp [St.upd,nm0 k (by omega)];omega
 obtain ⟨w2,r2,R2⟩:=st_run (P:=Tryz.prog) (o:=mkSt 3 (.tmp 3) (.const (.int .i64 n))) (N:=σ'.N+8) mkSt_op rfl (by omega) (fun k h _=>n1 k h)
  (ok_store (d:=ofVal (.int .i64 n)) (k:=51) (off:=0) (ob:=.box 3 [d.D]) (ob':=.box 3 (ofVal (.int .i64 n)).cells) rfl (by kernel_rfl) t3 (.ev (by kernel_rfl)) (by kernel_rfl) o2 (by kernel_rfl) (Nat.succ_pos 0)) R1
 have n2:∀ k,σ'.N+16<=k->((s.upd none (.tup []) [(50,some (.box 25 (ofVal v25).cells))] σ'.N).upd none (.tup []) [(51,some (.box 3 (ofVal (.int .i64 n)).cells))] (σ'.N+8)).nm k=false:=fun k hk=>by
  simp [St.upd,nm0 k (by omega)];omega
 obtain ⟨w3,r3,R3⟩:=st_run (P:=Tryz.prog) (o:=mkSt 29 (.tmp 4) (.const (.int .i64 2))) (N:=σ'.N+16) mkSt_op rfl (by omega) (fun k h _=>n2 k h)
  (ok_store (d:=ofVal (.int .i64 2)) (k:=52) (off:=0) (ob:=.box 29 [e.D]) (ob':=.box 29 (ofVal (.int .i64 2)).cells) rfl (by kernel_rfl) t4 (.ev (by kernel_rfl)) (by kernel_rfl) o3 (by kernel_rfl) (by decide)) R2
 have n3:∀ k,σ'.N+24<=k->(((s.upd none (.tup []) [(50,some (.box 25 (ofVal v25).cells))] σ'.N).upd none (.tup []) [(51,some (.box 3 (ofVal (.int .i64 n)).cells))] (σ'.N+8)).upd none (.tup []) [(52,some (.box 29 (ofVal (.int .i64 2)).cells))] (σ'.N+16)).nm k=false:=fun k hk=>by
  simp [St.upd,nm0 k (by omega)];omega
 refine ⟨w1,w2,w3,r1,r2,r3,?_⟩
 have R4:=R3.bound n3
 refine ent_sub (fun t d' ht=>?_) (fun k ob hk=>?_) _ _ R4
 ·by_cases e2:t=2
  ·subst e2;cases ht;exact t2
  by_cases e3:t=3
  ·subst e3;cases ht;exact t3
  by_cases e4:t=4
  ·subst e4;cases ht;exact t4
  exact absurd ht (by simp [σp,σv,lk_eq,Ab.look,Ne.symm e2,Ne.symm e3,Ne.symm e4])
 ·by_cases e2:k=50
  ·subst e2;cases hk;rfl
  by_cases e3:k=51
  ·subst e3;cases hk;rfl
  by_cases e4:k=52
  ·subst e4;cases hk;rfl
  exact absurd hk (by simp [σp,σv,lk_eq,Ab.look,Ne.symm e2,Ne.symm e3,Ne.symm e4])
theorem reg_free {E:Env} {σ:St} {tm:Array Value} {w:World} {t:Nat} {v:Value} (h:R E σ tm w) (ht:σ.T t=none):R E σ (tm.setIfInBounds t v) w:=by
 obtain ⟨ν,G,I⟩:=h
 refine ⟨ν,G,I.kept,I.keep,I.pin,I.g0,by rw [Array.size_setIfInBounds];exact I.sz,fun t' d h=>?_,I.H,I.dis⟩
 obtain ⟨u,hu,hd⟩:=I.T t' d h
 refine ⟨u,?_,hd⟩
 rw [Array.getElem?_setIfInBounds_ne (by intro e;subst e;rw [ht] at h;cases h)]
 exact hu
theorem c3_wp {Q:Exit->Act->World->Prop} {a:Act} {w:World} {p q r:Value} (hs:10 < a.tmps.size) (h2:a.eval (.tmp 2)=p) (h3:a.eval (.tmp 3)=q) (h4:a.eval (.tmp 4)=r)
    (k:Q .normal { tmps:=a.tmps.setIfInBounds 10 (.func (.func 75) #[] #[p,q,r]),defers:={ target:=.fn (.func 75) #[p,q,r],args:=#[] }::a.defers } w):w42b3.wp Tryz.prog Q a w:=by
 obtain ⟨ty1,ps1,af1,ty2,ps2,af2,hc⟩:∃ ty1 ps1 af1 ty2 ps2 af2,w42b3 = .region 3 [(⟨some 10,.makeFunc (.func 75) #[] #[.tmp 2,.tmp 3,.tmp 4],ty1,ps1,af1,none⟩:Oper),⟨none,.defer ⟨.value (.tmp 10),#[],#[]⟩,ty2,ps2,af2,none⟩].toArray false:=⟨_,_,_,_,_,_,rfl⟩
 rw [hc]
 apply wp_region_lit
 unfold wpList
 rw [if_pos (by rfl)]
 left
 unfold Oper.wp
 have e1:(execOp a.eval (⟨some 10,.makeFunc (.func 75) #[] #[.tmp 2,.tmp 3,.tmp 4],ty1,ps1,af1,none⟩:Oper)).run Tryz.prog w = .ok (.value (.func (.func 75) #[] #[p,q,r])) w:=by
  have hmf:∀ (fn:Fn) (first cap:Array Value) (w:World),(Instr.makeFunc fn first cap).run Tryz.prog w = .ok (.func fn first cap) w:=fun _ _ _ _=>rfl
  subst h2 h3 h4
  simp [go_sem]
 rw [e1,Oper.upon_value]
 unfold wpList
 rw [if_pos (by rfl)]
 left
 unfold Oper.wp
 have e2:(execOp (a.put (some 10) (.func (.func 75) #[] #[p,q,r])).eval (⟨none,.defer ⟨.value (.tmp 10),#[],#[]⟩,ty2,ps2,af2,none⟩:Oper)).run Tryz.prog w = .ok (.defer { target:=.fn (.func 75) #[p,q,r],args:=#[] }) w:=by
  unfold execOp
  simp only [resolve,put_eq _ _ _ hs]
  simp [go_sem,Deferred.ofValue]
 rw [e2,Oper.upon_defer]
 exact k
noncomputable def w42fin (r:Res):Res:=match r.1 with
 | .pan (.iface 96 (.int .i64 n))=>w42r0 0 0 [] n 2
 | _=>r
theorem R_ren {E:Env} {σ:St} {tm:Array Value} {w:World} {ρ:Nat->Nat} {nm':Nat->Bool} {T':List (Nat×D)} {H':List (Nat×AObj)} {N:Nat} {ν0':Nat->Value} {ds':List Deferred} (ν':Nat->Value) {ν:Nat->Value} {G:Lim} (I:Inv E σ ν G w tm)
    (hT:AllT false σ nm' ρ T') (hH:AllH false σ nm' ρ H') (hnm:∀ k,nm' k=true->k < N) (hkk:∀ p ∈ H',nm' p.1=true) (hnd:(H'.map fun p=>ρ p.1).Nodup)
    (hν:∀ k',nm' k'=true->σ.nm (ρ k')=true->ν' k'=ν (ρ k')) (hpin:∀ k,50<=k->k < 100->ν' k=ν0' k):R { E with ν0:=ν0',ds:=ds' } (mk (fun t=>Ab.look t T') (fun k=>Ab.look k H') N) tm w:=by
 have hmono:∀ k,nm' k=true->decide (k < N)=true/\ν' k=ν' k:=fun k hk=>⟨decide_eq_true (hnm k hk),rfl⟩
 have key:∀ k o',Ab.look k H'=some o'->∃ o,σ.H (ρ k)=some o/\OLe false σ.H nm' ρ o o'/\nm' k=true/\ν' k=ν (ρ k):=fun k o' h=>by
  obtain ⟨o,ho,hle⟩:=hH.get h
  have hn:=hkk _ (look_mem h)
  exact ⟨o,ho,hle,hn,hν k hn (I.H _ o ho).1⟩
 refine ⟨ν',G,⟨I.kept.os,I.kept.tape,I.kept.output,I.kept.size,I.kept.block⟩,I.keep,hpin,I.g0,I.sz,fun t d' h=>?_,fun k o' h=>?_,fun k o k' o' h h' hne g hg=>?_⟩
 ·obtain ⟨d,hd,hle⟩:=hT.get h
  obtain ⟨v,hv,hvd⟩:=I.T t d hd
  exact ⟨v,hv,(hle.rel (fun _ _ _ h=>h) I.rows hν hvd).mono hmono (fun _ _ _ h=>h)⟩
 ·obtain ⟨o,ho,hle,hn,hk⟩:=key k o' h
  exact ⟨(hmono k hn).1,((I.H _ o ho).2.view (E':={ E with ν0:=ν0',ds:=ds' }) hle I.rows hν hk (fun _ _ h=>h)).mono hn hmono (fun _ _ _ h=>h) (fun _ _=>⟨rfl,rfl⟩)⟩
 ·obtain ⟨o1,h1,l1,n1,e1⟩:=key k o h
  obtain ⟨o2,h2,l2,n2,e2⟩:=key k' o' h'
  rw [e1] at hg
  rw [e2]
  refine fun hg'=>I.dis _ o1 _ o2 h1 h2 (fun e=>hne ?_) g (l1.ft.1 hg) (l2.ft.1 hg')
  exact nodup_inj (by rw [List.map_map];exact hnd) k (look_keys h) k' (look_keys h') e
theorem ev_pin {E:Env} {σ:St} {tm:Array Value} {w:World} {t k:Nat} (h:R E σ tm w) (ht:σ.T t=some (.ref k 0)) (h50:50<=k) (h100:k < 100):∃ g,(⟨tm,[]⟩:Act).eval (.tmp t) = .pointer (some ⟨g,0,none⟩)/\blk (E.ν0 k)=some g:=by
 obtain ⟨ν,G,I⟩:=h
 obtain ⟨v,hv,hd⟩:=I.T t _ ht
 obtain ⟨g,h1,h2,h3⟩:=ref_of hd
 refine ⟨g,?_,by rw [← I.pin k h50 h100];exact h1⟩
 subst h2
 simp [Act.eval,Array.getD_eq_getD_getElem?,hv]
theorem back {E:Env} {ν0':Nat->Value} {tm:Array Value} {w:World} {a b c d e:X} {N:Nat} (hN:148<=N) (ha:isT a=true) (hb:isT b=true) (hc:isT c=true) (hd:isT d=true) (he:isT e=true) (hR:R E (denS (σv 50 51 52 a b c d e N)) tm w):
    R { E with ν0:=ν0',ds:=[] } (denS (σv 100 108 116 a b c d e N)) tm w:=by
 obtain ⟨ν,G,I⟩:=hR
 let ρ:Nat->Nat:=fun k=>if k=100 then 50 else if k=108 then 51 else 52
 have h:=R_ren (E:=E) (ρ:=ρ) (nm':=fun k=>decide (k=100\/k=108\/k=116)) (N:=N) (ν0':=ν0') (ds':=[]) (fun k=>if 50<=k/\k < 100 then ν0' k else ν (ρ k)) I
  (T':=[(2,.ref 100 0),(3,.ref 108 0),(4,.ref 116 0)]) (H':=[(100,.box 25 [a.D,b.D,c.D]),(108,.box 3 [d.D]),(116,.box 29 [e.D])])
  (.cons (d:=.ref 50 0) rfl (.ref (by simp) rfl) (.cons (d:=.ref 51 0) rfl (.ref (by simp) rfl) (.cons (d:=.ref 52 0) rfl (.ref (by simp) rfl) .nil)))
  (.cons (o:=.box 25 [a.D,b.D,c.D]) rfl (.box' (.cons (isT_le ha) (.cons (isT_le hb) (.cons (isT_le hc) .nil)))) (.cons (o:=.box 3 [d.D]) rfl (.box' (.cons (isT_le hd) .nil)) (.cons (o:=.box 29 [e.D]) rfl (.box' (.cons (isT_le he) .nil)) .nil)))
  (fun k hk=>by have:=of_decide_eq_true hk;omega) (fun p hp=>by simp at hp;rcases hp with rfl | rfl | rfl <;> simp) (by simp [ρ])
  (fun k hk _=>by have:=of_decide_eq_true hk;rw [if_neg (by omega)]) (fun k h1 h2=>by simp [h1,h2])
 refine ent_sub (fun t d' ht=>?_) (fun k ob hk=>?_) _ _ h
 ·by_cases e2:t=2
  ·subst e2;cases ht;rfl
  by_cases e3:t=3
  ·subst e3;cases ht;rfl
  by_cases e4:t=4
  ·subst e4;cases ht;rfl
  exact absurd ht (by simp [σv,lk_eq,Ab.look,Ne.symm e2,Ne.symm e3,Ne.symm e4])
 ·by_cases e2:k=100
  ·subst e2;cases hk;rfl
  by_cases e3:k=108
  ·subst e3;cases hk;rfl
  by_cases e4:k=116
  ·subst e4;cases hk;rfl
  exact absurd hk (by simp [σv,lk_eq,Ab.look,Ne.symm e2,Ne.symm e3,Ne.symm e4])
theorem forth {E:Env} {tm:Array Value} {w:World} {s:List UInt8} (ds':List Deferred) (hR:R E (denS (σ2 s)) tm w):∃ ν0',R { E with ν0:=ν0',ds:=ds' } (denS (σ4 s)) tm w:=by
 obtain ⟨ν,G,I⟩:=hR
 let ρ:Nat->Nat:=fun k=>if k=50 then 100 else if k=51 then 108 else 116
 refine ⟨fun k=>ν (ρ k),?_⟩
 have h:=R_ren (E:=E) (ρ:=ρ) (nm':=fun k=>decide (k=50\/k=51\/k=52)) (N:=148) (ν0':=fun k=>ν (ρ k)) (ds':=ds') (fun k=>ν (ρ k)) I
  (T':=[(0,(X.e .tx s).D),(2,.ref 50 0),(3,.ref 51 0),(4,.ref 52 0)]) (H':=[(50,z25.A),(51,.box 3 [(X.e (.i .i64) (0:Int)).D]),(52,.box 29 [(X.e (.i .i64) (0:Int)).D])])
  (.cons (d:=(X.e .tx s).D) rfl (isT_le rfl) (.cons (d:=.ref 100 0) rfl (.ref (by simp) rfl) (.cons (d:=.ref 108 0) rfl (.ref (by simp) rfl) (.cons (d:=.ref 116 0) rfl (.ref (by simp) rfl) .nil))))
  (.cons (o:=z25.A) rfl (.box' (.cons (isT_le rfl) (.cons (isT_le rfl) (.cons (isT_le rfl) .nil)))) (.cons (o:=.box 3 [(X.e (.i .i64) (0:Int)).D]) rfl (.box' (.cons (isT_le rfl) .nil)) (.cons (o:=.box 29 [(X.e (.i .i64) (0:Int)).D]) rfl (.box' (.cons (isT_le rfl) .nil)) .nil)))
  (fun k hk=>by have:=of_decide_eq_true hk;omega) (fun p hp=>by simp at hp;rcases hp with rfl | rfl | rfl <;> simp) (by simp [ρ])
  (fun k hk _=>rfl) (fun k h1 h2=>rfl)
 refine ent_sub (fun t d' ht=>?_) (fun k ob hk=>?_) _ _ h
 ·by_cases e1:t=0
  ·subst e1;cases ht;rfl
  by_cases e2:t=2
  ·subst e2;cases ht;rfl
  by_cases e3:t=3
  ·subst e3;cases ht;rfl
  by_cases e4:t=4
  ·subst e4;cases ht;rfl
  exact absurd ht (by simp [σ4,lk_eq,Ab.look,Ne.symm e1,Ne.symm e2,Ne.symm e3,Ne.symm e4])
 ·by_cases e2:k=50
  ·subst e2;cases hk;rfl
  by_cases e3:k=51
  ·subst e3;cases hk;rfl
  by_cases e4:k=52
  ·subst e4;cases hk;rfl
  exact absurd hk (by simp [σ4,lk_eq,Ab.look,Ne.symm e2,Ne.symm e3,Ne.symm e4])
theorem w42_head {E:Env} {w:World} {vs:Array Value} {N:Nat} {s:List UInt8} {Rp:Ending->World->Prop} (hE:E.m=35) (hds:E.ds=[]) (hR:R E (denS (σ0 s)) vs w)
    (hlong:(8192:Int) < (s.length:Int)->∀ tm w',R E (denS (σr s)) tm w'->∃ v,(results Tryz.f42 tm).run Tryz.prog w' = .ok v w'/\Rp (.returned v) w')
    (hrest:¬ (8192:Int) < (s.length:Int)->∀ a w',a.defers=[]->R E (denS (σ2 s)) a.tmps w'->(Code.seq w42b3 w42b4).wp Tryz.prog (bodyPostD Tryz.prog Tryz.f42 Rp) a w'):
    (Code.seq w42b0 (.seq w42b1 (.seq w42b3 w42b4))).wp Tryz.prog (bodyPostD Tryz.prog Tryz.f42 Rp) { tmps:=vs,defers:=[] } w:=by
 have r0:=run1 (w42cx N) (M:=35) (code:=w42b0) (σ:=σ0 s) (hk_d _) (show 100<=100 by decide) (ex0 N s) E hE
 refine wp_seq (wp_mono (r0 { tmps:=vs,defers:=[] } w hds.symm hR) ?_)
 rintro e a' w' ⟨hd,st,⟨σ',⟨rfl,rfl⟩,hent⟩,hRR⟩
 have hR1:=hent _ _ hRR
 show (Code.seq w42b1 (.seq w42b3 w42b4)).wp Tryz.prog _ a' w'
 by_cases hl:(8192:Int) < (s.length:Int)
 ·have r1:=run1 (w42cx N) (M:=35) (code:=w42b1) (σ:=σ1 s) (e0:=.ret) (σ1:=σr s) (hk_d _) (show 100<=124 by decide) (fun k=>by rw [ex1];simp only [decide_eq_true hl];rfl) E hE
  refine wp_seq (wp_mono (r1 a' w' hd hR1) ?_)
  rintro e a2 w2 ⟨hd2,st2,⟨σ',⟨rfl,rfl⟩,hent2⟩,hRR2⟩
  obtain ⟨v,h1,h2⟩:=hlong hl _ _ (hent2 _ _ hRR2)
  show Leaves Tryz.prog Tryz.f42 a2.tmps Rp a2.defers .returning w2
  rw [hd2,hds]
  exact ⟨v,h1,h2⟩
 ·have r1:=run1 (w42cx N) (M:=35) (code:=w42b1) (σ:=σ1 s) (e0:=.normal) (σ1:=σ2 s) (hk_d _) (show 100<=124 by decide) (fun k=>by rw [ex1];simp only [decide_eq_false hl];rfl) E hE
  refine wp_seq (wp_mono (r1 a' w' hd hR1) ?_)
  rintro e a2 w2 ⟨hd2,st2,⟨σ',⟨rfl,rfl⟩,hent2⟩,hRR2⟩
  exact hrest hl a2 w2 (hd2.trans hds) (hent2 _ _ hRR2)
abbrev RpE (E:Env) (r:Res) (e:Ending) (w:World):Prop:=∃ v,e = .returned v/\R { E with m:=1 } (res r.1.D (HA r.2)) #[v] w
theorem w42_rest {E:Env} {N:Nat} {s:List UInt8} {r:Res} (hr:w42G N s=some r) (hE:E.m=35) {a:Act} {w:World} (hd:a.defers=[]) (hR:R E (denS (σ2 s)) a.tmps w):
    (Code.seq w42b3 w42b4).wp Tryz.prog (bodyPostD Tryz.prog Tryz.f42 (RpE { E with ds:=[] } (w42fin r))) a w:=by
 have hsz:a.tmps.size=35:=by obtain ⟨ν,G,I⟩:=hR;rw [I.sz,hE]
 -- the closure's variables
 let p:=a.eval (.tmp 2);let q:=a.eval (.tmp 3);let q':=a.eval (.tmp 4)
 let d:Deferred:={ target:=.fn (.func 75) #[p,q,q'],args:=#[] }
 have hR3:R E (denS (σ2 s)) (a.tmps.setIfInBounds 10 (.func (.func 75) #[] #[p,q,q'])) w:=reg_free hR rfl
 obtain ⟨ν0',hR4⟩:=forth [d] hR3
 have hkeep:∀ (t k:Nat),t≠10->(denS (σ4 s)).T t=some (.ref k 0)->50<=k->k < 100->∃ g,a.eval (.tmp t) = .pointer (some ⟨g,0,none⟩)/\blk (ν0' k)=some g:=fun t k hne ht h1 h2=>by
  obtain ⟨g,e1,e2⟩:=ev_pin hR4 ht h1 h2
  refine ⟨g,?_,e2⟩
  rw [← e1]
  simp [Act.eval,Array.getD_eq_getD_getElem?,Ne.symm hne]
 obtain ⟨g2,p2,n2⟩:=hkeep 2 50 (by decide) rfl (by decide) (by decide)
 obtain ⟨g3,p3,n3⟩:=hkeep 3 51 (by decide) rfl (by decide) (by decide)
 obtain ⟨g4,p4,n4⟩:=hkeep 4 52 (by decide) rfl (by decide) (by decide)
 refine wp_seq (c3_wp (by omega) rfl rfl rfl ?_)
 show w42b4.wp Tryz.prog _ _ w
 refine wp_mono (exec_ok (w42cx N) w42b4 .d (σ4 s) (w42K N) r (by rw [ex4];exact hr) (hk_d _) (show 100<=148 by decide) { E with ν0:=ν0',ds:=[d] } hE _ w (by rw [hd]) hR4) ?_
 rintro e a5 w5 ⟨hd5,st,⟨σ',⟨hN5,hk⟩,hent⟩,hRR⟩
 have R5:=hent _ _ hRR
 have hcl:∀ (t k:Nat) (g:Nat),(denS σ').T t=some (.ref k 0)->50<=k->k < 100->blk (ν0' k)=some g->(⟨a5.tmps,[]⟩:Act).eval (.tmp t) = .pointer (some ⟨g,0,none⟩):=fun t k g ht h1 h2 hg=>by
  obtain ⟨g',e1,e2⟩:=ev_pin R5 ht h1 h2
  rw [hg] at e2
  cases e2
  exact e1
 have hd5:a5.defers=[d]:=hd5
 have hinv:∀ w:World,(invoke (.fn (.func 75) #[p,q,q']) #[]).run Tryz.prog w = .ok (.enter 75 #[.pointer (some ⟨g2,0,none⟩),.pointer (some ⟨g3,0,none⟩),.pointer (some ⟨g4,0,none⟩)]) w:=fun w=>by
  show (invoke (.fn (.func 75) #[a.eval (.tmp 2),a.eval (.tmp 3),a.eval (.tmp 4)]) #[]).run Tryz.prog w=_
  rw [p2,p3,p4]
  kernel_rfl
 have ret:∀ {a b c d' e':X} {N':Nat},148<=N'->isT a=true->isT b=true->isT c=true->isT d'=true->isT e'=true->finR (w42c N) Tryz.f42 false .ret (σv 100 108 116 a b c d' e' N')=some (w42fin r)->∀ w6,R { E with ν0:=ν0',ds:=[d] } (denS (σv 50 51 52 a b c d' e' N')) a5.tmps w6->
     ∃ v,(results Tryz.f42 a5.tmps).run Tryz.prog w6 = .ok v w6/\RpE { E with ds:=[] } (w42fin r) (.returned v) w6:=fun hN ha hb hc hd he hf w6 h6=>by
  obtain ⟨v,h1,h2⟩:=(finR_ok hf).2 _ _ _ (back (ν0':=E.ν0) hN ha hb hc hd he h6)
  exact ⟨v,h1,v,rfl,h2⟩
 have nor:pK (fun a b c d e=>finR (w42c N) Tryz.f42 false .ret (σv 100 108 116 a b c d e σ'.N)) σ'=some r->Leaves Tryz.prog Tryz.f42 a5.tmps (RpE { E with ds:=[] } (w42fin r)) a5.defers .returning w5:=fun hk=>by
  obtain ⟨a',b',c',d',e',hf,ha,hb,hc,hd',he',t2,t3,t4,k1,k2,k3,hN⟩:=pK_some hk
  have hr':w42fin r=r:=by
   have:=(finR_np hf)
   unfold w42fin
   split
   ·rename_i n hn;exact absurd hn (this _)
   ·rfl
  rw [hd5]
  refine leaves_cons (by simp) (hinv w5) ((c75_idle _ _ _ w5).mono ?_)
  rintro e u' w' ⟨rfl,rfl,rfl⟩
  show Leaves Tryz.prog Tryz.f42 a5.tmps _ [] .returning w'
  refine ret hN ha hb hc hd' he' (by rw [hr'];exact hf) w' (ent_sub (fun t d' ht=>?_) (fun k ob hk=>?_) _ _ R5)
  ·by_cases e2:t=2
   ·subst e2;cases ht;show (lk 2 σ'.T).map X.D=_;rw [t2];rfl
   by_cases e3:t=3
   ·subst e3;cases ht;show (lk 3 σ'.T).map X.D=_;rw [t3];rfl
   by_cases e4:t=4
   ·subst e4;cases ht;show (lk 4 σ'.T).map X.D=_;rw [t4];rfl
   exact absurd ht (by simp [σv,lk_eq,Ab.look,Ne.symm e2,Ne.symm e3,Ne.symm e4])
  ·by_cases e2:k=50
   ·subst e2;cases hk;show (lk 50 σ'.H).map XO.A=_;rw [k1];rfl
   by_cases e3:k=51
   ·subst e3;cases hk;show (lk 51 σ'.H).map XO.A=_;rw [k2];rfl
   by_cases e4:k=52
   ·subst e4;cases hk;show (lk 52 σ'.H).map XO.A=_;rw [k3];rfl
   exact absurd hk (by simp [σv,lk_eq,Ab.look,Ne.symm e2,Ne.symm e3,Ne.symm e4])
 cases e with
 | normal=>exact nor hk
 | ret=>exact nor hk
 | exit id=>cases hk
 | goto l=>cases hk
 | outgrown=>cases hk
 | panic ch=>
   cases ch with
   | nil=>exact absurd (show (none:O)=some r from hk) (by simp)
   | cons p0 l=>
   cases l with
   | cons _ _=>exact absurd (show (none:O)=some r from hk) (by simp)
   | nil=>
   obtain ⟨a',b',c',d',e',hf,ha,hb,hc,hd',he',t2,t3,t4,k1,k2,k3,hN⟩:=pK_some (show pK (fun _ _ _ _ _=>panO p0) σ'=some r from hk)
   obtain ⟨n,rfl,rfl⟩:=panO_some hf
   obtain ⟨w1,w2,w3,r1,r2,r3,R6⟩:=pan_end (n:=n) hN5 R5 t2 t3 t4 k1 k2 k3
   rw [hcl 2 50 g2 (by show (lk 2 σ'.T).map X.D=_;rw [t2];rfl) (by decide) (by decide) n2] at r1
   rw [hcl 3 51 g3 (by show (lk 3 σ'.T).map X.D=_;rw [t3];rfl) (by decide) (by decide) n3] at r2
   rw [hcl 4 52 g4 (by show (lk 4 σ'.T).map X.D=_;rw [t4];rfl) (by decide) (by decide) n4] at r3
   show Leaves Tryz.prog Tryz.f42 a5.tmps _ a5.defers (.panicking [pent (.iface 96 (.int .i64 n))]) w5
   rw [hd5]
   refine leaves_cons (by simp) (hinv w5) ((c75_catch _ _ _ n w5 w1 w2 w3 r1 r2 r3).mono ?_)
   rintro e u' w' ⟨rfl,rfl,rfl⟩
   show Leaves Tryz.prog Tryz.f42 a5.tmps _ [] .returning w'
   exact ret (N':=σ'.N+24) (by omega) rfl rfl rfl rfl rfl (by kernel_rfl) w' R6
theorem finR_long (N:Nat) (s:List UInt8):finR (w42c N) Tryz.f42 false .ret (σr s)=some (w42r0 0 0 [] 0 4):=by kernel_rfl
theorem w42_entry {N:Nat} {s:List UInt8} {r:Res} (hl:(8192:Int) < (s.length:Int)->r=w42r0 0 0 [] 0 4) (hs:¬ (8192:Int) < (s.length:Int)->∃ r0,w42G N s=some r0/\r=w42fin r0):Does Tryz.prog 42 (([.e .tx s]:List X).map X.D) (HA []) r.1.D (HA r.2):=by
 intro E w vs _ hm hsz hR
 have hR':=hR.entry (Tryz.f42.ntmps - vs.size)
 have h1:vs.size=1:=hsz
 have h35:Tryz.f42.ntmps=35:=by kernel_rfl
 rw [show vs.size+(Tryz.f42.ntmps - vs.size)=35 by rw [h35];omega] at hR'
 have hR1:R { E with m:=35,ds:=[] } (denS (σ0 s)) (vs++Array.replicate (Tryz.f42.ntmps - vs.size) undef) w:=by
  have:=hR'.eds []
  rw [← den_args [.e .tx s] []] at this
  exact this
 refine Calls.mono (calls_of_wp_defers (fn:=Tryz.f42) (R:=RpE { E with ds:=[] } r) (by kernel_rfl) w42_code (w42_head (N:=N) rfl rfl hR1 (fun hlong tm w' h=>?_) (fun hshort a w' hd h=>?_))) ?_
 ·have e:=hl hlong
  subst e
  obtain ⟨v,e1,e2⟩:=(finR_ok (finR_long N s)).2 _ _ _ h
  exact ⟨v,e1,v,rfl,e2⟩
 ·obtain ⟨r0,e1,rfl⟩:=hs hshort
  exact w42_rest (E:={ E with m:=35,ds:=[] }) e1 rfl hd h
 ·rintro e w' ⟨v,rfl,h⟩
  exact ⟨v,rfl,h.eds E.ds⟩
end Go.Proofs
/- Parse: the contract. -/
namespace Go.Proofs
open Go.Ax Go.Ax.Alg Go.RowKit Go.Ab
open Go
noncomputable def w42v (N:Nat) (s:List UInt8):Option (Int×Int×List Ex×Int×Int):=
 if (8192:Int) < (s.length:Int) then some (0,0,[],0,4)
 else if w76p N 0 s 0=true then
  if w76b_ N 0 s 0=true then
   if w77p N (w76y3 N 0 s 0) (w76y4 N 0 s 0)=true then
    if w77y0 N (w76y3 N 0 s 0) (w76y4 N 0 s 0)≠(0:UInt8)\/w77y2 N (w76y3 N 0 s 0) (w76y4 N 0 s 0) < (s.length:Int) then
     if w78p N (w77y1 N (w76y3 N 0 s 0) (w76y4 N 0 s 0)) (w77y2 N (w76y3 N 0 s 0) (w76y4 N 0 s 0))=true then some (0,0,[],w78pv0 N (w77y1 N (w76y3 N 0 s 0) (w76y4 N 0 s 0)) (w77y2 N (w76y3 N 0 s 0) (w76y4 N 0 s 0)),2) else none
    else if w29p N (w76y0 N 0 s 0) (w76y1 N 0 s 0) (w76y2 N 0 s 0)=true then
     if w29y0 N (w76y0 N 0 s 0) (w76y1 N 0 s 0) (w76y2 N 0 s 0)≠(0:Int) then some (0,0,[],0,4) else some (w76y0 N 0 s 0,w76y1 N 0 s 0,w76y2 N 0 s 0,0,0)
    else none
   else none
  else some (0,0,[],w76pv0 N 0 s 0,2)
 else none
noncomputable def w42p (N:Nat) (s:List UInt8):Bool:=(w42v N s).isSome
noncomputable def w42y0 (N:Nat) (s:List UInt8):Int:=((w42v N s).getD (0,0,[],0,0)).1
noncomputable def w42y1 (N:Nat) (s:List UInt8):Int:=((w42v N s).getD (0,0,[],0,0)).2.1
noncomputable def w42y2 (N:Nat) (s:List UInt8):List Ex:=((w42v N s).getD (0,0,[],0,0)).2.2.1
noncomputable def w42y3 (N:Nat) (s:List UInt8):Int:=((w42v N s).getD (0,0,[],0,0)).2.2.2.1
noncomputable def w42y4 (N:Nat) (s:List UInt8):Int:=((w42v N s).getD (0,0,[],0,0)).2.2.2.2
noncomputable def w42e (N:Nat):Ent':=E1 .tx fun s=>(w42p N s,w42r0 (w42y0 N s) (w42y1 N s) (w42y2 N s) (w42y3 N s) (w42y4 N s))
theorem w42G_v {N:Nat} {s:List UInt8} {d:Int×Int×List Ex×Int×Int} (hs:¬ (8192:Int) < (s.length:Int)) (h:w42v N s=some d):∃ r0,w42G N s=some r0/\w42r0 d.1 d.2.1 d.2.2.1 d.2.2.2.1 d.2.2.2.2=w42fin r0:=by
 unfold w42v at h
 rw [if_neg hs] at h
 by_cases h1:w76p N 0 s 0=true
 case neg=>rw [if_neg h1] at h;cases h
 rw [if_pos h1] at h
 by_cases h2:w76b_ N 0 s 0=true
 case neg=>
  rw [if_neg h2] at h;cases h
  rw [Bool.not_eq_true] at h2
  refine ⟨(.pan (.iface 96 (.int .i64 (w76pv0 N 0 s 0))),[]),?_,?_⟩
  ·unfold w42G;rw [ck_of h1,h2,br_f]
  ·rfl
 rw [if_pos h2] at h
 by_cases h3:w77p N (w76y3 N 0 s 0) (w76y4 N 0 s 0)=true
 case neg=>rw [if_neg h3] at h;cases h
 rw [if_pos h3] at h
 by_cases h4:w77y0 N (w76y3 N 0 s 0) (w76y4 N 0 s 0)≠(0:UInt8)\/w77y2 N (w76y3 N 0 s 0) (w76y4 N 0 s 0) < (s.length:Int)
 ·rw [if_pos h4] at h
  have h4':(decide (w77y0 N (w76y3 N 0 s 0) (w76y4 N 0 s 0)≠(0:UInt8))||decide (w77y2 N (w76y3 N 0 s 0) (w76y4 N 0 s 0) < (s.length:Int)))=true:=by simpa using h4
  by_cases h5:w78p N (w77y1 N (w76y3 N 0 s 0) (w76y4 N 0 s 0)) (w77y2 N (w76y3 N 0 s 0) (w76y4 N 0 s 0))=true
  case neg=>rw [if_neg h5] at h;cases h
  rw [if_pos h5] at h
  cases h
  refine ⟨(.pan (.iface 96 (.int .i64 (w78pv0 N (w77y1 N (w76y3 N 0 s 0) (w76y4 N 0 s 0)) (w77y2 N (w76y3 N 0 s 0) (w76y4 N 0 s 0))))),[]),?_,?_⟩
  ·unfold w42G;rw [ck_of h1,h2,br_t,ck_of h3,h4',br_t,ck_of h5]
  ·rfl
 ·rw [if_neg h4] at h
  have h4':(decide (w77y0 N (w76y3 N 0 s 0) (w76y4 N 0 s 0)≠(0:UInt8))||decide (w77y2 N (w76y3 N 0 s 0) (w76y4 N 0 s 0) < (s.length:Int)))=false:=by
   rw [Bool.or_eq_false_iff];exact ⟨decide_eq_false fun h=>h4 (.inl h),decide_eq_false fun h=>h4 (.inr h)⟩
  by_cases h5:w29p N (w76y0 N 0 s 0) (w76y1 N 0 s 0) (w76y2 N 0 s 0)=true
  case neg=>rw [if_neg h5] at h;cases h
  rw [if_pos h5] at h
  by_cases h6:w29y0 N (w76y0 N 0 s 0) (w76y1 N 0 s 0) (w76y2 N 0 s 0)≠(0:Int)
  ·rw [if_pos h6] at h
   cases h
   refine ⟨w42r0 0 0 [] 0 4,?_,?_⟩
   ·unfold w42G;rw [ck_of h1,h2,br_t,ck_of h3,h4',br_f,ck_of h5,(decide_eq_true h6),br_t]
   ·rfl
  ·rw [if_neg h6] at h
   cases h
   refine ⟨w42r0 (w76y0 N 0 s 0) (w76y1 N 0 s 0) (w76y2 N 0 s 0) 0 0,?_,?_⟩
   ·unfold w42G;rw [ck_of h1,h2,br_t,ck_of h3,h4',br_f,ck_of h5,(decide_eq_false h6),br_f]
   ·rfl
theorem w42ok (N:Nat):EOk Tryz.prog 42 (w42e N):=EOk.e1 (fun x0 h=>by
 have h:(w42v N x0).isSome=true:=h
 obtain ⟨d,hd⟩:=Option.isSome_iff_exists.1 h
 have hr:w42r0 (w42y0 N x0) (w42y1 N x0) (w42y2 N x0) (w42y3 N x0) (w42y4 N x0)=w42r0 d.1 d.2.1 d.2.2.1 d.2.2.2.1 d.2.2.2.2:=by
  unfold w42y0 w42y1 w42y2 w42y3 w42y4;rw [hd];rfl
 show Does Tryz.prog 42 (([.e .tx x0]:List X).map X.D) (HA []) (w42r0 (w42y0 N x0) (w42y1 N x0) (w42y2 N x0) (w42y3 N x0) (w42y4 N x0)).1.D (HA (w42r0 (w42y0 N x0) (w42y1 N x0) (w42y2 N x0) (w42y3 N x0) (w42y4 N x0)).2)
 rw [hr]
 refine w42_entry (N:=N) (fun hl=>?_) (fun hs=>w42G_v hs hd)
 unfold w42v at hd
 rw [if_pos hl] at hd
 cases hd
 rfl)
end Go.Proofs
