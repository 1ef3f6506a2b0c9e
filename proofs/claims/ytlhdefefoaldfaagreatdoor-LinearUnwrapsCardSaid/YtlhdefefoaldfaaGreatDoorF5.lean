/- Parse. Conditions are in the theorems. -/
import Derived.Test.YtlhdefefoaldfaaGreatDoorE7
import Derived.IntWalk
import Derived.Test.YtlhdefefoaldfaaGreatDoorF2
import Derived.Tactics
import Derived.Tactics2
import Derived.Recover
import Derived.Test.YtlhdefefoaldfaaGreatDoorProg
import Derived.KernelRfl
open Array renaming getD_eq_getD_getElem?->aBB,replicate->p6
open Bool renaming false_eq_true->Fi
open Ne renaming symm->dS
/- Small laws for what a run leaves to be shown. -/
namespace Go.Proofs
open Go Go.Ax Go.Ax.aA
theorem aX(x y:O):br true x y=x:=rfl
theorem aK(x y:O):br false x y=y:=rfl
theorem cP(x:O):ck true x=x:=rfl
theorem aI{b:Bool}(h:b=true)(x:O):ck b x=x:=by rw[h];rfl
theorem RH{α:Type}{l:List α}{n:Int}{y:α}(h0:0<=n)(h:l[n.toNat]?=some y)(k:α->O):gx l n k=k y:=by
 show FT l n k=_;unfold FT;rw[aD (by omega),h]
theorem dO{α:Type}{l:List α}{i:Nat}{y:α}(h:l[i]?=some y)(k:α->O):gx l (i:Int) k=k y:=RH (by omega) (by rw[Int.toNat_natCast];exact h) k
theorem aL4{α:Type}{l:List α}{n:Nat}{y:α}(h:l[n]?=some y)(k:α->O):gn l n k=k y:=by
 show J7 l n k=_;unfold J7;rw[h]
theorem sR{α:Type}(x:α)(l:List α)(k:α->O):gx (x::l) 0 k=k x:=rfl
theorem RI{α:Type}(x y:α)(l:List α)(k:α->O):gx (x::y::l) 1 k=k y:=rfl
theorem pT{α:Type}(z:α)(l:List α)(n:Int)(k:α->O):gc true z l n k=gx l n k:=rfl
theorem qX{α:Type}(z:α)(l:List α)(n:Int)(k:α->O):gc false z l n k=k z:=rfl
theorem vJ{α:Type}{c:Bool}{z:α}{l:List α}{i:Nat}{y:α}(h:l[i]?=some y)(k:α->O):gc c z l (i:Int) k=k (if c then y else z):=by
 cases c
 .rfl
 .rw[pT,dO h];rfl
theorem wr{x:Int}(h1:-9223372036854775808<=x)(h2:x<=9223372036854775807):IntKind.i64.wrap x=x:=IntWalk.i64_in x ⟨h1,h2⟩
end Go.Proofs
/- The closure that Parse defers. -/
namespace Go.Proofs
open Go.Ax Go.RowKit Go.Ab
open Go
theorem a9P(p q r:Addr)(w:World):
    CallsD Tryz.prog 75 #[.pointer (some p),.pointer (some q),.pointer (some r)] .returning w λe u' w'=>e = .returned (.tuple #[])/\u' = .returning/\w'=w:=by
 have hnn:∀w,(binOp .neq 20 .nilIface .nilIface).run Tryz.prog w = .ok (.bool false) w:=λw=>by kernel_rfl
 refine callsD_of_wpS (fn:=Tryz.f75) (by kernel_rfl) (rfl:Tryz.f75.body=some _) λc₀ cs hu=>?_
 apply wpS_seq;apply wpS_region;simp[wpOpsS,go_sem,recoverD,hu,Exit.thenS];apply wpS_seq;apply wpS_region;simp[wpOpsS,go_sem,hnn,Exit.thenS];refine wpS_cond (t:=false) (by simp[Act.eval,p6]) ?_;simp only[Fi,if_false];refine wpS_of_wp (wp_skip ?_);cases c₀;simp_all [bodyPostS,results]
theorem aLs{P:Program}{ops:Array Oper}{Q:Exit->Act->List Frame->World->Prop}{i:Nat}{rest:List Nat}{a:Act}{cs:List Frame}{w w':World}{o:Oper}(v:Value)(ho:ops[i]?=some o)(hg:o.guard=none)
    (hr:(execOp a.eval o).run P w = .ok (.value v) w') (k:wpOpsS P ops Q rest (a.put o.dst v) cs w'):wpOpsS P ops Q (i::rest) a cs w:=by
 unfold wpOpsS;rw[ho];simp only[];rw[aJ (by simp[Region.wanted,hg]),hr];simp only[Oper.upon_value];exact k
theorem Zv{P:Program}{ops:Array Oper}{Q:Exit->Act->List Frame->World->Prop}{i:Nat}{rest:List Nat}{a:Act}{cs:List Frame}{w w':World}{o:Oper}{t:TypeId}{x y:Operand}{vx vy:Value}(ho:ops[i]?=some o)(hg:o.guard=none)(hop:o.op = .store t x y)(hx:a.eval x=vx)(hy:a.eval y=vy)
    (hr:(Instr.storeAt t vx vy).run P w = .ok () w') (k:wpOpsS P ops Q rest (a.put o.dst undef) cs w'):wpOpsS P ops Q (i::rest) a cs w:=by
 have he:(execOp a.eval o).run P w = .ok .skip w':=by
  unfold execOp;rw[hop];simp only[hx,hy,Sem.run_bind,hr];rfl
 unfold wpOpsS;rw[ho];simp only[];rw[aJ (by simp[Region.wanted,hg]),he];simp only[Oper.upon_skip];exact k
theorem yB(a:Act)(t t':Nat)(v:Value)(h:t≠t'):(a.put (some t) v).eval (.tmp t')=a.eval (.tmp t'):=by
 simp[Act.put,Act.eval,aBB,h]
theorem put_eq(a:Act)(t:Nat)(v:Value)(h:t<a.tmps.size):(a.put (some t) v).eval (.tmp t)=v:=by
 simp[Act.put,Act.eval,aBB,h]
theorem Qd(a:Act)(v:Value):a.put none v=a:=rfl
theorem a4z(a:Act)(t:Nat)(v:Value):(a.put (some t) v).tmps.size=a.tmps.size:=by simp[Act.put]
theorem a4n{P:Program}{ops:Array Oper}{Q:Exit->Act->List Frame->World->Prop}{a:Act}{cs:List Frame}{o0 o1 o2 o3 o4:Oper}(hops:ops = #[o0,o1,o2,o3,o4])
    (g0:o0.guard=none) (g1:o1.guard=none) (g2:o2.guard=none) (g3:o3.guard=none) (g4:o4.guard=none)
    (d0:o0.dst=some 17) (d1:o1.dst=some 18) (d2:o2.dst=none) (d3:o3.dst=none) (d4:o4.dst=none)
    (_e0:o0.op = .build 25 #[]) (e1:o1.op = .move (.tmp 4)) (e2:o2.op = .store 25 (.tmp 0) (.tmp 17)) (e3:o3.op = .store 3 (.tmp 1) (.tmp 18)) (e4:o4.op = .store 29 (.tmp 2) (.const (.int .i64 2)))
    {p q r n z:Value} (hz:∀(a:Act) w,(execOp a.eval o0).run P w = .ok (.value z) w) (hsz:18<a.tmps.size) (h0:a.eval (.tmp 0)=p) (h1:a.eval (.tmp 1)=q) (h2:a.eval (.tmp 2)=r) (h4:a.eval (.tmp 4)=n)
    {w w1 w2 w3:World} (s1:(Instr.storeAt 25 p z).run P w = .ok () w1) (s2:(Instr.storeAt 3 q n).run P w1 = .ok () w2) (s3:(Instr.storeAt 29 r (.int .i64 2)).run P w2 = .ok () w3)
    (k:∀a',a'.defers=a.defers->Q .normal a' cs w3):wpOpsS P ops Q [0,1,2,3,4] a cs w:=by
 subst hops;refine aLs (o:=o0) z rfl g0 (hz a w) ?_;rw[d0];refine aLs (o:=o1) (w':=w) n rfl g1 ?_ ?_
 .unfold execOp
  rw[e1];show Result.ok (Next.value ((a.put (some 17) z).eval (.tmp 4))) w=_;rw[yB _ _ _ _ (by decide),h4]
 rw[d1];refine Zv (o:=o2) (vx:=p) (vy:=z) rfl g2 e2 ?_ ?_ s1 ?_
 .rw[yB _ _ _ _ (by decide),yB _ _ _ _ (by decide),h0]
 .rw[yB _ _ _ _ (by decide),put_eq _ _ _ (by omega)]
 rw[d2];refine Zv (o:=o3) (vx:=q) (vy:=n) rfl g3 e3 ?_ ?_ s2 ?_
 .rw[Qd,yB _ _ _ _ (by decide),yB _ _ _ _ (by decide),h1]
 .rw[Qd,put_eq _ _ _ (by rw[a4z];exact hsz)]
 rw[d3];refine Zv (o:=o4) (vx:=r) (vy:=.int .i64 2) rfl g4 e4 ?_ rfl s3 ?_
 .rw[Qd,Qd,yB _ _ _ _ (by decide),yB _ _ _ _ (by decide),h2]
 rw[d4];exact k _ rfl
set_option maxRecDepth 20000 in
theorem a9Q(p q r:Addr)(n:Int)(w w1 w2 w3:World)
    (h1:(Instr.storeAt 25 (.pointer (some p)) (.agg #[.int .i64 0,.int .i64 0,.slice none 0 0])).run Tryz.prog w = .ok () w1)
    (h2:(Instr.storeAt 3 (.pointer (some q)) (.int .i64 n)).run Tryz.prog w1 = .ok () w2)
    (h3:(Instr.storeAt 29 (.pointer (some r)) (.int .i64 2)).run Tryz.prog w2 = .ok () w3):
    CallsD Tryz.prog 75 #[.pointer (some p),.pointer (some q),.pointer (some r)] (.panicking [lS (.iface 96 (.int .i64 n))]) w
     λe u' w'=>e = .returned (.tuple #[])/\u' = .panicking [{ v:=.iface 96 (.int .i64 n),recovered:=true }]/\w'=w3:=by
 have hnn:∀w,(binOp .neq 20 (.iface 96 (.int .i64 n)) .nilIface).run Tryz.prog w = .ok (.bool true) w:=λw=>by kernel_rfl
 have hta:∀w,(Instr.typeAssert (.iface 96 (.int .i64 n)) 20 96 true).run Tryz.prog w = .ok (.tuple #[.int .i64 n,.bool true]) w:=λw=>by kernel_rfl
 refine callsD_of_wpS (fn:=Tryz.f75) (by kernel_rfl) (rfl:Tryz.f75.body=some _) λc₀ cs hu=>?_
 apply wpS_seq;apply wpS_region;simp[wpOpsS,go_sem,recoverD,hu,Exit.thenS,lS];apply wpS_seq;apply wpS_region;simp[wpOpsS,go_sem,hnn,Exit.thenS];refine wpS_cond (t:=true) (by simp[Act.eval,p6]) ?_;simp only[gZ];apply wpS_seq;apply wpS_region;simp[wpOpsS,go_sem,hta,Exit.thenS];apply wpS_seq;apply wpS_seq;apply wpS_region;simp[wpOpsS,go_sem,Exit.thenS];refine wpS_cond (t:=false) (by simp[Act.eval,p6]) ?_;simp only[Fi,if_false];refine wpS_of_wp (wp_skip ?_);simp only[Exit.thenS];apply wpS_region;show wpOpsS _ _ _ [0,1,2,3,4] _ _ _;refine a4n (p:=.pointer (some p)) (q:=.pointer (some q)) (r:=.pointer (some r)) (n:=.int .i64 n) (z:=.agg #[.int .i64 0,.int .i64 0,.slice none 0 0]) rfl rfl rfl rfl rfl rfl rfl rfl rfl rfl rfl rfl rfl rfl rfl rfl (λ_ _=>by kernel_rfl) (by simp) (by kernel_rfl) (by kernel_rfl) (by kernel_rfl) (by kernel_rfl) h1 h2 h3 λa' ha=>?_
 have hd:a'.defers=[]:=ha.trans (by kernel_rfl);clear h1 h2 h3 ha;exact⟨hd,_,rfl,.tuple #[],by kernel_rfl,rfl,rfl,rfl⟩
end Go.Proofs
/- Parse: what it does. -/
namespace Go.Proofs
open Go.Ax Go.Ax.aA Go.RowKit Go.Ab
open Go
theorem YM{P:Program}{E:Env}{σ:St}{tm:Array Value}{w:World}{o:Oper}{t:TypeId}{x y:Operand}{N:Nat}{d:D}{W:Wr}(ho:o.op = .store t x y)(hd:o.dst=none)(h100:100<=N)(hf:∀k,N<=k->k<N+8->σ.nm k=false)
    (hop:bI P o σ N d W) (hR:R E σ tm w):∃w',(Instr.storeAt t ((⟨tm,[]⟩:Act).eval x) ((⟨tm,[]⟩:Act).eval y)).run P w = .ok () w'/\R E (σ.bC none d W N) tm w':=by
 have h:=hop E σ ⟨tm,[]⟩ w (λ_ _ h=>h) (λ_ _ h=>h) h100 hf (λt ht=>by rw[hd]at ht;cases ht) hR (λ_ _ _=>False);unfold Oper.wp at h;cases hr:(Instr.storeAt t ((⟨tm,[]⟩:Act).eval x) ((⟨tm,[]⟩:Act).eval y)).run P w with
 |ok u w'=>
   have he:(execOp (⟨tm,[]⟩:Act).eval o).run P w = .ok .skip w':=by
    unfold execOp;rw[ho];simp only[Sem.run_bind,hr];rfl
   rw[he,Oper.upon_skip,hd]at h;exact⟨w',rfl,h.2⟩
 |halt x w'=>
   have he:(execOp (⟨tm,[]⟩:Act).eval o).run P w = .halt x w':=by
    unfold execOp;rw[ho];simp only[Sem.run_bind,hr];rfl
   rw[he]at h;cases x <;> simp only[Oper.upon]at h
noncomputable def Qz (t : TypeId) (x y : Operand) : Oper := { dst := none, op := .store t x y, type := 0, pos := "", after := #[], guard := none }
noncomputable def Nq:Code:=Tryz.f42.body.getD .skip
noncomputable def Np:Code:=cK [0] Nq
noncomputable def Di:Code:=cK [1,0] Nq
noncomputable def Aq:Code:=cK [1,1,0] Nq
noncomputable def xC:Code:=cK [1,1,1] Nq
theorem aWw:Tryz.f42.body=some (.seq Np (.seq Di (.seq Aq xC))):=by kernel_rfl
noncomputable def aWy(N:Nat):List (Nat×bK):=[(77,Cr N),(29,Hd N)]
noncomputable def aWx(N:Nat):List (Nat×kT):=[(76,aCy N),(78,LI N)]
noncomputable def uA(N:Nat):Cx:=⟨Tryz.prog,25,aWy N,aWx N⟩
theorem No(N:Nat):aF (uA N):=bY (by kernel_rfl) (.cons (by kernel_rfl) (GX N) (.cons (by kernel_rfl) (O0 N) .nil)) (.cons (by kernel_rfl) (aQo N) (.cons (by kernel_rfl) (TJ N) .nil))
noncomputable def kB:XO:=.box 25 [.e (.i .i64) (0:Int),.e (.i .i64) (0:Int),.cC]
noncomputable def refs(s:List UInt8):XT:=[(0,.e .tx s),(2,.ref 100 0),(3,.ref 108 0),(4,.ref 116 0)]
noncomputable def σ0(s:List UInt8):Sg:=⟨bU 0 [.e .tx s],[],100⟩
noncomputable def σ1(s:List UInt8):Sg:=⟨refs s,[(100,kB),(108,.box 3 [.e (.i .i64) (0:Int)]),(116,.box 29 [.e (.i .i64) (0:Int)])],124⟩
noncomputable def σ4(s:List UInt8):Sg:=⟨[(0,.e .tx s),(2,.ref 50 0),(3,.ref 51 0),(4,.ref 52 0)],[(50,kB),(51,.box 3 [.e (.i .i64) (0:Int)]),(52,.box 29 [.e (.i .i64) (0:Int)])],148⟩
noncomputable def nQ(a0 a1:Int)(a2:List Ex)(a3 a4:Int):aE:=(.bD [.agg [.e (.i .i64) a0,.e (.i .i64) a1,.e (.sl .ex) a2],.e (.i .i64) a3,.e (.i .i64) a4],[])
noncomputable def jK:X->Bool
 |.e _ _=>true
 |.cC=>true
 |_=>false
theorem qT{x:X}(h:jK x=true){H:Nat->Option aZ}{nm':Nat->Bool}{ρ:Nat->Nat}:eC false H nm' ρ x.D x.D:=by
 cases x with
 |e τ y=>
   unfold X.D;split
   .exact .t rfl
   .exact .any
 |cC=>exact .t rfl
 |_=>cases h
noncomputable def σv(q q' q'':Nat)(a b c d e:X)(N:Nat):Sg:=⟨[(2,.ref q 0),(3,.ref q' 0),(4,.ref q'' 0)],[(q,.box 25 [a,b,c]),(q',.box 3 [d]),(q'',.box 29 [e])],N⟩
noncomputable def pK(f:X->X->X->X->X->O)(σ:Sg):O:=match lk 2 σ.T,lk 3 σ.T,lk 4 σ.T with
 |some (.ref 50 0),some (.ref 51 0),some (.ref 52 0)=>match lk 50 σ.H,lk 51 σ.H,lk 52 σ.H with
   |some (.box 25 [a,b,c]),some (.box 3 [d]),some (.box 29 [e])=>match jK a&&jK b&&jK c&&jK d&&jK e&&Nat.ble 148 σ.N with
     |true=>f a b c d e
     |false=>none
   |_,_,_=>none
 |_,_,_=>none
noncomputable def Qh(p:PanicEntry):O:=match p with
 |⟨.iface 96 (.int .i64 n),false,false⟩=>some (.dY (.iface 96 (.int .i64 n)),[])
 |_=>none
theorem a5L{p:PanicEntry}{r:aE}(h:Qh p=some r):∃n,p=lS (.iface 96 (.int .i64 n))/\r=(.dY (.iface 96 (.int .i64 n)),[]):=by
 unfold Qh at h;split at h
 .cases h;exact⟨_,rfl,rfl⟩
 .cases h
noncomputable def aGB(N:Nat)(e:Exit)(σ:Sg):O:=match e with
 |.panic [p]=>pK (λ_ _ _ _ _=>Qh p) σ
 |.normal=>pK (λa b c d e=>qY (uA N) Tryz.f42 false .ret (σv 100 108 116 a b c d e σ.N)) σ
 |.ret=>pK (λa b c d e=>qY (uA N) Tryz.f42 false .ret (σv 100 108 116 a b c d e σ.N)) σ
 |_=>none
theorem aK6{f:X->X->X->X->X->O}{σ:Sg}{r:aE}(h:pK f σ=some r):∃a b c d e,f a b c d e=some r/\jK a=true/\jK b=true/\jK c=true/\jK d=true/\jK e=true /\
    lk 2 σ.T=some (.ref 50 0)/\lk 3 σ.T=some (.ref 51 0)/\lk 4 σ.T=some (.ref 52 0)/\lk 50 σ.H=some (.box 25 [a,b,c])/\lk 51 σ.H=some (.box 3 [d])/\lk 52 σ.H=some (.box 29 [e])/\148<=σ.N:=by
 unfold pK at h;split at h
 case h_2=>cases h
 rename_i t2 t3 t4;split at h
 case h_2=>cases h
 rename_i a b c d e k1 k2 k3;split at h
 case h_2=>cases h
 rename_i hb;simp only[Bool.and_eq_true]at hb;exact⟨a,b,c,d,e,h,hb.1.1.1.1.1,hb.1.1.1.1.2,hb.1.1.1.2,hb.1.1.2,hb.1.2,t2,t3,t4,k1,k2,k3,Nat.le_of_ble_eq_true hb.2⟩
theorem Yd{c:Cx}(hc:aF c){M:Nat}{code:Code}{σ:Sg}{e0:Exit}{σ1:Sg}(hh:bJ c M .d code)(hN:100<=σ.N)(h:∀k,exec c M .d code σ k=k e0 σ1):sZ c M code σ λe σ'=>e=e0/\σ'=σ1:=by
 classical
 intro E hE;refine sV (Jd hc code .d σ (λe σ=>if e=e0/\σ=σ1 then some (.bD [],[])else none) (.bD [],[]) (by rw[h];simp) hh hN E hE) ?_;rintro e s ⟨σ',⟨_,hk⟩,hent⟩;by_cases hq:e=e0/\σ'=σ1
 .exact⟨σ',hq,hent⟩
 .rw[aD hq]at hk;cases hk
noncomputable def σ2(s:List UInt8):Sg:=⟨refs s++[(6,.e .tx s),(7,.e (.i .i64) (s.length:Int)),(8,.e .bo (decide ((8192:Int)<(s.length:Int))))],[(100,kB),(108,.box 3 [.e (.i .i64) (0:Int)]),(116,.box 29 [.e (.i .i64) (0:Int)])],148⟩
noncomputable def σr(s:List UInt8):Sg:=⟨refs s++[(6,.e .tx s),(7,.e (.i .i64) (s.length:Int)),(8,.e .bo (decide ((8192:Int)<(s.length:Int)))),(9,.agg [.e (.i .i64) (0:Int),.e (.i .i64) (0:Int),.cC])],[(100,kB),(108,.box 3 [.e (.i .i64) (0:Int)]),(116,.box 29 [.e (.i .i64) (4:Int)])],180⟩
theorem ex0(N:Nat)(s:List UInt8)(k:Exit->Sg->O):exec (uA N) 35 .d Np (σ0 s) k=k .normal (σ1 s):=by kernel_rfl
theorem ex1(N:Nat)(s:List UInt8)(k:Exit->Sg->O):exec (uA N) 35 .d Di (σ1 s) k=br (decide ((8192:Int)<(s.length:Int))) (k .ret (σr s)) (k .normal (σ2 s)):=by kernel_rfl
noncomputable def xD(N:Nat)(s:List UInt8):O:=
 ck (Cu N 0 s 0)<|
 br (wO N 0 s 0)
  (ck (qB N (gM N 0 s 0) (gL N 0 s 0))<|
  br (decide (eQ N (gM N 0 s 0) (gL N 0 s 0)≠(0:UInt8))||decide (aN N (gM N 0 s 0) (gL N 0 s 0)<(s.length:Int)))
   (ck (mH N (aP N (gM N 0 s 0) (gL N 0 s 0)) (aN N (gM N 0 s 0) (gL N 0 s 0)))<|
   some (.dY (.iface 96 (.int .i64 (mG N (aP N (gM N 0 s 0) (gL N 0 s 0)) (aN N (gM N 0 s 0) (gL N 0 s 0))))),[]))
   (ck (uD N (oW N 0 s 0) (oV N 0 s 0) (oU N 0 s 0))<|
   br (decide (qG N (oW N 0 s 0) (oV N 0 s 0) (oU N 0 s 0)≠(0:Int)))
    (some (nQ 0 0 [] 0 4))
    (some (nQ (oW N 0 s 0) (oV N 0 s 0) (oU N 0 s 0) 0 0))))
  (some (.dY (.iface 96 (.int .i64 (Ct N 0 s 0))),[]))
theorem ex4(N:Nat)(s:List UInt8):exec (uA N) 35 .d xC (σ4 s) (aGB N)=xD N s:=by kernel_rfl
noncomputable def Bl:Value:=.agg #[.int .i64 0,.int .i64 0,.slice none 0 0]
noncomputable def σp(n:Int)(N:Nat):Sg:=σv 50 51 52 (.e (.i .i64) (0:Int)) (.e (.i .i64) (0:Int)) .cC (.e (.i .i64) n) (.e (.i .i64) (2:Int)) N
theorem ZR{t:TypeId}{x y:Operand}:(Qz t x y).op = .store t x y:=rfl
theorem a5H{E:Env}{σ':Sg}{tm:Array Value}{w:World}{n:Int}{a b c d e:X}(hN:100<=σ'.N)(hR:R E (cM σ') tm w)(h2:lk 2 σ'.T=some (.ref 50 0))(h3:lk 3 σ'.T=some (.ref 51 0))(h4:lk 4 σ'.T=some (.ref 52 0))
    (k1:lk 50 σ'.H=some (.box 25 [a,b,c])) (k2:lk 51 σ'.H=some (.box 3 [d])) (k3:lk 52 σ'.H=some (.box 29 [e])):
    ∃w1 w2 w3,(Instr.storeAt 25 ((⟨tm,[]⟩:Act).eval (.tmp 2)) Bl).run Tryz.prog w = .ok () w1/\(Instr.storeAt 3 ((⟨tm,[]⟩:Act).eval (.tmp 3)) (.int .i64 n)).run Tryz.prog w1 = .ok () w2/\(Instr.storeAt 29 ((⟨tm,[]⟩:Act).eval (.tmp 4)) (.int .i64 2)).run Tryz.prog w2 = .ok () w3 /\
     R E (cM (σp n (σ'.N+24))) tm w3:=by
 have t2:(cM σ').T 2=some (.ref 50 0):=by show(lk 2 σ'.T).map X.D=_;rw[h2];rfl
 have t3:(cM σ').T 3=some (.ref 51 0):=by show(lk 3 σ'.T).map X.D=_;rw[h3];rfl
 have t4:(cM σ').T 4=some (.ref 52 0):=by show(lk 4 σ'.T).map X.D=_;rw[h4];rfl
 have o1:(cM σ').H 50=some (.box 25 [a.D,b.D,c.D]):=by show(lk 50 σ'.H).map XO.A=_;rw[k1];rfl
 have o2:(cM σ').H 51=some (.box 3 [d.D]):=by show(lk 51 σ'.H).map XO.A=_;rw[k2];rfl
 have o3:(cM σ').H 52=some (.box 29 [e.D]):=by show(lk 52 σ'.H).map XO.A=_;rw[k3];rfl
 have nm0:∀k,σ'.N<=k->(cM σ').nm k=false:=λk hk=>aR (by omega)
 generalize cM σ'=s at *
 -- the first
 obtain⟨w1,r1,R1⟩:=YM (P:=Tryz.prog) (o:=Qz 25 (.tmp 2) (.const Bl)) (N:=σ'.N) ZR rfl hN (λk h _=>nm0 k h)
  (Bx (d:=jI Bl) (k:=50) (off:=0) (ob:=.box 25 [a.D,b.D,c.D]) (ob':=.box 25 (jI Bl).cells) rfl (by kernel_rfl) t2 (.ev (by kernel_rfl)) (by kernel_rfl) o1 (by kernel_rfl) (by decide)) hR
 have n1:∀k,σ'.N+8<=k->(s.bC none (.bD []) [(50,some (.box 25 (jI Bl).cells))] σ'.N).nm k=false:=λk hk=>by
  simp[St.bC,nm0 k (by omega)];omega
 obtain⟨w2,r2,R2⟩:=YM (P:=Tryz.prog) (o:=Qz 3 (.tmp 3) (.const (.int .i64 n))) (N:=σ'.N+8) ZR rfl (by omega) (λk h _=>n1 k h)
  (Bx (d:=jI (.int .i64 n)) (k:=51) (off:=0) (ob:=.box 3 [d.D]) (ob':=.box 3 (jI (.int .i64 n)).cells) rfl (by kernel_rfl) t3 (.ev (by kernel_rfl)) (by kernel_rfl) o2 (by kernel_rfl) (Nat.succ_pos 0)) R1
 have n2:∀k,σ'.N+16<=k->((s.bC none (.bD []) [(50,some (.box 25 (jI Bl).cells))] σ'.N).bC none (.bD []) [(51,some (.box 3 (jI (.int .i64 n)).cells))] (σ'.N+8)).nm k=false:=λk hk=>by
  simp[St.bC,nm0 k (by omega)];omega
 obtain⟨w3,r3,R3⟩:=YM (P:=Tryz.prog) (o:=Qz 29 (.tmp 4) (.const (.int .i64 2))) (N:=σ'.N+16) ZR rfl (by omega) (λk h _=>n2 k h)
  (Bx (d:=jI (.int .i64 2)) (k:=52) (off:=0) (ob:=.box 29 [e.D]) (ob':=.box 29 (jI (.int .i64 2)).cells) rfl (by kernel_rfl) t4 (.ev (by kernel_rfl)) (by kernel_rfl) o3 (by kernel_rfl) (by decide)) R2
 have n3:∀k,σ'.N+24<=k->(((s.bC none (.bD []) [(50,some (.box 25 (jI Bl).cells))] σ'.N).bC none (.bD []) [(51,some (.box 3 (jI (.int .i64 n)).cells))] (σ'.N+8)).bC none (.bD []) [(52,some (.box 29 (jI (.int .i64 2)).cells))] (σ'.N+16)).nm k=false:=λk hk=>by
  simp[St.bC,nm0 k (by omega)];omega
 refine⟨w1,w2,w3,r1,r2,r3,?_⟩;have R4:=R3.bound n3;refine Je (λt d' ht=>?_) (λk ob hk=>?_) _ _ R4
 .by_cases e2:t=2
  .subst e2;cases ht;exact t2
  by_cases e3:t=3
  .subst e3;cases ht;exact t3
  by_cases e4:t=4
  .subst e4;cases ht;exact t4
  exact absurd ht (by simp[σp,σv,pP,Ab.look,dS e2,dS e3,dS e4])
 .by_cases e2:k=50
  .subst e2;cases hk;rfl
  by_cases e3:k=51
  .subst e3;cases hk;rfl
  by_cases e4:k=52
  .subst e4;cases hk;rfl
  exact absurd hk (by simp[σp,σv,pP,Ab.look,dS e2,dS e3,dS e4])
theorem a4m{E:Env}{σ:St}{tm:Array Value}{w:World}{t:Nat}{v:Value}(h:R E σ tm w)(ht:σ.T t=none):R E σ (tm.setIfInBounds t v) w:=by
 obtain⟨ν,G,I⟩:=h;refine⟨ν,G,I.kept,I.eR,I.gE,I.g0,by rw[Array.size_setIfInBounds];exact I.sz,λt' d h=>?_,I.H,I.eB⟩;obtain⟨u,hu,hd⟩:=I.T t' d h;refine⟨u,?_,hd⟩;rw[Array.getElem?_setIfInBounds_ne (by intro e;subst e;rw[ht]at h;cases h)];exact hu
theorem a9R{Q:Exit->Act->World->Prop}{a:Act}{w:World}{p q r:Value}(hs:10<a.tmps.size)(h2:a.eval (.tmp 2)=p)(h3:a.eval (.tmp 3)=q)(h4:a.eval (.tmp 4)=r)
    (k:Q .normal { tmps:=a.tmps.setIfInBounds 10 (.func (.func 75) #[] #[p,q,r]),defers:={ target:=.fn (.func 75) #[p,q,r],args:=#[] }::a.defers } w):Aq.wp Tryz.prog Q a w:=by
 obtain⟨ty1,ps1,af1,ty2,ps2,af2,hc⟩:∃ty1 ps1 af1 ty2 ps2 af2,Aq = .region 3 [(⟨some 10,.makeFunc (.func 75) #[] #[.tmp 2,.tmp 3,.tmp 4],ty1,ps1,af1,none⟩:Oper),⟨none,.defer ⟨.value (.tmp 10),#[],#[]⟩,ty2,ps2,af2,none⟩].toArray false:=⟨_,_,_,_,_,_,rfl⟩
 rw[hc];apply wp_region_lit;unfold wpList;rw[aJ (by rfl)];left;unfold Oper.wp;have e1:(execOp a.eval (⟨some 10,.makeFunc (.func 75) #[] #[.tmp 2,.tmp 3,.tmp 4],ty1,ps1,af1,none⟩:Oper)).run Tryz.prog w = .ok (.value (.func (.func 75) #[] #[p,q,r])) w:=by
  have hmf:∀(fn:Fn)(first cap:Array Value)(w:World),(Instr.makeFunc fn first cap).run Tryz.prog w = .ok (.func fn first cap) w:=λ_ _ _ _=>rfl
  subst h2 h3 h4;simp[go_sem]
 rw[e1,Oper.upon_value];unfold wpList;rw[aJ (by rfl)];left;unfold Oper.wp;have e2:(execOp (a.put (some 10) (.func (.func 75) #[] #[p,q,r])).eval (⟨none,.defer ⟨.value (.tmp 10),#[],#[]⟩,ty2,ps2,af2,none⟩:Oper)).run Tryz.prog w = .ok (.defer { target:=.fn (.func 75) #[p,q,r],args:=#[] }) w:=by
  unfold execOp;simp only[resolve,put_eq _ _ _ hs];simp[go_sem,Deferred.ofValue]
 rw[e2,Oper.upon_defer];exact k
noncomputable def xB(r:aE):aE:=match r.1 with
 |.dY (.iface 96 (.int .i64 n))=>nQ 0 0 [] n 2
 |_=>r
theorem aMc{E:Env}{σ:St}{tm:Array Value}{w:World}{ρ:Nat->Nat}{nm':Nat->Bool}{T':List (Nat×D)}{H':List (Nat×aZ)}{N:Nat}{ν0':Nat->Value}{ds':List Deferred}(ν':Nat->Value){ν:Nat->Value}{G:cE}(I:Inv E σ ν G w tm)
    (hT:Fm false σ nm' ρ T') (hH:wB false σ nm' ρ H') (hnm:∀k,nm' k=true->k<N) (hkk:∀p∈H',nm' p.1=true) (hnd:(H'.map λp=>ρ p.1).Nodup)
    (hν:∀k',nm' k'=true->σ.nm (ρ k')=true->ν' k'=ν (ρ k')) (hpin:∀k,50<=k->k<100->ν' k=ν0' k):R { E with ν0:=ν0',ds:=ds' } (mk (λt=>Ab.look t T') (λk=>Ab.look k H') N) tm w:=by
 have hmono:∀k,nm' k=true->decide (k<N)=true/\ν' k=ν' k:=λk hk=>⟨aQ (hnm k hk),rfl⟩
 have key:∀k o',Ab.look k H'=some o'->∃o,σ.H (ρ k)=some o/\iA false σ.H nm' ρ o o'/\nm' k=true/\ν' k=ν (ρ k):=λk o' h=>by
  obtain⟨o,ho,hle⟩:=hH.get h;have hn:=hkk _ (lC h);exact⟨o,ho,hle,hn,hν k hn (I.H _ o ho).1⟩
 refine⟨ν',G,⟨I.kept.os,I.kept.tape,I.kept.output,I.kept.size,I.kept.block⟩,I.eR,hpin,I.g0,I.sz,λt d' h=>?_,λk o' h=>?_,λk o k' o' h h' hne g hg=>?_⟩
 .obtain⟨d,hd,hle⟩:=hT.get h
  obtain⟨v,hv,hvd⟩:=I.T t d hd;exact⟨v,hv,(hle.rel (λ_ _ _ h=>h) I.rows hν hvd).mono hmono (λ_ _ _ h=>h)⟩
 .obtain⟨o,ho,hle,hn,hk⟩:=key k o' h
  exact⟨(hmono k hn).1,((I.H _ o ho).2.view (E':={ E with ν0:=ν0',ds:=ds' }) hle I.rows hν hk (λ_ _ h=>h)).mono hn hmono (λ_ _ _ h=>h) (λ_ _=>⟨rfl,rfl⟩)⟩
 .obtain⟨o1,h1,l1,n1,e1⟩:=key k o h
  obtain⟨o2,h2,l2,n2,e2⟩:=key k' o' h';rw[e1]at hg;rw[e2];refine λhg'=>I.eB _ o1 _ o2 h1 h2 (λe=>hne ?_) g (l1.ft.1 hg) (l2.ft.1 hg')
  exact Qo (by rw[List.map_map];exact hnd) k (yN h) k' (yN h') e
theorem aLu{E:Env}{σ:St}{tm:Array Value}{w:World}{t k:Nat}(h:R E σ tm w)(ht:σ.T t=some (.ref k 0))(h50:50<=k)(h100:k<100):∃g,(⟨tm,[]⟩:Act).eval (.tmp t) = .pointer (some ⟨g,0,none⟩)/\bQ (E.ν0 k)=some g:=by
 obtain⟨ν,G,I⟩:=h;obtain⟨v,hv,hd⟩:=I.T t _ ht;obtain⟨g,h1,h2,h3⟩:=pL hd;refine⟨g,?_,by rw[<-I.gE k h50 h100];exact h1⟩;subst h2;simp[Act.eval,aBB,hv]
theorem back{E:Env}{ν0':Nat->Value}{tm:Array Value}{w:World}{a b c d e:X}{N:Nat}(hN:148<=N)(ha:jK a=true)(hb:jK b=true)(hc:jK c=true)(hd:jK d=true)(he:jK e=true)(hR:R E (cM (σv 50 51 52 a b c d e N)) tm w):
    R { E with ν0:=ν0',ds:=[] } (cM (σv 100 108 116 a b c d e N)) tm w:=by
 obtain⟨ν,G,I⟩:=hR
 let ρ:Nat->Nat:=λk=>if k=100 then 50 else if k=108 then 51 else 52
 have h:=aMc (E:=E) (ρ:=ρ) (nm':=λk=>decide (k=100\/k=108\/k=116)) (N:=N) (ν0':=ν0') (ds':=[]) (λk=>if 50<=k/\k<100 then ν0' k else ν (ρ k)) I
  (T':=[(2,.ref 100 0),(3,.ref 108 0),(4,.ref 116 0)]) (H':=[(100,.box 25 [a.D,b.D,c.D]),(108,.box 3 [d.D]),(116,.box 29 [e.D])])
  (.cons (d:=.ref 50 0) rfl (.ref (by simp) rfl) (.cons (d:=.ref 51 0) rfl (.ref (by simp) rfl) (.cons (d:=.ref 52 0) rfl (.ref (by simp) rfl) .nil)))
  (.cons (o:=.box 25 [a.D,b.D,c.D]) rfl (.CM (.cons (qT ha) (.cons (qT hb) (.cons (qT hc) .nil)))) (.cons (o:=.box 3 [d.D]) rfl (.CM (.cons (qT hd) .nil)) (.cons (o:=.box 29 [e.D]) rfl (.CM (.cons (qT he) .nil)) .nil)))
  (λk hk=>by have:=cU hk;omega) (λp hp=>by simp at hp;rcases hp with rfl|rfl|rfl <;> simp) (by simp[ρ])
  (λk hk _=>by have:=cU hk;rw[aD (by omega)]) (λk h1 h2=>by simp[h1,h2])
 refine Je (λt d' ht=>?_) (λk ob hk=>?_) _ _ h
 .by_cases e2:t=2
  .subst e2;cases ht;rfl
  by_cases e3:t=3
  .subst e3;cases ht;rfl
  by_cases e4:t=4
  .subst e4;cases ht;rfl
  exact absurd ht (by simp[σv,pP,Ab.look,dS e2,dS e3,dS e4])
 .by_cases e2:k=100
  .subst e2;cases hk;rfl
  by_cases e3:k=108
  .subst e3;cases hk;rfl
  by_cases e4:k=116
  .subst e4;cases hk;rfl
  exact absurd hk (by simp[σv,pP,Ab.look,dS e2,dS e3,dS e4])
theorem a8N{E:Env}{tm:Array Value}{w:World}{s:List UInt8}(ds':List Deferred)(hR:R E (cM (σ2 s)) tm w):∃ν0',R { E with ν0:=ν0',ds:=ds' } (cM (σ4 s)) tm w:=by
 obtain⟨ν,G,I⟩:=hR
 let ρ:Nat->Nat:=λk=>if k=50 then 100 else if k=51 then 108 else 116
 refine⟨λk=>ν (ρ k),?_⟩;have h:=aMc (E:=E) (ρ:=ρ) (nm':=λk=>decide (k=50\/k=51\/k=52)) (N:=148) (ν0':=λk=>ν (ρ k)) (ds':=ds') (λk=>ν (ρ k)) I
  (T':=[(0,(X.e .tx s).D),(2,.ref 50 0),(3,.ref 51 0),(4,.ref 52 0)]) (H':=[(50,kB.A),(51,.box 3 [(X.e (.i .i64) (0:Int)).D]),(52,.box 29 [(X.e (.i .i64) (0:Int)).D])])
  (.cons (d:=(X.e .tx s).D) rfl (qT rfl) (.cons (d:=.ref 100 0) rfl (.ref (by simp) rfl) (.cons (d:=.ref 108 0) rfl (.ref (by simp) rfl) (.cons (d:=.ref 116 0) rfl (.ref (by simp) rfl) .nil))))
  (.cons (o:=kB.A) rfl (.CM (.cons (qT rfl) (.cons (qT rfl) (.cons (qT rfl) .nil)))) (.cons (o:=.box 3 [(X.e (.i .i64) (0:Int)).D]) rfl (.CM (.cons (qT rfl) .nil)) (.cons (o:=.box 29 [(X.e (.i .i64) (0:Int)).D]) rfl (.CM (.cons (qT rfl) .nil)) .nil)))
  (λk hk=>by have:=cU hk;omega) (λp hp=>by simp at hp;rcases hp with rfl|rfl|rfl <;> simp) (by simp[ρ])
  (λk hk _=>rfl) (λk h1 h2=>rfl)
 refine Je (λt d' ht=>?_) (λk ob hk=>?_) _ _ h
 .by_cases e1:t=0
  .subst e1;cases ht;rfl
  by_cases e2:t=2
  .subst e2;cases ht;rfl
  by_cases e3:t=3
  .subst e3;cases ht;rfl
  by_cases e4:t=4
  .subst e4;cases ht;rfl
  exact absurd ht (by simp[σ4,pP,Ab.look,dS e1,dS e2,dS e3,dS e4])
 .by_cases e2:k=50
  .subst e2;cases hk;rfl
  by_cases e3:k=51
  .subst e3;cases hk;rfl
  by_cases e4:k=52
  .subst e4;cases hk;rfl
  exact absurd hk (by simp[σ4,pP,Ab.look,dS e2,dS e3,dS e4])
theorem aWu{E:Env}{w:World}{vs:Array Value}{N:Nat}{s:List UInt8}{Rp:Ending->World->Prop}(hE:E.m=35)(hds:E.ds=[])(hR:R E (cM (σ0 s)) vs w)
    (hlong:(8192:Int)<(s.length:Int)->∀tm w',R E (cM (σr s)) tm w'->∃v,(results Tryz.f42 tm).run Tryz.prog w' = .ok v w'/\Rp (.returned v) w')
    (hrest:¬ (8192:Int)<(s.length:Int)->∀a w',a.defers=[]->R E (cM (σ2 s)) a.tmps w'->(Code.seq Aq xC).wp Tryz.prog (bodyPostD Tryz.prog Tryz.f42 Rp) a w'):
    (Code.seq Np (.seq Di (.seq Aq xC))).wp Tryz.prog (bodyPostD Tryz.prog Tryz.f42 Rp) { tmps:=vs,defers:=[] } w:=by
 have r0:=Yd (No N) (M:=35) (code:=Np) (σ:=σ0 s) (cO _) (show 100<=100 by decide) (ex0 N s) E hE;refine wp_seq (wp_mono (r0 { tmps:=vs,defers:=[] } w hds.symm hR) ?_);rintro e a' w' ⟨hd,st,⟨σ',⟨rfl,rfl⟩,hent⟩,hRR⟩;have hR1:=hent _ _ hRR;show(Code.seq Di (.seq Aq xC)).wp Tryz.prog _ a' w';by_cases hl:(8192:Int)<(s.length:Int)
 .have r1:=Yd (No N) (M:=35) (code:=Di) (σ:=σ1 s) (e0:=.ret) (σ1:=σr s) (cO _) (show 100<=124 by decide) (λk=>by rw[ex1];simp only[aQ hl];rfl) E hE
  refine wp_seq (wp_mono (r1 a' w' hd hR1) ?_);rintro e a2 w2 ⟨hd2,st2,⟨σ',⟨rfl,rfl⟩,hent2⟩,hRR2⟩;obtain⟨v,h1,h2⟩:=hlong hl _ _ (hent2 _ _ hRR2);show Leaves Tryz.prog Tryz.f42 a2.tmps Rp a2.defers .returning w2;rw[hd2,hds];exact⟨v,h1,h2⟩
 .have r1:=Yd (No N) (M:=35) (code:=Di) (σ:=σ1 s) (e0:=.normal) (σ1:=σ2 s) (cO _) (show 100<=124 by decide) (λk=>by rw[ex1];simp only[aR hl];rfl) E hE
  refine wp_seq (wp_mono (r1 a' w' hd hR1) ?_);rintro e a2 w2 ⟨hd2,st2,⟨σ',⟨rfl,rfl⟩,hent2⟩,hRR2⟩;exact hrest hl a2 w2 (hd2.trans hds) (hent2 _ _ hRR2)
abbrev Ro(E:Env)(r:aE)(e:Ending)(w:World):Prop:=∃v,e = .returned v/\R { E with m:=1 } (res r.1.D (HA r.2)) #[v] w
theorem aWt{E:Env}{N:Nat}{s:List UInt8}{r:aE}(hr:xD N s=some r)(hE:E.m=35){a:Act}{w:World}(hd:a.defers=[])(hR:R E (cM (σ2 s)) a.tmps w):
    (Code.seq Aq xC).wp Tryz.prog (bodyPostD Tryz.prog Tryz.f42 (Ro { E with ds:=[] } (xB r))) a w:=by
 have hsz:a.tmps.size=35:=by obtain⟨ν,G,I⟩:=hR;rw[I.sz,hE]
 -- the closure's variables
 let p:=a.eval (.tmp 2);let q:=a.eval (.tmp 3);let q':=a.eval (.tmp 4)
 let d:Deferred:={ target:=.fn (.func 75) #[p,q,q'],args:=#[] }
 have hR3:R E (cM (σ2 s)) (a.tmps.setIfInBounds 10 (.func (.func 75) #[] #[p,q,q'])) w:=a4m hR rfl;obtain⟨ν0',hR4⟩:=a8N [d] hR3;have hkeep:∀(t k:Nat),t≠10->(cM (σ4 s)).T t=some (.ref k 0)->50<=k->k<100->∃g,a.eval (.tmp t) = .pointer (some ⟨g,0,none⟩)/\bQ (ν0' k)=some g:=λt k hne ht h1 h2=>by
  obtain⟨g,e1,e2⟩:=aLu hR4 ht h1 h2;refine⟨g,?_,e2⟩;rw[<-e1];simp[Act.eval,aBB,dS hne]
 obtain⟨g2,p2,n2⟩:=hkeep 2 50 (by decide) rfl (by decide) (by decide);obtain⟨g3,p3,n3⟩:=hkeep 3 51 (by decide) rfl (by decide) (by decide);obtain⟨g4,p4,n4⟩:=hkeep 4 52 (by decide) rfl (by decide) (by decide);refine wp_seq (a9R (by omega) rfl rfl rfl ?_);show xC.wp Tryz.prog _ _ w;refine wp_mono (Jd (No N) xC .d (σ4 s) (aGB N) r (by rw[ex4];exact hr) (cO _) (show 100<=148 by decide) { E with ν0:=ν0',ds:=[d] } hE _ w (by rw[hd]) hR4) ?_;rintro e a5 w5 ⟨hd5,st,⟨σ',⟨hN5,hk⟩,hent⟩,hRR⟩;have R5:=hent _ _ hRR;have hcl:∀(t k:Nat)(g:Nat),(cM σ').T t=some (.ref k 0)->50<=k->k<100->bQ (ν0' k)=some g->(⟨a5.tmps,[]⟩:Act).eval (.tmp t) = .pointer (some ⟨g,0,none⟩):=λt k g ht h1 h2 hg=>by
  obtain⟨g',e1,e2⟩:=aLu R5 ht h1 h2;rw[hg]at e2;cases e2;exact e1
 have hd5:a5.defers=[d]:=hd5;have hinv:∀w:World,(invoke (.fn (.func 75) #[p,q,q']) #[]).run Tryz.prog w = .ok (.enter 75 #[.pointer (some ⟨g2,0,none⟩),.pointer (some ⟨g3,0,none⟩),.pointer (some ⟨g4,0,none⟩)]) w:=λw=>by
  show(invoke (.fn (.func 75) #[a.eval (.tmp 2),a.eval (.tmp 3),a.eval (.tmp 4)]) #[]).run Tryz.prog w=_;rw[p2,p3,p4]
  kernel_rfl
 have ret:∀{a b c d' e':X}{N':Nat},148<=N'->jK a=true->jK b=true->jK c=true->jK d'=true->jK e'=true->qY (uA N) Tryz.f42 false .ret (σv 100 108 116 a b c d' e' N')=some (xB r)->∀w6,R { E with ν0:=ν0',ds:=[d] } (cM (σv 50 51 52 a b c d' e' N')) a5.tmps w6->
     ∃v,(results Tryz.f42 a5.tmps).run Tryz.prog w6 = .ok v w6/\Ro { E with ds:=[] } (xB r) (.returned v) w6:=λhN ha hb hc hd he hf w6 h6=>by
  obtain⟨v,h1,h2⟩:=(Zr hf).2 _ _ _ (back (ν0':=E.ν0) hN ha hb hc hd he h6);exact⟨v,h1,v,rfl,h2⟩
 have nor:pK (λa b c d e=>qY (uA N) Tryz.f42 false .ret (σv 100 108 116 a b c d e σ'.N)) σ'=some r->Leaves Tryz.prog Tryz.f42 a5.tmps (Ro { E with ds:=[] } (xB r)) a5.defers .returning w5:=λhk=>by
  obtain⟨a',b',c',d',e',hf,ha,hb,hc,hd',he',t2,t3,t4,k1,k2,k3,hN⟩:=aK6 hk;have hr':xB r=r:=by
   have:=(aLl hf);unfold xB;split
   .rename_i n hn;exact absurd hn (this _)
   .rfl
  rw[hd5];refine leaves_cons (by simp) (hinv w5) ((a9P _ _ _ w5).mono ?_);rintro e u' w' ⟨rfl,rfl,rfl⟩;show Leaves Tryz.prog Tryz.f42 a5.tmps _ [] .returning w';refine ret hN ha hb hc hd' he' (by rw[hr'];exact hf) w' (Je (λt d' ht=>?_) (λk ob hk=>?_) _ _ R5)
  .by_cases e2:t=2
   .subst e2;cases ht;show(lk 2 σ'.T).map X.D=_;rw[t2];rfl
   by_cases e3:t=3
   .subst e3;cases ht;show(lk 3 σ'.T).map X.D=_;rw[t3];rfl
   by_cases e4:t=4
   .subst e4;cases ht;show(lk 4 σ'.T).map X.D=_;rw[t4];rfl
   exact absurd ht (by simp[σv,pP,Ab.look,dS e2,dS e3,dS e4])
  .by_cases e2:k=50
   .subst e2;cases hk;show(lk 50 σ'.H).map XO.A=_;rw[k1];rfl
   by_cases e3:k=51
   .subst e3;cases hk;show(lk 51 σ'.H).map XO.A=_;rw[k2];rfl
   by_cases e4:k=52
   .subst e4;cases hk;show(lk 52 σ'.H).map XO.A=_;rw[k3];rfl
   exact absurd hk (by simp[σv,pP,Ab.look,dS e2,dS e3,dS e4])
 cases e with
 |normal=>exact nor hk
 |ret=>exact nor hk
 |exit id=>cases hk
 |goto l=>cases hk
 |outgrown=>cases hk
 |panic ch=>
   cases ch with
   |nil=>exact absurd (show(none:O)=some r from hk) (by simp)
   |cons p0 l=>
   cases l with
   |cons _ _=>exact absurd (show(none:O)=some r from hk) (by simp)
   |nil=>
   obtain⟨a',b',c',d',e',hf,ha,hb,hc,hd',he',t2,t3,t4,k1,k2,k3,hN⟩:=aK6 (show pK (λ_ _ _ _ _=>Qh p0) σ'=some r from hk);obtain⟨n,rfl,rfl⟩:=a5L hf;obtain⟨w1,w2,w3,r1,r2,r3,R6⟩:=a5H (n:=n) hN5 R5 t2 t3 t4 k1 k2 k3;rw[hcl 2 50 g2 (by show(lk 2 σ'.T).map X.D=_;rw[t2];rfl) (by decide) (by decide) n2]at r1;rw[hcl 3 51 g3 (by show(lk 3 σ'.T).map X.D=_;rw[t3];rfl) (by decide) (by decide) n3]at r2;rw[hcl 4 52 g4 (by show(lk 4 σ'.T).map X.D=_;rw[t4];rfl) (by decide) (by decide) n4]at r3;show Leaves Tryz.prog Tryz.f42 a5.tmps _ a5.defers (.panicking [lS (.iface 96 (.int .i64 n))]) w5;rw[hd5];refine leaves_cons (by simp) (hinv w5) ((a9Q _ _ _ n w5 w1 w2 w3 r1 r2 r3).mono ?_);rintro e u' w' ⟨rfl,rfl,rfl⟩;show Leaves Tryz.prog Tryz.f42 a5.tmps _ [] .returning w';exact ret (N':=σ'.N+24) (by omega) rfl rfl rfl rfl rfl (by kernel_rfl) w' R6
theorem a8T(N:Nat)(s:List UInt8):qY (uA N) Tryz.f42 false .ret (σr s)=some (nQ 0 0 [] 0 4):=by kernel_rfl
theorem aWv{N:Nat}{s:List UInt8}{r:aE}(hl:(8192:Int)<(s.length:Int)->r=nQ 0 0 [] 0 4)(hs:¬ (8192:Int)<(s.length:Int)->∃r0,xD N s=some r0/\r=xB r0):cR Tryz.prog 42 (([.e .tx s]:List X).map X.D) (HA []) r.1.D (HA r.2):=by
 intro E w vs _ hm hsz hR;have hR':=hR.entry (Tryz.f42.ntmps-vs.size);have h1:vs.size=1:=hsz;have h35:Tryz.f42.ntmps=35:=by kernel_rfl
 rw[show vs.size+(Tryz.f42.ntmps-vs.size)=35 by rw[h35];omega]at hR';have hR1:R { E with m:=35,ds:=[] } (cM (σ0 s)) (vs++p6 (Tryz.f42.ntmps-vs.size) undef) w:=by
  have:=hR'.CJ [];rw[<-aMF [.e .tx s] []]at this;exact this
 refine Calls.mono (calls_of_wp_defers (fn:=Tryz.f42) (R:=Ro { E with ds:=[] } r) (by kernel_rfl) aWw (aWu (N:=N) rfl rfl hR1 (λhlong tm w' h=>?_) (λhshort a w' hd h=>?_))) ?_
 .have e:=hl hlong
  subst e;obtain⟨v,e1,e2⟩:=(Zr (a8T N s)).2 _ _ _ h;exact⟨v,e1,v,rfl,e2⟩
 .obtain⟨r0,e1,rfl⟩:=hs hshort
  exact aWt (E:={ E with m:=35,ds:=[] }) e1 rfl hd h
 .rintro e w' ⟨v,rfl,h⟩
  exact⟨v,rfl,h.CJ E.ds⟩
end Go.Proofs
/- Parse: the contract. -/
namespace Go.Proofs
open Go.Ax Go.Ax.aA Go.RowKit Go.Ab
open Go
noncomputable def jZ(N:Nat)(s:List UInt8):Option (Int×Int×List Ex×Int×Int):=
 if(8192:Int)<(s.length:Int)then some (0,0,[],0,4)
 else if Cu N 0 s 0=true then
  if wO N 0 s 0=true then
   if qB N (gM N 0 s 0) (gL N 0 s 0)=true then
    if eQ N (gM N 0 s 0) (gL N 0 s 0)≠(0:UInt8)\/aN N (gM N 0 s 0) (gL N 0 s 0)<(s.length:Int)then
     if mH N (aP N (gM N 0 s 0) (gL N 0 s 0)) (aN N (gM N 0 s 0) (gL N 0 s 0))=true then some (0,0,[],mG N (aP N (gM N 0 s 0) (gL N 0 s 0)) (aN N (gM N 0 s 0) (gL N 0 s 0)),2)else none
    else if uD N (oW N 0 s 0) (oV N 0 s 0) (oU N 0 s 0)=true then
     if qG N (oW N 0 s 0) (oV N 0 s 0) (oU N 0 s 0)≠(0:Int)then some (0,0,[],0,4)else some (oW N 0 s 0,oV N 0 s 0,oU N 0 s 0,0,0)
    else none
   else none
  else some (0,0,[],Ct N 0 s 0,2)
 else none
noncomputable def Nn(N:Nat)(s:List UInt8):Bool:=(jZ N s).isSome
noncomputable def xA(N:Nat)(s:List UInt8):Int:=((jZ N s).getD (0,0,[],0,0)).1
noncomputable def w9(N:Nat)(s:List UInt8):Int:=((jZ N s).getD (0,0,[],0,0)).2.1
noncomputable def w7(N:Nat)(s:List UInt8):List Ex:=((jZ N s).getD (0,0,[],0,0)).2.2.1
noncomputable def HQ(N:Nat)(s:List UInt8):Int:=((jZ N s).getD (0,0,[],0,0)).2.2.2.1
noncomputable def tZ(N:Nat)(s:List UInt8):Int:=((jZ N s).getD (0,0,[],0,0)).2.2.2.2
noncomputable def aFu(N:Nat):bK:=E1 .tx λs=>(Nn N s,nQ (xA N s) (w9 N s) (w7 N s) (HQ N s) (tZ N s))
theorem aWz{N:Nat}{s:List UInt8}{d:Int×Int×List Ex×Int×Int}(hs:¬ (8192:Int)<(s.length:Int))(h:jZ N s=some d):∃r0,xD N s=some r0/\nQ d.1 d.2.1 d.2.2.1 d.2.2.2.1 d.2.2.2.2=xB r0:=by
 unfold jZ at h;rw[aD hs]at h;by_cases h1:Cu N 0 s 0=true
 case neg=>rw[aD h1]at h;cases h
 rw[aJ h1]at h;by_cases h2:wO N 0 s 0=true
 case neg=>
  rw[aD h2]at h;cases h;rw[Bool.not_eq_true]at h2;refine⟨(.dY (.iface 96 (.int .i64 (Ct N 0 s 0))),[]),?_,?_⟩
  .unfold xD;rw[aI h1,h2,aK]
  .rfl
 rw[aJ h2]at h;by_cases h3:qB N (gM N 0 s 0) (gL N 0 s 0)=true
 case neg=>rw[aD h3]at h;cases h
 rw[aJ h3]at h;by_cases h4:eQ N (gM N 0 s 0) (gL N 0 s 0)≠(0:UInt8)\/aN N (gM N 0 s 0) (gL N 0 s 0)<(s.length:Int)
 .rw[aJ h4]at h
  have h4':(decide (eQ N (gM N 0 s 0) (gL N 0 s 0)≠(0:UInt8))||decide (aN N (gM N 0 s 0) (gL N 0 s 0)<(s.length:Int)))=true:=by simpa using h4
  by_cases h5:mH N (aP N (gM N 0 s 0) (gL N 0 s 0)) (aN N (gM N 0 s 0) (gL N 0 s 0))=true
  case neg=>rw[aD h5]at h;cases h
  rw[aJ h5]at h;cases h;refine⟨(.dY (.iface 96 (.int .i64 (mG N (aP N (gM N 0 s 0) (gL N 0 s 0)) (aN N (gM N 0 s 0) (gL N 0 s 0))))),[]),?_,?_⟩
  .unfold xD;rw[aI h1,h2,aX,aI h3,h4',aX,aI h5]
  .rfl
 .rw[aD h4]at h
  have h4':(decide (eQ N (gM N 0 s 0) (gL N 0 s 0)≠(0:UInt8))||decide (aN N (gM N 0 s 0) (gL N 0 s 0)<(s.length:Int)))=false:=by
   rw[Bool.or_eq_false_iff];exact⟨aR λh=>h4 (.inl h),aR λh=>h4 (.inr h)⟩
  by_cases h5:uD N (oW N 0 s 0) (oV N 0 s 0) (oU N 0 s 0)=true
  case neg=>rw[aD h5]at h;cases h
  rw[aJ h5]at h;by_cases h6:qG N (oW N 0 s 0) (oV N 0 s 0) (oU N 0 s 0)≠(0:Int)
  .rw[aJ h6]at h
   cases h;refine⟨nQ 0 0 [] 0 4,?_,?_⟩
   .unfold xD;rw[aI h1,h2,aX,aI h3,h4',aK,aI h5,(aQ h6),aX]
   .rfl
  .rw[aD h6]at h
   cases h;refine⟨nQ (oW N 0 s 0) (oV N 0 s 0) (oU N 0 s 0) 0 0,?_,?_⟩
   .unfold xD;rw[aI h1,h2,aX,aI h3,h4',aK,aI h5,(aR h6),aK]
   .rfl
theorem aWs(N:Nat):aM Tryz.prog 42 (aFu N):=aM.e1 (λx0 h=>by
 have h:(jZ N x0).isSome=true:=h;obtain⟨d,hd⟩:=Option.isSome_iff_exists.1 h;have hr:nQ (xA N x0) (w9 N x0) (w7 N x0) (HQ N x0) (tZ N x0)=nQ d.1 d.2.1 d.2.2.1 d.2.2.2.1 d.2.2.2.2:=by
  unfold xA w9 w7 HQ tZ;rw[hd];rfl
 show cR Tryz.prog 42 (([.e .tx x0]:List X).map X.D) (HA []) (nQ (xA N x0) (w9 N x0) (w7 N x0) (HQ N x0) (tZ N x0)).1.D (HA (nQ (xA N x0) (w9 N x0) (w7 N x0) (HQ N x0) (tZ N x0)).2);rw[hr];refine aWv (N:=N) (λhl=>?_) (λhs=>aWz hs hd);unfold jZ at hd;rw[aJ hl]at hd;cases hd;rfl)
end Go.Proofs
