/- AnswerNormal: for every input the law returns true and leaves its arguments as they were, where the listed variables hold what the program lays in them. -/
import Derived.Test.YtmbdfpgaokbkkaaDoorG3
import Derived.Test.YtmbdfpgaokbkkaaDoorG4
import Derived.Test.YtmbdfpgaokbkkaaDoorTie
import Derived.Test.YtmbdfpgaokbkkaaDoorCards
import Derived.SevenTiedAt
namespace Go.Proofs.YtmbdfpgaokbkkaaDoor.answerNormal
open Go.ChangeShapes Go.WideShapes Go.ChangeAt Go.RowKit Go.Ab Go.Ax Go.Proofs
set_option maxRecDepth 100000 in
theorem lifted (os:Os) (started:os.Started) (H:Type) (enc:TypeId×Value->H):
    ReturnsInHanded {} Tryd.checked os 4 .any (fun w args=>(Rows.answerNormalSpec.pre enc Tryd.prog Tryd.f4 [] false w args/\laidMetH Tryd.prog laid5 w)/\sizedMet enc Tryd.prog Tryd.f4 (OpenSpec.ofChange Rows.answerNormalSpec) false w args) (Rows.answerNormalSpec.post enc Tryd.prog Tryd.f4 false true false false):=by
  refine returnsInHanded_of_change_and (C:=Tryd.checked) (X:=fun w _=>laidMetH Tryd.prog laid5 w) (fun _ _ _ hh h=>h.of_heap hh) own started (by kernel_rfl) Tryd.func4
    (ChangeSpec.witness_shaped (enc:=enc) (C:=Tryd.checked) (os:=os) (X:=fun w _=>laidMetH Tryd.prog laid5 w) false (World.laidAll Tryd.prog os laid5) #[.int .i64 0,.int .i64 0,.int .i64 0,.slice none 0 0,.slice none 0 0,.slice none 0 0] 8 (World.laidAll_os _ _ _) (World.shaped_of_ZipB (by kernel_rfl) (by kernel_rfl)) (by kernel_rfl) (by kernel_rfl) (by kernel_rfl) (door_met os _)) ?_
  intro W base args ds gs before hval0 hW _ hsz0 hL _;have hval:∀ (j:Nat) t v,Tryd.f4.params[j]?=some t->args[j]?=some v->Value.okWide Tryd.prog W .any base t v:=hval0
  have hW':=hW;obtain ⟨p,q,hA0,hV,rfl,hfz,hnd⟩:=hW;have hA:DataW.TrodAll enc Tryd.prog W 0 (fun _=>true) true Tryd.f4.params.toList args.toList ds p:=hA0;have hsz:(DataW.weightsEach Tryd.prog (Tryd.f4.params.toList++Rows.answerNormalSpec.plain.varTypes Tryd.prog) (ds++gs)).all (· <= reachBytes)=true:=hsz0;rw [Tryd.params4] at hA hval hsz;obtain ⟨v0,vs0,d0,ds0,p0,q0,hargs,rfl,rfl,h0,r0⟩:=trodAll_cons hA;obtain ⟨v1,vs1,d1,ds1,p1,q1,rfl,rfl,rfl,h1,r1⟩:=trodAll_cons r0;obtain ⟨v2,vs2,d2,ds2,p2,q2,rfl,rfl,rfl,h2,r2⟩:=trodAll_cons r1;obtain ⟨v3,vs3,d3,ds3,p3,q3,rfl,rfl,rfl,h3,r3⟩:=trodAll_cons r2;obtain ⟨v4,vs4,d4,ds4,p4,q4,rfl,rfl,rfl,h4,r4⟩:=trodAll_cons r3;obtain ⟨v5,vs5,d5,ds5,p5,q5,rfl,rfl,rfl,h5,r5⟩:=trodAll_cons r4;obtain ⟨rfl,rfl,rfl⟩:=trodAll_nil r5;obtain rfl:args = #[v0,v1,v2,v3,v4,v5]:=by cases args;simp_all
  obtain ⟨rfl,rfl⟩:=trodVars_none hV;have lt0:∀ x ∈ p0,x.block < W.heap.size:=by obtain ⟨m,hm⟩:=h0;exact DataW.trod_lt m _ _ _ hm
  obtain ⟨x0,o0,t0,s0⟩:=arg_of (n:=12) (τ:=.i .i64) (by kernel_rfl) (hval 0 3 v0 rfl rfl) h0;have lt1:∀ x ∈ p1,x.block < W.heap.size:=by obtain ⟨m,hm⟩:=h1;exact DataW.trod_lt m _ _ _ hm
  obtain ⟨x1,o1,t1,s1⟩:=arg_of (n:=12) (τ:=.i .i64) (by kernel_rfl) (hval 1 3 v1 rfl rfl) h1;have lt2:∀ x ∈ p2,x.block < W.heap.size:=by obtain ⟨m,hm⟩:=h2;exact DataW.trod_lt m _ _ _ hm
  obtain ⟨x2,o2,t2,s2⟩:=arg_of (n:=12) (τ:=.i .i64) (by kernel_rfl) (hval 2 3 v2 rfl rfl) h2;have lt3:∀ x ∈ p3,x.block < W.heap.size:=by obtain ⟨m,hm⟩:=h3;exact DataW.trod_lt m _ _ _ hm
  obtain ⟨x3,o3,t3,s3⟩:=arg_of (n:=12) (τ:=.sl (.i .i64)) (by kernel_rfl) (hval 3 22 v3 rfl rfl) h3;have lt4:∀ x ∈ p4,x.block < W.heap.size:=by obtain ⟨m,hm⟩:=h4;exact DataW.trod_lt m _ _ _ hm
  obtain ⟨x4,o4,t4,s4⟩:=arg_of (n:=12) (τ:=.sl (.i .i64)) (by kernel_rfl) (hval 4 22 v4 rfl rfl) h4;have lt5:∀ x ∈ p5,x.block < W.heap.size:=by obtain ⟨m,hm⟩:=h5;exact DataW.trod_lt m _ _ _ hm
  obtain ⟨x5,o5,t5,s5⟩:=arg_of (n:=12) (τ:=.sl (.pr (.i .i64) (.pr (.i .i64) (.pr (.i .i64) (.pr (.i .i64) (.i .i64)))))) (by kernel_rfl) (hval 5 31 v5 rfl rfl) h5;refine (calls_of (w4fin (w4cx 1000) (w4_eq (N:=1000) (by omega) (way:=x0) (i64_w o1) (i64_w o2) (okl_w o3) (okl_w o4) x5)) (tabAll (tab_of_laid hL)) (tabG_of (tab_of_laid hL)) rfl (vs:=#[v0,v1,v2,v3,v4,v5]) fun i u d hu hd=>?_).mono fun e W' ⟨he,bel⟩=>?_
  . match i,hu,hd with
    | 0,hu,hd=>cases hu;cases hd;exact t0
    | 1,hu,hd=>cases hu;cases hd;exact t1
    | 2,hu,hd=>cases hu;cases hd;exact t2
    | 3,hu,hd=>cases hu;cases hd;exact t3
    | 4,hu,hd=>cases hu;cases hd;exact t4
    | 5,hu,hd=>cases hu;cases hd;exact t5
    | i+6,hu,hd=>exact absurd (Array.getElem?_eq_some_iff.1 hu).1 (by simp)
  subst he;simp only [List.append_nil] at hW';exact ⟨_,rfl,_,_,_,[],_,[],hW',trodAll_mk1 (shut_bool Tryd.underlying4 _),(trodAll_cons_mk (Below.trod laidOut (by kernel_rfl) (of_decide_eq_true (by kernel_rfl)) h0 bel lt0) (trodAll_cons_mk (Below.trod laidOut (by kernel_rfl) (of_decide_eq_true (by kernel_rfl)) h1 bel lt1) (trodAll_cons_mk (Below.trod laidOut (by kernel_rfl) (of_decide_eq_true (by kernel_rfl)) h2 bel lt2) (trodAll_cons_mk (Below.trod laidOut (by kernel_rfl) (of_decide_eq_true (by kernel_rfl)) h3 bel lt3) (trodAll_cons_mk (Below.trod laidOut (by kernel_rfl) (of_decide_eq_true (by kernel_rfl)) h4 bel lt4) (trodAll_cons_mk (Below.trod laidOut (by kernel_rfl) (of_decide_eq_true (by kernel_rfl)) h5 bel lt5) trodAll_mk0)))))),rfl,bel.frame _,fun h=>by cases h⟩
theorem over:Rows.answerNormalRow.holds Tryd.pinned (OpenSpec.ofChange Rows.answerNormalSpec):=
  OpenClaim.holds_of_wide 4 Tryd.f4 rfl rfl rfl rfl rfl rfl rfl ⟨rfl,rfl,rfl,rfl,rfl⟩ rfl rfl rfl rfl rfl (by kernel_rfl) Tryd.func4 (by kernel_rfl)
    (of_decide_eq_true (by kernel_rfl)) (by unfold Func.isWrapper;first | (rw [if_pos (by decide +kernel)];kernel_rfl) | (rw [if_neg (by decide +kernel)];exact ⟨rfl,rfl⟩))
    (fun os started H enc _=>lifted os started H enc)
/-- The statement: the row, its listed variables tied to the program's text. -/
theorem proved:Rows.AnswerNormalCardSaid:=
  Claim7.holds_tied_plain_at .later [] [.data, .data, .data, .sentinel, .sentinel] true (true, "4a0073f84d7f7c274080e9b90f3a7e4130636fdce088ed6b2c5a28badaf6bfdd") true
    over (fun _ h=>by cases h) (by kernel_rfl) (fun _ h=>by cases h) answerNormal_row_tie rfl ⟨rfl,rfl⟩ (by kernel_rfl) rfl
    (fun f fn hf hfn=>by
      obtain rfl : f = 4 := Option.some.inj ((show Tryd.prog.funcNamed "dactyl/dactyllaw40.AnswerNormal" = some 4 by kernel_rfl).symm.trans hf) |>.symm
      obtain rfl:fn=Tryd.f4:=(Option.some.inj (Tryd.func4.symm.trans hfn)).symm;exact ⟨by kernel_rfl,fun j t ht=>by
        rw [Tryd.params4] at ht;have hw:∀ t ∈ Tryd.f4.params.toList,Tryd.prog.wantsStandIn t=false:=fun t h=>by
          rw [Tryd.params4] at h;simp only [List.mem_cons,List.not_mem_nil,or_false] at h;rcases h with rfl | rfl | rfl | rfl | rfl | rfl <;> kernel_rfl
        exact hw t (by rw [Tryd.params4];exact List.mem_of_getElem? (by simpa using ht))⟩)
    (by kernel_rfl)
#print axioms proved
end Go.Proofs.YtmbdfpgaokbkkaaDoor.answerNormal
