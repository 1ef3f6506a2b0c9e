/- LinearFewest: for every input the law returns true and leaves its arguments as they were, where the listed variables hold what the program lays in them. -/
import Derived.Test.YtlhdefefoaldfaaGreatDoorG3
import Derived.Test.YtlhdefefoaldfaaGreatDoorGF
import Derived.Test.YtlhdefefoaldfaaGreatDoorCards
import Derived.Test.YtlhdefefoaldfaaGreatDoorTie
import Derived.SevenTiedAt
namespace Go.Proofs.YtlhdefefoaldfaaGreatDoor.linearFewest
open Go.ChangeShapes Go.WideShapes Go.ChangeAt Go.RowKit Go.Ab Go.Ax Go.Proofs
set_option maxRecDepth 100000 in
theorem lifted (os:Os) (started:os.Started) (H:Type) (enc:TypeId×Value->H):
    ReturnsInHanded {} Tryz.checked os 7 .any (fun w args=>(Rows.linearFewestSpec.pre enc Tryz.prog Tryz.f7 [] false w args/\laidMetH Tryz.prog laid9 w)/\sizedMet enc Tryz.prog Tryz.f7 (OpenSpec.ofChange Rows.linearFewestSpec) false w args) (Rows.linearFewestSpec.post enc Tryz.prog Tryz.f7 false true false false):=by
  refine returnsInHanded_of_change_and (C:=Tryz.checked) (X:=fun w _=>laidMetH Tryz.prog laid9 w) (fun _ _ _ hh h=>h.of_heap hh) own started (by kernel_rfl) Tryz.func7
    (ChangeSpec.witness_shaped (enc:=enc) (C:=Tryz.checked) (os:=os) (X:=fun w _=>laidMetH Tryz.prog laid9 w) false (World.doorLaid Tryz.prog 93 os) #[.slice none 0 0,.int .i64 0] 8 rfl (World.shaped_of_RefB (by kernel_rfl) (by kernel_rfl)) (by kernel_rfl) (by kernel_rfl) (by kernel_rfl) (door_met os _)) ?_
  intro W base args ds gs before hval0 hW _ hsz0 hL _
  have hval:∀ (j:Nat) t v,Tryz.f7.params[j]?=some t->args[j]?=some v->Value.okWide Tryz.prog W .any base t v:=hval0
  have hW':=hW
  obtain ⟨p,q,hA0,hV,rfl,hfz,hnd⟩:=hW
  have hA:DataW.TrodAll enc Tryz.prog W 0 (fun _=>true) true Tryz.f7.params.toList args.toList ds p:=hA0
  have hsz:(DataW.weightsEach Tryz.prog (Tryz.f7.params.toList++Rows.linearFewestSpec.plain.varTypes Tryz.prog) (ds++gs)).all (· <= reachBytes)=true:=hsz0
  rw [Tryz.params7] at hA hval hsz
  obtain ⟨v0,vs0,d0,ds0,p0,q0,hargs,rfl,rfl,h0,r0⟩:=trodAll_cons hA
  obtain ⟨v1,vs1,d1,ds1,p1,q1,rfl,rfl,rfl,h1,r1⟩:=trodAll_cons r0
  obtain ⟨rfl,rfl,rfl⟩:=trodAll_nil r1
  obtain rfl:args = #[v0,v1]:=by cases args;simp_all
  obtain ⟨rfl,rfl⟩:=trodVars_none hV
  have lt0:∀ x ∈ p0,x.block < W.heap.size:=by obtain ⟨m,hm⟩:=h0;exact DataW.trod_lt m _ _ _ hm
  obtain ⟨x0,o0,t0,s0⟩:=arg_of (n:=12) (τ:=.sl (.i .i64)) (by kernel_rfl) (hval 0 22 v0 rfl rfl) h0
  have s0:=s0 fun k hk=>by simpa using List.all_eq_true.1 hsz k (DataW.weights_mem_each (j:=0) rfl rfl k hk)
  have lt1:∀ x ∈ p1,x.block < W.heap.size:=by obtain ⟨m,hm⟩:=h1;exact DataW.trod_lt m _ _ _ hm
  obtain ⟨x1,o1,t1,s1⟩:=arg_of (n:=12) (τ:=.i .i64) (by kernel_rfl) (hval 1 3 v1 rfl rfl) h1
  refine (calls_of (w7fin (w7cx 70000) (law7 (N:=70000) (by decide) (jl_w o0) (len_s s0) (j64_w o1))) (tabAll (tab_of_laid hL)) (tabG_of (tab_of_laid hL)) rfl (vs:=#[v0,v1]) fun i u d hu hd=>?_).mono fun e W' ⟨he,bel⟩=>?_
  . match i,hu,hd with
    | 0,hu,hd=>cases hu;cases hd;exact t0
    | 1,hu,hd=>cases hu;cases hd;exact t1
    | i+2,hu,hd=>exact absurd (Array.getElem?_eq_some_iff.1 hu).1 (by simp)
  subst he
  simp only [List.append_nil] at hW'
  exact ⟨_,rfl,_,_,_,[],_,[],hW',trodAll_mk1 (shut_bool Tryz.underlying4 _),(trodAll_cons_mk (Below.trod laidOut (by kernel_rfl) (of_decide_eq_true (by kernel_rfl)) h0 bel lt0) (trodAll_cons_mk (Below.trod laidOut (by kernel_rfl) (of_decide_eq_true (by kernel_rfl)) h1 bel lt1) trodAll_mk0)),rfl,bel.frame _,fun h=>by cases h⟩
theorem over:Rows.linearFewestRow.holds Tryz.pinned (OpenSpec.ofChange Rows.linearFewestSpec):=
  OpenClaim.holds_of_wide 7 Tryz.f7 rfl rfl rfl rfl rfl rfl rfl ⟨rfl,rfl,rfl,rfl,rfl⟩ rfl rfl rfl rfl rfl (by kernel_rfl) Tryz.func7 (by kernel_rfl)
    (of_decide_eq_true (by kernel_rfl)) (by unfold Func.isWrapper;first | (rw [if_pos (by decide +kernel)];kernel_rfl) | (rw [if_neg (by decide +kernel)];exact ⟨rfl,rfl⟩))
    (fun os started H enc _=>lifted os started H enc)
/-- The statement: the row, its listed variables tied to the program's text. -/
theorem proved:Rows.LinearFewestCardSaid:=
  Claim7.holds_tied_plain_at .later [] [.data, .data, .data, .sentinel, .sentinel, .widerDeep, .widerDeep, .widerDeep, .widerDeep] true (true, "485356331923648cf81233410f89ab2b708446e4050f7a6fe15e1b42e48de62a") true
    over (fun _ h=>by cases h) (by kernel_rfl) (fun _ h=>by cases h) linearFewest_row_tie rfl ⟨rfl,rfl⟩ (by kernel_rfl) rfl
    (fun f fn hf hfn=>by
      obtain rfl : f = 7 := Option.some.inj ((show Tryz.prog.funcNamed "dactyl/dactyllaw13.LinearFewest" = some 7 by kernel_rfl).symm.trans hf) |>.symm
      obtain rfl:fn=Tryz.f7:=(Option.some.inj (Tryz.func7.symm.trans hfn)).symm
      exact ⟨by kernel_rfl,fun j t ht=>by
        rw [Tryz.params7] at ht
        have hw:∀ t ∈ Tryz.f7.params.toList,Tryz.prog.wantsStandIn t=false:=fun t h=>by
          rw [Tryz.params7] at h
          simp only [List.mem_cons,List.not_mem_nil,or_false] at h
          rcases h with rfl | rfl <;> kernel_rfl
        exact hw t (by rw [Tryz.params7];exact List.mem_of_getElem? (by simpa using ht))⟩)
    (by kernel_rfl)
#print axioms proved
end Go.Proofs.YtlhdefefoaldfaaGreatDoor.linearFewest
