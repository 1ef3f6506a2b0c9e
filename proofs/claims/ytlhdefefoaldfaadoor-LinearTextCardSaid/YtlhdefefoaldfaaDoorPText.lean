/- LinearText: for every input the law returns true and leaves its arguments as they were, where the listed variables hold what the program lays in them. -/
import Derived.Test.YtlhdefefoaldfaaDoorG3
import Derived.Test.YtlhdefefoaldfaaDoorG7
import Derived.Test.YtlhdefefoaldfaaDoorCards
import Derived.Test.YtlhdefefoaldfaaDoorTie
import Derived.SevenTiedAt
namespace Go.Proofs.YtlhdefefoaldfaaDoor.linearText
open Go.ChangeShapes Go.WideShapes Go.ChangeAt Go.RowKit Go.Ab Go.Ax Go.Proofs
set_option maxRecDepth 100000 in
theorem lifted (os:Os) (started:os.Started) (H:Type) (enc:TypeId×Value→H):
    ReturnsInHanded {} Tryd.checked os 10 .any (fun w args=>(Rows.linearTextSpec.pre enc Tryd.prog Tryd.f10 [] false w args∧laidMetH Tryd.prog laid9 w)∧sizedMet enc Tryd.prog Tryd.f10 (OpenSpec.ofChange Rows.linearTextSpec) false w args) (Rows.linearTextSpec.post enc Tryd.prog Tryd.f10 false true false false):=by
  refine returnsInHanded_of_change_and (C:=Tryd.checked) (X:=fun w _=>laidMetH Tryd.prog laid9 w) (fun _ _ _ hh h=>h.of_heap hh) own started (by kernel_rfl) Tryd.func10
    (ChangeSpec.witness_shaped (enc:=enc) (C:=Tryd.checked) (os:=os) (X:=fun w _=>laidMetH Tryd.prog laid9 w) false (World.doorLaid Tryd.prog 93 os) #[.slice none 0 0] 8 rfl (World.shaped_of_RefB (by kernel_rfl) (by kernel_rfl)) (by kernel_rfl) (by kernel_rfl) (by kernel_rfl) (door_met os _)) ?_
  intro W base args ds gs before hval0 hW _ hsz0 hL _
  have hval:∀ (j:Nat) t v,Tryd.f10.params[j]?=some t→args[j]?=some v→Value.okWide Tryd.prog W .any base t v:=hval0
  have hW':=hW
  obtain ⟨p,q,hA0,hV,rfl,hfz,hnd⟩:=hW
  have hA:DataW.TrodAll enc Tryd.prog W 0 (fun _=>true) true Tryd.f10.params.toList args.toList ds p:=hA0
  have hsz:(DataW.weightsEach Tryd.prog (Tryd.f10.params.toList++Rows.linearTextSpec.plain.varTypes Tryd.prog) (ds++gs)).all (· ≤ reachBytes)=true:=hsz0
  rw [Tryd.params10] at hA hval hsz
  obtain ⟨v0,vs0,d0,ds0,p0,q0,hargs,rfl,rfl,h0,r0⟩:=trodAll_cons hA
  obtain ⟨rfl,rfl,rfl⟩:=trodAll_nil r0
  obtain rfl:args = #[v0]:=by cases args;simp_all
  obtain ⟨rfl,rfl⟩:=trodVars_none hV
  have lt0:∀ x ∈ p0,x.block < W.heap.size:=by obtain ⟨m,hm⟩:=h0;exact DataW.trod_lt m _ _ _ hm
  obtain ⟨x0,o0,t0,s0⟩:=arg_of (n:=12) (τ:=.sl (.i .i64)) (by kernel_rfl) (hval 0 22 v0 rfl rfl) h0
  have s0:=s0 fun k hk=>by simpa using List.all_eq_true.1 hsz k (DataW.weights_mem_each (j:=0) rfl rfl k hk)
  refine (calls_of (w10fin (w10cx 70000) (law10 (N:=70000) (by decide) (jl_w o0) (len_s s0))) (tabAll (tab_of_laid hL)) (tabG_of (tab_of_laid hL)) rfl (vs:=#[v0]) fun i u d hu hd=>?_).mono fun e W' ⟨he,bel⟩=>?_
  · match i,hu,hd with
    | 0,hu,hd=>cases hu;cases hd;exact t0
    | i+1,hu,hd=>exact absurd (Array.getElem?_eq_some_iff.1 hu).1 (by simp)
  subst he
  simp only [List.append_nil] at hW'
  exact ⟨_,rfl,_,_,_,[],_,[],hW',trodAll_mk1 (shut_bool Tryd.underlying4 _),(trodAll_cons_mk (Below.trod laidOut (by kernel_rfl) (of_decide_eq_true (by kernel_rfl)) h0 bel lt0) trodAll_mk0),rfl,bel.frame _,fun h=>by cases h⟩
theorem over:Rows.linearTextRow.holds Tryd.pinned (OpenSpec.ofChange Rows.linearTextSpec):=
  OpenClaim.holds_of_wide 10 Tryd.f10 rfl rfl rfl rfl rfl rfl rfl ⟨rfl,rfl,rfl,rfl,rfl⟩ rfl rfl rfl rfl rfl (by kernel_rfl) Tryd.func10 (by kernel_rfl)
    (of_decide_eq_true (by kernel_rfl)) (by unfold Func.isWrapper;first | (rw [if_pos (by decide +kernel)];kernel_rfl) | (rw [if_neg (by decide +kernel)];exact ⟨rfl,rfl⟩))
    (fun os started H enc _=>lifted os started H enc)
/-- The statement: the row, its listed variables tied to the program's text. -/
theorem proved:Rows.LinearTextCardSaid:=
  Claim7.holds_tied_plain_at .later [] [.data, .data, .data, .sentinel, .sentinel, .widerDeep, .widerDeep, .widerDeep, .widerDeep] true (true, "6707be2fc4824f4165301d20f45bf25017bd487e9c264ab3853d974557109c6c") true
    over (fun _ h=>by cases h) (by kernel_rfl) (fun _ h=>by cases h) linearText_row_tie rfl ⟨rfl,rfl⟩ (by kernel_rfl) rfl
    (fun f fn hf hfn=>by
      obtain rfl : f = 10 := Option.some.inj ((show Tryd.prog.funcNamed "dactyl/dactyllaw13.LinearText" = some 10 by kernel_rfl).symm.trans hf) |>.symm
      obtain rfl:fn=Tryd.f10:=(Option.some.inj (Tryd.func10.symm.trans hfn)).symm
      exact ⟨by kernel_rfl,fun j t ht=>by
        rw [Tryd.params10] at ht
        have hw:∀ t ∈ Tryd.f10.params.toList,Tryd.prog.wantsStandIn t=false:=fun t h=>by
          rw [Tryd.params10] at h
          simp only [List.mem_cons,List.not_mem_nil,or_false] at h
          subst h;kernel_rfl
        exact hw t (by rw [Tryd.params10];exact List.mem_of_getElem? (by simpa using ht))⟩)
    (by kernel_rfl)
#print axioms proved
end Go.Proofs.YtlhdefefoaldfaaDoor.linearText
