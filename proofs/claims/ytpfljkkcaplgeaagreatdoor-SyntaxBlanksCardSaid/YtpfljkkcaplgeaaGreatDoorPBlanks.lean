/- SyntaxBlanks: for every input the law returns true and leaves its arguments as they were, where the listed variables hold what the program lays in them. -/
import Derived.Test.YtpfljkkcaplgeaaGreatDoorL1
import Derived.Test.YtpfljkkcaplgeaaGreatDoorL3
import Derived.Test.YtpfljkkcaplgeaaGreatDoorG4
import Derived.Test.YtpfljkkcaplgeaaGreatDoorTie
import Derived.Test.YtpfljkkcaplgeaaGreatDoorCards
import Derived.SevenTiedAt
open Option.some renaming inj->gZ
namespace Go.Proofs.YtpfljkkcaplgeaaGreatDoor.syntaxBlanks
open Go.ChangeShapes Go.WideShapes Go.ChangeAt Go.RowKit Go.Ab Go.Ax Go.Proofs
set_option maxRecDepth 100000 in
theorem lifted(os:Os)(started:os.Started)(H:Type)(enc:TypeId×Value->H):
    ReturnsInHanded {} Tryz.checked os 7 .any (λw args=>(Rows.syntaxBlanksSpec.pre enc Tryz.prog Tryz.f7 [] false w args/\laidMetH Tryz.prog oS w)/\sizedMet enc Tryz.prog Tryz.f7 (OpenSpec.ofChange Rows.syntaxBlanksSpec) false w args) (Rows.syntaxBlanksSpec.post enc Tryz.prog Tryz.f7 false true false false):=by
  refine returnsInHanded_of_change_and (C:=Tryz.checked) (X:=λw _=>laidMetH Tryz.prog oS w) (λ_ _ _ hh h=>h.of_heap hh) own started (by kernel_rfl) Tryz.func7
    (ChangeSpec.witness_shaped (enc:=enc) (C:=Tryz.checked) (os:=os) (X:=λw _=>laidMetH Tryz.prog oS w) false (World.laidAll Tryz.prog os oS) #[.slice none 0 0,.slice none 0 0] 8 (World.laidAll_os _ _ _) (World.shaped_of_ZipB (by kernel_rfl) (by kernel_rfl)) (by kernel_rfl) (by kernel_rfl) (by kernel_rfl) (a6s os _)) ?_
  intro W base args ds gs before hval0 hW _ hsz0 hL _;have hval:∀(j:Nat) t v,Tryz.f7.params[j]?=some t->args[j]?=some v->Value.okWide Tryz.prog W .any base t v:=hval0
  have hW':=hW;obtain⟨p,q,hA0,hV,rfl,hfz,hnd⟩:=hW;have hA:DataW.TrodAll enc Tryz.prog W 0 (λ_=>true) true Tryz.f7.params.toList args.toList ds p:=hA0;have hsz:(DataW.weightsEach Tryz.prog (Tryz.f7.params.toList++Rows.syntaxBlanksSpec.plain.varTypes Tryz.prog) (ds++gs)).all (· <= reachBytes)=true:=hsz0;rw[Tryz.params7]at hA hval hsz;obtain⟨v0,vs0,d0,ds0,p0,q0,hargs,rfl,rfl,h0,r0⟩:=trodAll_cons hA;obtain⟨v1,vs1,d1,ds1,p1,q1,rfl,rfl,rfl,h1,r1⟩:=trodAll_cons r0;obtain⟨rfl,rfl,rfl⟩:=trodAll_nil r1;obtain rfl:args = #[v0,v1]:=by cases args;simp_all
  obtain⟨rfl,rfl⟩:=trodVars_none hV;have lt0:∀x∈p0,x.block<W.heap.size:=by obtain⟨m,hm⟩:=h0;exact DataW.trod_lt m _ _ _ hm
  obtain⟨x0,o0,t0,s0⟩:=aJm (n:=12) (τ:=.sl (.i .i64)) (by kernel_rfl) (hval 0 22 v0 rfl rfl) h0;have lt1:∀x∈p1,x.block<W.heap.size:=by obtain⟨m,hm⟩:=h1;exact DataW.trod_lt m _ _ _ hm
  obtain⟨x1,o1,t1,s1⟩:=aJm (n:=12) (τ:=.sl (.i .i64)) (by kernel_rfl) (hval 1 22 v1 rfl rfl) h1;refine(a71 (aLj (a44 (N:=10000) (Nat.le_refl _) (by decide) rfl (aHy o0) (aHy o1))) (a0n (aG3 hL)) (a0m (aG3 hL)) rfl (vs:=#[v0,v1]) λi u d hu hd=>?_).mono λe W' ⟨he,bel⟩=>?_
  . match i,hu,hd with
    |0,hu,hd=>cases hu;cases hd;exact t0
    |1,hu,hd=>cases hu;cases hd;exact t1
    |i+2,hu,hd=>exact absurd (Array.getElem?_eq_some_iff.1 hu).1 (by simp)
  subst he;simp only[List.append_nil]at hW';exact⟨_,rfl,_,_,_,[],_,[],hW',trodAll_mk1 (shut_bool Tryz.underlying4 _),(trodAll_cons_mk (Below.trod laidOut (by kernel_rfl) (bK (by kernel_rfl)) h0 bel lt0) (trodAll_cons_mk (Below.trod laidOut (by kernel_rfl) (bK (by kernel_rfl)) h1 bel lt1) trodAll_mk0)),rfl,bel.frame _,λh=>by cases h⟩
theorem over:Rows.syntaxBlanksRow.holds Tryz.pinned (OpenSpec.ofChange Rows.syntaxBlanksSpec):=
  OpenClaim.holds_of_wide 7 Tryz.f7 rfl rfl rfl rfl rfl rfl rfl ⟨rfl,rfl,rfl,rfl,rfl⟩ rfl rfl rfl rfl rfl (by kernel_rfl) Tryz.func7 closed
    (bK (by kernel_rfl)) (by unfold Func.isWrapper;first|(rw[aI (by decide +kernel)];kernel_rfl)|(rw[aE (by decide +kernel)];exact⟨rfl,rfl⟩))
    (λos started H enc _=>lifted os started H enc)
/-- The statement: the row, its listed variables tied to the program's text. -/
theorem proved:Rows.SyntaxBlanksCardSaid:=
  Claim7.holds_tied_plain_at .later [] [.data, .data, .data, .data, .sentinel, .sentinel, .widerDeep, .widerDeep, .widerDeep, .widerDeep, .widerDeep, .pinned] true (true, "35b54055a81394151b65eed62b358ded36c925e96259468c736428b51beee8c0") true
    over (λ_ h=>by cases h) c1 (λ_ h=>by cases h) syntaxBlanks_row_tie rfl ⟨rfl,rfl⟩ c4 rfl
    (λf fn hf hfn=>by
      obtain rfl:f=7:=gZ (c5.symm.trans hf) |>.symm;obtain rfl:fn=Tryz.f7:=(gZ (Tryz.func7.symm.trans hfn)).symm;exact⟨c2,λj t ht=>by
        rw[Tryz.params7]at ht;have hw:∀t∈Tryz.f7.params.toList,Tryz.prog.wantsStandIn t=false:=λt h=>by
          rw[Tryz.params7]at h;simp only[List.mem_cons,List.not_mem_nil,or_false]at h;rcases h with rfl|rfl <;> kernel_rfl
        exact hw t (by rw[Tryz.params7];exact List.mem_of_getElem? (by simpa using ht))⟩)
    c3
#print axioms proved
end Go.Proofs.YtpfljkkcaplgeaaGreatDoor.syntaxBlanks
