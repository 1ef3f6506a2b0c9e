/- SpatialReads: for every input the law returns true and leaves its arguments as they were, where the listed variables hold what the program lays in them. -/
import Derived.Test.YtpmhkjnnolpknaaDoorG4
import Derived.Test.YtpmhkjnnolpknaaDoorGd
import Derived.Test.YtpmhkjnnolpknaaDoorG3
import Derived.Test.YtpmhkjnnolpknaaDoorTie
import Derived.Test.YtpmhkjnnolpknaaDoorCards
import Derived.SevenTiedAt
open Option.some renaming inj->fI
namespace Go.Proofs.YtpmhkjnnolpknaaDoor.spatialReads
open Go.ChangeShapes Go.WideShapes Go.ChangeAt Go.RowKit Go.Ab Go.Ax Go.Proofs
set_option maxRecDepth 100000 in
theorem lifted(os:Os)(started:os.Started)(H:Type)(enc:TypeId×Value->H):
    ReturnsInHanded {} Tryd.checked os 7 .any (λw args=>(Rows.spatialReadsSpec.pre enc Tryd.prog Tryd.f7 [] false w args/\laidMetH Tryd.prog G3 w)/\sizedMet enc Tryd.prog Tryd.f7 (OpenSpec.ofChange Rows.spatialReadsSpec) false w args) (Rows.spatialReadsSpec.post enc Tryd.prog Tryd.f7 false true false false):=by
  refine returnsInHanded_of_change_and (C:=Tryd.checked) (X:=λw _=>laidMetH Tryd.prog G3 w) (λ_ _ _ hh h=>h.of_heap hh) own started (by kernel_rfl) Tryd.func7
    (ChangeSpec.witness_shaped (enc:=enc) (C:=Tryd.checked) (os:=os) (X:=λw _=>laidMetH Tryd.prog G3 w) false (World.doorLaid Tryd.prog 62 os) #[.slice none 0 0,.int .i64 0,.int .i64 0,.int .i64 0,.slice none 0 0] 8 rfl (World.shaped_of_RefB (by kernel_rfl) (by kernel_rfl)) (by kernel_rfl) (by kernel_rfl) (by kernel_rfl) (a0J os _)) ?_
  intro W base args ds gs before hval0 hW _ hsz0 hL _;have hval:∀(j:Nat) t v,Tryd.f7.params[j]?=some t->args[j]?=some v->Value.okWide Tryd.prog W .any base t v:=hval0
  have hW':=hW;obtain⟨p,q,hA0,hV,rfl,hfz,hnd⟩:=hW;have hA:DataW.TrodAll enc Tryd.prog W 0 (λ_=>true) true Tryd.f7.params.toList args.toList ds p:=hA0;have hsz:(DataW.weightsEach Tryd.prog (Tryd.f7.params.toList++Rows.spatialReadsSpec.plain.varTypes Tryd.prog) (ds++gs)).all (· <= reachBytes)=true:=hsz0;rw[Tryd.params7]at hA hval hsz;obtain⟨v0,vs0,d0,ds0,p0,q0,hargs,rfl,rfl,h0,r0⟩:=trodAll_cons hA;obtain⟨v1,vs1,d1,ds1,p1,q1,rfl,rfl,rfl,h1,r1⟩:=trodAll_cons r0;obtain⟨v2,vs2,d2,ds2,p2,q2,rfl,rfl,rfl,h2,r2⟩:=trodAll_cons r1;obtain⟨v3,vs3,d3,ds3,p3,q3,rfl,rfl,rfl,h3,r3⟩:=trodAll_cons r2;obtain⟨v4,vs4,d4,ds4,p4,q4,rfl,rfl,rfl,h4,r4⟩:=trodAll_cons r3;obtain⟨rfl,rfl,rfl⟩:=trodAll_nil r4;obtain rfl:args = #[v0,v1,v2,v3,v4]:=by cases args;simp_all
  obtain⟨rfl,rfl⟩:=trodVars_none hV;have lt0:∀x∈p0,x.block<W.heap.size:=by obtain⟨m,hm⟩:=h0;exact DataW.trod_lt m _ _ _ hm
  obtain⟨x0,o0,t0,s0⟩:=Gv (n:=12) (τ:=.sl (.i .i64)) (by kernel_rfl) (hval 0 22 v0 rfl rfl) h0;have lt1:∀x∈p1,x.block<W.heap.size:=by obtain⟨m,hm⟩:=h1;exact DataW.trod_lt m _ _ _ hm
  obtain⟨x1,o1,t1,s1⟩:=Gv (n:=12) (τ:=.i .i64) (by kernel_rfl) (hval 1 3 v1 rfl rfl) h1;have lt2:∀x∈p2,x.block<W.heap.size:=by obtain⟨m,hm⟩:=h2;exact DataW.trod_lt m _ _ _ hm
  obtain⟨x2,o2,t2,s2⟩:=Gv (n:=12) (τ:=.i .i64) (by kernel_rfl) (hval 2 3 v2 rfl rfl) h2;have lt3:∀x∈p3,x.block<W.heap.size:=by obtain⟨m,hm⟩:=h3;exact DataW.trod_lt m _ _ _ hm
  obtain⟨x3,o3,t3,s3⟩:=Gv (n:=12) (τ:=.i .i64) (by kernel_rfl) (hval 3 3 v3 rfl rfl) h3;have lt4:∀x∈p4,x.block<W.heap.size:=by obtain⟨m,hm⟩:=h4;exact DataW.trod_lt m _ _ _ hm
  obtain⟨x4,o4,t4,s4⟩:=Gv (n:=12) (τ:=.sl (.i .i64)) (by kernel_rfl) (hval 4 22 v4 rfl rfl) h4;refine(a0g (aIq (aIs 100) (aWm (aEg o0) (aEg o4) (Nb o1) (Nb o2) (Nb o3))) (aWM (aWL hL)) (aWK _) rfl (vs:=#[v0,v1,v2,v3,v4]) λi u d hu hd=>?_).mono λe W' ⟨he,bel⟩=>?_
  . match i,hu,hd with
    |0,hu,hd=>cases hu;cases hd;exact t0
    |1,hu,hd=>cases hu;cases hd;exact t1
    |2,hu,hd=>cases hu;cases hd;exact t2
    |3,hu,hd=>cases hu;cases hd;exact t3
    |4,hu,hd=>cases hu;cases hd;exact t4
    |i+5,hu,hd=>exact absurd (Array.getElem?_eq_some_iff.1 hu).1 (by simp)
  subst he;simp only[List.append_nil]at hW';exact⟨_,rfl,_,_,_,[],_,[],hW',trodAll_mk1 (shut_bool Tryd.underlying4 _),(trodAll_cons_mk (Below.trod laidOut (by kernel_rfl) (cT (by kernel_rfl)) h0 bel lt0) (trodAll_cons_mk (Below.trod laidOut (by kernel_rfl) (cT (by kernel_rfl)) h1 bel lt1) (trodAll_cons_mk (Below.trod laidOut (by kernel_rfl) (cT (by kernel_rfl)) h2 bel lt2) (trodAll_cons_mk (Below.trod laidOut (by kernel_rfl) (cT (by kernel_rfl)) h3 bel lt3) (trodAll_cons_mk (Below.trod laidOut (by kernel_rfl) (cT (by kernel_rfl)) h4 bel lt4) trodAll_mk0))))),rfl,bel.frame _,λh=>by cases h⟩
theorem over:Rows.spatialReadsRow.holds Tryd.pinned (OpenSpec.ofChange Rows.spatialReadsSpec):=
  OpenClaim.holds_of_wide 7 Tryd.f7 rfl rfl rfl rfl rfl rfl rfl ⟨rfl,rfl,rfl,rfl,rfl⟩ rfl rfl rfl rfl rfl (by kernel_rfl) Tryd.func7 (by kernel_rfl)
    (cT (by kernel_rfl)) (by unfold Func.isWrapper;first|(rw[aJ (by decide +kernel)];kernel_rfl)|(rw[aH (by decide +kernel)];exact⟨rfl,rfl⟩))
    (λos started H enc _=>lifted os started H enc)
/-- The statement: the row, its listed variables tied to the program's text. -/
theorem proved:Rows.SpatialReadsCardSaid:=
  Claim7.holds_tied_plain_at .later [] [.data, .data, .data, .sentinel, .sentinel] true (true, "a8b5bac75da10e16d864321ceeee8925159847d1114d0e4dacac1e8355d4429e") true
    over (λ_ h=>by cases h) (by kernel_rfl) (λ_ h=>by cases h) spatialReads_row_tie rfl ⟨rfl,rfl⟩ (by kernel_rfl) rfl
    (λf fn hf hfn=>by
      obtain rfl : f = 7 := fI ((show Tryd.prog.funcNamed "dactyl/dactyllaw14.SpatialReads" = some 7 by kernel_rfl).symm.trans hf) |>.symm
      obtain rfl:fn=Tryd.f7:=(fI (Tryd.func7.symm.trans hfn)).symm;exact⟨by kernel_rfl,λj t ht=>by
        rw[Tryd.params7]at ht;have hw:∀t∈Tryd.f7.params.toList,Tryd.prog.wantsStandIn t=false:=λt h=>by
          rw[Tryd.params7]at h;simp only[List.mem_cons,List.not_mem_nil,lW]at h;rcases h with rfl|rfl|rfl|rfl|rfl <;> kernel_rfl
        exact hw t (by rw[Tryd.params7];exact List.mem_of_getElem? (by simpa using ht))⟩)
    (by kernel_rfl)
#print axioms proved
end Go.Proofs.YtpmhkjnnolpknaaDoor.spatialReads
