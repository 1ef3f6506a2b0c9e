/- ListingReads: for every input the law returns true and leaves its arguments as they were, where the listed variables hold what the program lays in them. -/
import Derived.Test.YtihfefggdgiodaaGreatDoorG3
import Derived.Test.YtihfefggdgiodaaGreatDoorG6
import Derived.Test.YtihfefggdgiodaaGreatDoorTie
import Derived.Test.YtihfefggdgiodaaGreatDoorCards
import Derived.SevenTiedAt
open Option.some renaming inj->eX
namespace Go.Proofs.YtihfefggdgiodaaGreatDoor.listingReads
open Go.ChangeShapes Go.WideShapes Go.ChangeAt Go.RowKit Go.Ab Go.Ax Go.Proofs
set_option maxRecDepth 100000 in
theorem lifted(os:Os)(started:os.Started)(H:Type)(enc:TypeId×Value->H):
    ReturnsInHanded {} Tryz.checked os 5 .any (λw args=>(Rows.listingReadsSpec.pre enc Tryz.prog Tryz.f5 [] false w args/\laidMetH Tryz.prog qT w)/\sizedMet enc Tryz.prog Tryz.f5 (OpenSpec.ofChange Rows.listingReadsSpec) false w args) (Rows.listingReadsSpec.post enc Tryz.prog Tryz.f5 false true false false):=by
  refine returnsInHanded_of_change_and (C:=Tryz.checked) (X:=λw _=>laidMetH Tryz.prog qT w) (λ_ _ _ hh h=>h.of_heap hh) own started (by kernel_rfl) Tryz.func5
    (ChangeSpec.witness_shaped (enc:=enc) (C:=Tryz.checked) (os:=os) (X:=λw _=>laidMetH Tryz.prog qT w) false (World.laidAll Tryz.prog os qT) #[.slice none 0 0,.int .i64 0,.int .i64 0,.int .i64 0,.int .i64 0,.slice none 0 0] 8 (World.laidAll_os _ _ _) (World.shaped_of_ZipB (by kernel_rfl) (by kernel_rfl)) (by kernel_rfl) (by kernel_rfl) (by kernel_rfl) (aVt os _)) ?_
  intro W base args ds gs before hval0 hW _ hsz0 hL _;have hval:∀(j:Nat) t v,Tryz.f5.params[j]?=some t->args[j]?=some v->Value.okWide Tryz.prog W .any base t v:=hval0
  have hW':=hW;obtain⟨p,q,hA0,hV,rfl,hfz,hnd⟩:=hW;have hA:DataW.TrodAll enc Tryz.prog W 0 (λ_=>true) true Tryz.f5.params.toList args.toList ds p:=hA0;have hsz:(DataW.weightsEach Tryz.prog (Tryz.f5.params.toList++Rows.listingReadsSpec.plain.varTypes Tryz.prog) (ds++gs)).all (· <= reachBytes)=true:=hsz0;rw[Tryz.params5]at hA hval hsz;obtain⟨v0,vs0,d0,ds0,p0,q0,hargs,rfl,rfl,h0,r0⟩:=trodAll_cons hA;obtain⟨v1,KQ,d1,ds1,p1,q1,rfl,rfl,rfl,h1,r1⟩:=trodAll_cons r0;obtain⟨v2,vs2,d2,ds2,p2,q2,rfl,rfl,rfl,h2,r2⟩:=trodAll_cons r1;obtain⟨v3,vs3,d3,ds3,p3,q3,rfl,rfl,rfl,h3,r3⟩:=trodAll_cons r2;obtain⟨v4,vs4,d4,ds4,p4,q4,rfl,rfl,rfl,h4,r4⟩:=trodAll_cons r3;obtain⟨v5,vs5,d5,ds5,p5,q5,rfl,rfl,rfl,h5,r5⟩:=trodAll_cons r4;obtain⟨rfl,rfl,rfl⟩:=trodAll_nil r5;obtain rfl:args = #[v0,v1,v2,v3,v4,v5]:=by cases args;simp_all
  obtain⟨rfl,rfl⟩:=trodVars_none hV;have lt0:∀x∈p0,x.block<W.heap.size:=by obtain⟨m,hm⟩:=h0;exact DataW.trod_lt m _ _ _ hm
  obtain⟨x0,o0,t0,s0⟩:=Ci (n:=12) (τ:=.sl (.i .i64)) (by kernel_rfl) (hval 0 22 v0 rfl rfl) h0;have lt1:∀x∈p1,x.block<W.heap.size:=by obtain⟨m,hm⟩:=h1;exact DataW.trod_lt m _ _ _ hm
  obtain⟨x1,o1,t1,s1⟩:=Ci (n:=12) (τ:=.i .i64) (by kernel_rfl) (hval 1 3 v1 rfl rfl) h1;have lt2:∀x∈p2,x.block<W.heap.size:=by obtain⟨m,hm⟩:=h2;exact DataW.trod_lt m _ _ _ hm
  obtain⟨x2,o2,t2,s2⟩:=Ci (n:=12) (τ:=.i .i64) (by kernel_rfl) (hval 2 3 v2 rfl rfl) h2;have lt3:∀x∈p3,x.block<W.heap.size:=by obtain⟨m,hm⟩:=h3;exact DataW.trod_lt m _ _ _ hm
  obtain⟨x3,o3,t3,s3⟩:=Ci (n:=12) (τ:=.i .i64) (by kernel_rfl) (hval 3 3 v3 rfl rfl) h3;have lt4:∀x∈p4,x.block<W.heap.size:=by obtain⟨m,hm⟩:=h4;exact DataW.trod_lt m _ _ _ hm
  obtain⟨x4,o4,t4,s4⟩:=Ci (n:=12) (τ:=.i .i64) (by kernel_rfl) (hval 4 3 v4 rfl rfl) h4;have lt5:∀x∈p5,x.block<W.heap.size:=by obtain⟨m,hm⟩:=h5;exact DataW.trod_lt m _ _ _ hm
  obtain⟨x5,o5,t5,s5⟩:=Ci (n:=12) (τ:=.sl (.sl .u8)) (by kernel_rfl) (hval 5 39 v5 rfl rfl) h5;refine(aWY (aGw (aGz 60000) (aUG (N:=60000) (Nat.le_refl _) (raw:=x5) (aR4 o0) (FQ o1) (FQ o2) (FQ o3) (FQ o4))) (aQS (aAd hL)) (aQR (aAd hL)) rfl (vs:=#[v0,v1,v2,v3,v4,v5]) λi u d hu hd=>?_).mono λe W' ⟨he,bel⟩=>?_
  . match i,hu,hd with
    |0,hu,hd=>cases hu;cases hd;exact t0
    |1,hu,hd=>cases hu;cases hd;exact t1
    |2,hu,hd=>cases hu;cases hd;exact t2
    |3,hu,hd=>cases hu;cases hd;exact t3
    |4,hu,hd=>cases hu;cases hd;exact t4
    |5,hu,hd=>cases hu;cases hd;exact t5
    |i+6,hu,hd=>exact absurd (Array.getElem?_eq_some_iff.1 hu).1 (by simp)
  subst he;simp only[List.append_nil]at hW';exact⟨_,rfl,_,_,_,[],_,[],hW',trodAll_mk1 (shut_bool Tryz.underlying4 _),(trodAll_cons_mk (Below.trod laidOut (by kernel_rfl) (cH (by kernel_rfl)) h0 bel lt0) (trodAll_cons_mk (Below.trod laidOut (by kernel_rfl) (cH (by kernel_rfl)) h1 bel lt1) (trodAll_cons_mk (Below.trod laidOut (by kernel_rfl) (cH (by kernel_rfl)) h2 bel lt2) (trodAll_cons_mk (Below.trod laidOut (by kernel_rfl) (cH (by kernel_rfl)) h3 bel lt3) (trodAll_cons_mk (Below.trod laidOut (by kernel_rfl) (cH (by kernel_rfl)) h4 bel lt4) (trodAll_cons_mk (Below.trod laidOut (by kernel_rfl) (cH (by kernel_rfl)) h5 bel lt5) trodAll_mk0)))))),rfl,bel.frame _,λh=>by cases h⟩
theorem over:Rows.listingReadsRow.holds Tryz.pinned (OpenSpec.ofChange Rows.listingReadsSpec):=
  OpenClaim.holds_of_wide 5 Tryz.f5 rfl rfl rfl rfl rfl rfl rfl ⟨rfl,rfl,rfl,rfl,rfl⟩ rfl rfl rfl rfl rfl (by kernel_rfl) Tryz.func5 (by kernel_rfl)
    (cH (by kernel_rfl)) (by unfold Func.isWrapper;first|(rw[aE (by decide +kernel)];kernel_rfl)|(rw[aC (by decide +kernel)];exact⟨rfl,rfl⟩))
    (λos started H enc _=>lifted os started H enc)
/-- The statement: the row, its listed variables tied to the program's text. -/
theorem proved:Rows.ListingReadsCardSaid:=
  Claim7.holds_tied_plain_at .later [] [.data, .data, .data, .data, .sentinel, .sentinel, .pinned] true (true, "80fde9a151805a324f9ea798bf33881f27e4874d9bbe32e3d225aa794027d751") true
    over (λ_ h=>by cases h) (by kernel_rfl) (λ_ h=>by cases h) listingReads_row_tie rfl ⟨rfl,rfl⟩ (by kernel_rfl) rfl
    (λf fn hf hfn=>by
      obtain rfl : f = 5 := eX ((show Tryz.prog.funcNamed "dactyl/dactyllaw17.ListingReads" = some 5 by kernel_rfl).symm.trans hf) |>.symm
      obtain rfl:fn=Tryz.f5:=(eX (Tryz.func5.symm.trans hfn)).symm;exact⟨by kernel_rfl,λj t ht=>by
        rw[Tryz.params5]at ht;have hw:∀t∈Tryz.f5.params.toList,Tryz.prog.wantsStandIn t=false:=λt h=>by
          rw[Tryz.params5]at h;simp only[List.mem_cons,List.not_mem_nil,or_false]at h;rcases h with rfl|rfl|rfl|rfl|rfl|rfl <;> kernel_rfl
        exact hw t (by rw[Tryz.params5];exact List.mem_of_getElem? (by simpa using ht))⟩)
    (by kernel_rfl)
#print axioms proved
end Go.Proofs.YtihfefggdgiodaaGreatDoor.listingReads
