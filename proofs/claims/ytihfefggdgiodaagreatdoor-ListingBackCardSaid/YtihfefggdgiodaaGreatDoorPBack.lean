/- ListingBack: for every input the law returns true and leaves its arguments as they were, where the listed variables hold what the program lays in them. -/
import Derived.Test.YtihfefggdgiodaaGreatDoorG3
import Derived.Test.YtihfefggdgiodaaGreatDoorG4
import Derived.Test.YtihfefggdgiodaaGreatDoorTie
import Derived.Test.YtihfefggdgiodaaGreatDoorCards
import Derived.SevenTiedAt
namespace Go.Proofs.YtihfefggdgiodaaGreatDoor.listingBack
open Go.ChangeShapes Go.WideShapes Go.ChangeAt Go.RowKit Go.Ab Go.Ax Go.Proofs
set_option maxRecDepth 100000 in
theorem lifted (os:Os) (started:os.Started) (H:Type) (enc:TypeId×Value->H):
    ReturnsInHanded {} Tryz.checked os 8 .any (fun w args=>(Rows.listingBackSpec.pre enc Tryz.prog Tryz.f8 [] false w args/\laidMetH Tryz.prog laid7 w)/\sizedMet enc Tryz.prog Tryz.f8 (OpenSpec.ofChange Rows.listingBackSpec) false w args) (Rows.listingBackSpec.post enc Tryz.prog Tryz.f8 false true false false):=by
  refine returnsInHanded_of_change_and (C:=Tryz.checked) (X:=fun w _=>laidMetH Tryz.prog laid7 w) (fun _ _ _ hh h=>h.of_heap hh) own started (by kernel_rfl) Tryz.func8
    (ChangeSpec.witness_shaped (enc:=enc) (C:=Tryz.checked) (os:=os) (X:=fun w _=>laidMetH Tryz.prog laid7 w) false (World.laidAll Tryz.prog os laid7) #[.slice none 0 0,.string ⟨#[]⟩,.int .i64 0] 8 (World.laidAll_os _ _ _) (World.shaped_of_ZipB (by kernel_rfl) (by kernel_rfl)) (by kernel_rfl) (by kernel_rfl) (by kernel_rfl) (door_met os _)) ?_
  intro W base args ds gs before hval0 hW _ hsz0 hL _;have hval:∀ (j:Nat) t v,Tryz.f8.params[j]?=some t->args[j]?=some v->Value.okWide Tryz.prog W .any base t v:=hval0
  have hW':=hW;obtain ⟨p,q,hA0,hV,rfl,hfz,hnd⟩:=hW;have hA:DataW.TrodAll enc Tryz.prog W 0 (fun _=>true) true Tryz.f8.params.toList args.toList ds p:=hA0;have hsz:(DataW.weightsEach Tryz.prog (Tryz.f8.params.toList++Rows.listingBackSpec.plain.varTypes Tryz.prog) (ds++gs)).all (· <= reachBytes)=true:=hsz0;rw [Tryz.params8] at hA hval hsz;obtain ⟨v0,vs0,d0,ds0,p0,q0,hargs,rfl,rfl,h0,r0⟩:=trodAll_cons hA;obtain ⟨v1,vs1,d1,ds1,p1,q1,rfl,rfl,rfl,h1,r1⟩:=trodAll_cons r0;obtain ⟨v2,vs2,d2,ds2,p2,q2,rfl,rfl,rfl,h2,r2⟩:=trodAll_cons r1;obtain ⟨rfl,rfl,rfl⟩:=trodAll_nil r2;obtain rfl:args = #[v0,v1,v2]:=by cases args;simp_all
  obtain ⟨rfl,rfl⟩:=trodVars_none hV;have lt0:∀ x ∈ p0,x.block < W.heap.size:=by obtain ⟨m,hm⟩:=h0;exact DataW.trod_lt m _ _ _ hm
  obtain ⟨x0,o0,t0,s0⟩:=arg_of (n:=12) (τ:=.sl (.i .i64)) (by kernel_rfl) (hval 0 22 v0 rfl rfl) h0;have lt1:∀ x ∈ p1,x.block < W.heap.size:=by obtain ⟨m,hm⟩:=h1;exact DataW.trod_lt m _ _ _ hm
  obtain ⟨x1,o1,t1,s1⟩:=arg_of (n:=12) (τ:=.tx) (by kernel_rfl) (hval 1 9 v1 rfl rfl) h1;have lt2:∀ x ∈ p2,x.block < W.heap.size:=by obtain ⟨m,hm⟩:=h2;exact DataW.trod_lt m _ _ _ hm
  obtain ⟨x2,o2,t2,s2⟩:=arg_of (n:=12) (τ:=.i .i64) (by kernel_rfl) (hval 2 3 v2 rfl rfl) h2;refine (calls_of (w8fin (w8cx 60000) (law8 (N:=60000) (Nat.le_refl _) (raw:=x1) (okl_w o0) (i64_w o2))) (tabAll (tab_of_laid hL)) (tabG_of (tab_of_laid hL)) rfl (vs:=#[v0,v1,v2]) fun i u d hu hd=>?_).mono fun e W' ⟨he,bel⟩=>?_
  . match i,hu,hd with
    | 0,hu,hd=>cases hu;cases hd;exact t0
    | 1,hu,hd=>cases hu;cases hd;exact t1
    | 2,hu,hd=>cases hu;cases hd;exact t2
    | i+3,hu,hd=>exact absurd (Array.getElem?_eq_some_iff.1 hu).1 (by simp)
  subst he;simp only [List.append_nil] at hW';exact ⟨_,rfl,_,_,_,[],_,[],hW',trodAll_mk1 (shut_bool Tryz.underlying4 _),(trodAll_cons_mk (Below.trod laidOut (by kernel_rfl) (of_decide_eq_true (by kernel_rfl)) h0 bel lt0) (trodAll_cons_mk (Below.trod laidOut (by kernel_rfl) (of_decide_eq_true (by kernel_rfl)) h1 bel lt1) (trodAll_cons_mk (Below.trod laidOut (by kernel_rfl) (of_decide_eq_true (by kernel_rfl)) h2 bel lt2) trodAll_mk0))),rfl,bel.frame _,fun h=>by cases h⟩
theorem over:Rows.listingBackRow.holds Tryz.pinned (OpenSpec.ofChange Rows.listingBackSpec):=
  OpenClaim.holds_of_wide 8 Tryz.f8 rfl rfl rfl rfl rfl rfl rfl ⟨rfl,rfl,rfl,rfl,rfl⟩ rfl rfl rfl rfl rfl (by kernel_rfl) Tryz.func8 (by kernel_rfl)
    (of_decide_eq_true (by kernel_rfl)) (by unfold Func.isWrapper;first | (rw [if_pos (by decide +kernel)];kernel_rfl) | (rw [if_neg (by decide +kernel)];exact ⟨rfl,rfl⟩))
    (fun os started H enc _=>lifted os started H enc)
/-- The statement: the row, its listed variables tied to the program's text. -/
theorem proved:Rows.ListingBackCardSaid:=
  Claim7.holds_tied_plain_at .later [] [.data, .data, .data, .data, .sentinel, .sentinel, .pinned] true (true, "80fde9a151805a324f9ea798bf33881f27e4874d9bbe32e3d225aa794027d751") true
    over (fun _ h=>by cases h) (by kernel_rfl) (fun _ h=>by cases h) listingBack_row_tie rfl ⟨rfl,rfl⟩ (by kernel_rfl) rfl
    (fun f fn hf hfn=>by
      obtain rfl : f = 8 := Option.some.inj ((show Tryz.prog.funcNamed "dactyl/dactyllaw17.ListingBack" = some 8 by kernel_rfl).symm.trans hf) |>.symm
      obtain rfl:fn=Tryz.f8:=(Option.some.inj (Tryz.func8.symm.trans hfn)).symm;exact ⟨by kernel_rfl,fun j t ht=>by
        rw [Tryz.params8] at ht;have hw:∀ t ∈ Tryz.f8.params.toList,Tryz.prog.wantsStandIn t=false:=fun t h=>by
          rw [Tryz.params8] at h;simp only [List.mem_cons,List.not_mem_nil,or_false] at h;rcases h with rfl | rfl | rfl <;> kernel_rfl
        exact hw t (by rw [Tryz.params8];exact List.mem_of_getElem? (by simpa using ht))⟩)
    (by kernel_rfl)
#print axioms proved
end Go.Proofs.YtihfefggdgiodaaGreatDoor.listingBack
