/- The flow theorem for regions that draw their order, inside a fence that lets every function in (a loop over a function's body, an iterator that calls yield). -/
import Derived.Test.YtokdclbfjlnnjaaFlow
import Derived.OrdersIn
import Derived.TacticsIn
namespace Go
open Go.RowKit

/-- A fence that lets all in. -/
structure Fence.Free (F : Fence) : Prop where
  fn : ∀ f, F.fn f
  depth : F.depth = none
  rows : ∀ {n : Nat} {P : Program} {row : String} {args : Array Value} {w : World} {R : Value → World → Prop}, Rows P row args w R → RowsIn F n P row args w R
  calls : ∀ {n : Nat} {P : Program} {f : FuncId} {args : Array Value} {w : World} {R : Ending → World → Prop}, Calls P f args w R → CallsIn F n P f args w R
theorem Fence.free_wide : Fence.wide.Free := ⟨fun _ => trivial, rfl, fun h c cs _ => (let ⟨v, w', r, s⟩ := h c cs; ⟨v, w', r, stepsIn_wide.2 s⟩), fun h => callsIn_wide.2 h⟩
theorem Fence.Free.inRound {F : Fence} (h : F.Free) (l : Nat) : (F.inRound l).Free := ⟨h.fn, h.depth, fun k => h.rows k, fun k => h.calls k⟩

def noDefer (ops : Array Oper) : Bool := ops.all fun o => match o.op with
  | .defer _ => false
  | _ => true
theorem noDefer_spec {ops : Array Oper} (h : noDefer ops = true) {i : Nat} {o : Oper} (ho : ops[i]? = some o) : ∀ c, o.op ≠ .defer c := fun c e => by
  have := (Array.all_eq_true_iff_forall_mem.1 h) o (Array.mem_of_getElem? ho)
  simp [e] at this

def flowEndIn (F : Fence) (n : Nat) (P : Program) (ops : Array Oper) (Vs : List FV) (Q : Exit → Act → World → Prop) (tail : List Oper) : List (Nat × Tmp) → Act → World → Prop
  | [], b, W => wpListIn F n P ops Q tail b W
  | p :: ps, b, W => ∀ v, flowV Vs p.1 v W → flowEndIn F n P ops Vs Q tail ps (b.put (some p.2) v) W
theorem flowEndIn_nil {F : Fence} {n : Nat} {P : Program} {ops : Array Oper} {Vs : List FV} {Q : Exit → Act → World → Prop} {tail : List Oper} {b : Act} {W : World} (h : wpListIn F n P ops Q tail b W) : flowEndIn F n P ops Vs Q tail [] b W := h
theorem flowEndIn_cons {F : Fence} {n : Nat} {P : Program} {ops : Array Oper} {Vs : List FV} {Q : Exit → Act → World → Prop} {tail : List Oper} {p : Nat × Tmp} {ps : List (Nat × Tmp)} {b : Act} {W : World}
    (h : ∀ v, flowV Vs p.1 v W → flowEndIn F n P ops Vs Q tail ps (b.put (some p.2) v) W) : flowEndIn F n P ops Vs Q tail (p :: ps) b W := h

theorem flowEndIn_puts {F : Fence} {n : Nat} {P : Program} {ops : Array Oper} {Vs : List FV} {Q : Exit → Act → World → Prop} {tail : List Oper} (vals : Nat → Value) {W : World} : ∀ (ps : List (Nat × Tmp)) (a : Act), flowEndIn F n P ops Vs Q tail ps a W →
    (∀ p ∈ ps, flowV Vs p.1 (vals p.1) W) → wpListIn F n P ops Q tail (a.puts vals ps) W
  | [], a, h, _ => h
  | p :: ps, a, h, hv => flowEndIn_puts vals ps _ (h _ (hv p (by simp))) (fun q hq => hv q (List.mem_cons_of_mem _ hq))


theorem op_liftIn {F : Fence} (hF : F.Free) {n : Nat} {P : Program} {ops : Array Oper} {o : Oper} {d : Tmp} {i : Nat} (hnd : ∀ c, o.op ≠ .defer c) {G : Value → World → Prop} {b a' : Act} {W : World} {Q : Exit → Act → World → Prop} {K : Act → World → Prop}
    (hi : ops[i]? = some o) (hd : o.dst = some d) (hb : d < b.tmps.size)
    (he : execOp a'.eval o = execOp b.eval o) (hw : Region.wanted o (yielded ops a'.tmps) = Region.wanted o (yielded ops b.tmps))
    (h : wpList P ops (fun e b' W' => e = .normal ∧ b'.defers = b.defers ∧ G (b'.tmps.getD d undef) W') [o] b W)
    (hK : ∀ v W', G v W' → K (a'.put (some d) v) W') : wpOpIn F n P ops Q i K a' W := by
  have hput : ∀ v, (b.put o.dst v).tmps.getD d undef = v := fun v => by simp [hd, Act.put, hb]
  unfold wpOpIn
  simp only [hi]
  simp only [wpList] at h
  rw [hw]
  by_cases hwt : Region.wanted o (yielded ops b.tmps) = true
  · rw [if_pos hwt] at h ⊢
    refine ⟨fun f _ => hF.fn f, ?_⟩
    rw [Oper.semAt_eq _ _ _ hnd, he]
    rcases h with h | ⟨_, ⟨_, _, h, _⟩⟩
    · unfold Oper.wp at h
      generalize (execOp b.eval o).run P W = r at *
      cases r with
      | ok n w' =>
        cases n <;> simp only [Oper.upon, Oper.uponIn] at h ⊢
        case value u => rw [hput] at h; rw [hd]; exact hK _ _ h.2.2
        case skip => rw [hput] at h; rw [hd]; exact hK _ _ h.2.2
        case defer x =>
          exfalso
          have h2 := h.2.1
          rw [hd] at h2
          simp only [Act.put] at h2
          exact absurd (congrArg List.length h2) (by simp)
        case enter f args =>
          refine ⟨fun hh => by simp [hF.depth] at hh, CallsIn.mono (hF.calls h) fun e w'' he' => ?_⟩
          cases e with
          | returned u => simp only at he' ⊢; rw [hput] at he'; rw [hd]; exact hK _ _ he'.2.2
          | panicked c => exact absurd he'.1 (by simp)
          | outgrown => obtain ⟨_, _, h', _⟩ := he'; cases h'
        case row row args => exact ⟨fun hh => by simp [hF.depth] at hh, RowsIn.mono (hF.rows h) fun u w'' he' => by rw [hput] at he'; rw [hd]; exact hK _ _ he'.2.2⟩
      | halt x w' =>
        cases x <;> simp only [Oper.upon, Oper.uponIn] at h ⊢
        case panic u => exact absurd h.1 (by simp)
    · cases h
  · rw [if_neg hwt] at h ⊢
    have := h.2.2
    rw [hput] at this
    rw [hd]
    exact ⟨fun f _ => hF.fn f, hK _ _ this⟩

section
variable {F : Fence} {n : Nat} {ops : Array Oper} {pre : Nat → List Nat} {all : List (Nat × Tmp)} {uses : Nat → List (Nat × Tmp)} {m : Nat} {listed : Array Bool}
theorem FlowFacts.run_tailIn {P : Program} {Q : Exit → Act → World → Prop} (Fa : FlowFacts ops pre all uses m) : ∀ (fuel k : Nat) (listed : Array Bool) (a : Act) (W : World), Downs ops listed → unl ops.size listed ≤ fuel →
    all.length ≤ k → (∀ j, j < k → On listed j ∨ ops.size ≤ j) → (∀ j, k ≤ j → ¬ On listed j) → wpListIn F n P ops Q (ops.toList.drop k) a W → wpAnyIn F n P .any ops Q fuel listed a W := by
  intro fuel
  induction fuel with
  | zero =>
    intro k listed a W hd hf hk h1 h2 h
    have hkn : ops.size ≤ k := by
      rcases Nat.lt_or_ge k ops.size with hlt | hge
      · have := unl_pos hlt ((not_on hd.sz hlt).1 (h2 k (Nat.le_refl _)))
        omega
      · exact hge
    refine ⟨?_, ?_⟩
    · refine List.eq_nil_iff_forall_not_mem.2 fun j hj => ?_
      obtain ⟨h0, o, ho, _⟩ := mem_ready.1 hj
      have hlt := (Array.getElem?_eq_some_iff.1 ho).1
      exact (not_on hd.sz hlt).2 h0 ((h1 j (by omega)).resolve_right (by omega))
    · rw [List.drop_eq_nil_of_le (by simpa using hkn)] at h
      exact h
  | succ fuel ih =>
    intro k listed a W hd hf hk h1 h2 h
    rcases Nat.lt_or_ge k ops.size with hlt | hge
    · have hno := h2 k (Nat.le_refl _)
      refine ⟨fun hr => ?_, fun i hi => ?_⟩
      · obtain ⟨k', _, hk'⟩ := Fa.least hd k hlt hno
        rw [hr] at hk'
        cases hk'
      · obtain ⟨h0, o, ho, _⟩ := mem_ready.1 hi
        have hin := (Array.getElem?_eq_some_iff.1 ho).1
        have hik : k ≤ i := Nat.le_of_not_lt fun hh => (not_on hd.sz hin).2 h0 ((h1 i hh).resolve_right (by omega))
        have hki : i = k := by
          rcases Nat.lt_or_ge k i with hh | hh
          · exact absurd (Fa.ready_pre hd hi (Fa.tail i (by omega) hin k hh)) hno
          · omega
        subst hki
        have hdrop : ops.toList.drop i = o :: ops.toList.drop (i + 1) := drop_cons (by simpa using ho)
        rw [hdrop] at h
        have hop : wpOpIn F n P ops Q i (wpListIn F n P ops Q (ops.toList.drop (i + 1))) a W := by
          unfold wpOpIn
          simp only [ho]
          exact h
        refine wpOpIn_mono (fun a' W' h' => ih (i + 1) _ a' W' (hd.set hi) ?_ (by omega) (fun j hj => ?_) (fun j hj hon => ?_) h') hop
        · have := unl_set hlt h0
          omega
        · rcases Nat.lt_or_ge j i with hji | hji
          · exact (h1 j hji).imp (fun hh => getD_set_true hh) id
          · have : j = i := by omega
            subst this
            exact .inl (by unfold On; simp [hd.sz, hin])
        · rcases on_set hon with hh | hh
          · omega
          · exact h2 j (by omega) hh
    · have hnil : Region.ready .any ops listed = [] := by
        refine List.eq_nil_iff_forall_not_mem.2 fun j hj => ?_
        obtain ⟨h0, o, ho, _⟩ := mem_ready.1 hj
        have hin := (Array.getElem?_eq_some_iff.1 ho).1
        exact (not_on hd.sz hin).2 h0 ((h1 j (by omega)).resolve_right (by omega))
      rw [List.drop_eq_nil_of_le (by simpa using hge)] at h
      exact wpAnyIn_done hnil h (fuel + 1)
end
section
variable {F : Fence} {n : Nat} {ops : Array Oper} {pre : Nat → List Nat} {all : List (Nat × Tmp)} {uses : Nat → List (Nat × Tmp)} {listed : Array Bool} {P : Program} {Q : Exit → Act → World → Prop} {Vs : List FV} {w0 : World} {a : Act}
theorem FlowFacts.run_frontIn (Fa : FlowFacts ops pre all uses a.tmps.size) (hF : F.Free) (hnd : noDefer ops = true)
    (obs : ∀ i p, all[i]? = some p → ∃ o, ops[i]? = some o ∧ ∀ W, Aft w0 W → flowOb P ops Vs p.1 p.2 o (uses i) a W)
    (fin : ∀ W, Aft w0 W → flowEndIn F n P ops Vs Q (ops.toList.drop all.length) all a W) :
    ∀ (fuel : Nat) (listed : Array Bool) (a' : Act) (W : World) (vals : Nat → Value), Downs ops listed → unl ops.size listed ≤ fuel → FlowInv ops all Vs w0 a listed a' W vals → wpAnyIn F n P .any ops Q fuel listed a' W := by
  intro fuel
  induction fuel with
  | zero =>
    intro listed a' W vals hd hf I
    refine (?_ : wpAnyIn F n P .any ops Q 0 listed a' W)
    have hall : ∀ j, j < ops.size → On listed j := fun j hj => Classical.not_not.1 fun hn => by
      have := unl_pos hj ((not_on hd.sz hj).1 hn)
      omega
    have hlen : all.length = ops.size := by
      rcases Nat.lt_or_ge all.length ops.size with h | h
      · exact absurd (hall _ h) (I.notail _ (Nat.le_refl _))
      · have := Fa.len; omega
    refine Fa.run_tailIn 0 all.length listed a' W hd hf (Nat.le_refl _) (fun j hj => .inl (hall j (by omega))) (fun j hj => I.notail j hj) ?_
    have ha : a' = a.puts vals all := by
      have hsh := Act.puts_shape vals all a
      have : a'.tmps = (a.puts vals all).tmps := by
        apply Array.ext_getElem?
        intro d
        by_cases hex : ∃ p ∈ all, p.2 = d
        · obtain ⟨p, hp, rfl⟩ := hex
          rw [I.val p hp (hall _ (by have := (Fa.in_all hp).2.2.2; omega)), Act.puts_val vals (k := p.1) all a (Fa.in_all hp).2.1 ⟨p, hp, rfl⟩ (fun q hq he => by rw [Fa.same hq hp he])]
        · rw [I.oth d (fun q hq _ he => hex ⟨q, hq, he⟩), Act.puts_oth vals all a (fun q hq he => hex ⟨q, hq, he⟩)]
      cases a'
      have h2 := I.df
      rw [← hsh.1] at h2
      cases hb : a.puts vals all
      simp_all
    rw [ha]
    exact flowEndIn_puts vals all a (fin W I.aft) (fun p hp => I.v p hp (hall _ (by have := (Fa.in_all hp).2.2.2; omega)))
  | succ fuel ih =>
    intro listed a' W vals hd hf I
    by_cases hall : ∀ j, j < all.length → On listed j
    · refine Fa.run_tailIn (fuel + 1) all.length listed a' W hd hf (Nat.le_refl _) (fun j hj => .inl (hall j hj)) (fun j hj => I.notail j hj) ?_
      have ha : a' = a.puts vals all := by
        have hsh := Act.puts_shape vals all a
        have : a'.tmps = (a.puts vals all).tmps := by
          apply Array.ext_getElem?
          intro d
          by_cases hex : ∃ p ∈ all, p.2 = d
          · obtain ⟨p, hp, rfl⟩ := hex
            rw [I.val p hp (hall _ (Fa.in_all hp).2.2.2), Act.puts_val vals (k := p.1) all a (Fa.in_all hp).2.1 ⟨p, hp, rfl⟩ (fun q hq he => by rw [Fa.same hq hp he])]
          · rw [I.oth d (fun q hq _ he => hex ⟨q, hq, he⟩), Act.puts_oth vals all a (fun q hq he => hex ⟨q, hq, he⟩)]
        cases a'
        have h2 := I.df
        rw [← hsh.1] at h2
        cases hb : a.puts vals all
        simp_all
      rw [ha]
      exact flowEndIn_puts vals all a (fin W I.aft) (fun p hp => I.v p hp (hall _ (Fa.in_all hp).2.2.2))
    · obtain ⟨j0, hj0⟩ := Classical.not_forall.1 hall
      obtain ⟨hj0, hno⟩ := Classical.not_imp.1 hj0
      have hlen := Fa.len
      refine ⟨fun hr => ?_, fun i hi => ?_⟩
      · obtain ⟨k', _, hk'⟩ := Fa.least hd j0 (by omega) hno
        rw [hr] at hk'
        cases hk'
      · obtain ⟨h0, o, ho, _⟩ := mem_ready.1 hi
        have hin := (Array.getElem?_eq_some_iff.1 ho).1
        have hil : i < all.length := Nat.lt_of_not_le fun hge => hno (Fa.ready_pre hd hi (Fa.tail i hge hin j0 (by omega)))
        have hpi : all[i]? = some all[i] := by simp [hil]
        generalize hp0 : all[i] = p at hpi
        obtain ⟨j, d⟩ := p
        obtain ⟨rfl, hdm, hdst, _⟩ := Fa.tgt i j d hpi
        have hmem : ((j, d) : Nat × Tmp) ∈ all := List.mem_iff_getElem?.2 ⟨_, hpi⟩
        obtain ⟨o', ho', hob⟩ := obs j _ hpi
        rw [ho] at ho'
        cases ho'
        have hdo : o.dst = some d := by simpa [Region.dstOf, ho] using hdst
        obtain ⟨U1, U2⟩ := Fa.use j o hil ho
        have hu : ∀ p ∈ uses j, p ∈ all := fun p hp => List.mem_iff_getElem?.2 ⟨_, (U1 p hp).2⟩
        have hrun := flowOb_puts vals (uses j) a (hob W I.aft) (fun p hp => I.v p (hu p hp) (Fa.ready_pre hd hi (U1 p hp).1))
        have hsee := fun t ht => I.sees Fa hd hi ho hil (t := t) ht
        refine op_liftIn hF (noDefer_spec hnd ho) (G := fun v W' => flowV Vs j v W' ∧ Aft W W') ho hdo (by rw [(Act.puts_shape vals (uses j) a).2]; exact hdm) ?_ ?_ hrun ?_
        · refine execOp_congr o (fun cs b => Region.noSelect_spec Fa.sel j o cs b ho) fun x hx => ?_
          cases x with
          | tmp t =>
            have := hsee t (List.mem_append_left _ (List.mem_filterMap.2 ⟨.tmp t, by simpa using hx, rfl⟩))
            simp only [Act.eval, Array.getD_eq_getD_getElem?, this]
          | _ => rfl
        · unfold Region.wanted
          cases hg : o.guard with
          | none => rfl
          | some gw =>
            obtain ⟨g, want⟩ := gw
            have := yielded_congr (ops := ops) (a := a') (b := a.puts vals (uses j)) (g := g) (fun t ht => hsee t (by simp [Oper.looksAt, hg, ht]))
            simp only [this]
        · rintro v W' ⟨hv, hW⟩
          refine ih _ _ _ (fun k => if k = j then v else vals k) (hd.set hi) (by have := unl_set hin h0; omega) ⟨fun k hk hon => ?_, I.df, by simpa [Act.put] using I.ts, fun q hq hon => ?_, fun q hq hon => ?_, fun d' hd' => ?_, I.aft.trans hW⟩
          · rcases on_set hon with rfl | hon
            · omega
            · exact I.notail k hk hon
          · by_cases hqj : q.1 = j
            · have hqe : q = (j, d) := by
                have h1 := (Fa.in_all hq).1
                rw [hqj, hpi] at h1
                simpa using h1.symm
              subst hqe
              simp [Act.put, I.ts, hdm]
            · have hon' : On listed q.1 := (on_set hon).resolve_left hqj
              have hne : d ≠ q.2 := fun he => hqj (by rw [Fa.same hq hmem he.symm])
              simp only [Act.put, if_neg hqj]
              rw [Array.getElem?_setIfInBounds_ne hne]
              exact I.val q hq hon'
          · by_cases hqj : q.1 = j
            · simp only [hqj, if_true]; exact hv
            · have hon' : On listed q.1 := (on_set hon).resolve_left hqj
              simp only [if_neg hqj]
              exact flowV_st (I.v q hq hon') hW
          · have hne : d ≠ d' := hd' (j, d) hmem (by unfold On; simp [hd.sz, hin])
            simp only [Act.put]
            rw [Array.getElem?_setIfInBounds_ne hne]
            exact I.oth d' (fun q hq hon => hd' q hq (getD_set_true hon))
end
theorem wpIn_region_flow {F : Fence} {n : Nat} (hF : F.Free) {P : Program} {id : Nat} {Q : Exit → Act → World → Prop} {a : Act} {w : World} (w0 : World) (hw : Aft w0 w) {l : List Oper} (Vs : List FV) (all : List (Nat × Tmp)) (uses : List (List (Nat × Tmp)))
    (hm : P.follows .mixedOrders = true) (hnd : noDefer l.toArray = true) (hB : flowOk l.toArray (Region.preTable l.toArray) all uses a.tmps.size = true)
    (obs : flowObs P l.toArray Vs w0 a l all uses)
    (fin : ∀ W, Aft w0 W → flowEndIn F n P l.toArray Vs Q (l.drop all.length) all a W) : (Code.region id l.toArray true).wpIn F n P Q a w := by
  have Fa := flowOk_facts hB
  refine wpIn_region_any hm ?_
  refine Fa.run_frontIn hF hnd (Vs := Vs) (w0 := w0) (fun i p hp => ?_) (by simpa using fin) l.toArray.size _ _ _ (fun _ => undef) ⟨by simp, fun i o hon => ?_⟩ (unl_new _) ⟨fun i _ hon => ?_, rfl, rfl, fun p _ hon => ?_, fun p _ hon => ?_, fun _ _ => rfl, hw.drew⟩
  · obtain ⟨o, h1, h2⟩ := flowObs_get l all uses obs i p hp
    exact ⟨o, by simpa using h1, h2⟩
  all_goals
    exfalso
    unfold On at hon
    simp only [Array.getD_eq_getD_getElem?, Array.getElem?_replicate] at hon
    split at hon <;> simp at hon
end Go
