/- The flow theorem over whatever relation between worlds that lasts: so an operation of the front may also turn what the relation lets turn (an append to a row). -/
import Derived.Test.YtokdclbfjlnnjaaA1
namespace Go
/-- How worlds may follow each other. -/
structure Rel where
  r : World → World → Prop
  refl : ∀ A, r A A
  trans : ∀ {A B C}, r A B → r B C → r A C
  drew : ∀ {A B}, r A B → r A B.drew
end Go
namespace Go.ByRel
open Go.RowKit

structure FR (ρ : Rel) where
  p : Value → World → Prop
  st : ∀ v W W', p v W → ρ.r W W' → p v W'
section
variable {ρ : Rel}
def FR.is (u : Value) : FR ρ := ⟨fun v _ => v = u, fun _ _ _ h _ => h⟩
def FR.pure (q : Value → Prop) : FR ρ := ⟨fun v _ => q v, fun _ _ _ h _ => h⟩
def flowV (Vs : List (FR ρ)) (i : Nat) (v : Value) (W : World) : Prop := (Vs.getD i (FR.pure fun _ => True)).p v W
theorem flowV_st {Vs : List (FR ρ)} {i : Nat} {v : Value} {W W' : World} (h : flowV Vs i v W) (hw : ρ.r W W') : flowV Vs i v W' := (Vs.getD i (FR.pure fun _ => True)).st v W W' h hw
section
variable (P : Program) (ops : Array Oper) (Vs : List (FR ρ)) (w0 : World)

/-- One operation's duty. -/
def flowOb (i : Nat) (d : Tmp) (o : Oper) : List (Nat × Tmp) → Act → World → Prop
  | [], b, W => wpList P ops (fun e b' W' => e = .normal ∧ b'.defers = b.defers ∧ flowV Vs i (b'.tmps.getD d undef) W' ∧ ρ.r W W') [o] b W
  | p :: ps, b, W => ∀ v, flowV Vs p.1 v W → flowOb i d o ps (b.put (some p.2) v) W

def flowObs (a : Act) : List Oper → List (Nat × Tmp) → List (List (Nat × Tmp)) → Prop
  | o :: os, p :: ps, u :: us => (∀ W, ρ.r w0 W → flowOb P ops Vs p.1 p.2 o u a W) ∧ flowObs a os ps us
  | _, [], _ => True
  | _, _, _ => False

/-- What is to be shown behind the front. -/
def flowEnd (Q : Exit → Act → World → Prop) (tail : List Oper) : List (Nat × Tmp) → Act → World → Prop
  | [], b, W => wpList P ops Q tail b W
  | p :: ps, b, W => ∀ v, flowV Vs p.1 v W → flowEnd Q tail ps (b.put (some p.2) v) W
end

theorem flowOb_puts {P : Program} {ops : Array Oper} {Vs : List (FR ρ)} {i : Nat} {d : Tmp} {o : Oper} (vals : Nat → Value) {W : World} : ∀ (ps : List (Nat × Tmp)) (a : Act), flowOb P ops Vs i d o ps a W →
    (∀ p ∈ ps, flowV Vs p.1 (vals p.1) W) → wpList P ops (fun e b' W' => e = .normal ∧ b'.defers = (a.puts vals ps).defers ∧ flowV Vs i (b'.tmps.getD d undef) W' ∧ ρ.r W W') [o] (a.puts vals ps) W
  | [], a, h, _ => h
  | p :: ps, a, h, hv => flowOb_puts vals ps _ (h _ (hv p (by simp))) (fun q hq => hv q (List.mem_cons_of_mem _ hq))

theorem flowEnd_puts {P : Program} {ops : Array Oper} {Vs : List (FR ρ)} {Q : Exit → Act → World → Prop} {tail : List Oper} (vals : Nat → Value) {W : World} : ∀ (ps : List (Nat × Tmp)) (a : Act), flowEnd P ops Vs Q tail ps a W →
    (∀ p ∈ ps, flowV Vs p.1 (vals p.1) W) → wpList P ops Q tail (a.puts vals ps) W
  | [], a, h, _ => h
  | p :: ps, a, h, hv => flowEnd_puts vals ps _ (h _ (hv p (by simp))) (fun q hq => hv q (List.mem_cons_of_mem _ hq))

theorem flowObs_get {P : Program} {ops : Array Oper} {Vs : List (FR ρ)} {w0 : World} {a : Act} : ∀ (os : List Oper) (ps : List (Nat × Tmp)) (us : List (List (Nat × Tmp))), flowObs P ops Vs w0 a os ps us →
    ∀ i p, ps[i]? = some p → ∃ o, os[i]? = some o ∧ ∀ W, ρ.r w0 W → flowOb P ops Vs p.1 p.2 o (us.getD i []) a W
  | _, [], _, _, i, p, hp => by simp at hp
  | o :: os, q :: ps, u :: us, h, 0, p, hp => by
    simp at hp; subst hp
    exact ⟨o, by simp, fun W hW => by simpa using h.1 W hW⟩
  | o :: os, q :: ps, u :: us, h, i + 1, p, hp => by
    obtain ⟨o', h1, h2⟩ := flowObs_get os ps us h.2 i p (by simpa using hp)
    exact ⟨o', by simpa using h1, fun W hW => by simpa using h2 W hW⟩
  | [], q :: ps, us, h, i, p, hp => by cases us <;> exact h.elim
  | o :: os, q :: ps, [], h, i, p, hp => h.elim

/-- THE FRONT, half done. -/
structure FlowInv (ops : Array Oper) (all : List (Nat × Tmp)) (Vs : List (FR ρ)) (w0 : World) (a : Act) (listed : Array Bool) (a' : Act) (W : World) (vals : Nat → Value) : Prop where
  notail : ∀ i, all.length ≤ i → ¬ On listed i
  df : a'.defers = a.defers
  ts : a'.tmps.size = a.tmps.size
  val : ∀ p ∈ all, On listed p.1 → a'.tmps[p.2]? = some (vals p.1)
  v : ∀ p ∈ all, On listed p.1 → flowV Vs p.1 (vals p.1) W
  oth : ∀ d, (∀ p ∈ all, On listed p.1 → p.2 ≠ d) → a'.tmps[d]? = a.tmps[d]?
  aft : ρ.r w0 W

section
variable {ops : Array Oper} {pre : Nat → List Nat} {all : List (Nat × Tmp)} {uses : Nat → List (Nat × Tmp)} {listed : Array Bool} {P : Program} {Q : Exit → Act → World → Prop} {Vs : List (FR ρ)} {w0 : World} {a : Act}

/-- What the operation sees is what it sees in the act of its operands alone. -/
theorem FlowInv.sees (F : FlowFacts ops pre all uses a.tmps.size) (hd : Downs ops listed) {a' : Act} {W : World} {vals : Nat → Value} (I : FlowInv ops all Vs w0 a listed a' W vals)
    {i : Nat} (hr : i ∈ Region.ready .any ops listed) {o : Oper} (ho : ops[i]? = some o) (hil : i < all.length) {t : Tmp} (ht : t ∈ o.looksAt ops) : a'.tmps[t]? = (a.puts vals (uses i)).tmps[t]? := by
  obtain ⟨U1, U2⟩ := F.use i o hil ho
  have hu : ∀ p ∈ uses i, p ∈ all := fun p hp => List.mem_iff_getElem?.2 ⟨_, (U1 p hp).2⟩
  by_cases hex : ∃ p ∈ all, p.2 = t
  · obtain ⟨p, hp, rfl⟩ := hex
    rcases U2 p.2 ht p hp rfl with ⟨h1, h2⟩ | h1
    · rw [I.val p hp (F.ready_pre hd hr h1), Act.puts_val vals (k := p.1) (uses i) a (F.in_all hp).2.1 ⟨p, h2, rfl⟩ (fun q hq he => by rw [F.same (hu q hq) hp he])]
    · have hno : ¬ On listed p.1 := fun hon => by
        have h0 := (mem_ready.1 hr).1
        exact (not_on hd.sz (Array.getElem?_eq_some_iff.1 ho).1).2 h0 (F.on_pre hd p.1 i hon h1)
      rw [I.oth p.2 (fun q hq hon he => by rw [F.same hq hp he] at hon; exact hno hon)]
      rw [Act.puts_oth vals (uses i) a (fun q hq he => by
        have := F.same (hu q hq) hp he
        subst this
        exact hno (F.ready_pre hd hr (U1 q hq).1))]
  · rw [I.oth t (fun q hq _ he => hex ⟨q, hq, he⟩), Act.puts_oth vals (uses i) a (fun q hq he => hex ⟨q, hu q hq, he⟩)]

theorem front (F : FlowFacts ops pre all uses a.tmps.size)
    (obs : ∀ i p, all[i]? = some p → ∃ o, ops[i]? = some o ∧ ∀ W, ρ.r w0 W → flowOb P ops Vs p.1 p.2 o (uses i) a W)
    (fin : ∀ W, ρ.r w0 W → flowEnd P ops Vs Q (ops.toList.drop all.length) all a W) :
    ∀ (fuel : Nat) (listed : Array Bool) (a' : Act) (W : World) (vals : Nat → Value), Downs ops listed → unl ops.size listed ≤ fuel → FlowInv ops all Vs w0 a listed a' W vals → wpAny P .any ops Q fuel listed a' W := by
  intro fuel
  induction fuel with
  | zero =>
    intro listed a' W vals hd hf I
    refine (?_ : wpAny P .any ops Q 0 listed a' W)
    have hall : ∀ j, j < ops.size → On listed j := fun j hj => Classical.not_not.1 fun hn => by
      have := unl_pos hj ((not_on hd.sz hj).1 hn)
      omega
    have hlen : all.length = ops.size := by
      rcases Nat.lt_or_ge all.length ops.size with h | h
      · exact absurd (hall _ h) (I.notail _ (Nat.le_refl _))
      · have := F.len; omega
    refine F.run_tail 0 all.length listed a' W hd hf (Nat.le_refl _) (fun j hj => .inl (hall j (by omega))) (fun j hj => I.notail j hj) ?_
    have ha : a' = a.puts vals all := by
      have hsh := Act.puts_shape vals all a
      have : a'.tmps = (a.puts vals all).tmps := by
        apply Array.ext_getElem?
        intro d
        by_cases hex : ∃ p ∈ all, p.2 = d
        · obtain ⟨p, hp, rfl⟩ := hex
          rw [I.val p hp (hall _ (by have := (F.in_all hp).2.2.2; omega)), Act.puts_val vals (k := p.1) all a (F.in_all hp).2.1 ⟨p, hp, rfl⟩ (fun q hq he => by rw [F.same hq hp he])]
        · rw [I.oth d (fun q hq _ he => hex ⟨q, hq, he⟩), Act.puts_oth vals all a (fun q hq he => hex ⟨q, hq, he⟩)]
      cases a'
      have h2 := I.df
      rw [← hsh.1] at h2
      cases hb : a.puts vals all
      simp_all
    rw [ha]
    exact flowEnd_puts vals all a (fin W I.aft) (fun p hp => I.v p hp (hall _ (by have := (F.in_all hp).2.2.2; omega)))
  | succ fuel ih =>
    intro listed a' W vals hd hf I
    by_cases hall : ∀ j, j < all.length → On listed j
    · refine F.run_tail (fuel + 1) all.length listed a' W hd hf (Nat.le_refl _) (fun j hj => .inl (hall j hj)) (fun j hj => I.notail j hj) ?_
      have ha : a' = a.puts vals all := by
        have hsh := Act.puts_shape vals all a
        have : a'.tmps = (a.puts vals all).tmps := by
          apply Array.ext_getElem?
          intro d
          by_cases hex : ∃ p ∈ all, p.2 = d
          · obtain ⟨p, hp, rfl⟩ := hex
            rw [I.val p hp (hall _ (F.in_all hp).2.2.2), Act.puts_val vals (k := p.1) all a (F.in_all hp).2.1 ⟨p, hp, rfl⟩ (fun q hq he => by rw [F.same hq hp he])]
          · rw [I.oth d (fun q hq _ he => hex ⟨q, hq, he⟩), Act.puts_oth vals all a (fun q hq he => hex ⟨q, hq, he⟩)]
        cases a'
        have h2 := I.df
        rw [← hsh.1] at h2
        cases hb : a.puts vals all
        simp_all
      rw [ha]
      exact flowEnd_puts vals all a (fin W I.aft) (fun p hp => I.v p hp (hall _ (F.in_all hp).2.2.2))
    · obtain ⟨j0, hj0⟩ := Classical.not_forall.1 hall
      obtain ⟨hj0, hno⟩ := Classical.not_imp.1 hj0
      have hlen := F.len
      refine ⟨fun hr => ?_, fun i hi => ?_⟩
      · obtain ⟨k', _, hk'⟩ := F.least hd j0 (by omega) hno
        rw [hr] at hk'
        cases hk'
      · obtain ⟨h0, o, ho, _⟩ := mem_ready.1 hi
        have hin := (Array.getElem?_eq_some_iff.1 ho).1
        have hil : i < all.length := Nat.lt_of_not_le fun hge => hno (F.ready_pre hd hi (F.tail i hge hin j0 (by omega)))
        have hpi : all[i]? = some all[i] := by simp [hil]
        generalize hp0 : all[i] = p at hpi
        obtain ⟨j, d⟩ := p
        obtain ⟨rfl, hdm, hdst, _⟩ := F.tgt i j d hpi
        have hmem : ((j, d) : Nat × Tmp) ∈ all := List.mem_iff_getElem?.2 ⟨_, hpi⟩
        obtain ⟨o', ho', hob⟩ := obs j _ hpi
        rw [ho] at ho'
        cases ho'
        have hdo : o.dst = some d := by simpa [Region.dstOf, ho] using hdst
        obtain ⟨U1, U2⟩ := F.use j o hil ho
        have hu : ∀ p ∈ uses j, p ∈ all := fun p hp => List.mem_iff_getElem?.2 ⟨_, (U1 p hp).2⟩
        have hrun := flowOb_puts vals (uses j) a (hob W I.aft) (fun p hp => I.v p (hu p hp) (F.ready_pre hd hi (U1 p hp).1))
        have hsee := fun t ht => I.sees F hd hi ho hil (t := t) ht
        refine op_lift (G := fun v W' => flowV Vs j v W' ∧ ρ.r W W') ho hdo (by rw [(Act.puts_shape vals (uses j) a).2]; exact hdm) ?_ ?_ hrun ?_
        · refine execOp_congr o (fun cs b => Region.noSelect_spec F.sel j o cs b ho) fun x hx => ?_
          cases x with
          | tmp t =>
            have := hsee t (List.mem_append_left _ (List.mem_filterMap.2 ⟨.tmp t, by simpa using hx, rfl⟩))
            simp only [Act.eval, Array.getD_eq_getD_getElem?, this]
          | _ => rfl
        · unfold Region.wanted
          cases hg : o.guard with
          | none => rfl
          | some gw =>
            obtain ⟨g, want⟩ := gw
            have := yielded_congr (ops := ops) (a := a') (b := a.puts vals (uses j)) (g := g) (fun t ht => hsee t (by simp [Oper.looksAt, hg, ht]))
            simp only [this]
        · rintro v W' ⟨hv, hW⟩
          refine ih _ _ _ (fun k => if k = j then v else vals k) (hd.set hi) (by have := unl_set hin h0; omega) ⟨fun k hk hon => ?_, I.df, by simpa [Act.put] using I.ts, fun q hq hon => ?_, fun q hq hon => ?_, fun d' hd' => ?_, ρ.trans I.aft hW⟩
          · rcases on_set hon with rfl | hon
            · omega
            · exact I.notail k hk hon
          · by_cases hqj : q.1 = j
            · have hqe : q = (j, d) := by
                have h1 := (F.in_all hq).1
                rw [hqj, hpi] at h1
                simpa using h1.symm
              subst hqe
              simp [Act.put, I.ts, hdm]
            · have hon' : On listed q.1 := (on_set hon).resolve_left hqj
              have hne : d ≠ q.2 := fun he => hqj (by rw [F.same hq hmem he.symm])
              simp only [Act.put, if_neg hqj]
              rw [Array.getElem?_setIfInBounds_ne hne]
              exact I.val q hq hon'
          · by_cases hqj : q.1 = j
            · simp only [hqj, if_true]; exact hv
            · have hon' : On listed q.1 := (on_set hon).resolve_left hqj
              simp only [if_neg hqj]
              exact flowV_st (I.v q hq hon') hW
          · have hne : d ≠ d' := hd' (j, d) hmem (by unfold On; simp [hd.sz, hin])
            simp only [Act.put]
            rw [Array.getElem?_setIfInBounds_ne hne]
            exact I.oth d' (fun q hq hon => hd' q hq (getD_set_true hon))
end

/-- A region that draws its order, by the flow of its values. 'all': the front, each operation's number and target; 'uses': for each of the front the operations whose targets it looks at. -/
theorem wp_region_flow {P : Program} {id : Nat} {Q : Exit → Act → World → Prop} {a : Act} {w : World} (w0 : World) (hw : ρ.r w0 w) {l : List Oper} (Vs : List (FR ρ)) (all : List (Nat × Tmp)) (uses : List (List (Nat × Tmp)))
    (hm : P.follows .mixedOrders = true) (hB : flowOk l.toArray (Region.preTable l.toArray) all uses a.tmps.size = true)
    (obs : flowObs P l.toArray Vs w0 a l all uses)
    (fin : ∀ W, ρ.r w0 W → flowEnd P l.toArray Vs Q (l.drop all.length) all a W) : (Code.region id l.toArray true).wp P Q a w := by
  have F := flowOk_facts hB
  refine wp_region_any hm ?_
  refine front F (Vs := Vs) (w0 := w0) (fun i p hp => ?_) (by simpa using fin) l.toArray.size _ _ _ (fun _ => undef) ⟨by simp, fun i o hon => ?_⟩ (unl_new _) ⟨fun i _ hon => ?_, rfl, rfl, fun p _ hon => ?_, fun p _ hon => ?_, fun _ _ => rfl, ρ.drew hw⟩
  · obtain ⟨o, h1, h2⟩ := flowObs_get l all uses obs i p hp
    exact ⟨o, by simpa using h1, h2⟩
  all_goals
    exfalso
    unfold On at hon
    simp only [Array.getD_eq_getD_getElem?, Array.getElem?_replicate] at hon
    split at hon <;> simp at hon
theorem flowOb_nil {P : Program} {ops : Array Oper} {Vs : List (FR ρ)} {i : Nat} {d : Tmp} {o : Oper} {b : Act} {W : World}
    (h : wpList P ops (fun e b' W' => e = .normal ∧ b'.defers = b.defers ∧ flowV Vs i (b'.tmps.getD d undef) W' ∧ ρ.r W W') [o] b W) : flowOb P ops Vs i d o [] b W := h
theorem flowOb_cons {P : Program} {ops : Array Oper} {Vs : List (FR ρ)} {i : Nat} {d : Tmp} {o : Oper} {p : Nat × Tmp} {ps : List (Nat × Tmp)} {b : Act} {W : World}
    (h : ∀ v, flowV Vs p.1 v W → flowOb P ops Vs i d o ps (b.put (some p.2) v) W) : flowOb P ops Vs i d o (p :: ps) b W := h
theorem flowObs_cons {P : Program} {ops : Array Oper} {Vs : List (FR ρ)} {w0 : World} {a : Act} {o : Oper} {os : List Oper} {p : Nat × Tmp} {ps : List (Nat × Tmp)} {u : List (Nat × Tmp)} {us : List (List (Nat × Tmp))}
    (h : ∀ W, ρ.r w0 W → flowOb P ops Vs p.1 p.2 o u a W) (t : flowObs P ops Vs w0 a os ps us) : flowObs P ops Vs w0 a (o :: os) (p :: ps) (u :: us) := ⟨h, t⟩
theorem flowObs_nil {P : Program} {ops : Array Oper} {Vs : List (FR ρ)} {w0 : World} {a : Act} {os : List Oper} {us : List (List (Nat × Tmp))} : flowObs P ops Vs w0 a os [] us := by
  cases os <;> cases us <;> exact trivial

theorem flowEnd_nil {P : Program} {ops : Array Oper} {Vs : List (FR ρ)} {Q : Exit → Act → World → Prop} {tail : List Oper} {b : Act} {W : World} (h : wpList P ops Q tail b W) : flowEnd P ops Vs Q tail [] b W := h
theorem flowEnd_cons {P : Program} {ops : Array Oper} {Vs : List (FR ρ)} {Q : Exit → Act → World → Prop} {tail : List Oper} {p : Nat × Tmp} {ps : List (Nat × Tmp)} {b : Act} {W : World}
    (h : ∀ v, flowV Vs p.1 v W → flowEnd P ops Vs Q tail ps (b.put (some p.2) v) W) : flowEnd P ops Vs Q tail (p :: ps) b W := h
end
end Go.ByRel
