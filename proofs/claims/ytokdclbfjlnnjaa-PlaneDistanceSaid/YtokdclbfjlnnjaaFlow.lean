/- A region that draws its order, walked as a flow of values: each operation gets a predicate on its value that lasts in later worlds, and is walked once, from its operands' predicates, in any later world. -/
import Derived.Test.YtokdclbfjlnnjaaBase
namespace Go
open Go.RowKit

/-- A predicate on a value that lasts. -/
structure FV where
  p : Value → World → Prop
  st : ∀ v W W', p v W → Aft W W' → p v W'
def FV.is (u : Value) : FV := ⟨fun v _ => v = u, fun _ _ _ h _ => h⟩
def FV.pure (q : Value → Prop) : FV := ⟨fun v _ => q v, fun _ _ _ h _ => h⟩
def flowV (Vs : List FV) (i : Nat) (v : Value) (W : World) : Prop := (Vs.getD i (FV.pure fun _ => True)).p v W
theorem flowV_st {Vs : List FV} {i : Nat} {v : Value} {W W' : World} (h : flowV Vs i v W) (hw : Aft W W') : flowV Vs i v W' := (Vs.getD i (FV.pure fun _ => True)).st v W W' h hw

def Region.dstOf (ops : Array Oper) (j : Nat) : Option Tmp := (ops[j]?).bind (·.dst)

/-- All that must be listed before each operation. -/
def Region.preTable (ops : Array Oper) : Array (List Nat) :=
  ops.foldl (fun t o => t.push (o.after.foldl (fun acc e => if Region.binds .any e then (e.on :: t.getD e.on []).foldl (fun l x => if l.contains x then l else x :: l) acc else acc) [])) #[]

def flowOk (ops : Array Oper) (pre : Array (List Nat)) (all : List (Nat × Tmp)) (uses : List (List (Nat × Tmp))) (m : Nat) : Bool :=
  Region.noSelect ops && decide (all.length ≤ ops.size) &&
  -- the edges go back, and the table is right
  (List.range ops.size).all (fun i => match ops[i]? with
    | none => false
    | some o => o.after.all (fun e => !Region.binds .any e || decide (e.on < i)) &&
      (pre.getD i []).all (fun j => decide (j < i) && o.after.any (fun e => Region.binds .any e && (e.on == j || (pre.getD e.on []).contains j)))) &&
  -- the front's targets
  (List.range all.length).all (fun k => match all[k]? with
    | none => false
    | some (j, d) => j == k && decide (d < m) && (Region.dstOf ops k == some d) && (List.range all.length).all (fun k' => k' == k || match all[k']? with | none => false | some (_, d') => d' != d)) &&
  -- what each of the front looks at
  (List.range all.length).all (fun i => match ops[i]? with
    | none => false
    | some o => (uses.getD i []).all (fun p => (pre.getD i []).contains p.1 && (all[p.1]? == some p)) &&
      (o.looksAt ops).all (fun t => all.all (fun p => p.2 != t || ((pre.getD i []).contains p.1 && (uses.getD i []).contains p) || (pre.getD p.1 []).contains i))) &&
  -- the tail
  (List.range ops.size).all (fun i => decide (i < all.length) || (List.range i).all (fun j => (pre.getD i []).contains j))

section
variable (P : Program) (ops : Array Oper) (Vs : List FV) (w0 : World)

/-- One operation's duty. -/
def flowOb (i : Nat) (d : Tmp) (o : Oper) : List (Nat × Tmp) → Act → World → Prop
  | [], b, W => wpList P ops (fun e b' W' => e = .normal ∧ b'.defers = b.defers ∧ flowV Vs i (b'.tmps.getD d undef) W' ∧ Aft W W') [o] b W
  | p :: ps, b, W => ∀ v, flowV Vs p.1 v W → flowOb i d o ps (b.put (some p.2) v) W

def flowObs (a : Act) : List Oper → List (Nat × Tmp) → List (List (Nat × Tmp)) → Prop
  | o :: os, p :: ps, u :: us => (∀ W, Aft w0 W → flowOb P ops Vs p.1 p.2 o u a W) ∧ flowObs a os ps us
  | _, [], _ => True
  | _, _, _ => False

/-- What is to be shown behind the front. -/
def flowEnd (Q : Exit → Act → World → Prop) (tail : List Oper) : List (Nat × Tmp) → Act → World → Prop
  | [], b, W => wpList P ops Q tail b W
  | p :: ps, b, W => ∀ v, flowV Vs p.1 v W → flowEnd Q tail ps (b.put (some p.2) v) W
end

def Act.puts (vals : Nat → Value) : List (Nat × Tmp) → Act → Act
  | [], a => a
  | p :: ps, a => Act.puts vals ps (a.put (some p.2) (vals p.1))

theorem Act.puts_shape (vals : Nat → Value) : ∀ (ps : List (Nat × Tmp)) (a : Act), (a.puts vals ps).defers = a.defers ∧ (a.puts vals ps).tmps.size = a.tmps.size
  | [], a => ⟨rfl, rfl⟩
  | p :: ps, a => by
    have := Act.puts_shape vals ps (a.put (some p.2) (vals p.1))
    simpa [Act.puts, Act.put] using this

theorem Act.puts_oth (vals : Nat → Value) {d : Tmp} : ∀ (ps : List (Nat × Tmp)) (a : Act), (∀ p ∈ ps, p.2 ≠ d) → (a.puts vals ps).tmps[d]? = a.tmps[d]?
  | [], a, _ => rfl
  | p :: ps, a, h => by
    rw [Act.puts, Act.puts_oth vals ps _ (fun q hq => h q (List.mem_cons_of_mem _ hq))]
    have : p.2 ≠ d := h p (by simp)
    simp [Act.put, Array.getElem?_setIfInBounds_ne this]

theorem Act.puts_val (vals : Nat → Value) {d : Tmp} {k : Nat} : ∀ (ps : List (Nat × Tmp)) (a : Act), d < a.tmps.size → (∃ p ∈ ps, p.2 = d) → (∀ p ∈ ps, p.2 = d → p.1 = k) → (a.puts vals ps).tmps[d]? = some (vals k)
  | [], a, _, h, _ => by obtain ⟨p, hp, _⟩ := h; cases hp
  | p :: ps, a, hd, h, hu => by
    rw [Act.puts]
    by_cases h' : ∃ q ∈ ps, q.2 = d
    · exact Act.puts_val vals ps _ (by simpa [Act.put] using hd) h' (fun q hq => hu q (List.mem_cons_of_mem _ hq))
    · rw [Act.puts_oth vals ps _ (fun q hq he => h' ⟨q, hq, he⟩)]
      obtain ⟨q, hq, hqd⟩ := h
      have : q = p := by
        rcases List.mem_cons.1 hq with h1 | h1
        · exact h1
        · exact absurd ⟨q, h1, hqd⟩ h'
      subst this
      have hk := hu q (by simp) hqd
      subst hk
      subst hqd
      simp [Act.put, hd]

theorem flowOb_puts {P : Program} {ops : Array Oper} {Vs : List FV} {i : Nat} {d : Tmp} {o : Oper} (vals : Nat → Value) {W : World} : ∀ (ps : List (Nat × Tmp)) (a : Act), flowOb P ops Vs i d o ps a W →
    (∀ p ∈ ps, flowV Vs p.1 (vals p.1) W) → wpList P ops (fun e b' W' => e = .normal ∧ b'.defers = (a.puts vals ps).defers ∧ flowV Vs i (b'.tmps.getD d undef) W' ∧ Aft W W') [o] (a.puts vals ps) W
  | [], a, h, _ => h
  | p :: ps, a, h, hv => flowOb_puts vals ps _ (h _ (hv p (by simp))) (fun q hq => hv q (List.mem_cons_of_mem _ hq))

theorem flowEnd_puts {P : Program} {ops : Array Oper} {Vs : List FV} {Q : Exit → Act → World → Prop} {tail : List Oper} (vals : Nat → Value) {W : World} : ∀ (ps : List (Nat × Tmp)) (a : Act), flowEnd P ops Vs Q tail ps a W →
    (∀ p ∈ ps, flowV Vs p.1 (vals p.1) W) → wpList P ops Q tail (a.puts vals ps) W
  | [], a, h, _ => h
  | p :: ps, a, h, hv => flowEnd_puts vals ps _ (h _ (hv p (by simp))) (fun q hq => hv q (List.mem_cons_of_mem _ hq))

theorem flowObs_get {P : Program} {ops : Array Oper} {Vs : List FV} {w0 : World} {a : Act} : ∀ (os : List Oper) (ps : List (Nat × Tmp)) (us : List (List (Nat × Tmp))), flowObs P ops Vs w0 a os ps us →
    ∀ i p, ps[i]? = some p → ∃ o, os[i]? = some o ∧ ∀ W, Aft w0 W → flowOb P ops Vs p.1 p.2 o (us.getD i []) a W
  | _, [], _, _, i, p, hp => by simp at hp
  | o :: os, q :: ps, u :: us, h, 0, p, hp => by
    simp at hp; subst hp
    exact ⟨o, by simp, fun W hW => by simpa using h.1 W hW⟩
  | o :: os, q :: ps, u :: us, h, i + 1, p, hp => by
    obtain ⟨o', h1, h2⟩ := flowObs_get os ps us h.2 i p (by simpa using hp)
    exact ⟨o', by simpa using h1, fun W hW => by simpa using h2 W hW⟩
  | [], q :: ps, us, h, i, p, hp => by cases us <;> exact h.elim
  | o :: os, q :: ps, [], h, i, p, hp => h.elim

theorem countP_lt' {α : Type} {p q : α → Bool} {i : α} : ∀ (l : List α), i ∈ l → p i = true → q i = false → (∀ j, q j = true → p j = true) → l.countP q < l.countP p
  | [], h, _, _, _ => by cases h
  | b :: l, h, hp, hq, hle => by
    have hmono : l.countP q ≤ l.countP p := List.countP_mono_left (fun j _ => hle j)
    rw [List.countP_cons, List.countP_cons]
    rcases List.mem_cons.1 h with rfl | h
    · simp [hp, hq]; omega
    · have := countP_lt' l h hp hq hle
      by_cases hb : q b = true
      · simp [hb, hle b hb]; omega
      · simp [hb]; split <;> omega

def unl (n : Nat) (listed : Array Bool) : Nat := (List.range n).countP fun i => !listed.getD i true
theorem unl_set {n i : Nat} {listed : Array Bool} (hi : i < n) (h : listed.getD i true = false) : unl n (listed.setIfInBounds i true) < unl n listed := by
  have hlt : i < listed.size := by
    rcases Nat.lt_or_ge i listed.size with h' | h'
    · exact h'
    · simp [Array.getElem?_eq_none h'] at h
  refine countP_lt' (i := i) _ (List.mem_range.2 hi) (by simpa using h) (by simp [hlt]) (fun j hj => ?_)
  by_cases hij : i = j
  · subst hij; simpa using h
  · rw [getD_set_ne true hij] at hj; exact hj
theorem unl_pos {n i : Nat} {listed : Array Bool} (hi : i < n) (h : listed.getD i true = false) : 0 < unl n listed :=
  List.countP_pos_iff.2 ⟨i, List.mem_range.2 hi, by simpa using h⟩
theorem unl_new (n : Nat) : unl n (Array.replicate n false) ≤ n := by
  have := List.countP_le_length (l := List.range n) (p := fun i => !(Array.replicate n false).getD i true)
  simpa [unl] using this

theorem op_lift {P : Program} {ops : Array Oper} {o : Oper} {d : Tmp} {i : Nat} {G : Value → World → Prop} {b a' : Act} {W : World} {Q : Exit → Act → World → Prop} {K : Act → World → Prop}
    (hi : ops[i]? = some o) (hd : o.dst = some d) (hb : d < b.tmps.size)
    (he : execOp a'.eval o = execOp b.eval o) (hw : Region.wanted o (yielded ops a'.tmps) = Region.wanted o (yielded ops b.tmps))
    (h : wpList P ops (fun e b' W' => e = .normal ∧ b'.defers = b.defers ∧ G (b'.tmps.getD d undef) W') [o] b W)
    (hK : ∀ v W', G v W' → K (a'.put (some d) v) W') : wpOp P ops Q i K a' W := by
  have hput : ∀ v, (b.put o.dst v).tmps.getD d undef = v := fun v => by simp [hd, Act.put, hb]
  unfold wpOp
  simp only [hi]
  simp only [wpList] at h
  rw [hw]
  by_cases hwt : Region.wanted o (yielded ops b.tmps) = true
  · rw [if_pos hwt] at h ⊢
    refine .inl ?_
    rcases h with h | ⟨_, ⟨_, _, h, _⟩⟩
    · unfold Oper.wp at *
      rw [he]
      generalize (execOp b.eval o).run P W = r at *
      cases r with
      | ok n w' =>
        cases n <;> simp only [Oper.upon] at h ⊢
        case value u => rw [hput] at h; rw [hd]; exact hK _ _ h.2.2
        case skip => rw [hput] at h; rw [hd]; exact hK _ _ h.2.2
        case defer x =>
          exfalso
          have h2 := h.2.1
          rw [hd] at h2
          simp only [Act.put] at h2
          exact absurd (congrArg List.length h2) (by simp)
        case enter f args =>
          refine Calls.mono h fun e w'' he' => ?_
          cases e with
          | returned u => simp only at he' ⊢; rw [hput] at he'; rw [hd]; exact hK _ _ he'.2.2
          | panicked c => exact absurd he'.1 (by simp)
          | outgrown => obtain ⟨_, _, h', _⟩ := he'; cases h'
        case row row args => exact Rows.mono h fun u w'' he' => by rw [hput] at he'; rw [hd]; exact hK _ _ he'.2.2
      | halt x w' =>
        cases x <;> simp only [Oper.upon] at h ⊢
        case panic u => exact absurd h.1 (by simp)
    · cases h
  · rw [if_neg hwt] at h ⊢
    have := h.2.2
    rw [hput] at this
    rw [hd]
    exact hK _ _ this

structure FlowFacts (ops : Array Oper) (pre : Nat → List Nat) (all : List (Nat × Tmp)) (uses : Nat → List (Nat × Tmp)) (m : Nat) : Prop where
  sel : Region.noSelect ops = true
  len : all.length ≤ ops.size
  back : ∀ i o, ops[i]? = some o → ∀ e ∈ o.after, Region.binds .any e = true → e.on < i
  prior : ∀ i o, ops[i]? = some o → ∀ j ∈ pre i, j < i ∧ ∃ e ∈ o.after, Region.binds .any e = true ∧ (e.on = j ∨ j ∈ pre e.on)
  tgt : ∀ k j d, all[k]? = some (j, d) → j = k ∧ d < m ∧ Region.dstOf ops k = some d ∧ ∀ k' j' d', all[k']? = some (j', d') → k' ≠ k → d' ≠ d
  use : ∀ i o, i < all.length → ops[i]? = some o → (∀ p ∈ uses i, p.1 ∈ pre i ∧ all[p.1]? = some p) ∧ ∀ t ∈ o.looksAt ops, ∀ p ∈ all, p.2 = t → (p.1 ∈ pre i ∧ p ∈ uses i) ∨ i ∈ pre p.1
  tail : ∀ i, all.length ≤ i → i < ops.size → ∀ j, j < i → j ∈ pre i

theorem flowOk_facts {ops : Array Oper} {pre : Array (List Nat)} {all : List (Nat × Tmp)} {uses : List (List (Nat × Tmp))} {m : Nat} (h : flowOk ops pre all uses m = true) :
    FlowFacts ops (fun i => pre.getD i []) all (fun i => uses.getD i []) m := by
  unfold flowOk at h
  simp only [Bool.and_eq_true] at h
  obtain ⟨⟨⟨⟨⟨h1, h2⟩, h3⟩, h4⟩, h5⟩, h6⟩ := h
  have lt : ∀ {i : Nat} {o : Oper}, ops[i]? = some o → i < ops.size := fun ho => (Array.getElem?_eq_some_iff.1 ho).1
  have e3 : ∀ i o, ops[i]? = some o → _ := fun i o ho => by
    have := List.all_eq_true.1 h3 i (List.mem_range.2 (lt ho))
    simp only [ho, Bool.and_eq_true] at this
    exact this
  refine ⟨h1, of_decide_eq_true h2, fun i o ho e he hb => ?_, fun i o ho j hj => ?_, fun k j d hk => ?_, fun i o hi ho => ⟨fun p hp => ?_, fun t ht p hp hpt => ?_⟩, fun i hi hn j hj => ?_⟩
  · have := (Array.all_eq_true_iff_forall_mem.1 (e3 i o ho).1) e he
    simpa [hb] using this
  · have := List.all_eq_true.1 (e3 i o ho).2 j hj
    simp only [Bool.and_eq_true, decide_eq_true_eq] at this
    refine ⟨this.1, ?_⟩
    obtain ⟨e, he, hb⟩ := Array.any_eq_true'.1 this.2
    simp only [Bool.and_eq_true, Bool.or_eq_true, beq_iff_eq, List.contains_iff_mem] at hb
    exact ⟨e, he, hb.1, hb.2⟩
  · have hkl : k < all.length := (List.getElem?_eq_some_iff.1 hk).1
    have := List.all_eq_true.1 h4 k (List.mem_range.2 hkl)
    simp only [hk, Bool.and_eq_true, beq_iff_eq, decide_eq_true_eq] at this
    obtain ⟨⟨⟨g1, g2⟩, g3⟩, g4⟩ := this
    refine ⟨g1, g2, g3, fun k' j' d' hk' hne => ?_⟩
    have hkl' : k' < all.length := (List.getElem?_eq_some_iff.1 hk').1
    have := List.all_eq_true.1 g4 k' (List.mem_range.2 hkl')
    simpa [hk', hne] using this
  · have := List.all_eq_true.1 h5 i (List.mem_range.2 hi)
    simp only [ho, Bool.and_eq_true] at this
    have := List.all_eq_true.1 this.1 p hp
    simpa using this
  · have := List.all_eq_true.1 h5 i (List.mem_range.2 hi)
    simp only [ho, Bool.and_eq_true] at this
    have := List.all_eq_true.1 (List.all_eq_true.1 this.2 t ht) p hp
    simpa [hpt] using this
  · have := List.all_eq_true.1 h6 i (List.mem_range.2 hn)
    simp only [Bool.or_eq_true, decide_eq_true_eq] at this
    rcases this with h | h
    · omega
    · have := List.all_eq_true.1 h j (List.mem_range.2 hj)
      simpa using this

/-- j is listed. -/
def On (listed : Array Bool) (j : Nat) : Prop := listed.getD j false = true
theorem not_on {n : Nat} {listed : Array Bool} (hs : listed.size = n) {j : Nat} (hj : j < n) : ¬ On listed j ↔ listed.getD j true = false := by
  unfold On
  simp [hs, hj]
theorem on_set {listed : Array Bool} {i j : Nat} (h : On (listed.setIfInBounds i true) j) : j = i ∨ On listed j := by
  by_cases hij : i = j
  · exact .inl hij.symm
  · exact .inr (by unfold On at *; rw [getD_set_ne false hij] at h; exact h)

structure Downs (ops : Array Oper) (listed : Array Bool) : Prop where
  sz : listed.size = ops.size
  down : ∀ i o, On listed i → ops[i]? = some o → ∀ e ∈ o.after, Region.binds .any e = true → On listed e.on

theorem On.lt {ops : Array Oper} {listed : Array Bool} (h : Downs ops listed) {j : Nat} (hj : On listed j) : j < ops.size := by
  unfold On at hj
  rcases Nat.lt_or_ge j listed.size with h' | h'
  · rw [← h.sz]; exact h'
  · simp [Array.getElem?_eq_none h'] at hj

theorem Downs.set {ops : Array Oper} {listed : Array Bool} (h : Downs ops listed) {i : Nat} (hr : i ∈ Region.ready .any ops listed) : Downs ops (listed.setIfInBounds i true) := by
  refine ⟨by simpa using h.sz, fun k o hk ho e he hb => ?_⟩
  obtain ⟨h0, o', ho', hall⟩ := mem_ready.1 hr
  rcases on_set hk with rfl | hk
  · rw [ho] at ho'
    cases ho'
    exact getD_set_true (hall e he hb)
  · exact getD_set_true (h.down k o hk ho e he hb)

section
variable {ops : Array Oper} {pre : Nat → List Nat} {all : List (Nat × Tmp)} {uses : Nat → List (Nat × Tmp)} {m : Nat} {listed : Array Bool}

theorem FlowFacts.on_pre (F : FlowFacts ops pre all uses m) (h : Downs ops listed) : ∀ (i j : Nat), On listed i → j ∈ pre i → On listed j := by
  intro i
  induction i using Nat.strongRecOn with
  | _ i ih =>
    intro j hi hj
    have hlt := On.lt h hi
    have ho : ops[i]? = some ops[i] := by simp [hlt]
    obtain ⟨_, e, he, hb, hc⟩ := F.prior i _ ho j hj
    have hon := h.down i _ hi ho e he hb
    rcases hc with hc | hc
    · exact hc ▸ hon
    · exact ih e.on (F.back i _ ho e he hb) j hon hc

theorem FlowFacts.ready_pre (F : FlowFacts ops pre all uses m) (h : Downs ops listed) {i j : Nat} (hr : i ∈ Region.ready .any ops listed) (hj : j ∈ pre i) : On listed j := by
  obtain ⟨h0, o, ho, hall⟩ := mem_ready.1 hr
  obtain ⟨_, e, he, hb, hc⟩ := F.prior i o ho j hj
  rcases hc with hc | hc
  · exact hc ▸ hall e he hb
  · exact F.on_pre h e.on j (hall e he hb) hc

/-- The least that is not listed is ready. -/
theorem FlowFacts.least (F : FlowFacts ops pre all uses m) (h : Downs ops listed) : ∀ i, i < ops.size → ¬ On listed i → ∃ k, k ≤ i ∧ k ∈ Region.ready .any ops listed := by
  intro i
  induction i using Nat.strongRecOn with
  | _ i ih =>
    intro hlt hi
    by_cases hex : ∃ j, j < i ∧ ¬ On listed j
    · obtain ⟨j, hj, hn⟩ := hex
      obtain ⟨k, hk, hr⟩ := ih j hj (by omega) hn
      exact ⟨k, by omega, hr⟩
    · have ho : ops[i]? = some ops[i] := by simp [hlt]
      refine ⟨i, Nat.le_refl _, mem_ready.2 ⟨(not_on h.sz hlt).1 hi, _, ho, fun e he hb => ?_⟩⟩
      have := F.back i _ ho e he hb
      exact Classical.not_not.1 fun hn => hex ⟨e.on, this, hn⟩

/-- The tail runs as it stands. -/
theorem FlowFacts.run_tail {P : Program} {Q : Exit → Act → World → Prop} (F : FlowFacts ops pre all uses m) : ∀ (fuel k : Nat) (listed : Array Bool) (a : Act) (W : World), Downs ops listed → unl ops.size listed ≤ fuel →
    all.length ≤ k → (∀ j, j < k → On listed j ∨ ops.size ≤ j) → (∀ j, k ≤ j → ¬ On listed j) → wpList P ops Q (ops.toList.drop k) a W → wpAny P .any ops Q fuel listed a W := by
  intro fuel
  induction fuel with
  | zero =>
    intro k listed a W hd hf hk h1 h2 h
    have hkn : ops.size ≤ k := by
      rcases Nat.lt_or_ge k ops.size with hlt | hge
      · have := unl_pos hlt ((not_on hd.sz hlt).1 (h2 k (Nat.le_refl _)))
        omega
      · exact hge
    refine ⟨?_, ?_⟩
    · refine List.eq_nil_iff_forall_not_mem.2 fun j hj => ?_
      obtain ⟨h0, o, ho, _⟩ := mem_ready.1 hj
      have hlt := (Array.getElem?_eq_some_iff.1 ho).1
      exact (not_on hd.sz hlt).2 h0 ((h1 j (by omega)).resolve_right (by omega))
    · rw [List.drop_eq_nil_of_le (by simpa using hkn)] at h
      exact h
  | succ fuel ih =>
    intro k listed a W hd hf hk h1 h2 h
    rcases Nat.lt_or_ge k ops.size with hlt | hge
    · have hno := h2 k (Nat.le_refl _)
      refine ⟨fun hr => ?_, fun i hi => ?_⟩
      · obtain ⟨k', _, hk'⟩ := F.least hd k hlt hno
        rw [hr] at hk'
        cases hk'
      · obtain ⟨h0, o, ho, _⟩ := mem_ready.1 hi
        have hin := (Array.getElem?_eq_some_iff.1 ho).1
        have hik : k ≤ i := Nat.le_of_not_lt fun hh => (not_on hd.sz hin).2 h0 ((h1 i hh).resolve_right (by omega))
        have hki : i = k := by
          rcases Nat.lt_or_ge k i with hh | hh
          · exact absurd (F.ready_pre hd hi (F.tail i (by omega) hin k hh)) hno
          · omega
        subst hki
        have hdrop : ops.toList.drop i = o :: ops.toList.drop (i + 1) := drop_cons (by simpa using ho)
        rw [hdrop] at h
        have hop : wpOp P ops Q i (wpList P ops Q (ops.toList.drop (i + 1))) a W := by
          unfold wpOp
          simp only [ho]
          exact h
        refine wpOp_mono (fun a' W' h' => ih (i + 1) _ a' W' (hd.set hi) ?_ (by omega) (fun j hj => ?_) (fun j hj hon => ?_) h') hop
        · have := unl_set hlt h0
          omega
        · rcases Nat.lt_or_ge j i with hji | hji
          · exact (h1 j hji).imp (fun hh => getD_set_true hh) id
          · have : j = i := by omega
            subst this
            exact .inl (by unfold On; simp [hd.sz, hin])
        · rcases on_set hon with hh | hh
          · omega
          · exact h2 j (by omega) hh
    · have hnil : Region.ready .any ops listed = [] := by
        refine List.eq_nil_iff_forall_not_mem.2 fun j hj => ?_
        obtain ⟨h0, o, ho, _⟩ := mem_ready.1 hj
        have hin := (Array.getElem?_eq_some_iff.1 ho).1
        exact (not_on hd.sz hin).2 h0 ((h1 j (by omega)).resolve_right (by omega))
      rw [List.drop_eq_nil_of_le (by simpa using hge)] at h
      exact wpAny_done hnil h (fuel + 1)
end
/-- THE FRONT, half done. -/
structure FlowInv (ops : Array Oper) (all : List (Nat × Tmp)) (Vs : List FV) (w0 : World) (a : Act) (listed : Array Bool) (a' : Act) (W : World) (vals : Nat → Value) : Prop where
  notail : ∀ i, all.length ≤ i → ¬ On listed i
  df : a'.defers = a.defers
  ts : a'.tmps.size = a.tmps.size
  val : ∀ p ∈ all, On listed p.1 → a'.tmps[p.2]? = some (vals p.1)
  v : ∀ p ∈ all, On listed p.1 → flowV Vs p.1 (vals p.1) W
  oth : ∀ d, (∀ p ∈ all, On listed p.1 → p.2 ≠ d) → a'.tmps[d]? = a.tmps[d]?
  aft : Aft w0 W

section
variable {ops : Array Oper} {pre : Nat → List Nat} {all : List (Nat × Tmp)} {uses : Nat → List (Nat × Tmp)} {listed : Array Bool} {P : Program} {Q : Exit → Act → World → Prop} {Vs : List FV} {w0 : World} {a : Act}

theorem FlowFacts.same (F : FlowFacts ops pre all uses a.tmps.size) {p q : Nat × Tmp} (hp : p ∈ all) (hq : q ∈ all) (h : p.2 = q.2) : p = q := by
  obtain ⟨k, hk⟩ := List.mem_iff_getElem?.1 hp
  obtain ⟨k', hk'⟩ := List.mem_iff_getElem?.1 hq
  obtain ⟨h1, h2, h3, h4⟩ := F.tgt k p.1 p.2 hk
  by_cases hkk : k' = k
  · subst hkk; rw [hk] at hk'; cases hk'; rfl
  · exact absurd h.symm (h4 k' q.1 q.2 hk' hkk)

theorem FlowFacts.in_all (F : FlowFacts ops pre all uses a.tmps.size) {p : Nat × Tmp} (hp : p ∈ all) : all[p.1]? = some p ∧ p.2 < a.tmps.size ∧ Region.dstOf ops p.1 = some p.2 ∧ p.1 < all.length := by
  obtain ⟨k, hk⟩ := List.mem_iff_getElem?.1 hp
  obtain ⟨h1, h2, h3, h4⟩ := F.tgt k p.1 p.2 hk
  exact ⟨h1 ▸ hk, h2, h1 ▸ h3, h1 ▸ (List.getElem?_eq_some_iff.1 hk).1⟩

/-- What the operation sees is what it sees in the act of its operands alone. -/
theorem FlowInv.sees (F : FlowFacts ops pre all uses a.tmps.size) (hd : Downs ops listed) {a' : Act} {W : World} {vals : Nat → Value} (I : FlowInv ops all Vs w0 a listed a' W vals)
    {i : Nat} (hr : i ∈ Region.ready .any ops listed) {o : Oper} (ho : ops[i]? = some o) (hil : i < all.length) {t : Tmp} (ht : t ∈ o.looksAt ops) : a'.tmps[t]? = (a.puts vals (uses i)).tmps[t]? := by
  obtain ⟨U1, U2⟩ := F.use i o hil ho
  have hu : ∀ p ∈ uses i, p ∈ all := fun p hp => List.mem_iff_getElem?.2 ⟨_, (U1 p hp).2⟩
  by_cases hex : ∃ p ∈ all, p.2 = t
  · obtain ⟨p, hp, rfl⟩ := hex
    rcases U2 p.2 ht p hp rfl with ⟨h1, h2⟩ | h1
    · rw [I.val p hp (F.ready_pre hd hr h1), Act.puts_val vals (k := p.1) (uses i) a (F.in_all hp).2.1 ⟨p, h2, rfl⟩ (fun q hq he => by rw [F.same (hu q hq) hp he])]
    · have hno : ¬ On listed p.1 := fun hon => by
        have h0 := (mem_ready.1 hr).1
        exact (not_on hd.sz (Array.getElem?_eq_some_iff.1 ho).1).2 h0 (F.on_pre hd p.1 i hon h1)
      rw [I.oth p.2 (fun q hq hon he => by rw [F.same hq hp he] at hon; exact hno hon)]
      rw [Act.puts_oth vals (uses i) a (fun q hq he => by
        have := F.same (hu q hq) hp he
        subst this
        exact hno (F.ready_pre hd hr (U1 q hq).1))]
  · rw [I.oth t (fun q hq _ he => hex ⟨q, hq, he⟩), Act.puts_oth vals (uses i) a (fun q hq he => hex ⟨q, hu q hq, he⟩)]

theorem yielded_congr {a b : Act} {g : Nat} (h : ∀ t, (ops[g]?).bind (·.dst) = some t → a.tmps[t]? = b.tmps[t]?) : yielded ops a.tmps g = yielded ops b.tmps g := by
  unfold yielded
  cases ht : (ops[g]?).bind (·.dst) with
  | none => rfl
  | some t => simp only [Option.bind_some, h t ht]

theorem FlowFacts.run_front (F : FlowFacts ops pre all uses a.tmps.size)
    (obs : ∀ i p, all[i]? = some p → ∃ o, ops[i]? = some o ∧ ∀ W, Aft w0 W → flowOb P ops Vs p.1 p.2 o (uses i) a W)
    (fin : ∀ W, Aft w0 W → flowEnd P ops Vs Q (ops.toList.drop all.length) all a W) :
    ∀ (fuel : Nat) (listed : Array Bool) (a' : Act) (W : World) (vals : Nat → Value), Downs ops listed → unl ops.size listed ≤ fuel → FlowInv ops all Vs w0 a listed a' W vals → wpAny P .any ops Q fuel listed a' W := by
  intro fuel
  induction fuel with
  | zero =>
    intro listed a' W vals hd hf I
    refine (?_ : wpAny P .any ops Q 0 listed a' W)
    have hall : ∀ j, j < ops.size → On listed j := fun j hj => Classical.not_not.1 fun hn => by
      have := unl_pos hj ((not_on hd.sz hj).1 hn)
      omega
    have hlen : all.length = ops.size := by
      rcases Nat.lt_or_ge all.length ops.size with h | h
      · exact absurd (hall _ h) (I.notail _ (Nat.le_refl _))
      · have := F.len; omega
    refine F.run_tail 0 all.length listed a' W hd hf (Nat.le_refl _) (fun j hj => .inl (hall j (by omega))) (fun j hj => I.notail j hj) ?_
    have ha : a' = a.puts vals all := by
      have hsh := Act.puts_shape vals all a
      have : a'.tmps = (a.puts vals all).tmps := by
        apply Array.ext_getElem?
        intro d
        by_cases hex : ∃ p ∈ all, p.2 = d
        · obtain ⟨p, hp, rfl⟩ := hex
          rw [I.val p hp (hall _ (by have := (F.in_all hp).2.2.2; omega)), Act.puts_val vals (k := p.1) all a (F.in_all hp).2.1 ⟨p, hp, rfl⟩ (fun q hq he => by rw [F.same hq hp he])]
        · rw [I.oth d (fun q hq _ he => hex ⟨q, hq, he⟩), Act.puts_oth vals all a (fun q hq he => hex ⟨q, hq, he⟩)]
      cases a'
      have h2 := I.df
      rw [← hsh.1] at h2
      cases hb : a.puts vals all
      simp_all
    rw [ha]
    exact flowEnd_puts vals all a (fin W I.aft) (fun p hp => I.v p hp (hall _ (by have := (F.in_all hp).2.2.2; omega)))
  | succ fuel ih =>
    intro listed a' W vals hd hf I
    by_cases hall : ∀ j, j < all.length → On listed j
    · refine F.run_tail (fuel + 1) all.length listed a' W hd hf (Nat.le_refl _) (fun j hj => .inl (hall j hj)) (fun j hj => I.notail j hj) ?_
      have ha : a' = a.puts vals all := by
        have hsh := Act.puts_shape vals all a
        have : a'.tmps = (a.puts vals all).tmps := by
          apply Array.ext_getElem?
          intro d
          by_cases hex : ∃ p ∈ all, p.2 = d
          · obtain ⟨p, hp, rfl⟩ := hex
            rw [I.val p hp (hall _ (F.in_all hp).2.2.2), Act.puts_val vals (k := p.1) all a (F.in_all hp).2.1 ⟨p, hp, rfl⟩ (fun q hq he => by rw [F.same hq hp he])]
          · rw [I.oth d (fun q hq _ he => hex ⟨q, hq, he⟩), Act.puts_oth vals all a (fun q hq he => hex ⟨q, hq, he⟩)]
        cases a'
        have h2 := I.df
        rw [← hsh.1] at h2
        cases hb : a.puts vals all
        simp_all
      rw [ha]
      exact flowEnd_puts vals all a (fin W I.aft) (fun p hp => I.v p hp (hall _ (F.in_all hp).2.2.2))
    · obtain ⟨j0, hj0⟩ := Classical.not_forall.1 hall
      obtain ⟨hj0, hno⟩ := Classical.not_imp.1 hj0
      have hlen := F.len
      refine ⟨fun hr => ?_, fun i hi => ?_⟩
      · obtain ⟨k', _, hk'⟩ := F.least hd j0 (by omega) hno
        rw [hr] at hk'
        cases hk'
      · obtain ⟨h0, o, ho, _⟩ := mem_ready.1 hi
        have hin := (Array.getElem?_eq_some_iff.1 ho).1
        have hil : i < all.length := Nat.lt_of_not_le fun hge => hno (F.ready_pre hd hi (F.tail i hge hin j0 (by omega)))
        have hpi : all[i]? = some all[i] := by simp [hil]
        generalize hp0 : all[i] = p at hpi
        obtain ⟨j, d⟩ := p
        obtain ⟨rfl, hdm, hdst, _⟩ := F.tgt i j d hpi
        have hmem : ((j, d) : Nat × Tmp) ∈ all := List.mem_iff_getElem?.2 ⟨_, hpi⟩
        obtain ⟨o', ho', hob⟩ := obs j _ hpi
        rw [ho] at ho'
        cases ho'
        have hdo : o.dst = some d := by simpa [Region.dstOf, ho] using hdst
        obtain ⟨U1, U2⟩ := F.use j o hil ho
        have hu : ∀ p ∈ uses j, p ∈ all := fun p hp => List.mem_iff_getElem?.2 ⟨_, (U1 p hp).2⟩
        have hrun := flowOb_puts vals (uses j) a (hob W I.aft) (fun p hp => I.v p (hu p hp) (F.ready_pre hd hi (U1 p hp).1))
        have hsee := fun t ht => I.sees F hd hi ho hil (t := t) ht
        refine op_lift (G := fun v W' => flowV Vs j v W' ∧ Aft W W') ho hdo (by rw [(Act.puts_shape vals (uses j) a).2]; exact hdm) ?_ ?_ hrun ?_
        · refine execOp_congr o (fun cs b => Region.noSelect_spec F.sel j o cs b ho) fun x hx => ?_
          cases x with
          | tmp t =>
            have := hsee t (List.mem_append_left _ (List.mem_filterMap.2 ⟨.tmp t, by simpa using hx, rfl⟩))
            simp only [Act.eval, Array.getD_eq_getD_getElem?, this]
          | _ => rfl
        · unfold Region.wanted
          cases hg : o.guard with
          | none => rfl
          | some gw =>
            obtain ⟨g, want⟩ := gw
            have := yielded_congr (ops := ops) (a := a') (b := a.puts vals (uses j)) (g := g) (fun t ht => hsee t (by simp [Oper.looksAt, hg, ht]))
            simp only [this]
        · rintro v W' ⟨hv, hW⟩
          refine ih _ _ _ (fun k => if k = j then v else vals k) (hd.set hi) (by have := unl_set hin h0; omega) ⟨fun k hk hon => ?_, I.df, by simpa [Act.put] using I.ts, fun q hq hon => ?_, fun q hq hon => ?_, fun d' hd' => ?_, I.aft.trans hW⟩
          · rcases on_set hon with rfl | hon
            · omega
            · exact I.notail k hk hon
          · by_cases hqj : q.1 = j
            · have hqe : q = (j, d) := by
                have h1 := (F.in_all hq).1
                rw [hqj, hpi] at h1
                simpa using h1.symm
              subst hqe
              simp [Act.put, I.ts, hdm]
            · have hon' : On listed q.1 := (on_set hon).resolve_left hqj
              have hne : d ≠ q.2 := fun he => hqj (by rw [F.same hq hmem he.symm])
              simp only [Act.put, if_neg hqj]
              rw [Array.getElem?_setIfInBounds_ne hne]
              exact I.val q hq hon'
          · by_cases hqj : q.1 = j
            · simp only [hqj, if_true]; exact hv
            · have hon' : On listed q.1 := (on_set hon).resolve_left hqj
              simp only [if_neg hqj]
              exact flowV_st (I.v q hq hon') hW
          · have hne : d ≠ d' := hd' (j, d) hmem (by unfold On; simp [hd.sz, hin])
            simp only [Act.put]
            rw [Array.getElem?_setIfInBounds_ne hne]
            exact I.oth d' (fun q hq hon => hd' q hq (getD_set_true hon))
end

/-- A region that draws its order, by the flow of its values. 'all': the front, each operation's number and target; 'uses': for each of the front the operations whose targets it looks at. -/
theorem wp_region_flow {P : Program} {id : Nat} {Q : Exit → Act → World → Prop} {a : Act} {w : World} (w0 : World) (hw : Aft w0 w) {l : List Oper} (Vs : List FV) (all : List (Nat × Tmp)) (uses : List (List (Nat × Tmp)))
    (hm : P.follows .mixedOrders = true) (hB : flowOk l.toArray (Region.preTable l.toArray) all uses a.tmps.size = true)
    (obs : flowObs P l.toArray Vs w0 a l all uses)
    (fin : ∀ W, Aft w0 W → flowEnd P l.toArray Vs Q (l.drop all.length) all a W) : (Code.region id l.toArray true).wp P Q a w := by
  have F := flowOk_facts hB
  refine wp_region_any hm ?_
  refine F.run_front (Vs := Vs) (w0 := w0) (fun i p hp => ?_) (by simpa using fin) l.toArray.size _ _ _ (fun _ => undef) ⟨by simp, fun i o hon => ?_⟩ (unl_new _) ⟨fun i _ hon => ?_, rfl, rfl, fun p _ hon => ?_, fun p _ hon => ?_, fun _ _ => rfl, hw.drew⟩
  · obtain ⟨o, h1, h2⟩ := flowObs_get l all uses obs i p hp
    exact ⟨o, by simpa using h1, h2⟩
  all_goals
    exfalso
    unfold On at hon
    simp only [Array.getD_eq_getD_getElem?, Array.getElem?_replicate] at hon
    split at hon <;> simp at hon
theorem flowOb_nil {P : Program} {ops : Array Oper} {Vs : List FV} {i : Nat} {d : Tmp} {o : Oper} {b : Act} {W : World}
    (h : wpList P ops (fun e b' W' => e = .normal ∧ b'.defers = b.defers ∧ flowV Vs i (b'.tmps.getD d undef) W' ∧ Aft W W') [o] b W) : flowOb P ops Vs i d o [] b W := h
theorem flowOb_cons {P : Program} {ops : Array Oper} {Vs : List FV} {i : Nat} {d : Tmp} {o : Oper} {p : Nat × Tmp} {ps : List (Nat × Tmp)} {b : Act} {W : World}
    (h : ∀ v, flowV Vs p.1 v W → flowOb P ops Vs i d o ps (b.put (some p.2) v) W) : flowOb P ops Vs i d o (p :: ps) b W := h
theorem flowObs_cons {P : Program} {ops : Array Oper} {Vs : List FV} {w0 : World} {a : Act} {o : Oper} {os : List Oper} {p : Nat × Tmp} {ps : List (Nat × Tmp)} {u : List (Nat × Tmp)} {us : List (List (Nat × Tmp))}
    (h : ∀ W, Aft w0 W → flowOb P ops Vs p.1 p.2 o u a W) (t : flowObs P ops Vs w0 a os ps us) : flowObs P ops Vs w0 a (o :: os) (p :: ps) (u :: us) := ⟨h, t⟩
theorem flowObs_nil {P : Program} {ops : Array Oper} {Vs : List FV} {w0 : World} {a : Act} {os : List Oper} {us : List (List (Nat × Tmp))} : flowObs P ops Vs w0 a os [] us := by
  cases os <;> cases us <;> exact trivial

theorem flowEnd_nil {P : Program} {ops : Array Oper} {Vs : List FV} {Q : Exit → Act → World → Prop} {tail : List Oper} {b : Act} {W : World} (h : wpList P ops Q tail b W) : flowEnd P ops Vs Q tail [] b W := h
theorem flowEnd_cons {P : Program} {ops : Array Oper} {Vs : List FV} {Q : Exit → Act → World → Prop} {tail : List Oper} {p : Nat × Tmp} {ps : List (Nat × Tmp)} {b : Act} {W : World}
    (h : ∀ v, flowV Vs p.1 v W → flowEnd P ops Vs Q tail ps (b.put (some p.2) v) W) : flowEnd P ops Vs Q tail (p :: ps) b W := h
end Go
