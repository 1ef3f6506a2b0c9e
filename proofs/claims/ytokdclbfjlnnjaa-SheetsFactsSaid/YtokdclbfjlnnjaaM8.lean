/- The abstract machine: calls. -/
import Derived.Test.YtokdclbfjlnnjaaM7
namespace Go.Ab
open Go.RowKit

inductive ArgsLe (fl : Bool) (σ : St) (nm' : Nat → Bool) (ρ : Nat → Nat) : List Operand → List D → Prop
  | nil : ArgsLe fl σ nm' ρ [] []
  | cons {x : Operand} {d d' : D} {xs : List Operand} {ds : List D} (h : σ.ev x = some d) (hd : DLe fl σ.H nm' ρ d d') (r : ArgsLe fl σ nm' ρ xs ds) : ArgsLe fl σ nm' ρ (x :: xs) (d' :: ds)
theorem ArgsLe.get {fl : Bool} {σ : St} {nm' : Nat → Bool} {ρ : Nat → Nat} {xs : List Operand} {ds : List D} (h : ArgsLe fl σ nm' ρ xs ds) : xs.length = ds.length ∧ ∀ (i : Nat) (d' : D), ds[i]? = some d' → ∃ x d, xs[i]? = some x ∧ σ.ev x = some d ∧ DLe fl σ.H nm' ρ d d' := by
  induction h with
  | nil => exact ⟨rfl, fun i d' h => by simp at h⟩
  | cons h hd r ih =>
    refine ⟨by simp [ih.1], fun i d' hi => ?_⟩
    cases i with
    | zero => simp at hi; subst hi; exact ⟨_, _, rfl, h, hd⟩
    | succ i => obtain ⟨x, d, h1, h2⟩ := ih.2 i d' (by simpa using hi); exact ⟨x, d, by simpa using h1, h2⟩

theorem DLe.mono {fl : Bool} {H H₁ : Nat → Option AObj} {nm' : Nat → Bool} {ρ : Nat → Nat} (hH : ∀ k o, H k = some o → H₁ k = some o) {d d' : D} (h : DLe fl H nm' ρ d d') : DLe fl H₁ nm' ρ d d' := by
  induction h with
  | t h => exact .t h
  | nil => exact .nil
  | own h hk => exact .own h hk
  | ref h hk => exact .ref h hk
  | rd h hst ht hn => exact .rd (hH _ _ h) hst ht hn
  | ptr => exact .ptr
  | agg hl h ih => exact .agg hl ih
  | tup hl h ih => exact .tup hl ih
  | fn hl h ih => exact .fn hl ih
  | any => exact .any
theorem OLe.mono {fl : Bool} {H H₁ : Nat → Option AObj} {nm' : Nat → Bool} {ρ : Nat → Nat} (hH : ∀ k o, H k = some o → H₁ k = some o) {o o' : AObj} (h : OLe fl H nm' ρ o o') : OLe fl H₁ nm' ρ o o' := by
  cases h with
  | row h hn => exact .row h hn
  | box hl h => exact .box hl (fun i d d' h1 h2 => (h i d d' h1 h2).mono hH)

/-- The names of a call's results: fr.. for the callee's 100.., those handed in by the list. -/
def back (fr : Nat) (rb : List (Nat × Nat)) (k : Nat) : Nat := if fr ≤ k ∧ k < fr + 8 then 100 + (k - fr) else rnm rb k
def backNm (fr : Nat) (rb : List (Nat × Nat)) (k : Nat) : Bool := (decide (fr ≤ k) && decide (k < fr + 8)) || (look k rb).isSome
inductive AllW (H' : List (Nat × AObj)) (nmd : Nat → Bool) (ρ : Nat → Nat) : Wr → Prop
  | nil : AllW H' nmd ρ []
  | gone {k : Nat} {l : Wr} (r : AllW H' nmd ρ l) : AllW H' nmd ρ ((k, none) :: l)
  | cons {k : Nat} {o o' : AObj} {l : Wr} (h : look (ρ k) H' = some o) (ho : OLe false (fun k => look k H') nmd ρ o o') (r : AllW H' nmd ρ l) : AllW H' nmd ρ ((k, some o') :: l)
theorem AllW.get {H' : List (Nat × AObj)} {nmd : Nat → Bool} {ρ : Nat → Nat} {W : Wr} (h : AllW H' nmd ρ W) {k : Nat} {o' : AObj} (hl : look k W = some (some o')) : ∃ o, look (ρ k) H' = some o ∧ OLe false (fun k => look k H') nmd ρ o o' := by
  induction h with
  | nil => cases hl
  | gone r ih =>
    unfold look at hl
    split at hl
    · cases hl
    · exact ih hl
  | cons h ho r ih =>
    unfold look at hl
    split at hl
    · rename_i e; cases hl; subst e; exact ⟨_, h, ho⟩
    · exact ih hl

def callOk0 (rn rb : List (Nat × Nat)) (H : List (Nat × AObj)) : Bool :=
  H.all (fun p => decide (50 ≤ p.1) && decide (p.1 < 100)) && decide ((H.map fun p => rnm rn p.1).Nodup) && H.all (fun p => look (rnm rn p.1) rb == some p.1) && rb.all (fun p => H.any fun q => q.1 == p.2 && rnm rn q.1 == p.1)
def callOk (fr : Nat) (rn : List (Nat × Nat)) (H : List (Nat × AObj)) (W : Wr) : Bool :=
  H.all (fun p => (look (rnm rn p.1) W).isSome) && W.all (fun p => (decide (fr ≤ p.1) && decide (p.1 < fr + 8)) || H.any (fun q => rnm rn q.1 == p.1))

theorem look_some {α : Type} {k : Nat} : ∀ {l : List (Nat × α)}, k ∈ l.map (·.1) → ∃ x, look k l = some x
  | [], h => by cases h
  | p :: l, h => by
    unfold look
    by_cases e : p.1 = k
    · rw [if_pos e]; exact ⟨_, rfl⟩
    · rw [if_neg e]
      rw [List.map_cons] at h
      rcases List.mem_cons.1 h with h | h
      · exact absurd h.symm e
      · exact look_some h

section
variable {P : Program} {o : Oper} {σ : St} {fr : Nat}
theorem run_enter {f : FuncId} {fn : Func} (hfn : P.funcs[f]? = some fn) (hname : fn.name ≠ "runtime.NumGoroutine") (hb : fn.body ≠ none) (vs : Array Value) (w : World) : (callFunc f vs).run P w = .ok (.enter f vs) w := by
  unfold callFunc
  simp [run_program, hfn, hname, hb]

theorem ok_calln {ι : Type} {C : ι → Prop} {f : FuncId} {xs : List Operand} {ds : List D} {H : List (Nat × AObj)} {r' : ι → D} {H'' : ι → List (Nat × AObj)} (rn rb : List (Nat × Nat)) {d' : ι → D} {W' : ι → Wr}
    (hrun : ∀ a : Act, ∀ w : World, (∀ x d, σ.ev x = some d → True) → (execOp a.eval o).run P w = .ok (.enter f (xs.map a.eval).toArray) w)
    (hS : DoesN P f ds H C r' H'') (hargs : ArgsLe false σ (fun k => decide (k < 100)) (rnm rn) xs ds) (hH : AllH false σ (fun k => decide (k < 100)) (rnm rn) H)
    (hres : ∀ i, C i → DLe false (fun k => look k (H'' i)) (backNm fr rb) (back fr rb) (r' i) (d' i)) (hW : ∀ i, C i → AllW (H'' i) (backNm fr rb) (back fr rb) (W' i)) (hc : ∀ i, C i → callOk fr rn H (W' i) = true) (hc0 : callOk0 rn rb H = true) : OpN P o σ fr C d' W' := by
  intro E σ₁ a w hT hHH h100 hf hdst ⟨ν, G, I⟩ Q
  simp only [callOk0, Bool.and_eq_true, decide_eq_true_eq] at hc0
  obtain ⟨⟨⟨c1, c2⟩, c3⟩, c6⟩ := hc0
  have hin : ∀ k' ∈ H.map (·.1), 50 ≤ k' ∧ k' < 100 ∧ look (rnm rn k') rb = some k' := fun k' hk' => by
    obtain ⟨p, hp, rfl⟩ := List.mem_map.1 hk'
    have q1 := List.all_eq_true.1 c1 p hp
    have q3 := List.all_eq_true.1 c3 p hp
    simp only [Bool.and_eq_true, decide_eq_true_eq, beq_iff_eq] at q1 q3
    exact ⟨q1.1, q1.2, q3⟩
  have hrb : ∀ k x, look k rb = some x → x ∈ H.map (·.1) ∧ rnm rn x = k := fun k x hx => by
    have := List.all_eq_true.1 c6 _ (look_mem hx)
    simp only [List.any_eq_true, Bool.and_eq_true, beq_iff_eq] at this
    obtain ⟨q, hq, e1, e2⟩ := this
    exact ⟨List.mem_map.2 ⟨q, hq, e1⟩, by rw [← e1]; exact e2⟩
  have hHin : ∀ k' ∈ H.map (·.1), ∃ o', σ₁.H (rnm rn k') = some o' := fun k' hk' => by
    obtain ⟨x, hx⟩ := look_some hk'
    obtain ⟨o', h1, _⟩ := hH.get hx
    exact ⟨o', hHH _ _ h1⟩
  have hnr : ∀ k, σ₁.nm k = true → ¬ (fr ≤ k ∧ k < fr + 8) := fun k hk h => by rw [hf k h.1 h.2] at hk; cases hk
  have hinnr : ∀ k' ∈ H.map (·.1), ¬ (fr ≤ rnm rn k' ∧ rnm rn k' < fr + 8) := fun k' hk' => by
    obtain ⟨o', ho'⟩ := hHin k' hk'
    exact hnr _ (I.H _ _ ho').1
  unfold Oper.wp
  rw [hrun a w (fun _ _ _ => trivial), Oper.upon_enter]
  obtain ⟨hlen, hargs⟩ := hargs.get
  let X' : Nat → Prop := fun b => ∃ k' ∈ H.map (·.1), blk (ν (rnm rn k')) = some b
  have hXmay : ∀ b, X' b → E.may b := fun b ⟨k', hk', hb⟩ => by
    obtain ⟨o', ho'⟩ := hHin k' hk'
    exact (I.H _ _ ho').2.mayb hb
  have hXlt : ∀ b, X' b → b < w.heap.size := fun b ⟨k', hk', hb⟩ => by
    obtain ⟨o', ho'⟩ := hHin k' hk'
    exact (I.H _ _ ho').2.blk_lt hb
  let E' : Env := ⟨(xs.map a.eval).toArray.size, w, G, X', fun k => ν (rnm rn k)⟩
  have hρ : ∀ k', decide (k' < 100) = true → σ₁.nm (rnm rn k') = true → (fun k => ν (rnm rn k)) k' = ν (rnm rn k') := fun _ _ _ => rfl
  have hR : R E' (args ds H) (xs.map a.eval).toArray w := by
    refine ⟨fun k => ν (rnm rn k), G, ⟨rfl, rfl, rfl, Nat.le_refl _, fun _ _ _ => rfl⟩, fun _ _ _ h => h, fun _ _ _ => rfl, fun _ _ _ => rfl, rfl, fun t d' h => ?_, fun k o' h => ?_, fun k o1 k' o2 h h' hne g hg => ?_⟩
    · obtain ⟨x, d0, h1, h2, h3⟩ := hargs t d' h
      exact ⟨a.eval x, by simp [h1], (h3.mono hHH).rel (fun _ _ _ h => h) I.rows hρ (I.ev (St.ev_le hT h2))⟩
    · obtain ⟨o0, h1, h2⟩ := hH.get h
      have hk : k ∈ H.map (·.1) := look_keys h
      exact ⟨decide_eq_true (hin k hk).2.1, (I.H _ o0 (hHH _ _ h1)).2.view (h2.mono hHH) I.rows hρ rfl (fun g hg _ => .inr ⟨k, hk, hg⟩)⟩
    · obtain ⟨q1, h1, _⟩ := hH.get h
      obtain ⟨q2, h2, _⟩ := hH.get h'
      exact I.dis _ q1 _ q2 (hHH _ _ h1) (hHH _ _ h2) (fun e => hne (nodup_inj (by rw [List.map_map]; exact c2) k (look_keys h) k' (look_keys h') e)) g hg
  refine (hS E' w _ rfl rfl (by simpa using hlen) hR).mono ?_
  rintro e w' ⟨v, rfl, i0, hC0, ν', G', I'⟩
  obtain ⟨r, hr0⟩ : ∃ r, r' i0 = r := ⟨_, rfl⟩
  obtain ⟨H', hH0⟩ : ∃ H', H'' i0 = H' := ⟨_, rfl⟩
  obtain ⟨d, hd0⟩ : ∃ d, d' i0 = d := ⟨_, rfl⟩
  obtain ⟨W, hW0⟩ : ∃ W, W' i0 = W := ⟨_, rfl⟩
  have hres := hres i0 hC0
  have hW := hW i0 hC0
  have hc := hc i0 hC0
  rw [hr0, hH0] at I'
  rw [hr0, hH0, hd0] at hres
  rw [hH0, hW0] at hW
  rw [hW0] at hc
  simp only [callOk, Bool.and_eq_true] at hc
  obtain ⟨c4, c5⟩ := hc
  have hin4 : ∀ k' ∈ H.map (·.1), ∃ x, look (rnm rn k') W = some x := fun k' hk' => by
    obtain ⟨p, hp, rfl⟩ := List.mem_map.1 hk'
    exact Option.isSome_iff_exists.1 (List.all_eq_true.1 c4 p hp)
  have hWk : ∀ k x, look k W = some x → (fr ≤ k ∧ k < fr + 8) ∨ ∃ k' ∈ H.map (·.1), rnm rn k' = k := fun k x hx => by
    have := List.all_eq_true.1 c5 _ (look_mem hx)
    simp only [Bool.or_eq_true, Bool.and_eq_true, decide_eq_true_eq, List.any_eq_true, beq_iff_eq] at this
    rcases this with h | ⟨q, hq, he⟩
    · exact .inl h
    · exact .inr ⟨q.1, List.mem_map.2 ⟨q, hq, rfl⟩, he⟩
  show (a.put o.dst v).defers = a.defers ∧ ∃ i, C i ∧ R E (σ₁.upd o.dst (d' i) (W' i) fr) (a.put o.dst v).tmps w'
  refine ⟨put_defers .., i0, hC0, ?_⟩
  rw [hd0, hW0]
  have hcell : ∀ b i u, Cell w G b i u → Cell w' G' b i u := I'.keep
  have hblk : ∀ b, b < w.heap.size → ¬ X' b → w'.heap[b]? = w.heap[b]? ∧ G' b = G b := fun b hb hX => ⟨I'.kept.block b hb hX, I'.g0 b hb hX⟩
  obtain ⟨ν'', hν''⟩ : ∃ ν'' : Nat → Value, ν'' = fun k => if fr ≤ k ∧ k < fr + 8 then ν' (100 + (k - fr)) else ν k := ⟨_, rfl⟩
  have hnew : ∀ k, backNm fr rb k = true → ν'' k = ν' (back fr rb k) := fun k hk => by
    rw [hν'']
    simp only [backNm, Bool.or_eq_true, Bool.and_eq_true, decide_eq_true_eq] at hk
    unfold back
    by_cases h : fr ≤ k ∧ k < fr + 8
    · simp only [if_pos h]
    · simp only [if_neg h]
      rcases hk with hk | hk
      · exact absurd hk h
      · obtain ⟨x, hx⟩ := Option.isSome_iff_exists.1 hk
        obtain ⟨h1, h2⟩ := hrb k x hx
        unfold rnm
        rw [hx]
        have := I'.pin x (hin x h1).1 (hin x h1).2.1
        simp only
        rw [this]
        show ν k = ν (rnm rn x)
        rw [h2]
  have hold : ∀ k, ¬ (fr ≤ k ∧ k < fr + 8) → ν'' k = ν k := fun k h => by rw [hν'']; simp only [if_neg h]
  have hnm : ∀ k, σ₁.nm k = true → (σ₁.upd o.dst d W fr).nm k = true ∧ ν'' k = ν k := fun k hk => ⟨by simp [St.upd, hk], hold k (hnr k hk)⟩
  have hnb : ∀ k, backNm fr rb k = true → (σ₁.upd o.dst d W fr).nm k = true := fun k hk => by
    simp only [backNm, Bool.or_eq_true, Bool.and_eq_true, decide_eq_true_eq] at hk
    rcases hk with hk | hk
    · simp [St.upd, hk]
    · obtain ⟨x, hx⟩ := Option.isSome_iff_exists.1 hk
      obtain ⟨h1, h2⟩ := hrb k x hx
      obtain ⟨o', ho'⟩ := hHin x h1
      rw [h2] at ho'
      simp [St.upd, (I.H _ _ ho').1]
  have hνr : ∀ k', backNm fr rb k' = true → (res r H').nm (back fr rb k') = true → ν'' k' = ν' (back fr rb k') := fun k hk _ => hnew k hk
  have hWold : ∀ k o1, (σ₁.upd o.dst d W fr).H k = some o1 → look k W = none → σ₁.H k = some o1 := fun k o1 h hl => by
    simp only [St.upd, hl] at h
    exact h
  have hnotX : ∀ k o1, σ₁.H k = some o1 → look k W = none → ∀ g, blk (ν k) = some g → ¬ X' g := fun k o1 h hl g hg ⟨k', hk', hb⟩ => by
    obtain ⟨o', ho'⟩ := hHin k' hk'
    refine I.dis k o1 _ o' h ho' (fun e => ?_) g hg hb
    obtain ⟨x, hx⟩ := hin4 k' hk'
    rw [← e, hl] at hx
    cases hx
  have hWnew : ∀ k o1, (σ₁.upd o.dst d W fr).H k = some o1 → look k W ≠ none → backNm fr rb k = true ∧ ∃ o0, look (back fr rb k) H' = some o0 ∧ OLe false (fun k => look k H') (backNm fr rb) (back fr rb) o0 o1 := fun k o1 h hl => by
    cases hx : look k W with
    | none => exact absurd hx hl
    | some x =>
      simp only [St.upd, hx] at h
      subst h
      refine ⟨?_, hW.get hx⟩
      simp only [backNm, Bool.or_eq_true, Bool.and_eq_true, decide_eq_true_eq]
      rcases hWk k _ hx with h | ⟨k', hk', he⟩
      · exact .inl h
      · right
        rw [← he, (hin k' hk').2.2]
        rfl
  have hmay' : ∀ g, E'.may g → E.may g := fun g h => by
    rcases h with h | h
    · exact .inl (Nat.le_trans I.kept.size h)
    · exact hXmay g h
  have hgX : ∀ k o0, look (back fr rb k) H' = some o0 → backNm fr rb k = true → ∀ g, blk (ν'' k) = some g → w.heap.size ≤ g ∨ X' g := fun k o0 h hb g hg => by
    rw [hnew k hb] at hg
    exact (I'.H _ o0 h).2.mayb hg
  have hinj : ∀ k k', backNm fr rb k = true → backNm fr rb k' = true → back fr rb k = back fr rb k' → k = k' := fun k k' h h' e => by
    have val : ∀ k, backNm fr rb k = true → (fr ≤ k ∧ k < fr + 8 ∧ back fr rb k = 100 + (k - fr)) ∨ ∃ x, back fr rb k = x ∧ x < 100 ∧ rnm rn x = k := fun k h => by
      by_cases hc : fr ≤ k ∧ k < fr + 8
      · exact .inl ⟨hc.1, hc.2, by unfold back; rw [if_pos hc]⟩
      · right
        simp only [backNm, Bool.or_eq_true, Bool.and_eq_true, decide_eq_true_eq] at h
        rcases h with h | h
        · exact absurd h hc
        · obtain ⟨x, hx⟩ := Option.isSome_iff_exists.1 h
          obtain ⟨h1, h2⟩ := hrb k x hx
          exact ⟨x, by unfold back; rw [if_neg hc]; unfold rnm; rw [hx], (hin x h1).2.1, h2⟩
    rcases val k h with ⟨a1, a2, a3⟩ | ⟨x, a1, a2, a3⟩ <;> rcases val k' h' with ⟨b1, b2, b3⟩ | ⟨y, b1, b2, b3⟩
    · omega
    · omega
    · omega
    · rw [← a3, ← b3, ← a1, ← b1, e]
  refine ⟨ν'', G', ⟨I'.kept.os.trans I.kept.os, I'.kept.tape.trans I.kept.tape, I'.kept.output.trans I.kept.output, Nat.le_trans I.kept.size I'.kept.size, fun b hb hX => ?_⟩, fun b i u h => hcell b i u (I.keep b i u h), fun k h1 h2 => ?_, fun b hb hX => ?_, ?_, fun t d' h => ?_, fun k o1 h => ?_, fun k o1 k' o2 h h' hne g hg => ?_⟩
  · refine (hblk b (Nat.lt_of_lt_of_le hb I.kept.size) (fun hx => ?_)).1.trans (I.kept.block b hb hX)
    rcases hXmay b hx with h | h
    · omega
    · exact hX h
  · rw [hold k (by omega)]; exact I.pin k h1 h2
  · refine (hblk b (Nat.lt_of_lt_of_le hb I.kept.size) (fun hx => ?_)).2.trans (I.g0 b hb hX)
    rcases hXmay b hx with h | h
    · omega
    · exact hX h
  · cases o.dst <;> simp [Act.put, I.sz]
  · simp only [St.upd] at h
    split at h
    · rename_i he
      cases h
      obtain ⟨v0, hv0, hd0⟩ := I'.T 0 r (by simp)
      simp at hv0
      subst hv0
      have hlt := hdst t he
      refine ⟨v, by simp [he, Act.put, I.sz, hlt], (hres.rel (fun _ _ _ h => h) I'.rows hνr hd0).mono (fun k hk => ⟨hnb k hk, rfl⟩) (fun _ _ _ h => h)⟩
    · rename_i he
      obtain ⟨u, hu, hdu⟩ := I.T t d' h
      refine ⟨u, ?_, hdu.mono hnm hcell⟩
      cases hds : o.dst with
      | none => simpa [Act.put] using hu
      | some t'' =>
        have hne : t'' ≠ t := fun e => he (by rw [hds, e])
        simp only [Act.put]
        rw [Array.getElem?_setIfInBounds_ne hne]
        exact hu
  · by_cases hl : look k W = none
    · have h0 := hWold k o1 h hl
      obtain ⟨q1, q2⟩ := I.H k o1 h0
      exact ⟨(hnm k q1).1, q2.mono q1 hnm hcell (fun g hg => hblk g (q2.blk_lt hg) (hnotX k o1 h0 hl g hg))⟩
    · obtain ⟨q1, o0, q2, q3⟩ := hWnew k o1 h hl
      have hv := (I'.H _ o0 q2).2.view (E' := E) (ν' := ν'') (k' := k) q3 I'.rows hνr (hnew k q1) (fun g _ hm => hmay' g hm)
      exact ⟨hnb k q1, ObjOk.mono q1 (fun k hk => ⟨hnb k hk, rfl⟩) (fun _ _ _ h => h) (fun _ _ => ⟨rfl, rfl⟩) hv⟩
  · by_cases hl : look k W = none
    · have h0 := hWold k o1 h hl
      obtain ⟨q1, q2⟩ := I.H k o1 h0
      rw [(hnm k q1).2] at hg
      by_cases hl' : look k' W = none
      · have h0' := hWold k' o2 h' hl'
        rw [(hnm k' (I.H k' o2 h0').1).2]
        exact I.dis k o1 k' o2 h0 h0' hne g hg
      · obtain ⟨p1, o0, p2, _⟩ := hWnew k' o2 h' hl'
        intro hg'
        rcases hgX k' o0 p2 p1 g hg' with hh | hh
        · have := q2.blk_lt hg; omega
        · exact hnotX k o1 h0 hl g hg hh
    · obtain ⟨p1, o0, p2, _⟩ := hWnew k o1 h hl
      by_cases hl' : look k' W = none
      · have h0' := hWold k' o2 h' hl'
        obtain ⟨q1, q2⟩ := I.H k' o2 h0'
        rw [(hnm k' q1).2]
        intro hg'
        rcases hgX k o0 p2 p1 g hg with hh | hh
        · have := q2.blk_lt hg'; omega
        · exact hnotX k' o2 h0' hl' g hg' hh
      · obtain ⟨p1', o0', p2', _⟩ := hWnew k' o2 h' hl'
        rw [hnew k p1] at hg
        rw [hnew k' p1']
        exact I'.dis _ o0 _ o0' p2 p2' (fun e => hne (hinj k k' p1 p1' e)) g hg

theorem run_call {a : Act} {f : FuncId} {fn : Func} {xs : Array Operand} {tys : Array TypeId} (ho : o.op = .call { callee := .value (.func f), args := xs, argTypes := tys }) (hfn : P.funcs[f]? = some fn) (hname : fn.name ≠ "runtime.NumGoroutine") (hb : fn.body ≠ none) (w : World) :
    (execOp a.eval o).run P w = .ok (.enter f (xs.toList.map a.eval).toArray) w := by
  unfold execOp
  rw [ho]
  have : (xs.toList.map a.eval).toArray = xs.map a.eval := by rw [← Array.toList_map, Array.toArray_toList]
  rw [this]
  simp only [resolve, Act.eval, Deferred.ofValue, invoke, Sem.run_bind, Sem.run_pure, Result.andThen_ok, Array.append_empty, Array.empty_append]
  exact run_enter hfn hname hb _ w
/-- A call of a function. -/
theorem ok_call {f : FuncId} {fn : Func} {xs : Array Operand} {tys : Array TypeId} {ds : List D} {H : List (Nat × AObj)} {r : D} {H' : List (Nat × AObj)} (rn rb : List (Nat × Nat)) {d : D} {W : Wr} (ho : o.op = .call { callee := .value (.func f), args := xs, argTypes := tys })
    (hfn : P.funcs[f]? = some fn) (hname : fn.name ≠ "runtime.NumGoroutine") (hb : fn.body ≠ none)
    (hS : Does P f ds H r H') (hargs : ArgsLe false σ (fun k => decide (k < 100)) (rnm rn) xs.toList ds) (hH : AllH false σ (fun k => decide (k < 100)) (rnm rn) H)
    (hres : DLe false (fun k => look k H') (backNm fr rb) (back fr rb) r d) (hW : AllW H' (backNm fr rb) (back fr rb) W) (hc : callOk fr rn H W = true) (hc0 : callOk0 rn rb H = true) : OpOk P o σ fr d W := fun E σ₁ a w h1 h2 h3 h4 h5 h6 Q =>
  Oper.wp_mono (fun _ _ ⟨q1, _, _, q2⟩ => ⟨q1, q2⟩) (ok_calln (d' := fun _ => d) (W' := fun _ => W) rn rb (xs := xs.toList) (fun _ w _ => run_call ho hfn hname hb w) hS.n hargs hH (fun _ _ => hres) (fun _ _ => hW) (fun _ _ => hc) hc0 E σ₁ a w h1 h2 h3 h4 h5 h6 Q)
/-- .. whose result is one of several. -/
theorem ok_callN {ι : Type} {C : ι → Prop} {f : FuncId} {fn : Func} {xs : Array Operand} {tys : Array TypeId} {ds : List D} {H : List (Nat × AObj)} {r : ι → D} {H' : ι → List (Nat × AObj)} (rn rb : List (Nat × Nat)) {d : ι → D} {W : ι → Wr} (ho : o.op = .call { callee := .value (.func f), args := xs, argTypes := tys })
    (hfn : P.funcs[f]? = some fn) (hname : fn.name ≠ "runtime.NumGoroutine") (hb : fn.body ≠ none)
    (hS : DoesN P f ds H C r H') (hargs : ArgsLe false σ (fun k => decide (k < 100)) (rnm rn) xs.toList ds) (hH : AllH false σ (fun k => decide (k < 100)) (rnm rn) H)
    (hres : ∀ i, C i → DLe false (fun k => look k (H' i)) (backNm fr rb) (back fr rb) (r i) (d i)) (hW : ∀ i, C i → AllW (H' i) (backNm fr rb) (back fr rb) (W i)) (hc : ∀ i, C i → callOk fr rn H (W i) = true) (hc0 : callOk0 rn rb H = true) : OpN P o σ fr C d W :=
  ok_calln rn rb (xs := xs.toList) (fun _ w _ => run_call ho hfn hname hb w) hS hargs hH hres hW hc hc0
end
end Go.Ab
