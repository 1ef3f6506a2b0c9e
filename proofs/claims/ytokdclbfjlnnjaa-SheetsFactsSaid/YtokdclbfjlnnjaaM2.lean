/- The abstract machine: one operation, statements in a row, and the rules of the code. -/
import Derived.Test.YtokdclbfjlnnjaaM1
namespace Go.Ab
open Go.RowKit

def constOk : Value → Bool
  | .agg cs => cs.toList.all (·.oneCell')
  | .tuple _ => false
  | _ => true
def ofVal : Value → D
  | .agg cs => .agg (cs.toList.map fun c => .t (.v c))
  | v => .t (.v v)
theorem ofVal_rel {ν : Nat → Value} {nm : Nat → Bool} {w : World} {G : Lim} {v : Value} (h : constOk v = true) : DR ν nm w G v (ofVal v) := by
  cases v with
  | agg cs =>
    have h1 : ∀ c ∈ cs.toList, c.oneCell' = true := List.all_eq_true.1 h
    refine .agg (by simp) (fun i u d hu hd => ?_) h1
    simp only [List.getElem?_map, Array.getElem?_toList, hu, Option.map_some, Option.some.injEq] at hd
    subst hd
    exact .t (.v u (h1 u (by rw [List.mem_iff_getElem?]; exact ⟨i, by simpa using hu⟩)))
  | tuple vs => cases h
  | _ => exact .t (.v _ rfl)

/-- What an operand stands for. -/
def St.ev (σ : St) : Operand → Option D
  | .tmp t => σ.T t
  | .const v => if constOk v then some (ofVal v) else none
  | .func f => some (.fn f [])
  | .global g => some (.t (.v (.pointer (some ⟨g, 0, none⟩))))

theorem Inv.ev {E : Env} {σ : St} {ν : Nat → Value} {G : Lim} {w : World} {a : Act} (I : Inv E σ ν G w a.tmps) {x : Operand} {d : D} (h : σ.ev x = some d) : DR ν σ.nm w G (a.eval x) d := by
  cases x with
  | tmp t =>
    obtain ⟨v, hv, hd⟩ := I.T t d h
    have he : a.eval (.tmp t) = v := by simp [Act.eval, Array.getD_eq_getD_getElem?, hv]
    rw [he]
    exact hd
  | const v =>
    simp only [St.ev] at h
    split at h
    · rename_i hc; cases h; exact ofVal_rel hc
    · cases h
  | func f => cases h; exact .fn (by simp) (fun i u d hu => by simp at hu)
  | global g => cases h; exact .t (.v _ rfl)

/-- One operation: d its result, W what it writes in the names, from fr on its new names. -/
def OpOk (P : Program) (o : Oper) (σ : St) (fr : Nat) (d : D) (W : Wr) : Prop :=
  ∀ (E : Env) (σ₁ : St) (a : Act) (w : World), (∀ t d, σ.T t = some d → σ₁.T t = some d) → (∀ k o, σ.H k = some o → σ₁.H k = some o) → 100 ≤ fr → (∀ k, fr ≤ k → k < fr + 8 → σ₁.nm k = false) →
    (∀ t, o.dst = some t → t < E.m) → R E σ₁ a.tmps w → ∀ Q, o.wp P a w (fun a' w' => a'.defers = a.defers ∧ R E (σ₁.upd o.dst d W fr) a'.tmps w') Q

theorem St.ev_le {σ σ₁ : St} (hT : ∀ t d, σ.T t = some d → σ₁.T t = some d) {x : Operand} {d : D} (h : σ.ev x = some d) : σ₁.ev x = some d := by
  cases x with
  | tmp t => exact hT t d h
  | _ => exact h
theorem put_defers (a : Act) (dst : Option Tmp) (v : Value) : (a.put dst v).defers = a.defers := by cases dst <;> rfl

/-- An operation that only reckons and reads. -/
theorem ok_pure {P : Program} {o : Oper} {σ : St} {fr : Nat} {d : D}
    (h : ∀ (E : Env) (σ₁ : St) (ν : Nat → Value) (G : Lim) (w : World) (a : Act), (∀ k o, σ.H k = some o → σ₁.H k = some o) → Inv E σ₁ ν G w a.tmps → (∀ x d, σ.ev x = some d → DR ν σ₁.nm w G (a.eval x) d) →
      ∃ v, (execOp a.eval o).run P w = .ok (.value v) w ∧ DR ν σ₁.nm w G v d) : OpOk P o σ fr d [] := by
  intro E σ₁ a w hT hH _ _ hd hR Q
  obtain ⟨ν, G, I⟩ := hR
  obtain ⟨v, hr, hv⟩ := h E σ₁ ν G w a hH I (fun x d hx => I.ev (St.ev_le hT hx))
  unfold Oper.wp
  rw [hr, Oper.upon_value]
  exact ⟨put_defers .., ν, G, I.put hv hd fr a rfl⟩

/-- The same with a result that is only known to be one of several. -/
def OpN (P : Program) (o : Oper) (σ : St) (fr : Nat) {ι : Type} (C : ι → Prop) (d : ι → D) (W : ι → Wr) : Prop :=
  ∀ (E : Env) (σ₁ : St) (a : Act) (w : World), (∀ t d, σ.T t = some d → σ₁.T t = some d) → (∀ k o, σ.H k = some o → σ₁.H k = some o) → 100 ≤ fr → (∀ k, fr ≤ k → k < fr + 8 → σ₁.nm k = false) →
    (∀ t, o.dst = some t → t < E.m) → R E σ₁ a.tmps w → ∀ Q, o.wp P a w (fun a' w' => a'.defers = a.defers ∧ ∃ i, C i ∧ R E (σ₁.upd o.dst (d i) (W i) fr) a'.tmps w') Q
theorem OpOk.n {P : Program} {o : Oper} {σ : St} {fr : Nat} {d : D} {W : Wr} (h : OpOk P o σ fr d W) : OpN P o σ fr (fun _ : Unit => True) (fun _ => d) (fun _ => W) := fun E σ₁ a w h1 h2 h3 h4 h5 h6 Q => Oper.wp_mono (fun _ _ h => ⟨h.1, (), trivial, h.2⟩) (h E σ₁ a w h1 h2 h3 h4 h5 h6 Q)
/-- One operation with its guard. -/
def Guard (ops : Array Oper) (o : Oper) (σ : St) : Prop :=
  o.guard = none ∨ ∃ j want t, o.guard = some (j, want) ∧ ((ops[j]?).bind (·.dst)) = some t ∧ σ.T t = some (.t (.v (.bool want)))
def Off (ops : Array Oper) (o : Oper) (σ : St) : Prop :=
  ∃ j want t d, o.guard = some (j, want) ∧ ((ops[j]?).bind (·.dst)) = some t ∧ σ.T t = some d ∧ (d = .tup [] ∨ d = .t (.v (.bool (!want))))
def StepOk (P : Program) (ops : Array Oper) (o : Oper) (σ : St) (fr : Nat) (d : D) (W : Wr) : Prop :=
  (Guard ops o σ ∧ OpOk P o σ fr d W) ∨ (Off ops o σ ∧ d = .tup [] ∧ W = [])

theorem undef_rel {ν : Nat → Value} {nm : Nat → Bool} {w : World} {G : Lim} : DR ν nm w G undef (.tup []) := .tup (by rfl) (fun i u d hu => by simp at hu)
theorem bool_of {ν : Nat → Value} {nm : Nat → Bool} {w : World} {G : Lim} {v x : Value} (h : DR ν nm w G v (.t (.v x))) : v = x := by
  cases h with | t h => cases h with | v => rfl
theorem tup_of {ν : Nat → Value} {nm : Nat → Bool} {w : World} {G : Lim} {v : Value} (h : DR ν nm w G v (.tup [])) : v = undef := by
  cases h with
  | tup hl h =>
    rename_i vs
    have : vs = #[] := by simpa using hl
    rw [this]; rfl

theorem Guard.wanted {ops : Array Oper} {o : Oper} {σ σ₁ : St} {E : Env} {ν : Nat → Value} {G : Lim} {w : World} {a : Act} (h : Guard ops o σ) (hT : ∀ t d, σ.T t = some d → σ₁.T t = some d) (I : Inv E σ₁ ν G w a.tmps) :
    Region.wanted o (yielded ops a.tmps) = true := by
  rcases h with h | ⟨j, want, t, h1, h2, h3⟩
  · simp [Region.wanted, h]
  · obtain ⟨v, hv, hd⟩ := I.T t _ (hT t _ h3)
    have := bool_of hd
    subst this
    simp [Region.wanted, h1, yielded, h2, hv]
theorem Off.wanted {ops : Array Oper} {o : Oper} {σ σ₁ : St} {E : Env} {ν : Nat → Value} {G : Lim} {w : World} {a : Act} (h : Off ops o σ) (hT : ∀ t d, σ.T t = some d → σ₁.T t = some d) (I : Inv E σ₁ ν G w a.tmps) :
    Region.wanted o (yielded ops a.tmps) = false := by
  obtain ⟨j, want, t, d, h1, h2, h3, h4⟩ := h
  obtain ⟨v, hv, hd⟩ := I.T t _ (hT t _ h3)
  rcases h4 with rfl | rfl
  · have := tup_of hd
    subst this
    simp [Region.wanted, h1, yielded, h2, hv, undef]
  · have := bool_of hd
    subst this
    simp [Region.wanted, h1, yielded, h2, hv]

/-- An operation with its guard, run. -/
theorem StepOk.run {P : Program} {ops : Array Oper} {o : Oper} {σ σ₁ : St} {fr : Nat} {d : D} {W : Wr} (h : StepOk P ops o σ fr d W) {E : Env} {a : Act} {w : World} (hT : ∀ t d, σ.T t = some d → σ₁.T t = some d) (hH : ∀ k o, σ.H k = some o → σ₁.H k = some o)
    (h100 : 100 ≤ fr) (hf : ∀ k, fr ≤ k → k < fr + 8 → σ₁.nm k = false) (hd : ∀ t, o.dst = some t → t < E.m) (hR : R E σ₁ a.tmps w) (K : Act → World → Prop) (Q : Exit → Act → World → Prop)
    (hK : ∀ a' w', a'.defers = a.defers → R E (σ₁.upd o.dst d W fr) a'.tmps w' → K a' w') :
    if Region.wanted o (yielded ops a.tmps) then o.wp P a w K Q ∨ (o.asks P a w ∧ LetsOut Q) else K (a.put o.dst undef) w := by
  have hR' := hR
  obtain ⟨ν, G, I⟩ := hR'
  rcases h with ⟨hg, hop⟩ | ⟨ho, rfl, rfl⟩
  · rw [hg.wanted hT I, if_pos rfl]
    exact .inl (Oper.wp_mono (fun a' w' h => hK a' w' h.1 h.2) (hop E σ₁ a w hT hH h100 hf hd hR Q))
  · rw [ho.wanted hT I, if_neg (by simp)]
    exact hK _ _ (put_defers ..) ⟨ν, G, I.put undef_rel hd fr a rfl⟩

/-- Operations one after the other. -/
def SeqGo (P : Program) (ops : Array Oper) (Post : St → Prop) : List Oper → Nat → St → Prop
  | [], _, σ => Post σ
  | o :: rest, fr, σ => (∃ d W, StepOk P ops o σ fr d W ∧ SeqGo P ops Post rest (fr + 8) (σ.upd o.dst d W fr)) ∨
      ∃ (ι : Type) (C : ι → Prop) (d : ι → D) (W : ι → Wr), o.guard = none ∧ OpN P o σ fr C d W ∧ ∀ i, C i → SeqGo P ops Post rest (fr + 8) (σ.upd o.dst (d i) (W i) fr)

/-- A state in which the names below N are in use. -/
abbrev mk (T : Nat → Option D) (H : Nat → Option AObj) (N : Nat) : St := ⟨T, H, fun k => decide (k < N)⟩
theorem R.bound {E : Env} {σ : St} {tm : Array Value} {w : World} {N : Nat} (h : R E σ tm w) (hf : ∀ k, N ≤ k → σ.nm k = false) : R E (mk σ.T σ.H N) tm w := by
  obtain ⟨ν, G, I⟩ := h
  have hn : ∀ k, σ.nm k = true → decide (k < N) = true ∧ ν k = ν k := by
    intro k hk
    rcases Nat.lt_or_ge k N with h | h
    · exact ⟨decide_eq_true h, rfl⟩
    · rw [hf k h] at hk
      cases hk
  exact ⟨ν, G, I.kept, I.keep, I.pin, I.g0, I.sz, fun t d h => let ⟨v, hv, hd⟩ := I.T t d h; ⟨v, hv, hd.mono hn (fun _ _ _ h => h)⟩,
    fun k o h => let ⟨h1, h2⟩ := I.H k o h; ⟨(hn k h1).1, h2.mono h1 hn (fun _ _ _ h => h) (fun _ _ => ⟨rfl, rfl⟩)⟩, I.dis⟩
/-- The names from N on are free. -/
def St.free (σ : St) (N : Nat) : Prop := 100 ≤ N ∧ ∀ k, N ≤ k → σ.nm k = false
theorem mk_free {T : Nat → Option D} {H : Nat → Option AObj} {N : Nat} (h : 100 ≤ N) : (mk T H N).free N := ⟨h, fun k hk => by simp; exact hk⟩
theorem St.free_upd {σ : St} {N : Nat} (h : σ.free N) (dst : Option Tmp) (d : D) (W : Wr) : (σ.upd dst d W N).free (N + 8) := ⟨by have := h.1; omega, fun k hk => by
  simp [St.upd, h.2 k (by omega)]
  omega⟩

theorem SeqGo.run {P : Program} {ops : Array Oper} {Post : St → Prop} {E : Env} {Q : Exit → Act → World → Prop} : ∀ (l : List Oper) (fr : Nat) (σ : St) (a : Act) (w : World), (∀ o ∈ l, ∀ t, o.dst = some t → t < E.m) → σ.free fr → SeqGo P ops Post l fr σ → R E σ a.tmps w →
    (∀ σ' a' w', Post σ' → σ'.free (fr + 8 * l.length) → a'.defers = a.defers → R E σ' a'.tmps w' → Q .normal a' w') → wpList P ops Q l a w
  | [], fr, σ, a, w, _, hf, h, hR, hQ => hQ σ a w h hf rfl hR
  | o :: rest, fr, σ, a, w, hd, hf, h, hR, hQ => by
    unfold wpList
    rcases h with ⟨d, W, hs, hr⟩ | ⟨ι, C, d, W, hg, hs, hr⟩
    case inr =>
      rw [if_pos (by simp [Region.wanted, hg])]
      refine .inl (Oper.wp_mono (fun a' w' h => ?_) (hs E σ a w (fun _ _ h => h) (fun _ _ h => h) hf.1 (fun k hk _ => hf.2 k hk) (hd o (by simp)) hR Q))
      obtain ⟨he, i, hi, hR'⟩ := h
      exact SeqGo.run rest (fr + 8) _ a' w' (fun o ho => hd o (by simp [ho])) (St.free_upd hf _ _ _) (hr i hi) hR' (fun σ' a'' w'' hp hf' he' hR'' => hQ σ' a'' w'' hp (by rw [List.length_cons, show fr + 8 * (rest.length + 1) = fr + 8 + 8 * rest.length by omega]; exact hf') (he'.trans he) hR'')
    exact hs.run (fun _ _ h => h) (fun _ _ h => h) hf.1 (fun k hk _ => hf.2 k hk) (hd o (by simp)) hR _ _ (fun a' w' he hR' =>
      SeqGo.run rest (fr + 8) _ a' w' (fun o ho => hd o (by simp [ho])) (St.free_upd hf _ _ _) hr hR' (fun σ' a'' w'' hp hf' he' hR'' => hQ σ' a'' w'' hp (by rw [List.length_cons, show fr + 8 * (rest.length + 1) = fr + 8 + 8 * rest.length by omega]; exact hf') (he'.trans he) hR''))

/-! ### Code -/
def AWp (P : Program) (E : Env) (c : Code) (Q : Exit → St → Prop) (σ : St) : Prop :=
  ∀ a w, a.defers = [] → R E σ a.tmps w → c.wp P (fun e a' w' => a'.defers = [] ∧ ∃ σ', Q e σ' ∧ R E σ' a'.tmps w') a w
def Ent (E : Env) (σ σ' : St) : Prop := ∀ tm w, R E σ tm w → R E σ' tm w

def ThenQ (K : St → Prop) (Q : Exit → St → Prop) : Exit → St → Prop
  | .normal, σ => K σ
  | e, σ => Q e σ
def BlockQ (id : Nat) (Q : Exit → St → Prop) : Exit → St → Prop
  | .exit id', σ => if id' = id then Q .normal σ else Q (.exit id') σ
  | e, σ => Q e σ
def LoopQ {ι : Type} (I : ι → St) (C : ι → Prop) (μ : ι → Nat) (E : Env) (i : ι) (Q : Exit → St → Prop) : Exit → St → Prop
  | .normal, σ => ∃ j, C j ∧ μ j < μ i ∧ Ent E σ (I j)
  | e, σ => Q e σ

section
variable {P : Program} {E : Env} {Q : Exit → St → Prop} {σ : St}
theorem aw_seq {x y : Code} (h : AWp P E x (ThenQ (AWp P E y Q) Q) σ) : AWp P E (.seq x y) Q σ := fun a w hd hR =>
  wp_seq (wp_mono (h a w hd hR) fun e a' w' ⟨h1, σ', h2, h3⟩ => by
    cases e with
    | normal => exact h2 a' w' h1 h3
    | _ => exact ⟨h1, σ', h2, h3⟩)
theorem aw_skip (h : Q .normal σ) : AWp P E .skip Q σ := fun _ _ hd hR => wp_skip ⟨hd, σ, h, hR⟩
theorem aw_exit {id : Nat} (h : Q (.exit id) σ) : AWp P E (.exit id) Q σ := fun _ _ hd hR => wp_exit ⟨hd, σ, h, hR⟩
theorem aw_ret (h : Q .ret σ) : AWp P E .ret Q σ := fun _ _ hd hR => wp_ret ⟨hd, σ, h, hR⟩
theorem aw_cond {c : Operand} {x y : Code} {b : Bool} (hc : σ.ev c = some (.t (.v (.bool b)))) (ht : b = true → AWp P E x Q σ) (hf : b = false → AWp P E y Q σ) : AWp P E (.cond c x y) Q σ := fun a w hd hR => by
  have he : a.eval c = .bool b := by
    obtain ⟨ν, G, I⟩ := hR
    exact bool_of (I.ev hc)
  exact wp_cond_split he (fun hb => ht hb a w hd hR) (fun hb => hf hb a w hd hR)
theorem aw_block {id : Nat} {c : Code} (h : AWp P E c (BlockQ id Q) σ) : AWp P E (.block id c) Q σ := fun a w hd hR =>
  wp_block (wp_mono (h a w hd hR) fun e a' w' ⟨h1, σ', h2, h3⟩ => by
    cases e with
    | exit id' =>
      simp only [BlockQ] at h2
      simp only [Exit.inBlock]
      split
      · rename_i hi; rw [if_pos hi] at h2; exact ⟨h1, σ', h2, h3⟩
      · rename_i hi; rw [if_neg hi] at h2; exact ⟨h1, σ', h2, h3⟩
    | _ => exact ⟨h1, σ', h2, h3⟩)
theorem aw_loop {ι : Type} {c : Code} (I : ι → St) (C : ι → Prop) (μ : ι → Nat) (i0 : ι) (h0 : Ent E σ (I i0)) (hC : C i0) (round : ∀ i, C i → AWp P E c (LoopQ I C μ E i Q) (I i)) : AWp P E (.loop c) Q σ := fun a w hd hR b k cs => by
  have key : ∀ n i, μ i = n → C i → ∀ a w, a.defers = [] → R E (I i) a.tmps w → ∃ e a' w', (a'.defers = [] ∧ ∃ σ', Q e σ' ∧ R E σ' a'.tmps w') ∧ Arrives P (lone (b.at a (.code c :: .inLoop c :: k)) cs w) b k cs e a' w' := by
    intro n
    induction n using Nat.strongRecOn with
    | _ n ih =>
      intro i hn hi a w hd hR
      obtain ⟨e, a₁, w₁, ⟨h1, σ', h2, h3⟩, harr⟩ := round i hi a w hd hR b (.inLoop c :: k) cs
      cases e with
      | normal =>
        obtain ⟨j, hj, hlt, hE⟩ := h2
        obtain ⟨e₂, a₂, w₂, hq₂, harr₂⟩ := ih (μ j) (hn ▸ hlt) j rfl hj a₁ w₁ h1 (hE _ _ h3)
        exact ⟨e₂, a₂, w₂, hq₂, .of_steps (Steps.trans harr (.one step_inLoop)) harr₂⟩
      | exit id => exact ⟨_, a₁, w₁, ⟨h1, σ', h2, h3⟩, .pass (x := .inLoop c) rfl (fun _ _ => .inl (by simp)) harr⟩
      | goto l => exact ⟨_, a₁, w₁, ⟨h1, σ', h2, h3⟩, .pass (x := .inLoop c) rfl (fun _ _ => .inl (by simp)) harr⟩
      | ret => exact ⟨_, a₁, w₁, ⟨h1, σ', h2, h3⟩, .pass (x := .inLoop c) rfl (fun _ _ => .inl (by simp)) harr⟩
      | panic ch => exact ⟨_, a₁, w₁, ⟨h1, σ', h2, h3⟩, .pass (x := .inLoop c) rfl (fun _ _ => .inl (by simp)) harr⟩
      | outgrown => exact ⟨_, a₁, w₁, ⟨h1, σ', h2, h3⟩, .pass (x := .inLoop c) rfl (fun _ _ => .inl (by simp)) harr⟩
  obtain ⟨e, a', w', hq, harr⟩ := key _ i0 rfl hC a w hd (h0 _ _ hR)
  exact ⟨e, a', w', hq, .of_steps (.one step_loop) harr⟩
theorem aw_region {id : Nat} {l : List Oper} {T : Nat → Option D} {H : Nat → Option AObj} {N M : Nat} (N' : Nat) (hE : E.m = M) (hN : 100 ≤ N) (hN' : N + 8 * l.length = N') (hm : (l.all fun o => match o.dst with | none => true | some t => decide (t < M)) = true)
    (h : SeqGo P l.toArray (fun σ' => Q .normal (mk σ'.T σ'.H N')) l N (mk T H N)) : AWp P E (.region id l.toArray false) Q (mk T H N) := fun a w hd hR =>
  wp_region_lit (SeqGo.run l N (mk T H N) a w (fun o ho t ht => by have := List.all_eq_true.1 hm o ho; rw [ht] at this; rw [hE]; exact of_decide_eq_true this) (mk_free hN) h hR
    (fun σ' a' w' hp hf he hR' => ⟨he.trans hd, _, hp, hR'.bound (by rw [← hN']; exact hf.2)⟩))
theorem sq_op {ops : Array Oper} {Post : St → Prop} {o : Oper} {rest : List Oper} {fr : Nat} {d : D} {W : Wr} (dst : Option Tmp) (fr' : Nat) (hd : o.dst = dst) (hf : fr + 8 = fr') (hg : o.guard = none) (h : OpOk P o σ fr d W) (r : SeqGo P ops Post rest fr' (σ.upd dst d W fr)) : SeqGo P ops Post (o :: rest) fr σ := by
  subst hd hf; exact .inl ⟨d, W, .inl ⟨.inl hg, h⟩, r⟩
theorem sq_any {ops : Array Oper} {Post : St → Prop} {o : Oper} {rest : List Oper} {fr : Nat} {ι : Type} {C : ι → Prop} {d : ι → D} {W : ι → Wr} (dst : Option Tmp) (fr' : Nat) (hd : o.dst = dst) (hf : fr + 8 = fr') (hg : o.guard = none) (h : OpN P o σ fr C d W) (r : ∀ i, C i → SeqGo P ops Post rest fr' (σ.upd dst (d i) (W i) fr)) : SeqGo P ops Post (o :: rest) fr σ := by
  subst hd hf; exact .inr ⟨ι, C, d, W, hg, h, r⟩
theorem sq_nil {ops : Array Oper} {Post : St → Prop} {fr : Nat} (h : Post σ) : SeqGo P ops Post [] fr σ := h
end
end Go.Ab
