/- The abstract machine: a region that draws its order. Each operation is looked at once, from what comes before it in every order. -/
import Derived.Test.YtokdclbfjlnnjaaM8
namespace Go.Ab
open Go.RowKit

abbrev Rs := List (D × Wr)
/-- The state behind those operations that S lists, the results being rs. -/
def stOf (ops : Array Oper) (fr : Nat) (S : Nat → Bool) : Nat → Rs → St → St
  | _, [], σ => σ
  | i, (d, W) :: rs, σ => stOf ops fr S (i + 1) rs (if S i then σ.upd (Region.dstOf ops i) d W (fr + 8 * i) else σ)

def keyIn (kl : List (List Nat)) (fr p k : Nat) : Bool := (kl.getD p []).contains k || (decide (fr + 8 * p ≤ k) && decide (k < fr + 8 * p + 8))
def apart (pre : List (List Nat)) (i p : Nat) : Bool := p != i && !(pre.getD i []).contains p && !(pre.getD p []).contains i
/-- What operation i may rely on. -/
def ctx (ops : Array Oper) (pre kl : List (List Nat)) (fr i : Nat) (rs : Rs) (σ : St) : St :=
  ⟨fun t => if (List.range ops.size).any (fun p => apart pre i p && (Region.dstOf ops p == some t)) = true then none else (stOf ops fr (fun j => (pre.getD i []).contains j) 0 rs σ).T t,
   fun k => if (List.range ops.size).any (fun p => apart pre i p && keyIn kl fr p k) = true then none else (stOf ops fr (fun j => (pre.getD i []).contains j) 0 rs σ).H k, σ.nm⟩

def AnyGo (P : Program) (ops : Array Oper) (pre kl : List (List Nat)) (fr : Nat) (σ : St) (Post : St → Prop) : List Oper → Nat → Rs → Prop
  | [], _, rs => Post (stOf ops fr (fun _ => true) 0 rs σ)
  | o :: rest, i, rs => ∃ d W, StepOk P ops o (ctx ops pre kl fr i rs σ) (fr + 8 * i) d W ∧ (W.all fun p => keyIn kl fr i p.1) = true ∧ AnyGo P ops pre kl fr σ Post rest (i + 1) (rs ++ [(d, W)])

def anyOk (ops : Array Oper) (pre kl : List (List Nat)) (fr m : Nat) : Bool :=
  Region.noSelect ops &&
  (List.range ops.size).all (fun i => match ops[i]? with
    | none => false
    | some o => o.after.all (fun e => !Region.binds .any e || decide (e.on < i)) && (match o.dst with | none => true | some t => decide (t < m)) &&
      (pre.getD i []).all (fun j => decide (j < i) && o.after.any (fun e => Region.binds .any e && (e.on == j || (pre.getD e.on []).contains j)))) &&
  (List.range ops.size).all (fun q => (List.range q).all fun p => (pre.getD q []).contains p ||
    ((Region.dstOf ops p).isNone || Region.dstOf ops p != Region.dstOf ops q) && (kl.getD p []).all (fun k => !keyIn kl fr q k) && (kl.getD q []).all (fun k => !keyIn kl fr p k))

structure AnyFacts (ops : Array Oper) (pre kl : List (List Nat)) (fr m : Nat) : Prop where
  sel : Region.noSelect ops = true
  back : ∀ (i : Nat) (o : Oper), ops[i]? = some o → ∀ e ∈ o.after, Region.binds .any e = true → e.on < i
  dst : ∀ (i : Nat) (o : Oper), ops[i]? = some o → ∀ t, o.dst = some t → t < m
  prior : ∀ (i : Nat) (o : Oper), ops[i]? = some o → ∀ j ∈ pre.getD i [], j < i ∧ ∃ e ∈ o.after, Region.binds .any e = true ∧ (e.on = j ∨ j ∈ pre.getD e.on [])
  clash : ∀ p q, p < q → q < ops.size → p ∉ pre.getD q [] → (∀ t, Region.dstOf ops p = some t → Region.dstOf ops q ≠ some t) ∧ ∀ k, keyIn kl fr p k = true → keyIn kl fr q k = false

theorem anyOk_facts {ops : Array Oper} {pre kl : List (List Nat)} {fr m : Nat} (h : anyOk ops pre kl fr m = true) : AnyFacts ops pre kl fr m := by
  unfold anyOk at h
  simp only [Bool.and_eq_true] at h
  obtain ⟨⟨h1, h3⟩, h4⟩ := h
  have lt : ∀ {i : Nat} {o : Oper}, ops[i]? = some o → i < ops.size := fun ho => (Array.getElem?_eq_some_iff.1 ho).1
  have e3 : ∀ (i : Nat) (o : Oper), ops[i]? = some o → _ := fun i o ho => by
    have := List.all_eq_true.1 h3 i (List.mem_range.2 (lt ho))
    simp only [ho, Bool.and_eq_true] at this
    exact this
  refine ⟨h1, fun i o ho e he hb => ?_, fun i o ho t ht => ?_, fun i o ho j hj => ?_, fun p q hpq hq hnp => ?_⟩
  · have := (Array.all_eq_true_iff_forall_mem.1 (e3 i o ho).1.1) e he
    simpa [hb] using this
  · have := (e3 i o ho).1.2
    rw [ht] at this
    exact of_decide_eq_true this
  · have := List.all_eq_true.1 (e3 i o ho).2 j hj
    simp only [Bool.and_eq_true, decide_eq_true_eq] at this
    refine ⟨this.1, ?_⟩
    obtain ⟨e, he, hb⟩ := Array.any_eq_true'.1 this.2
    simp only [Bool.and_eq_true, Bool.or_eq_true, beq_iff_eq, List.contains_iff_mem] at hb
    exact ⟨e, he, hb.1, hb.2⟩
  · have := List.all_eq_true.1 (List.all_eq_true.1 h4 q (List.mem_range.2 hq)) p (List.mem_range.2 hpq)
    simp only [Bool.or_eq_true, List.contains_iff_mem, Bool.and_eq_true] at this
    rcases this with h | ⟨⟨h1, h2⟩, h3⟩
    · exact absurd h hnp
    · refine ⟨fun t ht he => ?_, fun k hk => ?_⟩
      · rw [ht, he] at h1
        simp at h1
      · rw [Bool.eq_false_iff]
        intro hkq
        have hk' := hk
        have hkq' := hkq
        simp only [keyIn, Bool.or_eq_true, List.contains_iff_mem, Bool.and_eq_true, decide_eq_true_eq] at hk' hkq'
        rcases hk' with hk' | hk'
        · have := List.all_eq_true.1 h2 k hk'
          simp [hkq] at this
        · rcases hkq' with hkq' | hkq'
          · have := List.all_eq_true.1 h3 k hkq'
            simp [hk] at this
          · omega

section
variable {ops : Array Oper} {pre kl : List (List Nat)} {fr m : Nat} {listed : Array Bool}
theorem AnyFacts.on_pre (F : AnyFacts ops pre kl fr m) (h : Downs ops listed) : ∀ (i j : Nat), On listed i → j ∈ pre.getD i [] → On listed j := by
  intro i
  induction i using Nat.strongRecOn with
  | _ i ih =>
    intro j hi hj
    have hlt := On.lt h hi
    have ho : ops[i]? = some ops[i] := by simp [hlt]
    obtain ⟨_, e, he, hb, hc⟩ := F.prior i _ ho j hj
    have hon := h.down i _ hi ho e he hb
    rcases hc with hc | hc
    · exact hc ▸ hon
    · exact ih e.on (F.back i _ ho e he hb) j hon hc
theorem AnyFacts.ready_pre (F : AnyFacts ops pre kl fr m) (h : Downs ops listed) {i j : Nat} (hr : i ∈ Region.ready .any ops listed) (hj : j ∈ pre.getD i []) : On listed j := by
  obtain ⟨h0, o, ho, hall⟩ := mem_ready.1 hr
  obtain ⟨_, e, he, hb, hc⟩ := F.prior i o ho j hj
  rcases hc with hc | hc
  · exact hc ▸ hall e he hb
  · exact F.on_pre h e.on j (hall e he hb) hc
theorem AnyFacts.least (F : AnyFacts ops pre kl fr m) (h : Downs ops listed) : ∀ i, i < ops.size → ¬ On listed i → ∃ k, k ≤ i ∧ k ∈ Region.ready .any ops listed := by
  intro i
  induction i using Nat.strongRecOn with
  | _ i ih =>
    intro hlt hi
    by_cases hex : ∃ j, j < i ∧ ¬ On listed j
    · obtain ⟨j, hj, hn⟩ := hex
      obtain ⟨k, hk, hr⟩ := ih j hj (by omega) hn
      exact ⟨k, by omega, hr⟩
    · have ho : ops[i]? = some ops[i] := by simp [hlt]
      refine ⟨i, Nat.le_refl _, mem_ready.2 ⟨(not_on h.sz hlt).1 hi, _, ho, fun e he hb => ?_⟩⟩
      have := F.back i _ ho e he hb
      exact Classical.not_not.1 fun hn => hex ⟨e.on, this, hn⟩
end

/-! ### The state behind a set of operations -/
theorem St.ext' {σ σ' : St} (h1 : ∀ t, σ.T t = σ'.T t) (h2 : ∀ k, σ.H k = σ'.H k) (h3 : ∀ k, σ.nm k = σ'.nm k) : σ = σ' := by
  cases σ; cases σ'
  simp only [St.mk.injEq]
  exact ⟨funext h1, funext h2, funext h3⟩
theorem look_none_of {W : Wr} {k : Nat} {f : Nat → Bool} (h : (W.all fun p => f p.1) = true) (hk : f k = false) : look k W = none := by
  cases hl : look k W with
  | none => rfl
  | some x =>
    have := List.all_eq_true.1 h _ (look_mem hl)
    simp only at this
    rw [hk] at this
    cases this
theorem upd_comm {σ : St} {t1 t2 : Option Tmp} {d1 d2 : D} {W1 W2 : Wr} {f1 f2 : Nat} (ht : ∀ t, t1 = some t → t2 ≠ some t) (hW : ∀ k, look k W1 = none ∨ look k W2 = none) : (σ.upd t1 d1 W1 f1).upd t2 d2 W2 f2 = (σ.upd t2 d2 W2 f2).upd t1 d1 W1 f1 := by
  refine St.ext' (fun t => ?_) (fun k => ?_) (fun k => ?_)
  · simp only [St.upd]
    by_cases h2 : t2 = some t
    · rw [if_pos h2, if_neg (fun h1 => ht t h1 h2)]
      simp [h2]
    · rw [if_neg h2]
      by_cases h1 : t1 = some t
      · rw [if_pos h1, if_pos h1]
      · rw [if_neg h1, if_neg h1, if_neg h2]
  · simp only [St.upd]
    rcases hW k with h | h
    · simp only [h]
    · simp only [h]
  · simp only [St.upd]
    cases σ.nm k <;> simp [Bool.or_comm]

section
variable {ops : Array Oper} {pre kl : List (List Nat)} {fr : Nat}
theorem stOf_upd (S : Nat → Bool) {i : Nat} {d : D} {W : Wr} (hW : (W.all fun p => keyIn kl fr i p.1) = true) : ∀ (rs : Rs) (j : Nat) (σ : St), (∀ (q : Nat) (d' : D) (W' : Wr), rs[q]? = some (d', W') → (W'.all fun p => keyIn kl fr (j + q) p.1) = true) →
    (∀ q, q < rs.length → S (j + q) = true → (∀ t, Region.dstOf ops i = some t → Region.dstOf ops (j + q) ≠ some t) ∧ ∀ k, keyIn kl fr i k = true → keyIn kl fr (j + q) k = false) →
    stOf ops fr S j rs (σ.upd (Region.dstOf ops i) d W (fr + 8 * i)) = (stOf ops fr S j rs σ).upd (Region.dstOf ops i) d W (fr + 8 * i)
  | [], _, _, _, _ => rfl
  | (d', W') :: rs, j, σ, hk, hc => by
    have hk' := hk 0 d' W' rfl
    rw [Nat.add_zero] at hk'
    have rec_ := fun σ => stOf_upd (d := d) S hW rs (j + 1) σ (fun q d'' W'' h => by have := hk (q + 1) d'' W'' (by simpa using h); rwa [show j + (q + 1) = j + 1 + q by omega] at this)
      (fun q hq hS => by have := hc (q + 1) (by simpa using hq) (by rw [show j + (q + 1) = j + 1 + q by omega]; exact hS); rwa [show j + (q + 1) = j + 1 + q by omega] at this)
    unfold stOf
    by_cases hS : S j = true
    · obtain ⟨c1, c2⟩ := hc 0 (by simp) (by simpa using hS)
      rw [Nat.add_zero] at c1 c2
      simp only [hS, if_true]
      rw [upd_comm c1 (fun k => ?_)]
      · exact rec_ _
      · by_cases hki : keyIn kl fr i k = true
        · exact .inr (look_none_of hk' (c2 k hki))
        · exact .inl (look_none_of hW (by simpa using hki))
    · simp only [hS, if_false, Bool.false_eq_true]
      exact rec_ σ

/-- One operation more. -/
theorem stOf_insert {S S' : Nat → Bool} {i : Nat} (hi : S i = false) (hi' : S' i = true) (hS : ∀ j, j ≠ i → S' j = S j) : ∀ (rs : Rs) (j : Nat) (σ : St), j ≤ i → ∀ d W, rs[i - j]? = some (d, W) →
    (∀ (q : Nat) (d' : D) (W' : Wr), rs[q]? = some (d', W') → (W'.all fun p => keyIn kl fr (j + q) p.1) = true) →
    (∀ p, i < p → p < j + rs.length → S p = true → (∀ t, Region.dstOf ops i = some t → Region.dstOf ops p ≠ some t) ∧ ∀ k, keyIn kl fr i k = true → keyIn kl fr p k = false) →
    stOf ops fr S' j rs σ = (stOf ops fr S j rs σ).upd (Region.dstOf ops i) d W (fr + 8 * i)
  | [], _, _, _, _, _, h, _, _ => by simp at h
  | (d', W') :: rs, j, σ, hj, d, W, h, hk, hc => by
    have hk2 : ∀ (q : Nat) (d'' : D) (W'' : Wr), rs[q]? = some (d'', W'') → (W''.all fun p => keyIn kl fr (j + 1 + q) p.1) = true := fun q d'' W'' h => by have := hk (q + 1) d'' W'' (by simpa using h); rwa [show j + (q + 1) = j + 1 + q by omega] at this
    unfold stOf
    by_cases e : j = i
    · subst e
      simp only [Nat.sub_self, List.getElem?_cons_zero, Option.some.injEq, Prod.mk.injEq] at h
      obtain ⟨rfl, rfl⟩ := h
      simp only [hi, hi', if_true, if_false, Bool.false_eq_true]
      have hsame : ∀ (rs : Rs) (q : Nat) (σ : St), j < q → stOf ops fr S' q rs σ = stOf ops fr S q rs σ := by
        intro rs
        induction rs with
        | nil => intro q σ _; rfl
        | cons r rs ih => intro q σ hq; unfold stOf; rw [hS q (by omega)]; exact ih _ _ (by omega)
      rw [hsame rs (j + 1) _ (by omega)]
      have hk0 := hk 0 d' W' rfl
      rw [Nat.add_zero] at hk0
      exact stOf_upd S hk0 rs (j + 1) σ hk2 (fun q hq hSq => hc (j + 1 + q) (by omega) (by simp; omega) hSq)
    · rw [hS j e]
      refine stOf_insert hi hi' hS rs (j + 1) _ (by omega) d W ?_ hk2 (fun p h1 h2 h3 => hc p h1 (by simp; omega) h3)
      rw [show i - j = (i - (j + 1)) + 1 by omega] at h
      simpa using h

theorem stOf_T {S S' : Nat → Bool} {t : Nat} : ∀ (rs : Rs) (j : Nat) (σ σ' : St), σ.T t = σ'.T t → (∀ q, q < rs.length → Region.dstOf ops (j + q) = some t → S (j + q) = S' (j + q)) → (stOf ops fr S j rs σ).T t = (stOf ops fr S' j rs σ').T t
  | [], _, _, _, h, _ => h
  | (d, W) :: rs, j, σ, σ', h, hq => by
    unfold stOf
    refine stOf_T rs (j + 1) _ _ ?_ (fun q h1 h2 => by have := hq (q + 1) (by simpa using h1) (by rw [show j + (q + 1) = j + 1 + q by omega]; exact h2); rwa [show j + (q + 1) = j + 1 + q by omega] at this)
    by_cases hd : Region.dstOf ops j = some t
    · have := hq 0 (by simp) (by simpa using hd)
      rw [Nat.add_zero] at this
      rw [this]
      split
      · simp [St.upd, hd]
      · exact h
    · split <;> split <;> simp [St.upd, hd, h]
theorem stOf_H {S S' : Nat → Bool} {k : Nat} : ∀ (rs : Rs) (j : Nat) (σ σ' : St), σ.H k = σ'.H k → (∀ (q : Nat) (d' : D) (W' : Wr), rs[q]? = some (d', W') → (W'.all fun p => keyIn kl fr (j + q) p.1) = true) → (∀ q, q < rs.length → keyIn kl fr (j + q) k = true → S (j + q) = S' (j + q)) → (stOf ops fr S j rs σ).H k = (stOf ops fr S' j rs σ').H k
  | [], _, _, _, h, _, _ => h
  | (d, W) :: rs, j, σ, σ', h, hk, hq => by
    unfold stOf
    refine stOf_H rs (j + 1) _ _ ?_ (fun q d'' W'' h => by have := hk (q + 1) d'' W'' (by simpa using h); rwa [show j + (q + 1) = j + 1 + q by omega] at this)
      (fun q h1 h2 => by have := hq (q + 1) (by simpa using h1) (by rw [show j + (q + 1) = j + 1 + q by omega]; exact h2); rwa [show j + (q + 1) = j + 1 + q by omega] at this)
    have hk0 := hk 0 d W rfl
    rw [Nat.add_zero] at hk0
    by_cases hd : keyIn kl fr j k = true
    · have := hq 0 (by simp) (by simpa using hd)
      rw [Nat.add_zero] at this
      rw [this]
      split
      · simp only [St.upd]; rw [h]
      · exact h
    · have hl := look_none_of hk0 (by simpa using hd : keyIn kl fr j k = false)
      split <;> split <;> simp [St.upd, hl, h]
theorem stOf_nm {S : Nat → Bool} : ∀ (rs : Rs) (j : Nat) (σ : St) (k : Nat), σ.nm k = false → (∀ q, q < rs.length → S (j + q) = true → ¬ (fr + 8 * (j + q) ≤ k ∧ k < fr + 8 * (j + q) + 8)) → (stOf ops fr S j rs σ).nm k = false
  | [], _, _, _, h, _ => h
  | (d, W) :: rs, j, σ, k, h, hq => by
    unfold stOf
    refine stOf_nm rs (j + 1) _ k ?_ (fun q h1 h2 => by have := hq (q + 1) (by simpa using h1) (by rw [show j + (q + 1) = j + 1 + q by omega]; exact h2); rwa [show j + (q + 1) = j + 1 + q by omega] at this)
    split
    · rename_i hS
      have := hq 0 (by simp) (by simpa using hS)
      rw [Nat.add_zero] at this
      simp only [St.upd, h, Bool.false_or]
      rw [Bool.eq_false_iff]
      simp only [ne_eq, Bool.and_eq_true, decide_eq_true_eq]
      exact this
    · exact h

theorem AnyGo.all {P : Program} {σ : St} {Post : St → Prop} : ∀ (l : List Oper) (i : Nat) (rs : Rs), i = rs.length → (∀ (q : Nat) (d : D) (W : Wr), rs[q]? = some (d, W) → (W.all fun p => keyIn kl fr q p.1) = true) → AnyGo P ops pre kl fr σ Post l i rs →
    ∃ all : Rs, all.length = rs.length + l.length ∧ (∀ (q : Nat) (d : D) (W : Wr), all[q]? = some (d, W) → (W.all fun p => keyIn kl fr q p.1) = true) ∧ (∀ q, q < rs.length → all[q]? = rs[q]?) ∧ Post (stOf ops fr (fun _ => true) 0 all σ) ∧
      ∀ (q : Nat) (o : Oper), l[q]? = some o → ∃ d W, all[i + q]? = some (d, W) ∧ StepOk P ops o (ctx ops pre kl fr (i + q) (all.take (i + q)) σ) (fr + 8 * (i + q)) d W
  | [], i, rs, hi, hk, h => ⟨rs, by simp, hk, fun _ _ => rfl, h, fun q o h => by simp at h⟩
  | o :: rest, i, rs, hi, hk, h => by
    obtain ⟨d, W, h1, h2, h3⟩ := h
    obtain ⟨all, a1, a2, a3, a4, a5⟩ := AnyGo.all rest (i + 1) (rs ++ [(d, W)]) (by simp [hi]) (fun q d' W' hq => by
      rcases Nat.lt_trichotomy q rs.length with hlt | heq | hgt
      · rw [List.getElem?_append_left hlt] at hq; exact hk q d' W' hq
      · subst heq
        simp at hq
        obtain ⟨rfl, rfl⟩ := hq
        rw [← hi]; exact h2
      · rw [List.getElem?_eq_none (by simp; omega)] at hq; cases hq) h3
    have hat : all[i]? = some (d, W) := by
      rw [a3 i (by simp [hi]), hi]
      simp
    refine ⟨all, by rw [a1]; simp; omega, a2, fun q hq => by rw [a3 q (by simp; omega), List.getElem?_append_left hq], a4, fun q o' hq => ?_⟩
    cases q with
    | zero =>
      simp at hq
      subst hq
      have htake : all.take i = rs := by
        apply List.ext_getElem?
        intro q
        rw [List.getElem?_take]
        by_cases hlt : q < i
        · rw [if_pos hlt, a3 q (by simp; omega), List.getElem?_append_left (by omega)]
        · rw [if_neg hlt, List.getElem?_eq_none (by omega)]
      refine ⟨d, W, hat, ?_⟩
      rw [Nat.add_zero, htake]
      exact h1
    | succ q =>
      obtain ⟨d', W', h4, h5⟩ := a5 q o' (by simpa using hq)
      rw [show i + 1 + q = i + (q + 1) by omega] at h4 h5
      exact ⟨d', W', h4, h5⟩

theorem stOf_take {S : Nat → Bool} {n : Nat} (hS : ∀ q, n ≤ q → S q = false) : ∀ (rs : Rs) (j : Nat) (σ : St), stOf ops fr S j (rs.take (n - j)) σ = stOf ops fr S j rs σ
  | [], _, _ => by simp
  | (d, W) :: rs, j, σ => by
    by_cases h : j < n
    · rw [show n - j = (n - (j + 1)) + 1 by omega, List.take_succ_cons]
      unfold stOf
      exact stOf_take hS rs (j + 1) _
    · have hnone : ∀ (rs : Rs) (q : Nat) (σ : St), n ≤ q → stOf ops fr S q rs σ = σ := by
        intro rs
        induction rs with
        | nil => intro q σ _; rfl
        | cons r rs ih => intro q σ hq; unfold stOf; rw [hS q hq]; exact ih _ _ (by omega)
      rw [hnone _ _ _ (by omega), hnone _ _ _ (by omega)]

theorem run_any {P : Program} {E : Env} {σ : St} {all : Rs} {Q : Exit → Act → World → Prop} {m : Nat} (F : AnyFacts ops pre kl fr m) (hm : E.m = m) (h100 : 100 ≤ fr) (hfree : ∀ k, fr ≤ k → σ.nm k = false) (hlen : all.length = ops.size)
    (hk : ∀ (q : Nat) (d : D) (W : Wr), all[q]? = some (d, W) → (W.all fun p => keyIn kl fr q p.1) = true)
    (hstep : ∀ (q : Nat) (o : Oper), ops[q]? = some o → ∃ d W, all[q]? = some (d, W) ∧ StepOk P ops o (ctx ops pre kl fr q (all.take q) σ) (fr + 8 * q) d W)
    {a0 : Act} (hQ : ∀ a' w', a'.defers = a0.defers → R E (stOf ops fr (fun _ => true) 0 all σ) a'.tmps w' → Q .normal a' w') :
    ∀ (fuel : Nat) (listed : Array Bool) (a : Act) (w : World), Downs ops listed → unl ops.size listed ≤ fuel → a.defers = a0.defers → R E (stOf ops fr (fun j => listed.getD j false) 0 all σ) a.tmps w → wpAny P .any ops Q fuel listed a w := by
  have hfin : ∀ (listed : Array Bool) (a : Act) (w : World), (∀ j, j < ops.size → On listed j) → a.defers = a0.defers → R E (stOf ops fr (fun j => listed.getD j false) 0 all σ) a.tmps w → Q .normal a w := fun listed a w hall hd hR => by
    refine hQ a w hd ?_
    have : stOf ops fr (fun j => listed.getD j false) 0 all σ = stOf ops fr (fun _ => true) 0 all σ := by
      have gen : ∀ (rs : Rs) (j : Nat) (σ : St), j + rs.length ≤ ops.size → stOf ops fr (fun j => listed.getD j false) j rs σ = stOf ops fr (fun _ => true) j rs σ := by
        intro rs
        induction rs with
        | nil => intro j σ _; rfl
        | cons r rs ih =>
          intro j σ hj
          unfold stOf
          have := hall j (by simp at hj; omega)
          unfold On at this
          rw [this]
          exact ih _ _ (by simp at hj; omega)
      exact gen all 0 σ (by omega)
    rw [← this]
    exact hR
  intro fuel
  induction fuel with
  | zero =>
    intro listed a w hd hf hdf hR
    have hall : ∀ j, j < ops.size → On listed j := fun j hj => Classical.not_not.1 fun hn => by
      have := unl_pos hj ((not_on hd.sz hj).1 hn)
      omega
    refine ⟨List.eq_nil_iff_forall_not_mem.2 fun j hj => ?_, hfin listed a w hall hdf hR⟩
    obtain ⟨h0, o, ho, _⟩ := mem_ready.1 hj
    have hlt := (Array.getElem?_eq_some_iff.1 ho).1
    exact (not_on hd.sz hlt).2 h0 (hall j hlt)
  | succ fuel ih =>
    intro listed a w hd hf hdf hR
    refine ⟨fun hr => ?_, fun i hi => ?_⟩
    · refine hfin listed a w (fun j hj => Classical.not_not.1 fun hn => ?_) hdf hR
      obtain ⟨k, _, hk'⟩ := F.least hd j hj hn
      rw [hr] at hk'
      cases hk'
    · obtain ⟨h0, o, ho, _⟩ := mem_ready.1 hi
      have hin := (Array.getElem?_eq_some_iff.1 ho).1
      have hni : ¬ On listed i := (not_on hd.sz hin).2 h0
      have hdst : Region.dstOf ops i = o.dst := by simp [Region.dstOf, ho]
      obtain ⟨d, W, hat, hs⟩ := hstep i o ho
      have hpre : ∀ j ∈ pre.getD i [], On listed j := fun j hj => F.ready_pre hd hi hj
      -- writers of what i may rely on
      have hap : ∀ p, p < ops.size → apart pre i p = false → On listed p → p ∈ pre.getD i [] := fun p hp hap hon => by
        have hpi : p ≠ i := fun e => hni (e ▸ hon)
        simp only [apart, Bool.and_eq_false_iff, bne_eq_false_iff_eq, Bool.not_eq_false', List.contains_iff_mem] at hap
        rcases hap with (h | h) | h
        · exact absurd h hpi
        · exact h
        · exact absurd (F.on_pre hd p i hon h) hni
      have hSpre : (fun j => (pre.getD i []).contains j) = fun j => (pre.getD i []).contains j := rfl
      have htake : stOf ops fr (fun j => (pre.getD i []).contains j) 0 (all.take i) σ = stOf ops fr (fun j => (pre.getD i []).contains j) 0 all σ := by
        have := stOf_take (ops := ops) (fr := fr) (S := fun j => (pre.getD i []).contains j) (n := i) (fun q hq => by
          rw [Bool.eq_false_iff]
          intro hc
          have := (F.prior i o ho q (List.contains_iff_mem.1 hc)).1
          omega) all 0 σ
        simpa using this
      have hsame : ∀ p, p < ops.size → (apart pre i p = false) → listed.getD p false = (pre.getD i []).contains p := fun p hp hq => by
        rw [Bool.eq_iff_iff, List.contains_iff_mem]
        exact ⟨fun h => hap p hp hq h, fun h => hpre p h⟩
      have hT : ∀ t d, (ctx ops pre kl fr i (all.take i) σ).T t = some d → (stOf ops fr (fun j => listed.getD j false) 0 all σ).T t = some d := fun t d' h => by
        simp only [ctx] at h
        split at h
        · cases h
        · rename_i hno
          rw [htake] at h
          rw [← h]
          refine stOf_T all 0 σ σ rfl (fun q hq hqd => ?_)
          rw [Nat.zero_add] at hqd ⊢
          refine hsame q (by omega) ?_
          rw [Bool.eq_false_iff]
          intro hap'
          exact hno (List.any_eq_true.2 ⟨q, List.mem_range.2 (by omega), by simp [hap', hqd]⟩)
      have hH : ∀ k o', (ctx ops pre kl fr i (all.take i) σ).H k = some o' → (stOf ops fr (fun j => listed.getD j false) 0 all σ).H k = some o' := fun k o' h => by
        simp only [ctx] at h
        split at h
        · cases h
        · rename_i hno
          rw [htake] at h
          rw [← h]
          refine stOf_H (kl := kl) all 0 σ σ rfl (fun q d' W' hq => by rw [Nat.zero_add]; exact hk q d' W' hq) (fun q hq hqk => ?_)
          rw [Nat.zero_add] at hqk ⊢
          refine hsame q (by omega) ?_
          rw [Bool.eq_false_iff]
          intro hap'
          exact hno (List.any_eq_true.2 ⟨q, List.mem_range.2 (by omega), by simp [hap', hqk]⟩)
      have hnm : ∀ k, fr + 8 * i ≤ k → k < fr + 8 * i + 8 → (stOf ops fr (fun j => listed.getD j false) 0 all σ).nm k = false := fun k h1 h2 => by
        refine stOf_nm all 0 σ k (hfree k (by omega)) (fun q hq hS h => ?_)
        rw [Nat.zero_add] at hS h
        have : q = i := by omega
        subst this
        exact hni hS
      have hins : stOf ops fr (fun j => (listed.setIfInBounds i true).getD j false) 0 all σ = (stOf ops fr (fun j => listed.getD j false) 0 all σ).upd o.dst d W (fr + 8 * i) := by
        rw [← hdst]
        refine stOf_insert (kl := kl) (i := i) (by simpa [On] using hni) (by simp [hd.sz, hin]) (fun j hj => getD_set_ne false (fun e => hj e.symm)) all 0 σ (Nat.zero_le _) d W (by simpa using hat) (fun q d' W' hq => by rw [Nat.zero_add]; exact hk q d' W' hq) (fun p hp1 hp2 hS => ?_)
        refine F.clash i p hp1 (by omega) (fun hip => hni (F.on_pre hd p i hS hip))
      have hop := hs.run hT hH (by omega) hnm (fun t ht => by rw [hm]; exact F.dst i o ho t ht) hR (wpAny P .any ops Q fuel (listed.setIfInBounds i true)) Q (fun a' w' hd' hR' => by
        refine ih (listed.setIfInBounds i true) a' w' (hd.set hi) ?_ (hd'.trans hdf) (by rw [hins]; exact hR')
        have := unl_set hin h0
        omega)
      unfold wpOp
      simp only [ho]
      exact hop
end

section
variable {P : Program} {E : Env} {Q : Exit → St → Prop}
theorem aw_drawn {id : Nat} {l : List Oper} {T : Nat → Option D} {H : Nat → Option AObj} {N M : Nat} (pre kl : List (List Nat)) (hmix : P.follows .mixedOrders = true) (hE : E.m = M) (hN : 100 ≤ N) (hB : anyOk l.toArray pre kl N M = true)
    (h : AnyGo P l.toArray pre kl N (mk T H N) (fun σ' => Q .normal (mk σ'.T σ'.H (N + 8 * l.length))) l 0 []) : AWp P E (.region id l.toArray true) Q (mk T H N) := by
  intro a w hd hR
  have F := anyOk_facts hB
  obtain ⟨all, a1, a2, _, a4, a5⟩ := AnyGo.all l 0 [] rfl (fun q d W hq => by simp at hq) h
  have hlen : all.length = l.toArray.size := by rw [a1]; simp
  have hbd : ∀ k, N + 8 * l.length ≤ k → (stOf l.toArray N (fun _ => true) 0 all (mk T H N)).nm k = false := fun k hk => by
    refine stOf_nm all 0 _ k (by simp; omega) (fun q hq _ h => ?_)
    rw [a1] at hq
    simp at hq
    omega
  refine wp_region_any hmix (run_any (a0 := a) (σ := mk T H N) F hE hN (fun k hk => by simp; exact hk) hlen a2 (fun q o ho => ?_) (fun a' w' hd' hR' => ⟨hd'.trans hd, _, a4, hR'.bound hbd⟩) l.toArray.size _ a _ ⟨by simp, fun i o hon => ?_⟩ (unl_new _) rfl ?_)
  · obtain ⟨d, W, h1, h2⟩ := a5 q o (by simpa using ho)
    rw [Nat.zero_add] at h1 h2
    exact ⟨d, W, h1, h2⟩
  · exfalso
    unfold On at hon
    simp [Array.getD] at hon
  · have : stOf l.toArray N (fun j => (Array.replicate l.toArray.size false).getD j false) 0 all (mk T H N) = mk T H N := by
      have gen : ∀ (rs : Rs) (j : Nat) (σ : St), stOf l.toArray N (fun j => (Array.replicate l.toArray.size false).getD j false) j rs σ = σ := by
        intro rs
        induction rs with
        | nil => intro j σ; rfl
        | cons r rs ih =>
          intro j σ
          unfold stOf
          have : (Array.replicate l.toArray.size false).getD j false = false := by simp [Array.getD]
          rw [this]
          exact ih _ _
      exact gen all 0 _
    rw [this]
    obtain ⟨ν, G, I⟩ := hR
    exact ⟨ν, G, I.aft ((Aft.refl w).drew) (fun _ _ => rfl)⟩
end

/-! ### Looking up what an operation may rely on -/
def okSrc (ops : Array Oper) (pre : List (List Nat)) (i t p : Nat) : Bool :=
  (List.range ops.size).all (fun q => !(apart pre i q) || Region.dstOf ops q != some t) && (pre.getD i []).contains p && (Region.dstOf ops p == some t) && (pre.getD i []).all (fun q => decide (q ≤ p) || Region.dstOf ops q != some t)
def okEnt (ops : Array Oper) (pre : List (List Nat)) (i t : Nat) : Bool :=
  (List.range ops.size).all (fun q => !(apart pre i q) || Region.dstOf ops q != some t) && (pre.getD i []).all (fun q => Region.dstOf ops q != some t)
def okSrcH (ops : Array Oper) (pre kl : List (List Nat)) (fr i k p : Nat) : Bool :=
  (List.range ops.size).all (fun q => !(apart pre i q) || !(keyIn kl fr q k)) && (pre.getD i []).contains p && (pre.getD i []).all (fun q => decide (q ≤ p) || !(keyIn kl fr q k))
def okEntH (ops : Array Oper) (pre kl : List (List Nat)) (fr i k : Nat) : Bool :=
  (List.range ops.size).all (fun q => !(apart pre i q) || !(keyIn kl fr q k)) && (pre.getD i []).all (fun q => !(keyIn kl fr q k))

theorem stOf_last {ops : Array Oper} {fr : Nat} {S : Nat → Bool} {t p : Nat} {d : D} {W : Wr} (hS : S p = true) (hd : Region.dstOf ops p = some t) : ∀ (rs : Rs) (j : Nat) (σ : St), j ≤ p → rs[p - j]? = some (d, W) → (∀ q, p < q → q < j + rs.length → S q = true → Region.dstOf ops q ≠ some t) →
    (stOf ops fr S j rs σ).T t = some d
  | [], _, _, _, h, _ => by simp at h
  | (d', W') :: rs, j, σ, hj, h, hq => by
    unfold stOf
    by_cases e : j = p
    · subst e
      simp only [Nat.sub_self, List.getElem?_cons_zero, Option.some.injEq, Prod.mk.injEq] at h
      obtain ⟨rfl, rfl⟩ := h
      have hno : ∀ (rs : Rs) (q : Nat) (σ : St), j < q → (∀ x, j < x → x < q + rs.length → S x = true → Region.dstOf ops x ≠ some t) → (stOf ops fr S q rs σ).T t = σ.T t := by
        intro rs
        induction rs with
        | nil => intro q σ _ _; rfl
        | cons r rs ih =>
          intro q σ hq' hx
          unfold stOf
          rw [ih (q + 1) _ (by omega) (fun x h1 h2 => hx x h1 (by simp; omega))]
          split
          · rename_i hSq
            have := hx q hq' (by simp) hSq
            simp [St.upd, this]
          · rfl
      rw [hno rs (j + 1) _ (by omega) (fun x h1 h2 => hq x h1 (by simp; omega))]
      simp [hS, St.upd, hd]
    · refine stOf_last (W := W) hS hd rs (j + 1) _ (by omega) ?_ (fun q h1 h2 => hq q h1 (by simp; omega))
      rw [show p - j = (p - (j + 1)) + 1 by omega] at h
      simpa using h
theorem stOf_none {ops : Array Oper} {fr : Nat} {S : Nat → Bool} {t : Nat} : ∀ (rs : Rs) (j : Nat) (σ : St), (∀ q, S q = true → Region.dstOf ops q ≠ some t) → (stOf ops fr S j rs σ).T t = σ.T t
  | [], _, _, _ => rfl
  | (d', W') :: rs, j, σ, hq => by
    unfold stOf
    rw [stOf_none rs (j + 1) _ hq]
    split
    · rename_i hS; simp [St.upd, hq j hS]
    · rfl
theorem stOf_lastH {ops : Array Oper} {kl : List (List Nat)} {fr : Nat} {S : Nat → Bool} {k p : Nat} {d : D} {W : Wr} {ob : AObj} (hS : S p = true) (hl : look k W = some (some ob)) : ∀ (rs : Rs) (j : Nat) (σ : St), j ≤ p → rs[p - j]? = some (d, W) →
    (∀ q, p < q → S q = true → keyIn kl fr q k = false) → (∀ (q : Nat) (d' : D) (W' : Wr), rs[q]? = some (d', W') → (W'.all fun x => keyIn kl fr (j + q) x.1) = true) → (stOf ops fr S j rs σ).H k = some ob
  | [], _, _, _, h, _, _ => by simp at h
  | (d', W') :: rs, j, σ, hj, h, hq, hk => by
    have hk2 : ∀ (q : Nat) (d'' : D) (W'' : Wr), rs[q]? = some (d'', W'') → (W''.all fun x => keyIn kl fr (j + 1 + q) x.1) = true := fun q d'' W'' h => by have := hk (q + 1) d'' W'' (by simpa using h); rwa [show j + (q + 1) = j + 1 + q by omega] at this
    unfold stOf
    by_cases e : j = p
    · subst e
      simp only [Nat.sub_self, List.getElem?_cons_zero, Option.some.injEq, Prod.mk.injEq] at h
      obtain ⟨rfl, rfl⟩ := h
      have hno : ∀ (rs : Rs) (q : Nat) (σ : St), j < q → (∀ (x : Nat) (d' : D) (W' : Wr), rs[x]? = some (d', W') → (W'.all fun y => keyIn kl fr (q + x) y.1) = true) → (stOf ops fr S q rs σ).H k = σ.H k := by
        intro rs
        induction rs with
        | nil => intro q σ _ _; rfl
        | cons r rs ih =>
          intro q σ hq' hx
          unfold stOf
          rw [ih (q + 1) _ (by omega) (fun x d'' W'' h => by have := hx (x + 1) d'' W'' (by simpa using h); rwa [show q + (x + 1) = q + 1 + x by omega] at this)]
          split
          · rename_i hSq
            have h0 := hx 0 r.1 r.2 rfl
            rw [Nat.add_zero] at h0
            have := look_none_of h0 (hq q hq' hSq)
            simp [St.upd, this]
          · rfl
      rw [hno rs (j + 1) _ (by omega) hk2]
      simp [hS, St.upd, hl]
    · refine stOf_lastH (d := d) hS hl rs (j + 1) _ (by omega) ?_ hq hk2
      rw [show p - j = (p - (j + 1)) + 1 by omega] at h
      simpa using h
theorem stOf_noneH {ops : Array Oper} {kl : List (List Nat)} {fr : Nat} {S : Nat → Bool} {k : Nat} : ∀ (rs : Rs) (j : Nat) (σ : St), (∀ q, S q = true → keyIn kl fr q k = false) → (∀ (q : Nat) (d' : D) (W' : Wr), rs[q]? = some (d', W') → (W'.all fun x => keyIn kl fr (j + q) x.1) = true) → (stOf ops fr S j rs σ).H k = σ.H k
  | [], _, _, _, _ => rfl
  | (d', W') :: rs, j, σ, hq, hk => by
    unfold stOf
    rw [stOf_noneH (kl := kl) rs (j + 1) _ hq (fun q d'' W'' h => by have := hk (q + 1) d'' W'' (by simpa using h); rwa [show j + (q + 1) = j + 1 + q by omega] at this)]
    split
    · rename_i hS
      have h0 := hk 0 d' W' rfl
      rw [Nat.add_zero] at h0
      have := look_none_of h0 (hq j hS)
      simp [St.upd, this]
    · rfl

def RsOk (kl : List (List Nat)) (fr : Nat) (rs : Rs) : Prop := ∀ (q : Nat) (d : D) (W : Wr), rs[q]? = some (d, W) → (W.all fun x => keyIn kl fr q x.1) = true
theorem ctx_T {ops : Array Oper} {pre kl : List (List Nat)} {fr i t : Nat} {rs : Rs} {σ : St} (p : Nat) {d : D} {W : Wr} (h : okSrc ops pre i t p = true) (hp : rs[p]? = some (d, W)) : (ctx ops pre kl fr i rs σ).T t = some d := by
  simp only [okSrc, Bool.and_eq_true, beq_iff_eq, List.contains_iff_mem] at h
  obtain ⟨⟨⟨h1, h2⟩, h3⟩, h4⟩ := h
  simp only [ctx]
  rw [if_neg (fun hc => by
    obtain ⟨q, hq, hq2⟩ := List.any_eq_true.1 hc
    have := List.all_eq_true.1 h1 q hq
    simp only [Bool.and_eq_true, beq_iff_eq] at hq2
    simp [hq2.1, hq2.2] at this)]
  refine stOf_last (p := p) (by rw [List.contains_iff_mem]; exact h2) h3 rs 0 σ (Nat.zero_le _) (by simpa using hp) (fun q hq _ hS hd => ?_)
  have := List.all_eq_true.1 h4 q (List.contains_iff_mem.1 hS)
  simp only [Bool.or_eq_true, decide_eq_true_eq, bne_iff_ne, ne_eq] at this
  rcases this with h | h
  · omega
  · exact h hd
theorem ctx_E {ops : Array Oper} {pre kl : List (List Nat)} {fr i t : Nat} {rs : Rs} {σ : St} {d : D} (h : okEnt ops pre i t = true) (hp : σ.T t = some d) : (ctx ops pre kl fr i rs σ).T t = some d := by
  simp only [okEnt, Bool.and_eq_true] at h
  obtain ⟨h1, h4⟩ := h
  simp only [ctx]
  rw [if_neg (fun hc => by
    obtain ⟨q, hq, hq2⟩ := List.any_eq_true.1 hc
    have := List.all_eq_true.1 h1 q hq
    simp only [Bool.and_eq_true, beq_iff_eq] at hq2
    simp [hq2.1, hq2.2] at this)]
  rw [stOf_none rs 0 σ (fun q hS hd => by
    have := List.all_eq_true.1 h4 q (List.contains_iff_mem.1 hS)
    simp [hd] at this)]
  exact hp
theorem ctx_H {ops : Array Oper} {pre kl : List (List Nat)} {fr i k : Nat} {rs : Rs} {σ : St} (p : Nat) {d : D} {W : Wr} {ob : AObj} (hr : RsOk kl fr rs) (h : okSrcH ops pre kl fr i k p = true) (hp : rs[p]? = some (d, W)) (hl : look k W = some (some ob)) : (ctx ops pre kl fr i rs σ).H k = some ob := by
  simp only [okSrcH, Bool.and_eq_true, List.contains_iff_mem] at h
  obtain ⟨⟨h1, h2⟩, h4⟩ := h
  simp only [ctx]
  rw [if_neg (fun hc => by
    obtain ⟨q, hq, hq2⟩ := List.any_eq_true.1 hc
    have := List.all_eq_true.1 h1 q hq
    simp only [Bool.and_eq_true] at hq2
    simp [hq2.1, hq2.2] at this)]
  refine stOf_lastH (kl := kl) (p := p) (by rw [List.contains_iff_mem]; exact h2) hl rs 0 σ (Nat.zero_le _) (by simpa using hp) (fun q hq hS => ?_) (fun q d' W' h => by rw [Nat.zero_add]; exact hr q d' W' h)
  have := List.all_eq_true.1 h4 q (List.contains_iff_mem.1 hS)
  simp only [Bool.or_eq_true, decide_eq_true_eq, Bool.not_eq_true'] at this
  rcases this with h | h
  · omega
  · exact h
theorem ctx_HE {ops : Array Oper} {pre kl : List (List Nat)} {fr i k : Nat} {rs : Rs} {σ : St} {ob : AObj} (hr : RsOk kl fr rs) (h : okEntH ops pre kl fr i k = true) (hp : σ.H k = some ob) : (ctx ops pre kl fr i rs σ).H k = some ob := by
  simp only [okEntH, Bool.and_eq_true] at h
  obtain ⟨h1, h4⟩ := h
  simp only [ctx]
  rw [if_neg (fun hc => by
    obtain ⟨q, hq, hq2⟩ := List.any_eq_true.1 hc
    have := List.all_eq_true.1 h1 q hq
    simp only [Bool.and_eq_true] at hq2
    simp [hq2.1, hq2.2] at this)]
  rw [stOf_noneH (kl := kl) rs 0 σ (fun q hS => by
    have := List.all_eq_true.1 h4 q (List.contains_iff_mem.1 hS)
    simpa using this) (fun q d' W' h => by rw [Nat.zero_add]; exact hr q d' W' h)]
  exact hp
theorem RsOk.nil {kl : List (List Nat)} {fr : Nat} : RsOk kl fr [] := fun q d W h => by simp at h
theorem RsOk.snoc {kl : List (List Nat)} {fr i : Nat} {rs : Rs} {d : D} {W : Wr} (h : RsOk kl fr rs) (hi : rs.length = i) (hk : (W.all fun x => keyIn kl fr i x.1) = true) : RsOk kl fr (rs ++ [(d, W)]) := fun q d' W' hq => by
  rcases Nat.lt_trichotomy q rs.length with hlt | heq | hgt
  · rw [List.getElem?_append_left hlt] at hq; exact h q d' W' hq
  · subst heq
    simp at hq
    obtain ⟨rfl, rfl⟩ := hq
    rw [hi]; exact hk
  · rw [List.getElem?_eq_none (by simp; omega)] at hq; cases hq
structure RsI (kl : List (List Nat)) (fr : Nat) (rs : Rs) (i : Nat) : Prop where
  ok : RsOk kl fr rs
  len : rs.length = i
theorem RsI.snoc {kl : List (List Nat)} {fr i : Nat} {rs : Rs} {d : D} {W : Wr} (h : RsI kl fr rs i) (hk : (W.all fun x => keyIn kl fr i x.1) = true) : RsI kl fr (rs ++ [(d, W)]) (i + 1) := ⟨h.ok.snoc h.len hk, by simp [h.len]⟩
theorem RsI.rev {kl : List (List Nat)} {fr i : Nat} {rr : Rs} (h : RsI kl fr rr.reverse i) {p q : Nat} (hpq : p + q + 1 = i) {x : D × Wr} (hp : rr[q]? = some x) : rr.reverse[p]? = some x := by
  have hl := h.len
  rw [List.length_reverse] at hl
  rw [List.getElem?_reverse (by omega), show rr.length - 1 - p = q by omega]
  exact hp
theorem ev_T {ops : Array Oper} {pre kl : List (List Nat)} {fr i t : Nat} {rr : Rs} {σ : St} {d : D} {W : Wr} (hr : RsI kl fr rr.reverse i) (p q : Nat) (hpq : p + q + 1 = i) (h : okSrc ops pre i t p = true) (hp : rr[q]? = some (d, W)) : (ctx ops pre kl fr i rr.reverse σ).ev (.tmp t) = some d := ctx_T p h (hr.rev hpq hp)
theorem ev_E {ops : Array Oper} {pre kl : List (List Nat)} {fr i t : Nat} {rs : Rs} {σ : St} {d : D} (h : okEnt ops pre i t = true) (hp : σ.T t = some d) : (ctx ops pre kl fr i rs σ).ev (.tmp t) = some d := ctx_E h hp
theorem ev_H {ops : Array Oper} {pre kl : List (List Nat)} {fr i k : Nat} {rr : Rs} {σ : St} {d : D} {W : Wr} {ob : AObj} (hr : RsI kl fr rr.reverse i) (p q : Nat) (hpq : p + q + 1 = i) (h : okSrcH ops pre kl fr i k p = true) (hp : rr[q]? = some (d, W)) (hl : look k W = some (some ob)) : (ctx ops pre kl fr i rr.reverse σ).H k = some ob := ctx_H p hr.ok h (hr.rev hpq hp) hl
section
variable {P : Program} {E : Env} {Q : Exit → St → Prop} {ops : Array Oper} {pre kl : List (List Nat)} {fr : Nat} {σ : St} {Post : St → Prop} {o : Oper} {rest : List Oper} {i : Nat} {rr : Rs}
/-- The state behind the whole region. -/
def finSt : List (Option Tmp) → Nat → Rs → St → St
  | dst :: ds, fr, (d, W) :: rs, σ => finSt ds (fr + 8) rs (σ.upd dst d W fr)
  | _, _, _, σ => σ
theorem stOf_fin {ops : Array Oper} {fr : Nat} : ∀ (ds : List (Option Tmp)) (j : Nat) (rs : Rs) (σ : St), rs.length = ds.length → (∀ q, q < ds.length → ds[q]? = some (Region.dstOf ops (j + q))) → stOf ops fr (fun _ => true) j rs σ = finSt ds (fr + 8 * j) rs σ
  | [], _, [], _, _, _ => rfl
  | [], _, _ :: _, _, h, _ => by simp at h
  | _ :: _, _, [], _, h, _ => by simp at h
  | dst :: ds, j, (d, W) :: rs, σ, h, hd => by
    have h0 := hd 0 (by simp)
    simp only [List.getElem?_cons_zero, Option.some.injEq, Nat.add_zero] at h0
    unfold stOf finSt
    rw [if_pos rfl, ← h0, stOf_fin ds (j + 1) rs _ (by simpa using h) (fun q hq => by have := hd (q + 1) (by simpa using hq); rw [show j + (q + 1) = j + 1 + q by omega] at this; simpa using this)]
    rw [show fr + 8 * (j + 1) = fr + 8 * j + 8 by omega]
theorem aw_any {id : Nat} {l : List Oper} {T : Nat → Option D} {H : Nat → Option AObj} {N M : Nat} (pre kl : List (List Nat)) (hmix : P.follows .mixedOrders = true) (hE : E.m = M) (hN : 100 ≤ N) (hB : anyOk l.toArray pre kl N M = true)
    (N' : Nat) (hN' : N + 8 * l.length = N') (h : RsI kl N ([] : Rs).reverse 0 → AnyGo P l.toArray pre kl N (mk T H N) (fun σ' => Q .normal (mk σ'.T σ'.H N')) l 0 ([] : Rs).reverse) : AWp P E (.region id l.toArray true) Q (mk T H N) :=
  aw_drawn pre kl hmix hE hN hB (by rw [hN']; exact h ⟨RsOk.nil, rfl⟩)
theorem an_op {d : D} {W : Wr} (hr : RsI kl fr rr.reverse i) (hg : o.guard = none) (f : Nat) (i' : Nat) (hf : fr + 8 * i = f) (hi : i + 1 = i') (h : OpOk P o (ctx ops pre kl fr i rr.reverse σ) f d W) (hk : (W.all fun p => keyIn kl fr i p.1) = true)
    (r : RsI kl fr ((d, W) :: rr).reverse i' → AnyGo P ops pre kl fr σ Post rest i' ((d, W) :: rr).reverse) : AnyGo P ops pre kl fr σ Post (o :: rest) i rr.reverse := by
  subst hf hi; rw [List.reverse_cons] at r; exact ⟨d, W, .inl ⟨.inl hg, h⟩, hk, r (hr.snoc hk)⟩
theorem an_on {d : D} {W : Wr} {j : Nat} {want : Bool} {t : Tmp} (hr : RsI kl fr rr.reverse i) (hg : o.guard = some (j, want)) (ht : ((ops[j]?).bind (·.dst)) = some t)
    (hv : (ctx ops pre kl fr i rr.reverse σ).T t = some (.t (.v (.bool want)))) (f : Nat) (i' : Nat) (hf : fr + 8 * i = f) (hi : i + 1 = i') (h : OpOk P o (ctx ops pre kl fr i rr.reverse σ) f d W) (hk : (W.all fun p => keyIn kl fr i p.1) = true)
    (r : RsI kl fr ((d, W) :: rr).reverse i' → AnyGo P ops pre kl fr σ Post rest i' ((d, W) :: rr).reverse) : AnyGo P ops pre kl fr σ Post (o :: rest) i rr.reverse := by
  subst hf hi; rw [List.reverse_cons] at r; exact ⟨d, W, .inl ⟨.inr ⟨j, want, t, hg, ht, hv⟩, h⟩, hk, r (hr.snoc hk)⟩
theorem an_off {d : D} {j : Nat} {want : Bool} {t : Tmp} (hr : RsI kl fr rr.reverse i) (hg : o.guard = some (j, want)) (ht : ((ops[j]?).bind (·.dst)) = some t)
    (hv : (ctx ops pre kl fr i rr.reverse σ).T t = some d) (hd : d = .tup [] ∨ d = .t (.v (.bool (!want)))) (i' : Nat) (hi : i + 1 = i')
    (r : RsI kl fr ((.tup [], []) :: rr).reverse i' → AnyGo P ops pre kl fr σ Post rest i' ((.tup [], []) :: rr).reverse) : AnyGo P ops pre kl fr σ Post (o :: rest) i rr.reverse := by
  subst hi; rw [List.reverse_cons] at r; exact ⟨.tup [], [], .inr ⟨⟨j, want, t, d, hg, ht, hv, hd⟩, rfl, rfl⟩, rfl, r (hr.snoc rfl)⟩
theorem an_nil (ds : List (Option Tmp)) (hr : RsI kl fr rr.reverse i) (hi : ds.length = i) (hds : ((List.range ds.length).all fun q => ds[q]? == some (Region.dstOf ops q)) = true) (h : Post (finSt ds fr rr.reverse σ)) : AnyGo P ops pre kl fr σ Post [] i rr.reverse := by
  show Post (stOf ops fr (fun _ => true) 0 rr.reverse σ)
  rw [stOf_fin ds 0 rr.reverse σ (by rw [hr.len, hi]) (fun q hq => by
    have := List.all_eq_true.1 hds q (List.mem_range.2 hq)
    rw [Nat.zero_add]
    simpa using this)]
  exact h
end
end Go.Ab
