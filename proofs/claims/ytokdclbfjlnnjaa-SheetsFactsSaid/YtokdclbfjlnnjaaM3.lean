/- The abstract machine: states told in other names, contracts of functions, calls. -/
import Derived.Test.YtokdclbfjlnnjaaM2
namespace Go.Ab
open Go.RowKit

/-- d may be told as d', where name k' of the latter is name ρ k' of the former. -/
inductive DLe (fl : Bool) (H : Nat → Option AObj) (nm' : Nat → Bool) (ρ : Nat → Nat) : D → D → Prop
  | t {x y : Tree} (h : x = y) : DLe fl H nm' ρ (.t x) (.t y)
  | nil : DLe fl H nm' ρ (.t (.v (.slice none 0 0))) (.t (.sl 0 []))
  | own {k k' : Nat} (h : nm' k' = true) (hk : k = ρ k') : DLe fl H nm' ρ (.own k) (.own k')
  | ref {k k' off : Nat} (h : nm' k' = true) (hk : k = ρ k') : DLe fl H nm' ρ (.ref k off) (.ref k' off)
  | rd {k n : Nat} {e : TypeId} {s : Nat} {ts ts' : List Tree} {st : Bool} (h : H k = some (.row e s n ts st)) (hst : (st || fl) = true) (ht : ts = ts') {n' : Nat} (hn : n = n') : DLe fl H nm' ρ (.own k) (.t (.sl n' ts'))
  | ptr {ts : List Tree} {off : Nat} : DLe fl H nm' ρ (.ptr ts off) (.ptr ts off)
  | agg {ds ds' : List D} (hl : ds.length = ds'.length) (h : ∀ (i : Nat) (d d' : D), ds[i]? = some d → ds'[i]? = some d' → DLe fl H nm' ρ d d') : DLe fl H nm' ρ (.agg ds) (.agg ds')
  | tup {ds ds' : List D} (hl : ds.length = ds'.length) (h : ∀ (i : Nat) (d d' : D), ds[i]? = some d → ds'[i]? = some d' → DLe fl H nm' ρ d d') : DLe fl H nm' ρ (.tup ds) (.tup ds')
  | fn {f : FuncId} {ds ds' : List D} (hl : ds.length = ds'.length) (h : ∀ (i : Nat) (d d' : D), ds[i]? = some d → ds'[i]? = some d' → DLe fl H nm' ρ d d') : DLe fl H nm' ρ (.fn f ds) (.fn f ds')
  | any {d : D} : DLe fl H nm' ρ d .any

inductive DLeL (fl : Bool) (H : Nat → Option AObj) (nm' : Nat → Bool) (ρ : Nat → Nat) : List D → List D → Prop
  | nil : DLeL fl H nm' ρ [] []
  | cons {d d' : D} {l l' : List D} (h : DLe fl H nm' ρ d d') (r : DLeL fl H nm' ρ l l') : DLeL fl H nm' ρ (d :: l) (d' :: l')
theorem DLeL.get {fl : Bool} {H : Nat → Option AObj} {nm' : Nat → Bool} {ρ : Nat → Nat} {l l' : List D} (h : DLeL fl H nm' ρ l l') : l.length = l'.length ∧ ∀ (i : Nat) (d d' : D), l[i]? = some d → l'[i]? = some d' → DLe fl H nm' ρ d d' := by
  induction h with
  | nil => exact ⟨rfl, fun i d d' h => by simp at h⟩
  | cons h r ih =>
    refine ⟨by simp [ih.1], fun i d d' hd hd' => ?_⟩
    cases i with
    | zero => simp at hd hd'; subst hd hd'; exact h
    | succ i => exact ih.2 i d d' (by simpa using hd) (by simpa using hd')
theorem DLe.agg' {fl : Bool} {H : Nat → Option AObj} {nm' : Nat → Bool} {ρ : Nat → Nat} {l l' : List D} (h : DLeL fl H nm' ρ l l') : DLe fl H nm' ρ (.agg l) (.agg l') := .agg h.get.1 h.get.2
theorem DLe.tup' {fl : Bool} {H : Nat → Option AObj} {nm' : Nat → Bool} {ρ : Nat → Nat} {l l' : List D} (h : DLeL fl H nm' ρ l l') : DLe fl H nm' ρ (.tup l) (.tup l') := .tup h.get.1 h.get.2

theorem DLe.rel {fl : Bool} {H : Nat → Option AObj} {nm nm' : Nat → Bool} {ρ : Nat → Nat} {ν ν' : Nat → Value} {w w' : World} {G G' : Lim} (hx : ∀ b i u, Cell w G b i u → Cell w' G' b i u)
    (hrow : ∀ k e s n ts st, H k = some (.row e s n ts st) → (st || fl) = true → TR w' G' (ν k) (.sl n ts)) (hν : ∀ k', nm' k' = true → nm (ρ k') = true → ν' k' = ν (ρ k')) :
    ∀ {d d' : D}, DLe fl H nm' ρ d d' → ∀ {v : Value}, DR ν nm w G v d → DR ν' nm' w' G' v d' := by
  intro d d' hd
  induction hd with
  | t h => intro v hv; subst h; cases hv with | t hv => exact .t (hv.mono hx)
  | nil => intro v hv; have := bool_of hv; subst this; exact .t (.nil fun _ => rfl)
  | own h hk => intro v hv; subst hk; cases hv with | own h1 h2 => rw [← hν _ h h1] at h2 ⊢; exact .own h h2
  | ref h hk => intro v hv; subst hk; cases hv with | ref h1 h2 => exact .ref h (by rw [hν _ h h1]; exact h2)
  | rd h hst ht hn => intro v hv; subst ht hn; cases hv with | own h1 h2 => exact .t (hrow _ _ _ _ _ _ h hst)
  | ptr => intro v hv; exact (hv.mono (ν' := ν) (nm' := nm) (fun _ h => ⟨h, rfl⟩) hx) |> fun h => by
            cases h with | ptr hl hc h => exact .ptr hl hc h
  | @agg ds ds' hl h ih =>
    intro v hv
    cases hv with
    | agg hl' h' h1 =>
      refine .agg (hl'.trans hl) (fun i u d hu hd => ?_) h1
      obtain ⟨d0, hd0⟩ : ∃ d0, ds[i]? = some d0 := by
        have : i < ds.length := by rw [← hl']; exact (Array.getElem?_eq_some_iff.1 hu).1
        exact ⟨_, List.getElem?_eq_getElem this⟩
      exact ih i d0 d hd0 hd (h' i u d0 hu hd0)
  | @tup ds ds' hl h ih =>
    intro v hv
    cases hv with
    | tup hl' h' =>
      refine .tup (hl'.trans hl) (fun i u d hu hd => ?_)
      obtain ⟨d0, hd0⟩ : ∃ d0, ds[i]? = some d0 := by
        have : i < ds.length := by rw [← hl']; exact (Array.getElem?_eq_some_iff.1 hu).1
        exact ⟨_, List.getElem?_eq_getElem this⟩
      exact ih i d0 d hd0 hd (h' i u d0 hu hd0)
  | @fn f ds ds' hl h ih =>
    intro v hv
    cases hv with
    | fn hl' h' =>
      refine .fn (hl'.trans hl) (fun i u d hu hd => ?_)
      obtain ⟨d0, hd0⟩ : ∃ d0, ds[i]? = some d0 := by
        have : i < ds.length := by rw [← hl']; exact (Array.getElem?_eq_some_iff.1 hu).1
        exact ⟨_, List.getElem?_eq_getElem this⟩
      exact ih i d0 d hd0 hd (h' i u d0 hu hd0)
  | any => intro v _; exact .any

theorem cell_of_row' {w : World} {g i : Nat} {cur : Array Value} {e : TypeId} {fr : Nat × Nat} (h : w.heap[g]? = some (.cells cur e fr)) : w.cell? ⟨g, i, none⟩ = cur[i]? := by simp [World.cell?, h]

/-- What a row that is only appended to holds can be read. -/
theorem row_tree {w : World} {G : Lim} {e : TypeId} {s n : Nat} {v : Value} {xs : List Value} {ts : List Tree} (h : w.ownsRow 0 e s v n xs) (hl : xs.length = ts.length) (ht : ∀ (i : Nat) (u : Value) (t : Tree), xs[i]? = some u → ts[i]? = some t → TR w G u t)
    (hG : ∀ g, blk v = some g → n * s ≤ G g) : TR w G v (.sl n ts) := by
  have hlen := h.1
  rcases h.2 with ⟨rfl, rfl⟩ | ⟨g, cap, cur, rfl, h1, h2, h3, h4, h5, h6⟩
  · have : ts = [] := List.eq_nil_of_length_eq_zero (by rw [← hl, hlen]; simp)
    subst this
    exact .nil fun _ => rfl
  · refine .sl g 0 n cap xs ts hl (fun i u hu => ?_) h3 ht
    have hi : i < n * s := by rw [← hlen]; exact (List.getElem?_eq_some_iff.1 hu).1
    refine ⟨?_, Nat.lt_of_lt_of_le (by omega) (hG g rfl)⟩
    rw [Nat.zero_add, cell_of_row' h2]
    rw [← h6, List.getElem?_take, if_pos hi] at hu
    simpa using hu

theorem ObjOk.row_tree {E : Env} {ν : Nat → Value} {nm : Nat → Bool} {w : World} {G : Lim} {k : Nat} {e : TypeId} {s n : Nat} {ts : List Tree} (h : ObjOk E ν nm w G k (.row e s n ts true)) : TR w G (ν k) (.sl n ts) := by
  obtain ⟨xs, h1, h2, h3, h4⟩ := h
  exact Ab.row_tree h1 h2 h3 (fun g hg => by rw [(h4 g hg).2]; simp)

/-! ### Views -/
inductive OLe (fl : Bool) (H : Nat → Option AObj) (nm' : Nat → Bool) (ρ : Nat → Nat) : AObj → AObj → Prop
  | row {e : TypeId} {s n : Nat} {ts ts' : List Tree} {st : Bool} (h : ts = ts') {n' : Nat} (hn : n = n') : OLe fl H nm' ρ (.row e s n ts st) (.row e s n' ts' st)
  | box {e : TypeId} {ds ds' : List D} (hl : ds.length = ds'.length) (h : ∀ (i : Nat) (d d' : D), ds[i]? = some d → ds'[i]? = some d' → DLe fl H nm' ρ d d') : OLe fl H nm' ρ (.box e ds) (.box e ds')
theorem OLe.box' {fl : Bool} {H : Nat → Option AObj} {nm' : Nat → Bool} {ρ : Nat → Nat} {e : TypeId} {l l' : List D} (h : DLeL fl H nm' ρ l l') : OLe fl H nm' ρ (.box e l) (.box e l') := .box h.get.1 h.get.2

def rnm (rn : List (Nat × Nat)) (k : Nat) : Nat := match look k rn with | some x => x | none => k
abbrev lit (T : List (Nat × D)) (H : List (Nat × AObj)) (N : Nat) : St := mk (fun t => look t T) (fun k => look k H) N

inductive AllT (fl : Bool) (σ : St) (nm' : Nat → Bool) (ρ : Nat → Nat) : List (Nat × D) → Prop
  | nil : AllT fl σ nm' ρ []
  | cons {t : Nat} {d d' : D} {l : List (Nat × D)} (h : σ.T t = some d) (hd : DLe fl σ.H nm' ρ d d') (r : AllT fl σ nm' ρ l) : AllT fl σ nm' ρ ((t, d') :: l)
inductive AllH (fl : Bool) (σ : St) (nm' : Nat → Bool) (ρ : Nat → Nat) : List (Nat × AObj) → Prop
  | nil : AllH fl σ nm' ρ []
  | cons {k : Nat} {o o' : AObj} {l : List (Nat × AObj)} (h : σ.H (ρ k) = some o) (ho : OLe fl σ.H nm' ρ o o') (r : AllH fl σ nm' ρ l) : AllH fl σ nm' ρ ((k, o') :: l)
theorem AllT.get {fl : Bool} {σ : St} {nm' : Nat → Bool} {ρ : Nat → Nat} {l : List (Nat × D)} (h : AllT fl σ nm' ρ l) {t : Nat} {d' : D} (hl : look t l = some d') : ∃ d, σ.T t = some d ∧ DLe fl σ.H nm' ρ d d' := by
  induction h with
  | nil => cases hl
  | cons h hd r ih =>
    unfold look at hl
    split at hl
    · rename_i e; cases hl; subst e; exact ⟨_, h, hd⟩
    · exact ih hl
theorem AllH.get {fl : Bool} {σ : St} {nm' : Nat → Bool} {ρ : Nat → Nat} {l : List (Nat × AObj)} (h : AllH fl σ nm' ρ l) {k : Nat} {o' : AObj} (hl : look k l = some o') : ∃ o, σ.H (ρ k) = some o ∧ OLe fl σ.H nm' ρ o o' := by
  induction h with
  | nil => cases hl
  | cons h hd r ih =>
    unfold look at hl
    split at hl
    · rename_i e; cases hl; subst e; exact ⟨_, h, hd⟩
    · exact ih hl

theorem ObjOk.view {fl : Bool} {H : Nat → Option AObj} {E E' : Env} {ν ν' : Nat → Value} {nm nm' : Nat → Bool} {ρ : Nat → Nat} {w : World} {G : Lim} {k k' : Nat} {o o' : AObj} (h : ObjOk E ν nm w G k o) (ho : OLe fl H nm' ρ o o')
    (hrow : ∀ k e s n ts st, H k = some (.row e s n ts st) → (st || fl) = true → TR w G (ν k) (.sl n ts)) (hν : ∀ k', nm' k' = true → nm (ρ k') = true → ν' k' = ν (ρ k')) (hk : ν' k' = ν k) (hE : ∀ g, blk (ν k) = some g → E.may g → E'.may g) : ObjOk E' ν' nm' w G k' o' := by
  cases ho with
  | row h' hn =>
    subst h' hn
    obtain ⟨xs, h1, h2, h3, h4⟩ := h
    exact ⟨xs, by rw [hk]; exact h1, h2, h3, fun g hg => by rw [hk] at hg; exact ⟨hE g hg (h4 g hg).1, (h4 g hg).2⟩⟩
  | box hl hb =>
    obtain ⟨g, cur, h1, h2, h3, h4, h5, h6⟩ := h
    refine ⟨g, cur, by rw [hk]; exact h1, hE g (by rw [h1]; rfl) h2, h3, h4, h5.trans hl, fun i u d hu hd => ?_⟩
    rename_i e ds ds'
    obtain ⟨d0, hd0⟩ : ∃ d0, ds[i]? = some d0 := by
      have : i < ds.length := by rw [← h5]; exact (Array.getElem?_eq_some_iff.1 hu).1
      exact ⟨_, List.getElem?_eq_getElem this⟩
    exact ⟨(hb i d0 d hd0 hd).rel (fun _ _ _ h => h) hrow hν (h6 i u d0 hu hd0).1, (h6 i u d0 hu hd0).2⟩

theorem Inv.rows {E : Env} {σ : St} {ν : Nat → Value} {G : Lim} {w : World} {tm : Array Value} (I : Inv E σ ν G w tm) : ∀ k e s n ts st, σ.H k = some (.row e s n ts st) → (st || false) = true → TR w G (ν k) (.sl n ts) := fun k e s n ts st h hst => by
  have : st = true := by simpa using hst
  subst this
  exact (I.H k _ h).2.row_tree

def entOk (rn : List (Nat × Nat)) (H' : List (Nat × AObj)) (N : Nat) : Bool := rn.all (fun p => decide (p.1 < 50)) && decide ((H'.map fun p => rnm rn p.1).Nodup) && H'.all (fun p => decide (p.1 < N))

theorem look_keys {α : Type} {k : Nat} {x : α} {l : List (Nat × α)} (h : look k l = some x) : k ∈ l.map (·.1) := List.mem_map.2 ⟨_, look_mem h, rfl⟩
theorem nodup_inj {ρ : Nat → Nat} : ∀ {l : List Nat}, (l.map ρ).Nodup → ∀ a ∈ l, ∀ b ∈ l, ρ a = ρ b → a = b
  | [], _, _, h, _, _, _ => by cases h
  | x :: l, h, a, ha, b, hb, he => by
    rw [List.map_cons, List.nodup_cons] at h
    rcases List.mem_cons.1 ha with e1 | h1
    · rcases List.mem_cons.1 hb with e2 | h2
      · rw [e1, e2]
      · exact absurd (List.mem_map.2 ⟨b, h2, by rw [← he, e1]⟩) h.1
    · rcases List.mem_cons.1 hb with e2 | h2
      · exact absurd (List.mem_map.2 ⟨a, h1, by rw [he, e2]⟩) h.1
      · exact nodup_inj h.2 a h1 b h2 he
theorem rnm_id {rn : List (Nat × Nat)} (h : rn.all (fun p => decide (p.1 < 50)) = true) {k : Nat} (hk : 50 ≤ k) : rnm rn k = k := by
  unfold rnm
  cases hl : look k rn with
  | none => rfl
  | some x =>
    have := List.all_eq_true.1 h _ (look_mem hl)
    simp at this
    omega

/-- The state told in other words: with other names, and with less. -/
theorem ent_of {E : Env} {σ : St} (rn : List (Nat × Nat)) {T' : List (Nat × D)} {H' : List (Nat × AObj)} (N : Nat) (hT : AllT false σ (fun k => decide (k < N)) (rnm rn) T') (hH : AllH false σ (fun k => decide (k < N)) (rnm rn) H') (hc : entOk rn H' N = true) : Ent E σ (lit T' H' N) := by
  intro tm w ⟨ν, G, I⟩
  simp only [entOk, Bool.and_eq_true, decide_eq_true_eq] at hc
  obtain ⟨⟨hc1, hc2⟩, hc3⟩ := hc
  have hρ : ∀ k', decide (k' < N) = true → σ.nm (rnm rn k') = true → (fun k => ν (rnm rn k)) k' = ν (rnm rn k') := fun _ _ _ => rfl
  refine ⟨fun k => ν (rnm rn k), G, I.kept, I.keep, fun k h1 h2 => ?_, I.g0, I.sz, fun t d' h => ?_, fun k o' h => ?_, fun k o k' o' h h' hne g hg => ?_⟩
  · show ν (rnm rn k) = _
    rw [rnm_id hc1 h1]
    exact I.pin k h1 h2
  · obtain ⟨d, hd, hle⟩ := hT.get h
    obtain ⟨v, hv, hvd⟩ := I.T t d hd
    exact ⟨v, hv, hle.rel (fun _ _ _ h => h) I.rows hρ hvd⟩
  · obtain ⟨o, ho, hle⟩ := hH.get h
    exact ⟨List.all_eq_true.1 hc3 _ (look_mem h), (I.H _ o ho).2.view hle I.rows hρ rfl (fun _ _ h => h)⟩
  · obtain ⟨o1, h1, _⟩ := hH.get h
    obtain ⟨o2, h2, _⟩ := hH.get h'
    refine I.dis _ o1 _ o2 h1 h2 (fun e => hne ?_) g hg
    exact nodup_inj (by rw [List.map_map]; exact hc2) k (look_keys h) k' (look_keys h') e

/-! ### Contracts -/
abbrev args (ds : List D) (H : List (Nat × AObj)) : St := mk (fun t => ds[t]?) (fun k => look k H) 100
abbrev res (r : D) (H : List (Nat × AObj)) : St := mk (fun t => if t = 0 then some r else none) (fun k => look k H) 108

/-- Function f, on data ds and with H handed in (names 50 to 99), returns r and leaves H' (new names: 100 to 107). -/
def Does (P : Program) (f : FuncId) (ds : List D) (H : List (Nat × AObj)) (r : D) (H' : List (Nat × AObj)) : Prop :=
  ∀ (E : Env) (w : World) (vs : Array Value), E.w0 = w → E.m = vs.size → vs.size = ds.length → R E (args ds H) vs w →
    Calls P f vs w fun e w' => ∃ v, e = .returned v ∧ R { E with m := 1 } (res r H') #[v] w'

/-- The same where the result is only known to be one of several. -/
def DoesN (P : Program) (f : FuncId) (ds : List D) (H : List (Nat × AObj)) {ι : Type} (C : ι → Prop) (r : ι → D) (H' : ι → List (Nat × AObj)) : Prop :=
  ∀ (E : Env) (w : World) (vs : Array Value), E.w0 = w → E.m = vs.size → vs.size = ds.length → R E (args ds H) vs w →
    Calls P f vs w fun e w' => ∃ v, e = .returned v ∧ ∃ i, C i ∧ R { E with m := 1 } (res (r i) (H' i)) #[v] w'
theorem Does.n {P : Program} {f : FuncId} {ds : List D} {H : List (Nat × AObj)} {r : D} {H' : List (Nat × AObj)} (h : Does P f ds H r H') : DoesN P f ds H (fun _ : Unit => True) (fun _ => r) (fun _ => H') := fun E w vs h1 h2 h3 h4 => (h E w vs h1 h2 h3 h4).mono fun _ _ ⟨v, e1, e2⟩ => ⟨v, e1, (), trivial, e2⟩
def RetQ (P : Program) (fn : Func) (E : Env) (r : D) (H' : List (Nat × AObj)) : Exit → St → Prop
  | .normal, σ | .ret, σ => ∀ tm w, R E σ tm w → ∃ v, (results fn tm).run P w = .ok v w ∧ R { E with m := 1 } (res r H') #[v] w
  | _, _ => False

theorem R.entry {E : Env} {ds : List D} {H : List (Nat × AObj)} {vs : Array Value} {w : World} (h : R E (args ds H) vs w) (n : Nat) : R { E with m := vs.size + n } (args ds H) (vs ++ Array.replicate n undef) w := by
  obtain ⟨ν, G, I⟩ := h
  refine ⟨ν, G, ⟨I.kept.os, I.kept.tape, I.kept.output, I.kept.size, I.kept.block⟩, I.keep, I.pin, I.g0, by simp, fun t d ht => ?_, I.H, I.dis⟩
  obtain ⟨v, hv, hd⟩ := I.T t d ht
  exact ⟨v, by rw [Array.getElem?_append_left (Array.getElem?_eq_some_iff.1 hv).1]; exact hv, hd⟩

theorem spec_of {P : Program} {f : FuncId} {fn : Func} {c : Code} {ds : List D} {H : List (Nat × AObj)} {r : D} {H' : List (Nat × AObj)} (hf : P.funcs[f]? = some fn) (hb : fn.body = some c) (hm : ds.length ≤ fn.ntmps)
    (h : ∀ E : Env, E.m = fn.ntmps → AWp P E c (RetQ P fn E r H') (args ds H)) : Does P f ds H r H' := by
  intro E w vs _ _ _ hR
  have hR' := hR.entry (fn.ntmps - vs.size)
  rw [show vs.size + (fn.ntmps - vs.size) = fn.ntmps by omega] at hR'
  refine calls_of_wp hf hb (wp_mono (h { E with m := fn.ntmps } rfl _ w rfl hR') ?_)
  rintro e a' w' ⟨hd, σ', hq, hRR⟩
  cases e with
  | normal => obtain ⟨v, h1, h2⟩ := hq _ _ hRR; exact ⟨hd, v, h1, v, rfl, h2⟩
  | ret => obtain ⟨v, h1, h2⟩ := hq _ _ hRR; exact ⟨hd, v, h1, v, rfl, h2⟩
  | exit id => exact hq.elim
  | goto l => exact hq.elim
  | panic ch => exact hq.elim
  | outgrown => exact hq.elim

/-- What is told of results: names ρ. -/
theorem res_of {E : Env} {σ : St} {tm : Array Value} {w : World} (rn : List (Nat × Nat)) {d r : D} {H' : List (Nat × AObj)} (hR : R E σ tm w) {v : Value} (hv : ∀ ν G, Inv E σ ν G w tm → DR ν σ.nm w G v d)
    (hle : DLe false σ.H (fun k => decide (k < 108)) (rnm rn) d r) (hH : AllH false σ (fun k => decide (k < 108)) (rnm rn) H') (hc : (rn.all (fun p => decide (p.1 < 50) || decide (100 ≤ p.1)) && decide ((H'.map fun p => rnm rn p.1).Nodup) && H'.all (fun p => decide (p.1 < 108))) = true) :
    R { E with m := 1 } (res r H') #[v] w := by
  obtain ⟨ν, G, I⟩ := hR
  simp only [Bool.and_eq_true, decide_eq_true_eq] at hc
  obtain ⟨⟨hc1, hc2⟩, hc3⟩ := hc
  have hρ : ∀ k', decide (k' < 108) = true → σ.nm (rnm rn k') = true → (fun k => ν (rnm rn k)) k' = ν (rnm rn k') := fun _ _ _ => rfl
  refine ⟨fun k => ν (rnm rn k), G, ⟨I.kept.os, I.kept.tape, I.kept.output, I.kept.size, I.kept.block⟩, I.keep, fun k h1 h2 => ?_, I.g0, rfl, fun t d' h => ?_, fun k o' h => ?_, fun k o k' o' h h' hne g hg => ?_⟩
  · show ν (rnm rn k) = _
    have : rnm rn k = k := by
      unfold rnm
      cases hl : look k rn with
      | none => rfl
      | some x =>
        have := List.all_eq_true.1 hc1 _ (look_mem hl)
        simp at this
        omega
    rw [this]
    exact I.pin k h1 h2
  · simp only at h
    split at h
    · rename_i e; subst e; cases h
      exact ⟨v, rfl, hle.rel (fun _ _ _ h => h) I.rows hρ (hv ν G I)⟩
    · cases h
  · obtain ⟨o, ho, hle⟩ := hH.get h
    exact ⟨List.all_eq_true.1 hc3 _ (look_mem h), (I.H _ o ho).2.view hle I.rows hρ rfl (fun _ _ h => h)⟩
  · obtain ⟨o1, h1, _⟩ := hH.get h
    obtain ⟨o2, h2, _⟩ := hH.get h'
    refine I.dis _ o1 _ o2 h1 h2 (fun e => hne ?_) g hg
    exact nodup_inj (by rw [List.map_map]; exact hc2) k (look_keys h) k' (look_keys h') e
end Go.Ab
