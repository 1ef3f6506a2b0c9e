/- The abstract machine: data that a walk carries, what a world holds of them, and the states of a walk. -/
import Derived.Test.YtokdclbfjlnnjaaA1
namespace Go.Ab
open Go.RowKit

/-- Data without names: what can only be read. -/
inductive Tree where
  | v (x : Value)
  | sl (n : Nat) (ts : List Tree)

abbrev Lim := Nat → Nat
/-- A cell that may be relied on. -/
def Cell (w : World) (G : Lim) (b i : Nat) (u : Value) : Prop := w.cell? ⟨b, i, none⟩ = some u ∧ i < G b

inductive TR (w : World) (G : Lim) : Value → Tree → Prop
  | v (x : Value) (h : x.oneCell' = true) : TR w G x (.v x)
  | nil {a : Option Addr} {c : Nat} (h : a = none → c = 0) : TR w G (.slice a 0 c) (.sl 0 [])
  | sl (b o n c : Nat) (us : List Value) (ts : List Tree) (hl : us.length = ts.length) (hc : ∀ (i : Nat) (u : Value), us[i]? = some u → Cell w G b (o + i) u)
      (hn : n ≤ c) (h : ∀ (i : Nat) (u : Value) (t : Tree), us[i]? = some u → ts[i]? = some t → TR w G u t) : TR w G (.slice (some ⟨b, o, none⟩) n c) (.sl n ts)

theorem TR.mono {w w' : World} {G G' : Lim} (hx : ∀ b i u, Cell w G b i u → Cell w' G' b i u) {v : Value} {t : Tree} (h : TR w G v t) : TR w' G' v t := by
  induction h with
  | v x h => exact .v x h
  | nil h => exact .nil h
  | sl b o n c us ts hl hc hn h ih => exact .sl b o n c us ts hl (fun i u hi => hx _ _ _ (hc i u hi)) hn ih
theorem TR.one {w : World} {G : Lim} {v : Value} {t : Tree} (h : TR w G v t) : v.oneCell' = true := by
  cases h with
  | v x h => exact h
  | nil h => rfl
  | sl b o n c us ts hl hc hn h => rfl

/-- Data that a walk carries. -/
inductive D where
  | t (x : Tree)
  | agg (ds : List D)
  | tup (ds : List D)
  | own (k : Nat)
  | ref (k off : Nat)
  | ptr (ts : List Tree) (off : Nat)
  | fn (f : FuncId) (caps : List D)
  | any

def blk : Value → Option Nat
  | .pointer (some a) => some a.block
  | .slice (some a) _ _ => some a.block
  | _ => none

/-- ν: what the names stand for; nm: the names in use. -/
inductive DR (ν : Nat → Value) (nm : Nat → Bool) (w : World) (G : Lim) : Value → D → Prop
  | t {v : Value} {x : Tree} (h : TR w G v x) : DR ν nm w G v (.t x)
  | agg {vs : Array Value} {ds : List D} (hl : vs.size = ds.length) (h : ∀ (i : Nat) (u : Value) (d : D), vs[i]? = some u → ds[i]? = some d → DR ν nm w G u d) (h1 : ∀ u ∈ vs.toList, u.oneCell' = true) : DR ν nm w G (.agg vs) (.agg ds)
  | tup {vs : Array Value} {ds : List D} (hl : vs.size = ds.length) (h : ∀ (i : Nat) (u : Value) (d : D), vs[i]? = some u → ds[i]? = some d → DR ν nm w G u d) : DR ν nm w G (.tuple vs) (.tup ds)
  | own {k : Nat} (hk : nm k = true) (h1 : (ν k).oneCell' = true) : DR ν nm w G (ν k) (.own k)
  | ref {k off g : Nat} (hk : nm k = true) (hg : blk (ν k) = some g) : DR ν nm w G (.pointer (some ⟨g, off, none⟩)) (.ref k off)
  | ptr {b o off : Nat} {us : List Value} {ts : List Tree} (hl : us.length = ts.length) (hc : ∀ (i : Nat) (u : Value), us[i]? = some u → Cell w G b (o + i) u) (h : ∀ (i : Nat) (u : Value) (t : Tree), us[i]? = some u → ts[i]? = some t → TR w G u t) :
      DR ν nm w G (.pointer (some ⟨b, o + off, none⟩)) (.ptr ts off)
  | fn {f : FuncId} {vs : Array Value} {ds : List D} (hl : vs.size = ds.length) (h : ∀ (i : Nat) (u : Value) (d : D), vs[i]? = some u → ds[i]? = some d → DR ν nm w G u d) : DR ν nm w G (.func (.func f) #[] vs) (.fn f ds)
  | any {v : Value} : DR ν nm w G v .any

theorem DR.mono {ν ν' : Nat → Value} {nm nm' : Nat → Bool} {w w' : World} {G G' : Lim} (hn : ∀ k, nm k = true → nm' k = true ∧ ν' k = ν k) (hx : ∀ b i u, Cell w G b i u → Cell w' G' b i u) {v : Value} {d : D} (h : DR ν nm w G v d) : DR ν' nm' w' G' v d := by
  induction h with
  | t h => exact .t (h.mono hx)
  | agg hl h h1 ih => exact .agg hl ih h1
  | tup hl h ih => exact .tup hl ih
  | own hk h1 => rw [← (hn _ hk).2] at h1 ⊢; exact .own (hn _ hk).1 h1
  | ref hk hg => exact .ref (hn _ hk).1 (by rw [(hn _ hk).2]; exact hg)
  | ptr hl hc h => exact .ptr hl (fun i u hi => hx _ _ _ (hc i u hi)) (fun i u t hu ht => (h i u t hu ht).mono hx)
  | fn hl h ih => exact .fn hl ih
  | any => exact .any

def D.one : D → Bool
  | .agg _ | .tup _ | .any => false
  | _ => true
theorem DR.oneCell {ν : Nat → Value} {nm : Nat → Bool} {w : World} {G : Lim} {v : Value} {d : D} (h : DR ν nm w G v d) (ho : d.one = true) : v.oneCell' = true := by
  cases h with
  | t h => exact h.one
  | own hk h1 => exact h1
  | agg => cases ho
  | tup => cases ho
  | any => cases ho
  | ref => rfl
  | ptr => rfl
  | fn => rfl

/-- What a name stands for: a variable, or a row of the walk's own (st: it is only appended to, so what it holds may be relied on). -/
inductive AObj where
  | box (e : TypeId) (ds : List D)
  | row (e : TypeId) (s n : Nat) (ts : List Tree) (st : Bool)

/-- Where a walk goes: the temporaries, the world at entry, what could be relied on then, the blocks that were handed in to be changed, and their names (50 to 99). -/
structure Env where
  m : Nat
  w0 : World
  G0 : Lim
  X : Nat → Prop
  ν0 : Nat → Value
def Env.may (E : Env) (g : Nat) : Prop := E.w0.heap.size ≤ g ∨ E.X g

structure St where
  T : Nat → Option D
  H : Nat → Option AObj
  nm : Nat → Bool

def ObjOk (E : Env) (ν : Nat → Value) (nm : Nat → Bool) (w : World) (G : Lim) (k : Nat) : AObj → Prop
  | .box e ds => ∃ g cur, ν k = .pointer (some ⟨g, 0, none⟩) ∧ E.may g ∧ w.heap[g]? = some (.cells cur e (0, 0)) ∧ G g = 0 ∧ cur.size = ds.length ∧
      (∀ (i : Nat) (u : Value) (d : D), cur[i]? = some u → ds[i]? = some d → DR ν nm w G u d ∧ u.oneCell' = true)
  | .row e s n ts st => ∃ xs, w.ownsRow 0 e s (ν k) n xs ∧ xs.length = ts.length ∧ (∀ (i : Nat) (u : Value) (t : Tree), xs[i]? = some u → ts[i]? = some t → TR w G u t) ∧
      ∀ g, blk (ν k) = some g → E.may g ∧ G g = if st then n * s else 0

/-- All is as at entry but for what was handed in and what is new. -/
structure Kept (E : Env) (w : World) : Prop where
  os : w.os = E.w0.os
  tape : w.tape = E.w0.tape
  output : w.output = E.w0.output
  size : E.w0.heap.size ≤ w.heap.size
  block : ∀ b, b < E.w0.heap.size → ¬ E.X b → w.heap[b]? = E.w0.heap[b]?

structure Inv (E : Env) (σ : St) (ν : Nat → Value) (G : Lim) (w : World) (tm : Array Value) : Prop where
  kept : Kept E w
  keep : ∀ b i u, Cell E.w0 E.G0 b i u → Cell w G b i u
  pin : ∀ k, 50 ≤ k → k < 100 → ν k = E.ν0 k
  g0 : ∀ b, b < E.w0.heap.size → ¬ E.X b → G b = E.G0 b
  sz : tm.size = E.m
  T : ∀ t d, σ.T t = some d → ∃ v, tm[t]? = some v ∧ DR ν σ.nm w G v d
  H : ∀ k o, σ.H k = some o → σ.nm k = true ∧ ObjOk E ν σ.nm w G k o
  dis : ∀ k o k' o', σ.H k = some o → σ.H k' = some o' → k ≠ k' → ∀ g, blk (ν k) = some g → blk (ν k') ≠ some g

def R (E : Env) (σ : St) (tm : Array Value) (w : World) : Prop := ∃ ν G, Inv E σ ν G w tm

theorem Kept.aft {E : Env} {w w' : World} (h : Kept E w) (hA : Aft w w') : Kept E w' :=
  ⟨hA.os.trans h.os, hA.tape.trans h.tape, hA.output.trans h.output, Nat.le_trans h.size hA.size, fun b hb hX => (hA.block b (Nat.lt_of_lt_of_le hb h.size)).trans (h.block b hb hX)⟩

theorem Cell.lt {w : World} {G : Lim} {b i : Nat} {u : Value} (h : Cell w G b i u) : b < w.heap.size := World.block_lt_of_cell? w ⟨b, i, none⟩ h.1
theorem Cell.aft {w w' : World} {G G' : Lim} (hA : Aft w w') (hG : ∀ b, b < w.heap.size → G' b = G b) {b i : Nat} {u : Value} (h : Cell w G b i u) : Cell w' G' b i u :=
  ⟨(hA.cell h.lt).trans h.1, by rw [hG b h.lt]; exact h.2⟩

theorem heap_lt {w : World} {g : Nat} {o : Obj} (h : w.heap[g]? = some o) : g < w.heap.size := (Array.getElem?_eq_some_iff.1 h).1

theorem ownsRow_blk {w : World} {base : Nat} {e : TypeId} {s : Nat} {v : Value} {n : Nat} {xs : List Value} (h : w.ownsRow base e s v n xs) : blk v = v.ownBlock := by
  rcases h.2 with ⟨rfl, _⟩ | ⟨g, cap, cur, rfl, _⟩ <;> rfl

/-- An object in a later world in which its block is as it was. -/
theorem ObjOk.mono {E : Env} {ν ν' : Nat → Value} {nm nm' : Nat → Bool} {w w' : World} {G G' : Lim} {k : Nat} {o : AObj} (hk : nm k = true) (hn : ∀ k, nm k = true → nm' k = true ∧ ν' k = ν k)
    (hx : ∀ b i u, Cell w G b i u → Cell w' G' b i u) (hb : ∀ g, blk (ν k) = some g → w'.heap[g]? = w.heap[g]? ∧ G' g = G g) (h : ObjOk E ν nm w G k o) : ObjOk E ν' nm' w' G' k o := by
  cases o with
  | box e ds =>
    obtain ⟨g, cur, h1, h2, h3, h4, h5, h6⟩ := h
    obtain ⟨q1, q2⟩ := hb g (by rw [h1]; rfl)
    exact ⟨g, cur, by rw [(hn k hk).2]; exact h1, h2, by rw [q1]; exact h3, by rw [q2]; exact h4, h5, fun i u d hu hd => ⟨(h6 i u d hu hd).1.mono hn hx, (h6 i u d hu hd).2⟩⟩
  | row e s n ts st =>
    obtain ⟨xs, h1, h2, h3, h4⟩ := h
    refine ⟨xs, ?_, h2, fun i u t hu ht => (h3 i u t hu ht).mono hx, fun g hg => ?_⟩
    · rw [(hn k hk).2]
      refine ⟨h1.1, ?_⟩
      rcases h1.2 with h | ⟨g, cap, cur, hv, r1, r2, r3⟩
      · exact .inl h
      · exact .inr ⟨g, cap, cur, hv, r1, by rw [(hb g (by rw [hv]; rfl)).1]; exact r2, r3⟩
    · rw [(hn k hk).2] at hg
      rw [(hb g hg).2]
      exact h4 g hg

theorem ObjOk.blk_lt {E : Env} {ν : Nat → Value} {nm : Nat → Bool} {w : World} {G : Lim} {k : Nat} {o : AObj} (h : ObjOk E ν nm w G k o) {g : Nat} (hg : blk (ν k) = some g) : g < w.heap.size := by
  cases o with
  | box e ds =>
    obtain ⟨g', cur, h1, h2, h3, _⟩ := h
    rw [h1] at hg
    simp only [blk, Option.some.injEq] at hg
    subst hg
    exact heap_lt h3
  | row e s n ts st =>
    obtain ⟨xs, h1, _⟩ := h
    exact (h1.lt g (by rw [← ownsRow_blk h1]; exact hg)).2

/-- A later world: all that was there stands. -/
theorem Inv.aft {E : Env} {σ : St} {ν : Nat → Value} {G G' : Lim} {w w' : World} {tm : Array Value} (I : Inv E σ ν G w tm) (hA : Aft w w') (hG : ∀ b, b < w.heap.size → G' b = G b) : Inv E σ ν G' w' tm where
  kept := I.kept.aft hA
  keep := fun b i u h => (I.keep b i u h).aft hA hG
  pin := I.pin
  g0 := fun b hb hX => (hG b (Nat.lt_of_lt_of_le hb I.kept.size)).trans (I.g0 b hb hX)
  sz := I.sz
  T := fun t d h => let ⟨v, hv, hd⟩ := I.T t d h; ⟨v, hv, hd.mono (fun _ h => ⟨h, rfl⟩) (fun _ _ _ hc => hc.aft hA hG)⟩
  H := fun k o h => let ⟨h1, h2⟩ := I.H k o h; ⟨h1, h2.mono h1 (fun _ h => ⟨h, rfl⟩) (fun _ _ _ hc => hc.aft hA hG) (fun g hg => ⟨hA.block g (h2.blk_lt hg), hG g (h2.blk_lt hg)⟩)⟩
  dis := I.dis

/-! ### What is written -/
def look {α : Type} (k : Nat) : List (Nat × α) → Option α
  | [] => none
  | (k', x) :: l => if k' = k then some x else look k l
theorem look_mem {α : Type} {k : Nat} {x : α} : ∀ {l : List (Nat × α)}, look k l = some x → (k, x) ∈ l
  | [], h => by cases h
  | p :: l, h => by
    unfold look at h
    split at h
    · rename_i hp; cases h; rw [← hp]; exact List.mem_cons_self ..
    · exact List.mem_cons_of_mem _ (look_mem h)

abbrev Wr := List (Nat × Option AObj)
def St.upd (σ : St) (dst : Option Tmp) (d : D) (W : Wr) (fr : Nat) : St :=
  ⟨fun t => if dst = some t then some d else σ.T t, fun k => match look k W with | some r => r | none => σ.H k, fun k => σ.nm k || (decide (fr ≤ k) && decide (k < fr + 8))⟩

/-- Nothing but a temporary is written. -/
theorem Inv.put {E : Env} {σ : St} {ν : Nat → Value} {G : Lim} {w : World} {tm : Array Value} (I : Inv E σ ν G w tm) {dst : Option Tmp} {v : Value} {d : D} (hd : DR ν σ.nm w G v d) (ht : ∀ t, dst = some t → t < E.m) (fr : Nat) (a : Act) (ha : a.tmps = tm) :
    Inv E (σ.upd dst d [] fr) ν G w (a.put dst v).tmps where
  kept := I.kept
  keep := I.keep
  pin := I.pin
  g0 := I.g0
  sz := by cases dst <;> simp [Act.put, ha, I.sz]
  T := fun t d' h => by
    simp only [St.upd] at h
    split at h
    · rename_i he
      cases h
      subst he
      refine ⟨v, ?_, hd.mono (fun k hk => ⟨by simp [St.upd, hk], rfl⟩) (fun _ _ _ hc => hc)⟩
      have := ht t rfl
      simp [Act.put, ha, I.sz, this]
    · rename_i he
      obtain ⟨u, hu, hdu⟩ := I.T t d' h
      refine ⟨u, ?_, hdu.mono (fun k hk => ⟨by simp [St.upd, hk], rfl⟩) (fun _ _ _ hc => hc)⟩
      cases dst with
      | none => simpa [Act.put, ha] using hu
      | some t' =>
        have hne : t' ≠ t := fun e => he (by rw [e])
        simp only [Act.put, ha]
        rw [Array.getElem?_setIfInBounds_ne hne]
        exact hu
  H := fun k o h => by
    obtain ⟨h1, h2⟩ := I.H k o (by simpa [St.upd, look] using h)
    exact ⟨by simp [St.upd, h1], h2.mono h1 (fun k hk => ⟨by simp [St.upd, hk], rfl⟩) (fun _ _ _ hc => hc) (fun _ _ => ⟨rfl, rfl⟩)⟩
  dis := fun k o k' o' h h' => I.dis k o k' o' (by simpa [St.upd, look] using h) (by simpa [St.upd, look] using h')
end Go.Ab
