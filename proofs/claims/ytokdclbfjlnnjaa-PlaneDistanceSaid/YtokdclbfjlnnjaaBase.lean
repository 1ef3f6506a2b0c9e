/- Small laws for the walks of this seat, over any program: worlds that come after a world, slices that read as lists, a region that draws its order and whose callees may make memory. -/
import Derived.WalkKit
import Derived.WalkSpells
import Derived.WalkLawsBesides
import Derived.BigQuiet
import Derived.Deep.QuietTactic
import Derived.Laws.AppendOwnNone
import Derived.Maps.AppendAt
namespace Go
open Go.RowKit

theorem hid {p : Prop} (h : p) : Hid p := h
theorem ret_int {k : IntKind} {a b : Int} (h : a = b) : Ending.returned (.int k a) = .returned (.int k b) := by rw [h]
theorem ret_bool {a b : Bool} (h : a = b) : Ending.returned (.bool a) = .returned (.bool b) := by rw [h]

/-- w' comes after w: all of w's blocks as they were. -/
def Aft (w w' : World) : Prop := Below w.heap.size w w'
theorem Aft.refl (w : World) : Aft w w := Below.refl _ _
theorem Aft.trans {a b c : World} (h : Aft a b) (k : Aft b c) : Aft a c := Below.trans h (Below.mono k h.size)
theorem Aft.drew {a w : World} (h : Aft a w) : Aft a w.drew := Below.drew h
theorem Aft.drewN {a w : World} (h : Aft a w) (n : Nat) : Aft a (w.drewN n) := ⟨h.os, h.tape, h.output, h.size, h.block⟩
theorem Aft.alloc {a w : World} (h : Aft a w) (o : Obj) : Aft a (w.alloc o) := Below.alloc h h.size o
theorem Aft.setCell {a w : World} (h : Aft a w) {p : Addr} (hp : a.heap.size ≤ p.block) (u : Value) : Aft a (w.setCell p u) := Below.setCell h hp u
theorem Aft.cell {a w : World} (h : Aft a w) {b o : Nat} (hb : b < a.heap.size) : w.cell? ⟨b, o, none⟩ = a.cell? ⟨b, o, none⟩ := Below.cell (p := ⟨b, o, none⟩) h hb
theorem Aft.frozen {a w : World} (h : Aft a w) {b o : Nat} (hb : b < a.heap.size) : w.frozen? ⟨b, o, none⟩ = a.frozen? ⟨b, o, none⟩ := Below.frozen (p := ⟨b, o, none⟩) h hb

/-- The worlds after w, as a type: the class in which a region that draws its order is walked once. -/
def Lat (w : World) : Type := { W : World // Aft w W }
instance Lat.some (w : World) : Nonempty (Lat w) := ⟨⟨w, Aft.refl w⟩⟩
def Lat.W {w : World} (x : Lat w) : World := x.1
theorem Lat.aft {w : World} (x : Lat w) : Aft w x.W := x.2
@[go_sem] theorem Lat.cell {w : World} (x : Lat w) {b o : Nat} (hb : b < w.heap.size) : x.W.cell? ⟨b, o, none⟩ = w.cell? ⟨b, o, none⟩ := x.2.cell hb

theorem Aft.lat {w w' : World} (h : Aft w w') : ∃ y : Lat w, w' = y.W := ⟨⟨w', h⟩, rfl⟩

section
variable {P : Program}
theorem wp_region_lat {id : Nat} {Q : Exit → Act → World → Prop} {a : Act} (w0 : World) {w : World} (hw : Aft w0 w) {l : List Oper} (hm : P.follows .mixedOrders = true) (hB : Region.lexB .any l.toArray = true)
    (h : wpQuiet P l.toArray (fun W => ∃ x : Lat w0, W = x.W) (fun a' => ∀ W, (∃ x : Lat w0, W = x.W) → Q .normal a' W) l a) : (Code.region id l.toArray true).wp P Q a w :=
  wp_region_quiet (C := fun W => ∃ x : Lat w0, W = x.W) hm hB ⟨⟨_, hw.drew⟩, rfl⟩ (by simpa using h)

theorem Calls.lat {f : FuncId} {args : Array Value} {w : World} {x : Lat w} {v : Value}
    (h : Calls P f args x.W fun e w' => e = .returned v ∧ Aft x.W w') : Calls P f args x.W fun e w'' => e = .returned v ∧ ∃ y : Lat w, w'' = y.W :=
  h.mono fun _ _ ⟨he, hm⟩ => ⟨he, ⟨_, x.2.trans hm⟩, rfl⟩
end

/-- The cells at a lie as listed; nothing is asked where the list is empty. -/
def Rd (w : World) (a : Option Addr) (cs : List Value) : Prop := ∀ j v, cs[j]? = some v → ∃ ad, a = some ad ∧ w.cell? (ad.add j) = some v
def i64s (l : List Int) : List Value := l.map (Value.int .i64)
def okI (l : List Int) : Prop := ∀ x ∈ l, -9223372036854775808 ≤ x ∧ x ≤ 9223372036854775807

theorem cell_spot {w : World} {b off s : Nat} {v : Value} (h : w.cell? ⟨b, off, some s⟩ = some v) : False := by
  unfold World.cell? at h
  split at h <;> simp at h

theorem Rd.get {w : World} {a : Option Addr} {cs : List Value} (h : Rd w a cs) {i : Nat} {v : Value} (hi : cs[i]? = some v) :
    ∃ b off, a = some ⟨b, off, none⟩ ∧ w.cell? ⟨b, off + i, none⟩ = some v ∧ b < w.heap.size := by
  obtain ⟨⟨b, off, spot⟩, rfl, hc⟩ := h i v hi
  have hlt : i < cs.length := (List.getElem?_eq_some_iff.1 hi).1
  cases spot with
  | some s =>
    exfalso
    obtain ⟨ad, e, hc'⟩ := h 0 cs[0] (by simp)
    simp only [Option.some.injEq] at e
    subst e
    exact cell_spot hc'
  | none =>
    have hc' : w.cell? ⟨b, off + i, none⟩ = some v := by
      unfold Addr.add at hc
      by_cases h0 : i = 0
      · simpa [h0] using hc
      · simpa [h0] using hc
    exact ⟨b, off, rfl, hc', World.block_lt_of_cell? w _ hc'⟩

theorem Rd.aft {w w' : World} {a : Option Addr} {cs : List Value} (h : Rd w a cs) (hw : Aft w w') : Rd w' a cs := fun j v hj => by
  obtain ⟨b, off, e, hc, hb⟩ := h.get hj
  obtain ⟨ad, e', hc'⟩ := h j v hj
  refine ⟨ad, e', ?_⟩
  have : ad.add j = ⟨b, off + j, none⟩ := by
    rw [e] at e'
    simp only [Option.some.injEq] at e'
    subst e'
    unfold Addr.add
    by_cases h0 : j = 0 <;> simp [h0]
  rw [this] at hc' ⊢
  rw [hw.cell hb]
  exact hc'

theorem Rd.int {w : World} {a : Option Addr} {l : List Int} (h : Rd w a (i64s l)) (ok : okI l) {i : Nat} (hi : i < l.length) :
    ∃ b off x, a = some ⟨b, off, none⟩ ∧ w.cell? ⟨b, off + i, none⟩ = some (.int .i64 x) ∧ b < w.heap.size ∧ Hid (l[i]? = some x) ∧ -9223372036854775808 ≤ x ∧ x ≤ 9223372036854775807 := by
  obtain ⟨b, off, e, hc, hb⟩ := h.get (i := i) (v := .int .i64 l[i]) (by simp [i64s, hi])
  exact ⟨b, off, l[i], e, hc, hb, by unfold Hid; simp [hi], ok _ (by simp)⟩

end Go
namespace Go
open Go.RowKit

theorem drop_cons {α : Type} {l : List α} {k : Nat} {x : α} (h : l[k]? = some x) : l.drop k = x :: l.drop (k + 1) := by
  obtain ⟨hk, rfl⟩ := List.getElem?_eq_some_iff.1 h
  exact List.drop_eq_getElem_cons hk

theorem take_snoc {α : Type} {l : List α} {k : Nat} {x : α} (h : l[k]? = some x) : l.take (k + 1) = l.take k ++ [x] := by
  obtain ⟨hk, rfl⟩ := List.getElem?_eq_some_iff.1 h
  rw [List.take_succ_eq_append_getElem hk]

/-- Pairs of numbers: two cells each. -/
def pcells (p : Int × Int) : List Value := [.int .i64 p.1, .int .i64 p.2]
def prs (l : List (Int × Int)) : List Value := l.flatMap pcells
def okP (l : List (Int × Int)) : Prop := ∀ p ∈ l, (-9223372036854775808 ≤ p.1 ∧ p.1 ≤ 9223372036854775807) ∧ (-9223372036854775808 ≤ p.2 ∧ p.2 ≤ 9223372036854775807)
def pr (p : Int × Int) : Value := .agg #[.int .i64 p.1, .int .i64 p.2]

theorem prs_length (l : List (Int × Int)) : (prs l).length = l.length * 2 := by
  induction l with
  | nil => rfl
  | cons a l ih => simp only [prs, List.flatMap_cons, List.length_append, List.length_cons, pcells] at *; simp at *; omega

theorem prs_get {l : List (Int × Int)} : ∀ {k : Nat} {p : Int × Int}, l[k]? = some p → (prs l)[k * 2]? = some (.int .i64 p.1) ∧ (prs l)[k * 2 + 1]? = some (.int .i64 p.2) := by
  induction l with
  | nil => intro k p h; simp at h
  | cons a l ih =>
    intro k p h
    cases k with
    | zero => simp at h; subst h; simp [prs, pcells]
    | succ k =>
      have := ih (k := k) (p := p) (by simpa using h)
      have e : (k + 1) * 2 = k * 2 + 2 := by omega
      rw [e]
      simp only [prs, List.flatMap_cons, pcells, List.cons_append, List.nil_append] at *
      exact this

theorem Rd.pair {w : World} {a : Option Addr} {l : List (Int × Int)} (h : Rd w a (prs l)) (ok : okP l) {i : Nat} (hi : i < l.length) :
    ∃ b off x y, a = some ⟨b, off, none⟩ ∧ w.cell? ⟨b, off + i * 2, none⟩ = some (.int .i64 x) ∧ w.cell? ⟨b, off + i * 2 + 1, none⟩ = some (.int .i64 y) ∧ b < w.heap.size ∧ Hid (l[i]? = some (x, y)) ∧
      -9223372036854775808 ≤ x ∧ x ≤ 9223372036854775807 ∧ -9223372036854775808 ≤ y ∧ y ≤ 9223372036854775807 := by
  have hg : l[i]? = some (l[i].1, l[i].2) := by simp [hi]
  obtain ⟨h1, h2⟩ := prs_get hg
  obtain ⟨b, off, e, hc, hb⟩ := h.get h1
  obtain ⟨b', off', e', hc', hb'⟩ := h.get h2
  rw [e] at e'
  simp only [Option.some.injEq, Addr.mk.injEq, and_true] at e'
  obtain ⟨rfl, rfl⟩ := e'
  have hm := ok l[i] (by simp)
  exact ⟨b, off, _, _, e, hc, by rw [Nat.add_assoc]; exact hc', hb, hid hg, hm.1.1, hm.1.2, hm.2.1, hm.2.2⟩

/-- An owned row in a later world. -/
theorem ownsRow_aft {w w' : World} {base : Nat} {e : TypeId} {size : Nat} {v : Value} {n : Nat} {xs : List Value} (h : w.ownsRow base e size v n xs) (hw : Aft w w') : w'.ownsRow base e size v n xs := by
  obtain ⟨h1, h2⟩ := h
  refine ⟨h1, ?_⟩
  rcases h2 with h2 | ⟨g, cap, cur, hv, hg, hh, r⟩
  · exact Or.inl h2
  · exact Or.inr ⟨g, cap, cur, hv, hg, by rw [hw.block g (Array.getElem?_eq_some_iff.1 hh).1]; exact hh, r⟩

/-- What an owned row holds can be read. -/
theorem ownsRow_rd {w : World} {base : Nat} {e : TypeId} {size : Nat} {v : Value} {n : Nat} {xs : List Value} (h : w.ownsRow base e size v n xs) :
    ∃ a cap, v = .slice a n cap ∧ Rd w a xs := by
  rcases h.2 with ⟨rfl, rfl⟩ | ⟨g, cap, cur, rfl, hg, hh, r⟩
  · refine ⟨none, 0, rfl, fun j u hj => ?_⟩
    have := h.1
    simp at this
    subst this
    simp at hj
  · exact ⟨_, cap, rfl, fun j u hj => ⟨_, rfl, h.cells rfl j u hj⟩⟩

theorem ownsRow_lt {w : World} {base : Nat} {e : TypeId} {size : Nat} {v : Value} {n : Nat} {xs : List Value} (h : w.ownsRow base e size v n xs) : ∀ k, v.ownBlock = some k → base ≤ k ∧ k < w.heap.size := h.lt

/-- Behind an append to a row of the call's own (from base on). -/
theorem Aft.grown {w0 w w' : World} {row : Option Nat} (h : Aft w0 w) (hg : w.grownBy w' row) (hr : ∀ k, row = some k → w0.heap.size ≤ k) : Aft w0 w' :=
  Below.grown h hg h.size hr

/-- append to a row of the call's own, from whatever source that reads as listed. -/
theorem wpList_app {P : Program} (w : World) {ops : Array Oper} {rest : List Oper} {o : Oper} {a : Act} {Q : Exit → Act → World → Prop} (hgd : o.guard = none) (s x : Operand) (t : TypeId)
    (ho : o.op = .call { callee := .builtin .append, args := #[s, x], argTypes := #[t, t] })
    (base : Nat) (e : TypeId) (z : Value) (size bytes : Nat) (ht : P.underlying t = some (.slice e)) (hinfo : (P.info? e).map (fun i => (i.zero, i.size, i.bytes)) = some (some z, size, bytes))
    (hzs : z.cells.size = size) (hsz : 0 < size)
    (v : Value) (n : Nat) (xs : List Value) (hs : a.eval s = v) (hown : w.ownsRow base e size v n xs)
    (ax : Option Addr) (m c : Nat) (news : List Value) (hx : a.eval x = .slice ax m c) (hc : ax = none → c = 0) (hl : news.length = m * size) (hnews : Rd w ax news) (h1 : ∀ u ∈ news, u.oneCell' = true)
    (h63 : n + m ≤ maxLen) (hbytes : (n + m) * bytes ≤ 140737488355328) (hbase : base ≤ w.heap.size)
    (h : ∀ v' w', w'.ownsRow base e size v' (n + m) (xs ++ news) → w.grownBy w' v.ownBlock → (v'.ownBlock = v.ownBlock ∨ v'.ownBlock = some w.heap.size) → wpList P ops Q rest (a.put o.dst v') w') : wpList P ops Q (o :: rest) a w := by
  obtain ⟨i, hi, hz, h2, h3⟩ := info_parts hinfo
  cases ax with
  | none =>
    have hnil : news = [] := by
      cases news with
      | nil => rfl
      | cons u l => obtain ⟨ad, e, _⟩ := hnews 0 u rfl; cases e
    subst hnil
    have hm : m = 0 := by
      have := hl
      simp only [List.length_nil] at this
      rcases Nat.mul_eq_zero.1 this.symm with h | h
      · exact h
      · omega
    subst hm
    have := hc rfl
    subst this
    refine wpList_append_own_none hgd s x t ho base e i size ht hi v n xs hs hown hx ?_
    have := h v w (by simpa using hown) (World.grownBy.refl _ _) (.inl rfl)
    exact this
  | some ad =>
    exact wpList_append_own_at w hgd s x t ho base e i z size bytes ht hi hz h2 h3 hzs hsz v n xs hs hown ad m c news hx hl (fun j u hj => by
      obtain ⟨ad', e', hc'⟩ := hnews j u hj
      cases e'
      exact hc') h1 h63 hbytes hbase (fun v' w' a1 a2 _ a4 => h v' w' a1 a2 a4)

theorem i64s_one (l : List Int) : ∀ u ∈ i64s l, u.oneCell' = true := by
  intro u hu
  simp only [i64s, List.mem_map] at hu
  obtain ⟨x, _, rfl⟩ := hu
  rfl
theorem prs_one (l : List (Int × Int)) : ∀ u ∈ prs l, u.oneCell' = true := by
  intro u hu
  simp only [prs, List.mem_flatMap, pcells] at hu
  obtain ⟨x, _, hx⟩ := hu
  simp at hx
  rcases hx with rfl | rfl <;> rfl
theorem i64s_length (l : List Int) : (i64s l).length = l.length := by simp [i64s]
/-- The beginning of what can be read. -/
theorem Rd.prefix {w : World} {a : Option Addr} {cs : List Value} (h : Rd w a cs) (m : Nat) : Rd w a (cs.take m) := fun j v hj => by
  rw [List.getElem?_take] at hj
  split at hj
  · exact h j v hj
  · cases hj
theorem Rd.nil {w : World} {a : Option Addr} : Rd w a [] := fun j v hj => by simp at hj
theorem Rd.none_nil {w : World} {cs : List Value} (h : Rd w none cs) : cs = [] := by
  cases cs with
  | nil => rfl
  | cons u l => obtain ⟨ad, e, _⟩ := h 0 u rfl; cases e
/-- A new block of one row, written out. -/
theorem Rd.new {w : World} {cs : Array Value} {e : TypeId} : Rd (w.alloc (.cells cs e)) (some ⟨w.heap.size, 0, none⟩) cs.toList := fun j v hj => by
  refine ⟨_, rfl, ?_⟩
  have hh : (w.alloc (.cells cs e)).heap[w.heap.size]? = some (.cells cs e) := heap_alloc_new w _
  have h0 : ((⟨w.heap.size, 0, none⟩ : Addr).add j) = ⟨w.heap.size, j, none⟩ := by
    unfold Addr.add
    by_cases hj0 : j = 0 <;> simp [hj0]
  rw [h0]
  simp only [World.cell?, hh]
  simpa using hj
end Go
namespace Go
open Go.RowKit
theorem i64s_take (l : List Int) (m : Nat) : (i64s l).take m = i64s (l.take m) := by simp [i64s]
theorem prs_append (l m : List (Int × Int)) : prs (l ++ m) = prs l ++ prs m := by simp [prs]
theorem i64s_append (l m : List Int) : i64s (l ++ m) = i64s l ++ i64s m := by simp [i64s]

/-- A slice of numbers, as it can be read in w. -/
structure IntsAt (w : World) (a : Option Addr) (n c : Nat) (l : List Int) : Prop where
  len : n = l.length
  rd : Rd w a (i64s l)
  ok : okI l
  cap : n ≤ c
  nil : a = none → c = 0
  size : n * 8 ≤ 140737488351232
def Ints (w : World) (v : Value) (l : List Int) : Prop := ∃ a c, v = .slice a l.length c ∧ IntsAt w a l.length c l
structure PrsAt (w : World) (a : Option Addr) (n c : Nat) (l : List (Int × Int)) : Prop where
  len : n = l.length
  rd : Rd w a (prs l)
  ok : okP l
  cap : n ≤ c
  nil : a = none → c = 0
  size : n * 16 ≤ 140737488351232
def Prs (w : World) (v : Value) (l : List (Int × Int)) : Prop := ∃ a c, v = .slice a l.length c ∧ PrsAt w a l.length c l
theorem IntsAt.aft {w w' : World} {a : Option Addr} {n c : Nat} {l : List Int} (h : IntsAt w a n c l) (hw : Aft w w') : IntsAt w' a n c l := { h with rd := h.rd.aft hw }
theorem PrsAt.aft {w w' : World} {a : Option Addr} {n c : Nat} {l : List (Int × Int)} (h : PrsAt w a n c l) (hw : Aft w w') : PrsAt w' a n c l := { h with rd := h.rd.aft hw }
theorem Ints.aft {w w' : World} {v : Value} {l : List Int} (h : Ints w v l) (hw : Aft w w') : Ints w' v l := let ⟨a, c, e, h⟩ := h; ⟨a, c, e, h.aft hw⟩
theorem Prs.aft {w w' : World} {v : Value} {l : List (Int × Int)} (h : Prs w v l) (hw : Aft w w') : Prs w' v l := let ⟨a, c, e, h⟩ := h; ⟨a, c, e, h.aft hw⟩
theorem IntsAt.le {w : World} {a : Option Addr} {n c : Nat} {l : List Int} (h : IntsAt w a n c l) : n ≤ 17592186043904 := by have := h.size; omega
theorem PrsAt.le {w : World} {a : Option Addr} {n c : Nat} {l : List (Int × Int)} (h : PrsAt w a n c l) : n ≤ 8796093021952 := by have := h.size; omega

theorem ownsRow_at {w : World} {base : Nat} {e : TypeId} {size : Nat} {v : Value} {n : Nat} {xs : List Value} (h : w.ownsRow base e size v n xs) :
    ∃ a c, v = .slice a n c ∧ Rd w a xs ∧ n ≤ c ∧ (a = none → c = 0) := by
  obtain ⟨a, c, e, hr⟩ := ownsRow_rd h
  rcases h.2 with ⟨rfl, rfl⟩ | ⟨g, cap, cur, rfl, hg, hh, r, _⟩
  · simp only [Value.slice.injEq] at e
    obtain ⟨rfl, _, rfl⟩ := e
    exact ⟨none, 0, rfl, hr, Nat.le_refl _, fun _ => rfl⟩
  · simp only [Value.slice.injEq] at e
    obtain ⟨rfl, _, rfl⟩ := e
    exact ⟨_, cap, rfl, hr, r, fun h => by cases h⟩
theorem ownsRow_ints {w : World} {base : Nat} {e : TypeId} {v : Value} {l : List Int} (h : w.ownsRow base e 1 v l.length (i64s l)) (ok : okI l) (hs : l.length * 8 ≤ 140737488351232) : Ints w v l := by
  obtain ⟨a, c, e, hr, h1, h2⟩ := ownsRow_at h
  exact ⟨a, c, e, rfl, hr, ok, h1, h2, hs⟩
theorem ownsRow_prs {w : World} {base : Nat} {e : TypeId} {v : Value} {l : List (Int × Int)} (h : w.ownsRow base e 2 v l.length (prs l)) (ok : okP l) (hs : l.length * 16 ≤ 140737488351232) : Prs w v l := by
  obtain ⟨a, c, e, hr, h1, h2⟩ := ownsRow_at h
  exact ⟨a, c, e, rfl, hr, ok, h1, h2, hs⟩
end Go
namespace Go
open Go.RowKit
theorem Rd.pair_at {w : World} {b off : Nat} {l : List (Int × Int)} (h : Rd w (some ⟨b, off, none⟩) (prs l)) (ok : okP l) {i : Nat} (hi : i < l.length) :
    ∃ x y, w.cell? ⟨b, off + i * 2, none⟩ = some (.int .i64 x) ∧ w.cell? ⟨b, off + i * 2 + 1, none⟩ = some (.int .i64 y) ∧ Hid (l[i]? = some (x, y)) ∧
      -9223372036854775808 ≤ x ∧ x ≤ 9223372036854775807 ∧ -9223372036854775808 ≤ y ∧ y ≤ 9223372036854775807 := by
  obtain ⟨b', off', x, y, e, h1, h2, _, r⟩ := h.pair ok hi
  simp only [Option.some.injEq, Addr.mk.injEq, and_true] at e
  obtain ⟨rfl, rfl⟩ := e
  exact ⟨x, y, h1, h2, r⟩
theorem Rd.int_at {w : World} {b off : Nat} {l : List Int} (h : Rd w (some ⟨b, off, none⟩) (i64s l)) (ok : okI l) {i : Nat} (hi : i < l.length) :
    ∃ x, w.cell? ⟨b, off + i, none⟩ = some (.int .i64 x) ∧ Hid (l[i]? = some x) ∧ -9223372036854775808 ≤ x ∧ x ≤ 9223372036854775807 := by
  obtain ⟨b', off', x, e, h1, _, r⟩ := h.int ok hi
  simp only [Option.some.injEq, Addr.mk.injEq, and_true] at e
  obtain ⟨rfl, rfl⟩ := e
  exact ⟨x, h1, r⟩
end Go
namespace Go
/-- Two slices do not lie in one block. -/
def Sep (v v' : Value) : Prop := ∀ k, v.ownBlock = some k → v'.ownBlock = some k → False
theorem Sep.symm {v v' : Value} (h : Sep v v') : Sep v' v := fun k a b => h k b a
theorem Sep.kept {v v' : Value} (h : Sep v v') {w w' : World} {base : Nat} {e : TypeId} {size n : Nat} {xs : List Value} (ho : w.ownsRow base e size v n xs) (hg : w.grownBy w' v'.ownBlock) : w'.ownsRow base e size v n xs := by
  refine ho.kept hg ?_
  cases hv : v.ownBlock with
  | none => exact .inl rfl
  | some k => exact .inr fun e => h k hv e.symm
theorem Sep.moved {v v' v1 : Value} (h : Sep v v') {w : World} {base : Nat} {e : TypeId} {size n : Nat} {xs : List Value} (ho : w.ownsRow base e size v' n xs) (hl : v1.ownBlock = v.ownBlock ∨ v1.ownBlock = some w.heap.size) : Sep v1 v' := fun k h1 h2 => by
  rcases hl with hl | hl
  · exact h k (hl ▸ h1) h2
  · have := (ho.lt k h2).2
    rw [h1] at hl
    simp at hl
    omega
theorem Sep.nil (v : Value) : Sep (.slice none 0 0) v := fun k h => by cases h
end Go
namespace Go
open Go.RowKit
/-- A slice of numbers that came in. -/
theorem ints_of_open {W : World} {x : Addr} {len cap : Nat} {zs : List Int} (hl : len ≤ cap) (hz : zs.length = cap) (hcell : ∀ i, i < zs.length → W.cell? (x.add i) = some (.int .i64 (zs.getD i 0))) (hwz : ∀ n ∈ zs, (Lit.int .i64 n).wf = true)
    (hs : cap * 8 ≤ 140737488351232) : Ints W (.slice (some x) len cap) (zs.take len) := by
  have e : (zs.take len).length = len := by rw [List.length_take]; omega
  refine ⟨some x, cap, by rw [e], rfl, fun j v hj => ⟨x, rfl, ?_⟩, fun n hn => ?_, by omega, fun h => (by cases h), by omega⟩
  · simp only [i64s, List.getElem?_map, List.getElem?_take] at hj
    split at hj
    · rename_i hlt
      have hj2 : j < zs.length := by omega
      rw [List.getElem?_eq_getElem hj2] at hj
      simp at hj
      subst hj
      rw [hcell j hj2]
      simp [List.getD, hj2]
    · cases hj
  · have := hwz n (List.mem_of_mem_take hn)
    simp [Lit.wf, IntKind.signed, IntKind.bits] at this
    exact this
theorem i64_bd {n : Int} (h : (Lit.int .i64 n).wf = true) : -9223372036854775808 ≤ n ∧ n ≤ 9223372036854775807 := by
  simp [Lit.wf, IntKind.signed, IntKind.bits] at h
  exact h
theorem Ints.nil_in (W : World) : Ints W (.slice none 0 0) [] := ⟨none, 0, rfl, rfl, Rd.nil, by simp [okI], Nat.le_refl _, fun _ => rfl, by simp⟩
end Go
