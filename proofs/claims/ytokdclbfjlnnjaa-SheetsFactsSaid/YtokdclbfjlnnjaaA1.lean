/- Ground laws; contracts of the sheets. Conditions are in the theorems. -/
import Derived.WalkKit
import Derived.WalkSpells
import Derived.WalkLawsBesides
import Derived.BigQuiet
import Derived.Deep.QuietTactic
import Derived.Laws.AppendOwnNone
import Derived.Maps.AppendAt
import Derived.Maps.RangeWalk
import Derived.Maps.Ext
import Derived.OrdersIn
import Derived.TacticsIn
import Derived.Deep.RegionHeld3
import Derived.Test.YtokdclbfjlnnjaaRows
import Derived.Deep.DeepCutAuto
/- Small laws for the walks of this seat, over any program: worlds that come after a world, slices that read as lists, a region that draws its order and whose callees may make memory. -/
namespace Go
open Go.RowKit

theorem hid {p : Prop} (h : p) : Hid p := h
theorem ret_int {k : IntKind} {a b : Int} (h : a = b) : Ending.returned (.int k a) = .returned (.int k b) := by rw [h]
theorem ret_bool {a b : Bool} (h : a = b) : Ending.returned (.bool a) = .returned (.bool b) := by rw [h]

/-- w' comes after w: all of w's blocks as they were. -/
def Aft (w w' : World) : Prop := Below w.heap.size w w'
theorem Aft.refl (w : World) : Aft w w := Below.refl _ _
theorem Aft.trans {a b c : World} (h : Aft a b) (k : Aft b c) : Aft a c := Below.trans h (Below.mono k h.size)
theorem Aft.drew {a w : World} (h : Aft a w) : Aft a w.drew := Below.drew h
theorem Aft.alloc {a w : World} (h : Aft a w) (o : Obj) : Aft a (w.alloc o) := Below.alloc h h.size o
theorem Aft.setCell {a w : World} (h : Aft a w) {p : Addr} (hp : a.heap.size ≤ p.block) (u : Value) : Aft a (w.setCell p u) := Below.setCell h hp u
theorem Aft.cell {a w : World} (h : Aft a w) {b o : Nat} (hb : b < a.heap.size) : w.cell? ⟨b, o, none⟩ = a.cell? ⟨b, o, none⟩ := Below.cell (p := ⟨b, o, none⟩) h hb
theorem Aft.frozen {a w : World} (h : Aft a w) {b o : Nat} (hb : b < a.heap.size) : w.frozen? ⟨b, o, none⟩ = a.frozen? ⟨b, o, none⟩ := Below.frozen (p := ⟨b, o, none⟩) h hb

/-- The worlds after w, as a type: the class in which a region that draws its order is walked once. -/
def Lat (w : World) : Type := { W : World // Aft w W }
instance Lat.some (w : World) : Nonempty (Lat w) := ⟨⟨w, Aft.refl w⟩⟩
def Lat.W {w : World} (x : Lat w) : World := x.1
theorem Lat.aft {w : World} (x : Lat w) : Aft w x.W := x.2
@[go_sem] theorem Lat.cell {w : World} (x : Lat w) {b o : Nat} (hb : b < w.heap.size) : x.W.cell? ⟨b, o, none⟩ = w.cell? ⟨b, o, none⟩ := x.2.cell hb

theorem Aft.lat {w w' : World} (h : Aft w w') : ∃ y : Lat w, w' = y.W := ⟨⟨w', h⟩, rfl⟩

section
variable {P : Program}
theorem wp_region_lat {id : Nat} {Q : Exit → Act → World → Prop} {a : Act} (w0 : World) {w : World} (hw : Aft w0 w) {l : List Oper} (hm : P.follows .mixedOrders = true) (hB : Region.lexB .any l.toArray = true)
    (h : wpQuiet P l.toArray (fun W => ∃ x : Lat w0, W = x.W) (fun a' => ∀ W, (∃ x : Lat w0, W = x.W) → Q .normal a' W) l a) : (Code.region id l.toArray true).wp P Q a w :=
  wp_region_quiet (C := fun W => ∃ x : Lat w0, W = x.W) hm hB ⟨⟨_, hw.drew⟩, rfl⟩ (by simpa using h)

theorem Calls.lat {f : FuncId} {args : Array Value} {w : World} {x : Lat w} {v : Value}
    (h : Calls P f args x.W fun e w' => e = .returned v ∧ Aft x.W w') : Calls P f args x.W fun e w'' => e = .returned v ∧ ∃ y : Lat w, w'' = y.W :=
  h.mono fun _ _ ⟨he, hm⟩ => ⟨he, ⟨_, x.2.trans hm⟩, rfl⟩
end

/-- The cells at a lie as listed; nothing is asked where the list is empty. -/
def Rd (w : World) (a : Option Addr) (cs : List Value) : Prop := ∀ j v, cs[j]? = some v → ∃ ad, a = some ad ∧ w.cell? (ad.add j) = some v
def i64s (l : List Int) : List Value := l.map (Value.int .i64)
def okI (l : List Int) : Prop := ∀ x ∈ l, -9223372036854775808 ≤ x ∧ x ≤ 9223372036854775807

theorem cell_spot {w : World} {b off s : Nat} {v : Value} (h : w.cell? ⟨b, off, some s⟩ = some v) : False := by
  unfold World.cell? at h
  split at h <;> simp at h

theorem Rd.get {w : World} {a : Option Addr} {cs : List Value} (h : Rd w a cs) {i : Nat} {v : Value} (hi : cs[i]? = some v) :
    ∃ b off, a = some ⟨b, off, none⟩ ∧ w.cell? ⟨b, off + i, none⟩ = some v ∧ b < w.heap.size := by
  obtain ⟨⟨b, off, spot⟩, rfl, hc⟩ := h i v hi
  have hlt : i < cs.length := (List.getElem?_eq_some_iff.1 hi).1
  cases spot with
  | some s =>
    exfalso
    obtain ⟨ad, e, hc'⟩ := h 0 cs[0] (by simp)
    simp only [Option.some.injEq] at e
    subst e
    exact cell_spot hc'
  | none =>
    have hc' : w.cell? ⟨b, off + i, none⟩ = some v := by
      unfold Addr.add at hc
      by_cases h0 : i = 0
      · simpa [h0] using hc
      · simpa [h0] using hc
    exact ⟨b, off, rfl, hc', World.block_lt_of_cell? w _ hc'⟩

theorem Rd.aft {w w' : World} {a : Option Addr} {cs : List Value} (h : Rd w a cs) (hw : Aft w w') : Rd w' a cs := fun j v hj => by
  obtain ⟨b, off, e, hc, hb⟩ := h.get hj
  obtain ⟨ad, e', hc'⟩ := h j v hj
  refine ⟨ad, e', ?_⟩
  have : ad.add j = ⟨b, off + j, none⟩ := by
    rw [e] at e'
    simp only [Option.some.injEq] at e'
    subst e'
    unfold Addr.add
    by_cases h0 : j = 0 <;> simp [h0]
  rw [this] at hc' ⊢
  rw [hw.cell hb]
  exact hc'

theorem Rd.int {w : World} {a : Option Addr} {l : List Int} (h : Rd w a (i64s l)) (ok : okI l) {i : Nat} (hi : i < l.length) :
    ∃ b off x, a = some ⟨b, off, none⟩ ∧ w.cell? ⟨b, off + i, none⟩ = some (.int .i64 x) ∧ b < w.heap.size ∧ Hid (l[i]? = some x) ∧ -9223372036854775808 ≤ x ∧ x ≤ 9223372036854775807 := by
  obtain ⟨b, off, e, hc, hb⟩ := h.get (i := i) (v := .int .i64 l[i]) (by simp [i64s, hi])
  exact ⟨b, off, l[i], e, hc, hb, by unfold Hid; simp [hi], ok _ (by simp)⟩

end Go
namespace Go
open Go.RowKit

theorem drop_cons {α : Type} {l : List α} {k : Nat} {x : α} (h : l[k]? = some x) : l.drop k = x :: l.drop (k + 1) := by
  obtain ⟨hk, rfl⟩ := List.getElem?_eq_some_iff.1 h
  exact List.drop_eq_getElem_cons hk

theorem take_snoc {α : Type} {l : List α} {k : Nat} {x : α} (h : l[k]? = some x) : l.take (k + 1) = l.take k ++ [x] := by
  obtain ⟨hk, rfl⟩ := List.getElem?_eq_some_iff.1 h
  rw [List.take_succ_eq_append_getElem hk]

/-- Pairs of numbers: two cells each. -/
def pcells (p : Int × Int) : List Value := [.int .i64 p.1, .int .i64 p.2]
def prs (l : List (Int × Int)) : List Value := l.flatMap pcells
def okP (l : List (Int × Int)) : Prop := ∀ p ∈ l, (-9223372036854775808 ≤ p.1 ∧ p.1 ≤ 9223372036854775807) ∧ (-9223372036854775808 ≤ p.2 ∧ p.2 ≤ 9223372036854775807)
def pr (p : Int × Int) : Value := .agg #[.int .i64 p.1, .int .i64 p.2]

theorem prs_length (l : List (Int × Int)) : (prs l).length = l.length * 2 := by
  induction l with
  | nil => rfl
  | cons a l ih => simp only [prs, List.flatMap_cons, List.length_append, List.length_cons, pcells] at *; simp at *; omega

theorem prs_get {l : List (Int × Int)} : ∀ {k : Nat} {p : Int × Int}, l[k]? = some p → (prs l)[k * 2]? = some (.int .i64 p.1) ∧ (prs l)[k * 2 + 1]? = some (.int .i64 p.2) := by
  induction l with
  | nil => intro k p h; simp at h
  | cons a l ih =>
    intro k p h
    cases k with
    | zero => simp at h; subst h; simp [prs, pcells]
    | succ k =>
      have := ih (k := k) (p := p) (by simpa using h)
      have e : (k + 1) * 2 = k * 2 + 2 := by omega
      rw [e]
      simp only [prs, List.flatMap_cons, pcells, List.cons_append, List.nil_append] at *
      exact this

theorem Rd.pair {w : World} {a : Option Addr} {l : List (Int × Int)} (h : Rd w a (prs l)) (ok : okP l) {i : Nat} (hi : i < l.length) :
    ∃ b off x y, a = some ⟨b, off, none⟩ ∧ w.cell? ⟨b, off + i * 2, none⟩ = some (.int .i64 x) ∧ w.cell? ⟨b, off + i * 2 + 1, none⟩ = some (.int .i64 y) ∧ b < w.heap.size ∧ Hid (l[i]? = some (x, y)) ∧
      -9223372036854775808 ≤ x ∧ x ≤ 9223372036854775807 ∧ -9223372036854775808 ≤ y ∧ y ≤ 9223372036854775807 := by
  have hg : l[i]? = some (l[i].1, l[i].2) := by simp [hi]
  obtain ⟨h1, h2⟩ := prs_get hg
  obtain ⟨b, off, e, hc, hb⟩ := h.get h1
  obtain ⟨b', off', e', hc', hb'⟩ := h.get h2
  rw [e] at e'
  simp only [Option.some.injEq, Addr.mk.injEq, and_true] at e'
  obtain ⟨rfl, rfl⟩ := e'
  have hm := ok l[i] (by simp)
  exact ⟨b, off, _, _, e, hc, by rw [Nat.add_assoc]; exact hc', hb, hid hg, hm.1.1, hm.1.2, hm.2.1, hm.2.2⟩

/-- An owned row in a later world. -/
theorem ownsRow_aft {w w' : World} {base : Nat} {e : TypeId} {size : Nat} {v : Value} {n : Nat} {xs : List Value} (h : w.ownsRow base e size v n xs) (hw : Aft w w') : w'.ownsRow base e size v n xs := by
  obtain ⟨h1, h2⟩ := h
  refine ⟨h1, ?_⟩
  rcases h2 with h2 | ⟨g, cap, cur, hv, hg, hh, r⟩
  · exact Or.inl h2
  · exact Or.inr ⟨g, cap, cur, hv, hg, by rw [hw.block g (Array.getElem?_eq_some_iff.1 hh).1]; exact hh, r⟩

/-- What an owned row holds can be read. -/
theorem ownsRow_rd {w : World} {base : Nat} {e : TypeId} {size : Nat} {v : Value} {n : Nat} {xs : List Value} (h : w.ownsRow base e size v n xs) :
    ∃ a cap, v = .slice a n cap ∧ Rd w a xs := by
  rcases h.2 with ⟨rfl, rfl⟩ | ⟨g, cap, cur, rfl, hg, hh, r⟩
  · refine ⟨none, 0, rfl, fun j u hj => ?_⟩
    have := h.1
    simp at this
    subst this
    simp at hj
  · exact ⟨_, cap, rfl, fun j u hj => ⟨_, rfl, h.cells rfl j u hj⟩⟩

/-- Behind an append to a row of the call's own (from base on). -/
theorem Aft.grown {w0 w w' : World} {row : Option Nat} (h : Aft w0 w) (hg : w.grownBy w' row) (hr : ∀ k, row = some k → w0.heap.size ≤ k) : Aft w0 w' :=
  Below.grown h hg h.size hr

/-- append to a row of the call's own, from whatever source that reads as listed. -/
theorem wpList_app {P : Program} (w : World) {ops : Array Oper} {rest : List Oper} {o : Oper} {a : Act} {Q : Exit → Act → World → Prop} (hgd : o.guard = none) (s x : Operand) (t : TypeId)
    (ho : o.op = .call { callee := .builtin .append, args := #[s, x], argTypes := #[t, t] })
    (base : Nat) (e : TypeId) (z : Value) (size bytes : Nat) (ht : P.underlying t = some (.slice e)) (hinfo : (P.info? e).map (fun i => (i.zero, i.size, i.bytes)) = some (some z, size, bytes))
    (hzs : z.cells.size = size) (hsz : 0 < size)
    (v : Value) (n : Nat) (xs : List Value) (hs : a.eval s = v) (hown : w.ownsRow base e size v n xs)
    (ax : Option Addr) (m c : Nat) (news : List Value) (hx : a.eval x = .slice ax m c) (hc : ax = none → c = 0) (hl : news.length = m * size) (hnews : Rd w ax news) (h1 : ∀ u ∈ news, u.oneCell' = true)
    (h63 : n + m ≤ maxLen) (hbytes : (n + m) * bytes ≤ 140737488355328) (hbase : base ≤ w.heap.size)
    (h : ∀ v' w', w'.ownsRow base e size v' (n + m) (xs ++ news) → w.grownBy w' v.ownBlock → (v'.ownBlock = v.ownBlock ∨ v'.ownBlock = some w.heap.size) → wpList P ops Q rest (a.put o.dst v') w') : wpList P ops Q (o :: rest) a w := by
  obtain ⟨i, hi, hz, h2, h3⟩ := info_parts hinfo
  cases ax with
  | none =>
    have hnil : news = [] := by
      cases news with
      | nil => rfl
      | cons u l => obtain ⟨ad, e, _⟩ := hnews 0 u rfl; cases e
    subst hnil
    have hm : m = 0 := by
      have := hl
      simp only [List.length_nil] at this
      rcases Nat.mul_eq_zero.1 this.symm with h | h
      · exact h
      · omega
    subst hm
    have := hc rfl
    subst this
    refine wpList_append_own_none hgd s x t ho base e i size ht hi v n xs hs hown hx ?_
    have := h v w (by simpa using hown) (World.grownBy.refl _ _) (.inl rfl)
    exact this
  | some ad =>
    exact wpList_append_own_at w hgd s x t ho base e i z size bytes ht hi hz h2 h3 hzs hsz v n xs hs hown ad m c news hx hl (fun j u hj => by
      obtain ⟨ad', e', hc'⟩ := hnews j u hj
      cases e'
      exact hc') h1 h63 hbytes hbase (fun v' w' a1 a2 _ a4 => h v' w' a1 a2 a4)

theorem i64s_one (l : List Int) : ∀ u ∈ i64s l, u.oneCell' = true := by
  intro u hu
  simp only [i64s, List.mem_map] at hu
  obtain ⟨x, _, rfl⟩ := hu
  rfl
theorem prs_one (l : List (Int × Int)) : ∀ u ∈ prs l, u.oneCell' = true := by
  intro u hu
  simp only [prs, List.mem_flatMap, pcells] at hu
  obtain ⟨x, _, hx⟩ := hu
  simp at hx
  rcases hx with rfl | rfl <;> rfl
/-- The beginning of what can be read. -/
theorem Rd.front {w : World} {a : Option Addr} {cs : List Value} (h : Rd w a cs) (m : Nat) : Rd w a (cs.take m) := fun j v hj => by
  rw [List.getElem?_take] at hj
  split at hj
  · exact h j v hj
  · cases hj
theorem Rd.nil {w : World} {a : Option Addr} : Rd w a [] := fun j v hj => by simp at hj
/-- A new block of one row, written out. -/
theorem Rd.new {w : World} {cs : Array Value} {e : TypeId} : Rd (w.alloc (.cells cs e)) (some ⟨w.heap.size, 0, none⟩) cs.toList := fun j v hj => by
  refine ⟨_, rfl, ?_⟩
  have hh : (w.alloc (.cells cs e)).heap[w.heap.size]? = some (.cells cs e) := heap_alloc_new w _
  have h0 : ((⟨w.heap.size, 0, none⟩ : Addr).add j) = ⟨w.heap.size, j, none⟩ := by
    unfold Addr.add
    by_cases hj0 : j = 0 <;> simp [hj0]
  rw [h0]
  simp only [World.cell?, hh]
  simpa using hj
end Go
namespace Go
open Go.RowKit
theorem i64s_take (l : List Int) (m : Nat) : (i64s l).take m = i64s (l.take m) := by simp [i64s]
theorem prs_append (l m : List (Int × Int)) : prs (l ++ m) = prs l ++ prs m := by simp [prs]
theorem i64s_append (l m : List Int) : i64s (l ++ m) = i64s l ++ i64s m := by simp [i64s]

/-- A slice of numbers, as it can be read in w. -/
structure IntsAt (w : World) (a : Option Addr) (n c : Nat) (l : List Int) : Prop where
  len : n = l.length
  rd : Rd w a (i64s l)
  ok : okI l
  cap : n ≤ c
  nil : a = none → c = 0
  size : n * 8 ≤ 140737488351232
def Ints (w : World) (v : Value) (l : List Int) : Prop := ∃ a c, v = .slice a l.length c ∧ IntsAt w a l.length c l
structure PrsAt (w : World) (a : Option Addr) (n c : Nat) (l : List (Int × Int)) : Prop where
  len : n = l.length
  rd : Rd w a (prs l)
  ok : okP l
  cap : n ≤ c
  nil : a = none → c = 0
  size : n * 16 ≤ 140737488351232
def Prs (w : World) (v : Value) (l : List (Int × Int)) : Prop := ∃ a c, v = .slice a l.length c ∧ PrsAt w a l.length c l
theorem IntsAt.aft {w w' : World} {a : Option Addr} {n c : Nat} {l : List Int} (h : IntsAt w a n c l) (hw : Aft w w') : IntsAt w' a n c l := { h with rd := h.rd.aft hw }
theorem PrsAt.aft {w w' : World} {a : Option Addr} {n c : Nat} {l : List (Int × Int)} (h : PrsAt w a n c l) (hw : Aft w w') : PrsAt w' a n c l := { h with rd := h.rd.aft hw }
theorem Ints.aft {w w' : World} {v : Value} {l : List Int} (h : Ints w v l) (hw : Aft w w') : Ints w' v l := let ⟨a, c, e, h⟩ := h; ⟨a, c, e, h.aft hw⟩
theorem Prs.aft {w w' : World} {v : Value} {l : List (Int × Int)} (h : Prs w v l) (hw : Aft w w') : Prs w' v l := let ⟨a, c, e, h⟩ := h; ⟨a, c, e, h.aft hw⟩
theorem IntsAt.le {w : World} {a : Option Addr} {n c : Nat} {l : List Int} (h : IntsAt w a n c l) : n ≤ 17592186043904 := by have := h.size; omega
theorem PrsAt.le {w : World} {a : Option Addr} {n c : Nat} {l : List (Int × Int)} (h : PrsAt w a n c l) : n ≤ 8796093021952 := by have := h.size; omega

theorem ownsRow_at {w : World} {base : Nat} {e : TypeId} {size : Nat} {v : Value} {n : Nat} {xs : List Value} (h : w.ownsRow base e size v n xs) :
    ∃ a c, v = .slice a n c ∧ Rd w a xs ∧ n ≤ c ∧ (a = none → c = 0) := by
  obtain ⟨a, c, e, hr⟩ := ownsRow_rd h
  rcases h.2 with ⟨rfl, rfl⟩ | ⟨g, cap, cur, rfl, hg, hh, r, _⟩
  · simp only [Value.slice.injEq] at e
    obtain ⟨rfl, _, rfl⟩ := e
    exact ⟨none, 0, rfl, hr, Nat.le_refl _, fun _ => rfl⟩
  · simp only [Value.slice.injEq] at e
    obtain ⟨rfl, _, rfl⟩ := e
    exact ⟨_, cap, rfl, hr, r, fun h => by cases h⟩
theorem ownsRow_ints {w : World} {base : Nat} {e : TypeId} {v : Value} {l : List Int} (h : w.ownsRow base e 1 v l.length (i64s l)) (ok : okI l) (hs : l.length * 8 ≤ 140737488351232) : Ints w v l := by
  obtain ⟨a, c, e, hr, h1, h2⟩ := ownsRow_at h
  exact ⟨a, c, e, rfl, hr, ok, h1, h2, hs⟩
theorem ownsRow_prs {w : World} {base : Nat} {e : TypeId} {v : Value} {l : List (Int × Int)} (h : w.ownsRow base e 2 v l.length (prs l)) (ok : okP l) (hs : l.length * 16 ≤ 140737488351232) : Prs w v l := by
  obtain ⟨a, c, e, hr, h1, h2⟩ := ownsRow_at h
  exact ⟨a, c, e, rfl, hr, ok, h1, h2, hs⟩
end Go
namespace Go
open Go.RowKit
theorem Rd.pair_at {w : World} {b off : Nat} {l : List (Int × Int)} (h : Rd w (some ⟨b, off, none⟩) (prs l)) (ok : okP l) {i : Nat} (hi : i < l.length) :
    ∃ x y, w.cell? ⟨b, off + i * 2, none⟩ = some (.int .i64 x) ∧ w.cell? ⟨b, off + i * 2 + 1, none⟩ = some (.int .i64 y) ∧ Hid (l[i]? = some (x, y)) ∧
      -9223372036854775808 ≤ x ∧ x ≤ 9223372036854775807 ∧ -9223372036854775808 ≤ y ∧ y ≤ 9223372036854775807 := by
  obtain ⟨b', off', x, y, e, h1, h2, _, r⟩ := h.pair ok hi
  simp only [Option.some.injEq, Addr.mk.injEq, and_true] at e
  obtain ⟨rfl, rfl⟩ := e
  exact ⟨x, y, h1, h2, r⟩
theorem Rd.int_at {w : World} {b off : Nat} {l : List Int} (h : Rd w (some ⟨b, off, none⟩) (i64s l)) (ok : okI l) {i : Nat} (hi : i < l.length) :
    ∃ x, w.cell? ⟨b, off + i, none⟩ = some (.int .i64 x) ∧ Hid (l[i]? = some x) ∧ -9223372036854775808 ≤ x ∧ x ≤ 9223372036854775807 := by
  obtain ⟨b', off', x, e, h1, _, r⟩ := h.int ok hi
  simp only [Option.some.injEq, Addr.mk.injEq, and_true] at e
  obtain ⟨rfl, rfl⟩ := e
  exact ⟨x, h1, r⟩
end Go
namespace Go
/-- Two slices do not lie in one block. -/
def Sep (v v' : Value) : Prop := ∀ k, v.ownBlock = some k → v'.ownBlock = some k → False
theorem Sep.symm {v v' : Value} (h : Sep v v') : Sep v' v := fun k a b => h k b a
theorem Sep.kept {v v' : Value} (h : Sep v v') {w w' : World} {base : Nat} {e : TypeId} {size n : Nat} {xs : List Value} (ho : w.ownsRow base e size v n xs) (hg : w.grownBy w' v'.ownBlock) : w'.ownsRow base e size v n xs := by
  refine ho.kept hg ?_
  cases hv : v.ownBlock with
  | none => exact .inl rfl
  | some k => exact .inr fun e => h k hv e.symm
theorem Sep.moved {v v' v1 : Value} (h : Sep v v') {w : World} {base : Nat} {e : TypeId} {size n : Nat} {xs : List Value} (ho : w.ownsRow base e size v' n xs) (hl : v1.ownBlock = v.ownBlock ∨ v1.ownBlock = some w.heap.size) : Sep v1 v' := fun k h1 h2 => by
  rcases hl with hl | hl
  · exact h k (hl ▸ h1) h2
  · have := (ho.lt k h2).2
    rw [h1] at hl
    simp at hl
    omega
theorem Sep.nil (v : Value) : Sep (.slice none 0 0) v := fun k h => by cases h
end Go
namespace Go
open Go.RowKit
/-- A slice of numbers that came in. -/
theorem ints_of_open {W : World} {x : Addr} {len cap : Nat} {zs : List Int} (hl : len ≤ cap) (hz : zs.length = cap) (hcell : ∀ i, i < zs.length → W.cell? (x.add i) = some (.int .i64 (zs.getD i 0))) (hwz : ∀ n ∈ zs, (Lit.int .i64 n).wf = true)
    (hs : cap * 8 ≤ 140737488351232) : Ints W (.slice (some x) len cap) (zs.take len) := by
  have e : (zs.take len).length = len := by rw [List.length_take]; omega
  refine ⟨some x, cap, by rw [e], rfl, fun j v hj => ⟨x, rfl, ?_⟩, fun n hn => ?_, by omega, fun h => (by cases h), by omega⟩
  · simp only [i64s, List.getElem?_map, List.getElem?_take] at hj
    split at hj
    · rename_i hlt
      have hj2 : j < zs.length := by omega
      rw [List.getElem?_eq_getElem hj2] at hj
      simp at hj
      subst hj
      rw [hcell j hj2]
      simp [List.getD, hj2]
    · cases hj
  · have := hwz n (List.mem_of_mem_take hn)
    simp [Lit.wf] at this
    exact this
theorem i64_bd {n : Int} (h : (Lit.int .i64 n).wf = true) : -9223372036854775808 ≤ n ∧ n ≤ 9223372036854775807 := by
  simp [Lit.wf] at h
  exact h
theorem Ints.nil_in (W : World) : Ints W (.slice none 0 0) [] := ⟨none, 0, rfl, rfl, Rd.nil, by simp [okI], Nat.le_refl _, fun _ => rfl, by simp⟩
end Go
/- Laws for a map from int to pairs of int that a call makes: what it holds, said as a function on numbers. -/
namespace Go
open Go.RowKit Go.Maps

def pd (p : Int × Int) : DataW Unit := .agg [.lit (.int .i64 p.1), .lit (.int .i64 p.2)]
def pairR (v : Value) : Option (DataW Unit × List MemPlace) :=
  match v with
  | .agg ⟨[.int .i64 a, .int .i64 b]⟩ => some (pd (a, b), [])
  | _ => none
theorem pairR_mk (p : Int × Int) : pairR (pr p) = some (pd p, []) := rfl
theorem pairR_inv {v : Value} {y : DataW Unit × List MemPlace} (h : pairR v = some y) : ∃ p, v = pr p ∧ y = (pd p, []) := by
  unfold pairR at h
  split at h
  · rename_i a b
    simp only [Option.some.injEq] at h
    exact ⟨(a, b), rfl, h.symm⟩
  · cases h
theorem pd_inj {p q : Int × Int} (h : pd p = pd q) : p = q := by
  simp only [pd, DataW.agg.injEq, List.cons.injEq, DataW.lit.injEq, Lit.int.injEq, true_and, and_true] at h
  exact Prod.ext h.1 h.2
theorem okKey {i : Int} (h : -9223372036854775808 ≤ i ∧ i ≤ 9223372036854775807) : (Lit.int .i64 i).wf = true := WalkArith.wf_i64 h

section
variable {P : Program} {K : Nat} (hK : P.underlying K = some (.int .i64))

/-- Block b is a map of at most n entries that holds just what f says. -/
def IM (P : Program) (K : Nat) (w : World) (b n : Nat) (f : Int → Option (Int × Int)) : Prop :=
  ∃ D : DataW Unit, w.ownsMap P K pairR b n D ∧ (∀ i, Maps.has D (.int .i64 i) = (f i).isSome) ∧ (∀ i p, f i = some p → ∀ z, D.atKey (.int .i64 i) z = pd p)
/-- .. under a range loop: left: which keys are still to come. -/
def IMr (P : Program) (K : Nat) (w : World) (b r n : Nat) (f : Int → Option (Int × Int)) (left : Int → Bool) (cnt : Nat) : Prop :=
  ∃ (D : DataW Unit) (lf : Lit → Bool), w.ranges P K pairR b r n D lf cnt ∧ (∀ i, Maps.has D (.int .i64 i) = (f i).isSome) ∧ (∀ i p, f i = some p → ∀ z, D.atKey (.int .i64 i) z = pd p) ∧ (∀ i, lf (.int .i64 i) = left i)

theorem IM.made (w : World) : IM P K (w.alloc (.map #[] 0)) w.heap.size 0 (fun _ => none) :=
  ⟨.map [], World.ownsMap_made _ _ _ _, fun _ => rfl, fun _ _ h => by cases h⟩
theorem IM.kept {w w' : World} {b n : Nat} {f : Int → Option (Int × Int)} {row : Option Nat} (h : IM P K w b n f) (hg : w.grownBy w' row) (hne : some b ≠ row) : IM P K w' b n f :=
  let ⟨D, h1, h2⟩ := h; ⟨D, h1.kept hg hne, h2⟩
theorem IM.lt {w : World} {b n : Nat} {f : Int → Option (Int × Int)} (h : IM P K w b n f) : b < w.heap.size := let ⟨_, h1, _⟩ := h; h1.lt
theorem Aft.grows {w w' : World} (h : Aft w w') (row : Option Nat) : w.grownBy w' row := ⟨h.os, h.tape, h.output, h.size, fun k hk _ => h.block k hk⟩
theorem IM.aft {w w' : World} {b n : Nat} {f : Int → Option (Int × Int)} (h : IM P K w b n f) (hw : Aft w w') : IM P K w' b n f := h.kept (hw.grows none) (by simp)
theorem IMr.kept {w w' : World} {b r n cnt : Nat} {f : Int → Option (Int × Int)} {left : Int → Bool} {row : Option Nat} (h : IMr P K w b r n f left cnt) (hg : w.grownBy w' row) (hb : some b ≠ row) (hr : some r ≠ row) : IMr P K w' b r n f left cnt :=
  let ⟨D, lf, h1, h2⟩ := h; ⟨D, lf, h1.kept hg hb hr, h2⟩
theorem IMr.aft {w w' : World} {b r n cnt : Nat} {f : Int → Option (Int × Int)} {left : Int → Bool} (h : IMr P K w b r n f left cnt) (hw : Aft w w') : IMr P K w' b r n f left cnt := h.kept (hw.grows none) (by simp) (by simp)
theorem IMr.im {w : World} {b r n cnt : Nat} {f : Int → Option (Int × Int)} {left : Int → Bool} (h : IMr P K w b r n f left cnt) : IM P K w b n f :=
  let ⟨D, _, h1, h2, h3, _⟩ := h; ⟨D, h1.owns, h2, h3⟩
theorem IMr.cnt_eq {w : World} {b r n cnt : Nat} {f : Int → Option (Int × Int)} {left : Int → Bool} (h : IMr P K w b r n f left cnt) : w.rangeLeft b r = cnt := let ⟨_, _, h1, _⟩ := h; h1.left_eq

theorem IMr.lt2 {w : World} {b r n cnt : Nat} {f : Int → Option (Int × Int)} {left : Int → Bool} (h : IMr P K w b r n f left cnt) : r < w.heap.size := by
  obtain ⟨D, lf, ⟨es, clock, since, seen, c0, _, _, _, _, hr, _⟩, _⟩ := h
  exact (Array.getElem?_eq_some_iff.1 hr).1

variable {w : World} {ops : Array Oper} {rest : List Oper} {o : Oper} {a : Act} {Q : Exit → Act → World → Prop}

include hK in
theorem wpList_im_store (hg : o.guard = none) (m x v : Operand) (t : TypeId) (hop : o.op = Op.mapUpdate t m x v) (e : TypeId) (ht : P.underlying t = some (.map K e))
    (b n : Nat) (f : Int → Option (Int × Int)) (hm : a.eval m = .map (some b)) (hown : IM P K w b n f) (hn : n < maxLen) (i : Int) (p : Int × Int) (hx : a.eval x = .int .i64 i) (hv : a.eval v = pr p)
    (hi : -9223372036854775808 ≤ i ∧ i ≤ 9223372036854775807)
    (h : ∀ w', IM P K w' b (n + 1) (fun j => if j = i then some p else f j) → w.grownBy w' (some b) → wpList P ops Q rest (a.put o.dst undef) w') : wpList P ops Q (o :: rest) a w := by
  obtain ⟨D, h1, h2, h3⟩ := hown
  refine wpList_mapUpdate_own w hg m x v t hop K e (int_keyed hK) ht pairR b n D hm h1 hn _ _ (.int .i64 i) hx hv (keyOf_int_mk hK (okKey hi)) (pd p) [] (pairR_mk p) (fun w' g1 g2 => h w' ⟨_, g1, fun j => ?_, fun j q hq z => ?_⟩ g2)
  · by_cases hj : j = i
    · subst hj; rw [has_put_same h1.isMap (by simp [WideAt.IsKeyLit])]; simp
    · rw [has_put_other (by simp [hj]), h2]; simp [hj]
  · by_cases hj : j = i
    · subst hj
      simp only [if_true, Option.some.injEq] at hq
      rw [atKey_put_same h1.isMap (by simp [WideAt.IsKeyLit]), hq]
    · simp only [if_neg hj] at hq
      rw [atKey_put_other (by simp [hj])]; exact h3 j q hq z

include hK in
/-- Where a map has an entry it has a key. -/
theorem has_of_size {w : World} {b n : Nat} {D : DataW Unit} (h : w.ownsMap P K pairR b n D) : 0 < Maps.size D ↔ ∃ i, Maps.has D (.int .i64 i) = true := by
  obtain ⟨es, c, hb, F, _, rfl⟩ := h
  constructor
  · intro h
    rw [size_eq, length_read] at h
    have hm : es[0] ∈ es.toList := by simp
    obtain ⟨y, hy⟩ := F.reads _ hm
    obtain ⟨x, hx, hkl, hwf⟩ := Maps.keyOf_int_inv hK (WideElems.rd_key hy)
    refine ⟨x, ?_⟩
    rw [has_eq, List.any_eq_true]
    refine ⟨y, ?_, by rw [hkl]; simp [Lit.sameKey]⟩
    have : WideElems.rg P K pairR es[0] = y := by simp [WideElems.rg, hy]
    rw [← this]
    have hmm := List.mem_map_of_mem (f := WideElems.rg P K pairR) hm
    have : ∀ (l : List (Lit × DataW Unit)) z, z ∈ l → z ∈ l.foldr DataW.insert [] := by
      intro l z
      induction l with
      | nil => exact fun h => h
      | cons q l ih =>
        intro hz
        have hins : ∀ (x z : Lit × DataW Unit) l, z ∈ DataW.insert x l ↔ z = x ∨ z ∈ l := by
          intro x z l
          induction l with
          | nil => simp [DataW.insert]
          | cons y r ih2 => unfold DataW.insert; split <;> simp [ih2]; constructor <;> (rintro (h | h | h) <;> simp [h])
        rw [List.foldr_cons, hins]
        rcases List.mem_cons.1 hz with h | h
        · exact .inl h
        · exact .inr (ih h)
    exact this _ _ hmm
  · rintro ⟨i, hi⟩
    rw [has_eq, List.any_eq_true] at hi
    obtain ⟨y, hy, _⟩ := hi
    rw [size_eq]
    exact List.length_pos_of_mem hy

include hK in
theorem wpList_im_len (hg : o.guard = none) (m : Operand) (t : TypeId) (hop : o.op = Op.call { callee := Callee.builtin Builtin.len, args := #[m], argTypes := #[t] }) (e : TypeId) (ht : P.underlying t = some (.map K e))
    (b n : Nat) (f : Int → Option (Int × Int)) (hm : a.eval m = .map (some b)) (hown : IM P K w b n f)
    (h : ∀ s : Nat, s ≤ n → (0 < s ↔ ∃ i, (f i).isSome = true) → wpList P ops Q rest (a.put o.dst (.int .i64 s)) w) : wpList P ops Q (o :: rest) a w := by
  obtain ⟨D, h1, h2, h3⟩ := hown
  refine wpList_len_own w hg m t hop K e ht pairR b n D hm h1 (h _ h1.size_le ?_)
  rw [has_of_size hK h1]
  simp only [h2]

include hK in
theorem wpList_im_range (hg : o.guard = none) (m : Operand) (t : TypeId) (hop : o.op = Op.range t m) (e : TypeId) (ht : P.underlying t = some (.map K e)) (b n : Nat) (f : Int → Option (Int × Int))
    (hm : a.eval m = .map (some b)) (hown : IM P K w b n f)
    (h : ∀ w' cnt, IMr P K w' b w.heap.size n f (fun i => (f i).isSome) cnt → cnt ≤ n → Aft w w' → w'.heap.size = w.heap.size + 1 → wpList P ops Q rest (a.put o.dst (.pointer (some ⟨w.heap.size, 0, none⟩))) w') : wpList P ops Q (o :: rest) a w := by
  obtain ⟨D, h1, h2, h3⟩ := hown
  refine wpList_range_own w hg m t hop K e (int_keyed hK) ht pairR b n D hm h1 (fun w' g1 g2 g3 => h w' _ ⟨D, _, g1, h2, h3, h2⟩ h1.size_le ⟨g2.os, g2.tape, g2.output, g2.size, fun k hk => g2.block k hk (by simp)⟩ g3)

include hK in
theorem wpList_im_next (hg : o.guard = none) (it : Operand) (hop : o.op = Op.next it false) (b r n : Nat) (f : Int → Option (Int × Int)) (left : Int → Bool) (cnt : Nat)
    (hit : a.eval it = .pointer (some ⟨r, 0, none⟩)) (hr : IMr P K w b r n f left cnt)
    (hDone : (∀ i, left i = false) → wpList P ops Q rest (a.put o.dst (.tuple #[.bool false])) w)
    (hMore : ∀ (x : Int) (p : Int × Int) (w' : World) (cnt' : Nat), -9223372036854775808 ≤ x ∧ x ≤ 9223372036854775807 → left x = true → f x = some p → IMr P K w' b r n f (fun i => left i && !decide (i = x)) cnt' → cnt' < cnt → w.grownBy w' (some r) → w'.heap.size = w.heap.size →
      (Instr.entry (.pointer (some ⟨r, 0, none⟩))).run P w' = .ok (.tuple #[.int .i64 x, .agg #[.int .i64 p.1, .int .i64 p.2]]) w' → wpList P ops Q rest (a.put o.dst (.tuple #[.bool true, .int .i64 x, .agg #[.int .i64 p.1, .int .i64 p.2]])) w') : wpList P ops Q (o :: rest) a w := by
  obtain ⟨D, lf, h1, h2, h3, h4⟩ := hr
  refine wpList_next_ranges w hg it hop K (int_keyed hK) pairR (Value.int .i64) pr (fun key kl hk => by obtain ⟨x, rfl, _⟩ := Maps.keyOf_int_inv hK hk; exact ⟨x, rfl⟩) (fun v y hv => by obtain ⟨p, rfl, _⟩ := pairR_inv hv; exact ⟨p, rfl⟩)
    b r n D lf cnt hit h1 (fun _ g => hDone fun i => by rw [← h4]; exact g _) (fun x p kl y w' cnt' g1 g2 g3 g4 g5 g6 g7 g8 g9 => ?_)
  obtain ⟨x', ex, rfl, hwf⟩ := Maps.keyOf_int_inv hK g1
  cases ex
  obtain ⟨q, eq, ey⟩ := pairR_inv g3
  have hpq : p = q := by
    simp only [pr, Value.agg.injEq] at eq
    have := congrArg Array.toList eq
    simp only [List.cons.injEq, Value.int.injEq, true_and, and_true] at this
    exact Prod.ext this.1 this.2
  subst hpq
  subst ey
  have hhas := Maps.has_true_of_atKey g4
  have hf : f x = some p := by
    rw [h2] at hhas
    obtain ⟨q, hq⟩ := Option.isSome_iff_exists.1 hhas
    have e1 := g4 .nil
    rw [h3 x q hq] at e1
    rw [hq, pd_inj e1]
  have hb : -9223372036854775808 ≤ x ∧ x ≤ 9223372036854775807 := by
    simp [Lit.wf, IntKind.min, IntKind.max, IntKind.signed, IntKind.bits] at hwf
    exact hwf
  refine hMore x p w' cnt' hb (by rw [← h4]; exact g2) hf ⟨D, _, g5, h2, h3, fun i => ?_⟩ g6 g7 g8 g9
  show (lf (.int .i64 i) && !(Lit.int .i64 i).sameKey (.int .i64 x)) = _
  rw [h4]
  simp [Lit.sameKey]

theorem wpList_im_clear (hg : o.guard = none) (m : Operand) (t : TypeId) (hop : o.op = Op.call { callee := Callee.builtin Builtin.clear, args := #[m], argTypes := #[t] }) (e : TypeId) (ht : P.underlying t = some (.map K e))
    (b n : Nat) (f : Int → Option (Int × Int)) (hm : a.eval m = .map (some b)) (hown : IM P K w b n f)
    (h : ∀ w', w.grownBy w' (some b) → wpList P ops Q rest (a.put o.dst (.tuple #[])) w') : wpList P ops Q (o :: rest) a w := by
  obtain ⟨D, ⟨es, clock, hb, _⟩, _, _⟩ := hown
  have hrun : (Builtin.clear_ #[t] o.type #[.map (some b)]).run P w = .ok (.tuple #[]) (ChangeMaps.setBlock w b (.map #[] clock)) := by
    simp [Builtin.clear_, run_underlying ht, MapKept.run_getObj_map hb, Result.andThen, setObj, Sem.run, hb, ChangeMaps.setBlock]
  refine wpList_plain hg fun K' hK' => ?_
  unfold Oper.wp
  simp [execOp, hop, resolve, invoke, builtin, hm, hrun, Result.andThen]
  refine hK' _ _ (h _ ⟨rfl, rfl, rfl, by simp [ChangeMaps.setBlock], fun k hk hne => ?_⟩)
  simp only [ChangeMaps.setBlock]
  rw [Array.getElem?_setIfInBounds_ne (by intro e; exact hne (by rw [e]))]
end

/-- A row of cells is no map. -/
theorem own_ne_map {P : Program} {K : Nat} {w : World} {base : Nat} {e : TypeId} {size : Nat} {v : Value} {n : Nat} {xs : List Value} (h : w.ownsRow base e size v n xs) {b m : Nat} {f : Int → Option (Int × Int)} (hm : IM P K w b m f) : ∀ k, v.ownBlock = some k → k ≠ b := by
  intro k hk e
  subst e
  obtain ⟨D, ⟨es, c, hb, _⟩, _⟩ := hm
  rcases h.2 with ⟨rfl, _⟩ | ⟨g, cap, cur, rfl, _, hg, _⟩
  · simp [Value.ownBlock] at hk
  · simp [Value.ownBlock] at hk
    subst hk
    rw [hb] at hg
    cases hg
theorem own_kept_map {P : Program} {K : Nat} {w w' : World} {base : Nat} {e : TypeId} {size : Nat} {v : Value} {n : Nat} {xs : List Value} (h : w.ownsRow base e size v n xs) {b m : Nat} {f : Int → Option (Int × Int)} (hm : IM P K w b m f) (hg : w.grownBy w' (some b)) : w'.ownsRow base e size v n xs := by
  refine h.kept hg ?_
  cases hv : v.ownBlock with
  | none => exact .inl rfl
  | some k => exact .inr fun e' => own_ne_map h hm k hv (Option.some.inj e')
def lenOf : Value → Nat
  | .slice _ n _ => n
  | _ => 0
theorem lenOf_own {w : World} {base : Nat} {e : TypeId} {size : Nat} {v : Value} {n : Nat} {xs : List Value} (h : w.ownsRow base e size v n xs) : lenOf v = n := by
  obtain ⟨a, c, rfl, _⟩ := ownsRow_rd h
  rfl
end Go
/- A region that draws its order, walked as a flow of values: each operation gets a predicate on its value that lasts in later worlds, and is walked once, from its operands' predicates, in any later world. -/
namespace Go
open Go.RowKit

/-- A predicate on a value that lasts. -/
structure FV where
  p : Value → World → Prop
  st : ∀ v W W', p v W → Aft W W' → p v W'
def FV.is (u : Value) : FV := ⟨fun v _ => v = u, fun _ _ _ h _ => h⟩
def FV.pure (q : Value → Prop) : FV := ⟨fun v _ => q v, fun _ _ _ h _ => h⟩
def flowV (Vs : List FV) (i : Nat) (v : Value) (W : World) : Prop := (Vs.getD i (FV.pure fun _ => True)).p v W
theorem flowV_st {Vs : List FV} {i : Nat} {v : Value} {W W' : World} (h : flowV Vs i v W) (hw : Aft W W') : flowV Vs i v W' := (Vs.getD i (FV.pure fun _ => True)).st v W W' h hw

def Region.dstOf (ops : Array Oper) (j : Nat) : Option Tmp := (ops[j]?).bind (·.dst)

/-- All that must be listed before each operation. -/
def Region.preTable (ops : Array Oper) : Array (List Nat) :=
  ops.foldl (fun t o => t.push (o.after.foldl (fun acc e => if Region.binds .any e then (e.on :: t.getD e.on []).foldl (fun l x => if l.contains x then l else x :: l) acc else acc) [])) #[]

def flowOk (ops : Array Oper) (pre : Array (List Nat)) (all : List (Nat × Tmp)) (uses : List (List (Nat × Tmp))) (m : Nat) : Bool :=
  Region.noSelect ops && decide (all.length ≤ ops.size) &&
  -- the edges go back, and the table is right
  (List.range ops.size).all (fun i => match ops[i]? with
    | none => false
    | some o => o.after.all (fun e => !Region.binds .any e || decide (e.on < i)) &&
      (pre.getD i []).all (fun j => decide (j < i) && o.after.any (fun e => Region.binds .any e && (e.on == j || (pre.getD e.on []).contains j)))) &&
  -- the front's targets
  (List.range all.length).all (fun k => match all[k]? with
    | none => false
    | some (j, d) => j == k && decide (d < m) && (Region.dstOf ops k == some d) && (List.range all.length).all (fun k' => k' == k || match all[k']? with | none => false | some (_, d') => d' != d)) &&
  -- what each of the front looks at
  (List.range all.length).all (fun i => match ops[i]? with
    | none => false
    | some o => (uses.getD i []).all (fun p => (pre.getD i []).contains p.1 && (all[p.1]? == some p)) &&
      (o.looksAt ops).all (fun t => all.all (fun p => p.2 != t || ((pre.getD i []).contains p.1 && (uses.getD i []).contains p) || (pre.getD p.1 []).contains i))) &&
  -- the tail
  (List.range ops.size).all (fun i => decide (i < all.length) || (List.range i).all (fun j => (pre.getD i []).contains j))

section
variable (P : Program) (ops : Array Oper) (Vs : List FV) (w0 : World)

/-- One operation's duty. -/
def flowOb (i : Nat) (d : Tmp) (o : Oper) : List (Nat × Tmp) → Act → World → Prop
  | [], b, W => wpList P ops (fun e b' W' => e = .normal ∧ b'.defers = b.defers ∧ flowV Vs i (b'.tmps.getD d undef) W' ∧ Aft W W') [o] b W
  | p :: ps, b, W => ∀ v, flowV Vs p.1 v W → flowOb i d o ps (b.put (some p.2) v) W

def flowObs (a : Act) : List Oper → List (Nat × Tmp) → List (List (Nat × Tmp)) → Prop
  | o :: os, p :: ps, u :: us => (∀ W, Aft w0 W → flowOb P ops Vs p.1 p.2 o u a W) ∧ flowObs a os ps us
  | _, [], _ => True
  | _, _, _ => False

/-- What is to be shown behind the front. -/
def flowEnd (Q : Exit → Act → World → Prop) (tail : List Oper) : List (Nat × Tmp) → Act → World → Prop
  | [], b, W => wpList P ops Q tail b W
  | p :: ps, b, W => ∀ v, flowV Vs p.1 v W → flowEnd Q tail ps (b.put (some p.2) v) W
end

def Act.puts (vals : Nat → Value) : List (Nat × Tmp) → Act → Act
  | [], a => a
  | p :: ps, a => Act.puts vals ps (a.put (some p.2) (vals p.1))

theorem Act.puts_shape (vals : Nat → Value) : ∀ (ps : List (Nat × Tmp)) (a : Act), (a.puts vals ps).defers = a.defers ∧ (a.puts vals ps).tmps.size = a.tmps.size
  | [], a => ⟨rfl, rfl⟩
  | p :: ps, a => by
    have := Act.puts_shape vals ps (a.put (some p.2) (vals p.1))
    simpa [Act.puts, Act.put] using this

theorem Act.puts_oth (vals : Nat → Value) {d : Tmp} : ∀ (ps : List (Nat × Tmp)) (a : Act), (∀ p ∈ ps, p.2 ≠ d) → (a.puts vals ps).tmps[d]? = a.tmps[d]?
  | [], a, _ => rfl
  | p :: ps, a, h => by
    rw [Act.puts, Act.puts_oth vals ps _ (fun q hq => h q (List.mem_cons_of_mem _ hq))]
    have : p.2 ≠ d := h p (by simp)
    simp [Act.put, Array.getElem?_setIfInBounds_ne this]

theorem Act.puts_val (vals : Nat → Value) {d : Tmp} {k : Nat} : ∀ (ps : List (Nat × Tmp)) (a : Act), d < a.tmps.size → (∃ p ∈ ps, p.2 = d) → (∀ p ∈ ps, p.2 = d → p.1 = k) → (a.puts vals ps).tmps[d]? = some (vals k)
  | [], a, _, h, _ => by obtain ⟨p, hp, _⟩ := h; cases hp
  | p :: ps, a, hd, h, hu => by
    rw [Act.puts]
    by_cases h' : ∃ q ∈ ps, q.2 = d
    · exact Act.puts_val vals ps _ (by simpa [Act.put] using hd) h' (fun q hq => hu q (List.mem_cons_of_mem _ hq))
    · rw [Act.puts_oth vals ps _ (fun q hq he => h' ⟨q, hq, he⟩)]
      obtain ⟨q, hq, hqd⟩ := h
      have : q = p := by
        rcases List.mem_cons.1 hq with h1 | h1
        · exact h1
        · exact absurd ⟨q, h1, hqd⟩ h'
      subst this
      have hk := hu q (by simp) hqd
      subst hk
      subst hqd
      simp [Act.put, hd]

theorem flowOb_puts {P : Program} {ops : Array Oper} {Vs : List FV} {i : Nat} {d : Tmp} {o : Oper} (vals : Nat → Value) {W : World} : ∀ (ps : List (Nat × Tmp)) (a : Act), flowOb P ops Vs i d o ps a W →
    (∀ p ∈ ps, flowV Vs p.1 (vals p.1) W) → wpList P ops (fun e b' W' => e = .normal ∧ b'.defers = (a.puts vals ps).defers ∧ flowV Vs i (b'.tmps.getD d undef) W' ∧ Aft W W') [o] (a.puts vals ps) W
  | [], a, h, _ => h
  | p :: ps, a, h, hv => flowOb_puts vals ps _ (h _ (hv p (by simp))) (fun q hq => hv q (List.mem_cons_of_mem _ hq))

theorem flowEnd_puts {P : Program} {ops : Array Oper} {Vs : List FV} {Q : Exit → Act → World → Prop} {tail : List Oper} (vals : Nat → Value) {W : World} : ∀ (ps : List (Nat × Tmp)) (a : Act), flowEnd P ops Vs Q tail ps a W →
    (∀ p ∈ ps, flowV Vs p.1 (vals p.1) W) → wpList P ops Q tail (a.puts vals ps) W
  | [], a, h, _ => h
  | p :: ps, a, h, hv => flowEnd_puts vals ps _ (h _ (hv p (by simp))) (fun q hq => hv q (List.mem_cons_of_mem _ hq))

theorem flowObs_get {P : Program} {ops : Array Oper} {Vs : List FV} {w0 : World} {a : Act} : ∀ (os : List Oper) (ps : List (Nat × Tmp)) (us : List (List (Nat × Tmp))), flowObs P ops Vs w0 a os ps us →
    ∀ i p, ps[i]? = some p → ∃ o, os[i]? = some o ∧ ∀ W, Aft w0 W → flowOb P ops Vs p.1 p.2 o (us.getD i []) a W
  | _, [], _, _, i, p, hp => by simp at hp
  | o :: os, q :: ps, u :: us, h, 0, p, hp => by
    simp at hp; subst hp
    exact ⟨o, by simp, fun W hW => by simpa using h.1 W hW⟩
  | o :: os, q :: ps, u :: us, h, i + 1, p, hp => by
    obtain ⟨o', h1, h2⟩ := flowObs_get os ps us h.2 i p (by simpa using hp)
    exact ⟨o', by simpa using h1, fun W hW => by simpa using h2 W hW⟩
  | [], q :: ps, us, h, i, p, hp => by cases us <;> exact h.elim
  | o :: os, q :: ps, [], h, i, p, hp => h.elim

theorem countP_lt' {α : Type} {p q : α → Bool} {i : α} : ∀ (l : List α), i ∈ l → p i = true → q i = false → (∀ j, q j = true → p j = true) → l.countP q < l.countP p
  | [], h, _, _, _ => by cases h
  | b :: l, h, hp, hq, hle => by
    have hmono : l.countP q ≤ l.countP p := List.countP_mono_left (fun j _ => hle j)
    rw [List.countP_cons, List.countP_cons]
    rcases List.mem_cons.1 h with rfl | h
    · simp [hp, hq]; omega
    · have := countP_lt' l h hp hq hle
      by_cases hb : q b = true
      · simp [hb, hle b hb]; omega
      · simp [hb]; split <;> omega

def unl (n : Nat) (listed : Array Bool) : Nat := (List.range n).countP fun i => !listed.getD i true
theorem unl_set {n i : Nat} {listed : Array Bool} (hi : i < n) (h : listed.getD i true = false) : unl n (listed.setIfInBounds i true) < unl n listed := by
  have hlt : i < listed.size := by
    rcases Nat.lt_or_ge i listed.size with h' | h'
    · exact h'
    · simp [Array.getElem?_eq_none h'] at h
  refine countP_lt' (i := i) _ (List.mem_range.2 hi) (by simpa using h) (by simp [hlt]) (fun j hj => ?_)
  by_cases hij : i = j
  · subst hij; simpa using h
  · rw [getD_set_ne true hij] at hj; exact hj
theorem unl_pos {n i : Nat} {listed : Array Bool} (hi : i < n) (h : listed.getD i true = false) : 0 < unl n listed :=
  List.countP_pos_iff.2 ⟨i, List.mem_range.2 hi, by simpa using h⟩
theorem unl_new (n : Nat) : unl n (Array.replicate n false) ≤ n := by
  have := List.countP_le_length (l := List.range n) (p := fun i => !(Array.replicate n false).getD i true)
  simpa [unl] using this

theorem op_lift {P : Program} {ops : Array Oper} {o : Oper} {d : Tmp} {i : Nat} {G : Value → World → Prop} {b a' : Act} {W : World} {Q : Exit → Act → World → Prop} {K : Act → World → Prop}
    (hi : ops[i]? = some o) (hd : o.dst = some d) (hb : d < b.tmps.size)
    (he : execOp a'.eval o = execOp b.eval o) (hw : Region.wanted o (yielded ops a'.tmps) = Region.wanted o (yielded ops b.tmps))
    (h : wpList P ops (fun e b' W' => e = .normal ∧ b'.defers = b.defers ∧ G (b'.tmps.getD d undef) W') [o] b W)
    (hK : ∀ v W', G v W' → K (a'.put (some d) v) W') : wpOp P ops Q i K a' W := by
  have hput : ∀ v, (b.put o.dst v).tmps.getD d undef = v := fun v => by simp [hd, Act.put, hb]
  unfold wpOp
  simp only [hi]
  simp only [wpList] at h
  rw [hw]
  by_cases hwt : Region.wanted o (yielded ops b.tmps) = true
  · rw [if_pos hwt] at h ⊢
    refine .inl ?_
    rcases h with h | ⟨_, ⟨_, _, h, _⟩⟩
    · unfold Oper.wp at *
      rw [he]
      generalize (execOp b.eval o).run P W = r at *
      cases r with
      | ok n w' =>
        cases n <;> simp only [Oper.upon] at h ⊢
        case value u => rw [hput] at h; rw [hd]; exact hK _ _ h.2.2
        case skip => rw [hput] at h; rw [hd]; exact hK _ _ h.2.2
        case defer x =>
          exfalso
          have h2 := h.2.1
          rw [hd] at h2
          simp only [Act.put] at h2
          exact absurd (congrArg List.length h2) (by simp)
        case enter f args =>
          refine Calls.mono h fun e w'' he' => ?_
          cases e with
          | returned u => simp only at he' ⊢; rw [hput] at he'; rw [hd]; exact hK _ _ he'.2.2
          | panicked c => exact absurd he'.1 (by simp)
          | outgrown => obtain ⟨_, _, h', _⟩ := he'; cases h'
        case row row args => exact Rows.mono h fun u w'' he' => by rw [hput] at he'; rw [hd]; exact hK _ _ he'.2.2
      | halt x w' =>
        cases x <;> simp only [Oper.upon] at h ⊢
        case panic u => exact absurd h.1 (by simp)
    · cases h
  · rw [if_neg hwt] at h ⊢
    have := h.2.2
    rw [hput] at this
    rw [hd]
    exact hK _ _ this

structure FlowFacts (ops : Array Oper) (pre : Nat → List Nat) (all : List (Nat × Tmp)) (uses : Nat → List (Nat × Tmp)) (m : Nat) : Prop where
  sel : Region.noSelect ops = true
  len : all.length ≤ ops.size
  back : ∀ i o, ops[i]? = some o → ∀ e ∈ o.after, Region.binds .any e = true → e.on < i
  prior : ∀ i o, ops[i]? = some o → ∀ j ∈ pre i, j < i ∧ ∃ e ∈ o.after, Region.binds .any e = true ∧ (e.on = j ∨ j ∈ pre e.on)
  tgt : ∀ k j d, all[k]? = some (j, d) → j = k ∧ d < m ∧ Region.dstOf ops k = some d ∧ ∀ k' j' d', all[k']? = some (j', d') → k' ≠ k → d' ≠ d
  use : ∀ i o, i < all.length → ops[i]? = some o → (∀ p ∈ uses i, p.1 ∈ pre i ∧ all[p.1]? = some p) ∧ ∀ t ∈ o.looksAt ops, ∀ p ∈ all, p.2 = t → (p.1 ∈ pre i ∧ p ∈ uses i) ∨ i ∈ pre p.1
  tail : ∀ i, all.length ≤ i → i < ops.size → ∀ j, j < i → j ∈ pre i

theorem flowOk_facts {ops : Array Oper} {pre : Array (List Nat)} {all : List (Nat × Tmp)} {uses : List (List (Nat × Tmp))} {m : Nat} (h : flowOk ops pre all uses m = true) :
    FlowFacts ops (fun i => pre.getD i []) all (fun i => uses.getD i []) m := by
  unfold flowOk at h
  simp only [Bool.and_eq_true] at h
  obtain ⟨⟨⟨⟨⟨h1, h2⟩, h3⟩, h4⟩, h5⟩, h6⟩ := h
  have lt : ∀ {i : Nat} {o : Oper}, ops[i]? = some o → i < ops.size := fun ho => (Array.getElem?_eq_some_iff.1 ho).1
  have e3 : ∀ i o, ops[i]? = some o → _ := fun i o ho => by
    have := List.all_eq_true.1 h3 i (List.mem_range.2 (lt ho))
    simp only [ho, Bool.and_eq_true] at this
    exact this
  refine ⟨h1, of_decide_eq_true h2, fun i o ho e he hb => ?_, fun i o ho j hj => ?_, fun k j d hk => ?_, fun i o hi ho => ⟨fun p hp => ?_, fun t ht p hp hpt => ?_⟩, fun i hi hn j hj => ?_⟩
  · have := (Array.all_eq_true_iff_forall_mem.1 (e3 i o ho).1) e he
    simpa [hb] using this
  · have := List.all_eq_true.1 (e3 i o ho).2 j hj
    simp only [Bool.and_eq_true, decide_eq_true_eq] at this
    refine ⟨this.1, ?_⟩
    obtain ⟨e, he, hb⟩ := Array.any_eq_true'.1 this.2
    simp only [Bool.and_eq_true, Bool.or_eq_true, beq_iff_eq, List.contains_iff_mem] at hb
    exact ⟨e, he, hb.1, hb.2⟩
  · have hkl : k < all.length := (List.getElem?_eq_some_iff.1 hk).1
    have := List.all_eq_true.1 h4 k (List.mem_range.2 hkl)
    simp only [hk, Bool.and_eq_true, beq_iff_eq, decide_eq_true_eq] at this
    obtain ⟨⟨⟨g1, g2⟩, g3⟩, g4⟩ := this
    refine ⟨g1, g2, g3, fun k' j' d' hk' hne => ?_⟩
    have hkl' : k' < all.length := (List.getElem?_eq_some_iff.1 hk').1
    have := List.all_eq_true.1 g4 k' (List.mem_range.2 hkl')
    simpa [hk', hne] using this
  · have := List.all_eq_true.1 h5 i (List.mem_range.2 hi)
    simp only [ho, Bool.and_eq_true] at this
    have := List.all_eq_true.1 this.1 p hp
    simpa using this
  · have := List.all_eq_true.1 h5 i (List.mem_range.2 hi)
    simp only [ho, Bool.and_eq_true] at this
    have := List.all_eq_true.1 (List.all_eq_true.1 this.2 t ht) p hp
    simpa [hpt] using this
  · have := List.all_eq_true.1 h6 i (List.mem_range.2 hn)
    simp only [Bool.or_eq_true, decide_eq_true_eq] at this
    rcases this with h | h
    · omega
    · have := List.all_eq_true.1 h j (List.mem_range.2 hj)
      simpa using this

/-- j is listed. -/
def On (listed : Array Bool) (j : Nat) : Prop := listed.getD j false = true
theorem not_on {n : Nat} {listed : Array Bool} (hs : listed.size = n) {j : Nat} (hj : j < n) : ¬ On listed j ↔ listed.getD j true = false := by
  unfold On
  simp [hs, hj]
theorem on_set {listed : Array Bool} {i j : Nat} (h : On (listed.setIfInBounds i true) j) : j = i ∨ On listed j := by
  by_cases hij : i = j
  · exact .inl hij.symm
  · exact .inr (by unfold On at *; rw [getD_set_ne false hij] at h; exact h)

structure Downs (ops : Array Oper) (listed : Array Bool) : Prop where
  sz : listed.size = ops.size
  down : ∀ i o, On listed i → ops[i]? = some o → ∀ e ∈ o.after, Region.binds .any e = true → On listed e.on

theorem On.lt {ops : Array Oper} {listed : Array Bool} (h : Downs ops listed) {j : Nat} (hj : On listed j) : j < ops.size := by
  unfold On at hj
  rcases Nat.lt_or_ge j listed.size with h' | h'
  · rw [← h.sz]; exact h'
  · simp [Array.getElem?_eq_none h'] at hj

theorem Downs.set {ops : Array Oper} {listed : Array Bool} (h : Downs ops listed) {i : Nat} (hr : i ∈ Region.ready .any ops listed) : Downs ops (listed.setIfInBounds i true) := by
  refine ⟨by simpa using h.sz, fun k o hk ho e he hb => ?_⟩
  obtain ⟨h0, o', ho', hall⟩ := mem_ready.1 hr
  rcases on_set hk with rfl | hk
  · rw [ho] at ho'
    cases ho'
    exact getD_set_true (hall e he hb)
  · exact getD_set_true (h.down k o hk ho e he hb)

section
variable {ops : Array Oper} {pre : Nat → List Nat} {all : List (Nat × Tmp)} {uses : Nat → List (Nat × Tmp)} {m : Nat} {listed : Array Bool}

theorem FlowFacts.on_pre (F : FlowFacts ops pre all uses m) (h : Downs ops listed) : ∀ (i j : Nat), On listed i → j ∈ pre i → On listed j := by
  intro i
  induction i using Nat.strongRecOn with
  | _ i ih =>
    intro j hi hj
    have hlt := On.lt h hi
    have ho : ops[i]? = some ops[i] := by simp [hlt]
    obtain ⟨_, e, he, hb, hc⟩ := F.prior i _ ho j hj
    have hon := h.down i _ hi ho e he hb
    rcases hc with hc | hc
    · exact hc ▸ hon
    · exact ih e.on (F.back i _ ho e he hb) j hon hc

theorem FlowFacts.ready_pre (F : FlowFacts ops pre all uses m) (h : Downs ops listed) {i j : Nat} (hr : i ∈ Region.ready .any ops listed) (hj : j ∈ pre i) : On listed j := by
  obtain ⟨h0, o, ho, hall⟩ := mem_ready.1 hr
  obtain ⟨_, e, he, hb, hc⟩ := F.prior i o ho j hj
  rcases hc with hc | hc
  · exact hc ▸ hall e he hb
  · exact F.on_pre h e.on j (hall e he hb) hc

/-- The least that is not listed is ready. -/
theorem FlowFacts.least (F : FlowFacts ops pre all uses m) (h : Downs ops listed) : ∀ i, i < ops.size → ¬ On listed i → ∃ k, k ≤ i ∧ k ∈ Region.ready .any ops listed := by
  intro i
  induction i using Nat.strongRecOn with
  | _ i ih =>
    intro hlt hi
    by_cases hex : ∃ j, j < i ∧ ¬ On listed j
    · obtain ⟨j, hj, hn⟩ := hex
      obtain ⟨k, hk, hr⟩ := ih j hj (by omega) hn
      exact ⟨k, by omega, hr⟩
    · have ho : ops[i]? = some ops[i] := by simp [hlt]
      refine ⟨i, Nat.le_refl _, mem_ready.2 ⟨(not_on h.sz hlt).1 hi, _, ho, fun e he hb => ?_⟩⟩
      have := F.back i _ ho e he hb
      exact Classical.not_not.1 fun hn => hex ⟨e.on, this, hn⟩

/-- The tail runs as it stands. -/
theorem FlowFacts.run_tail {P : Program} {Q : Exit → Act → World → Prop} (F : FlowFacts ops pre all uses m) : ∀ (fuel k : Nat) (listed : Array Bool) (a : Act) (W : World), Downs ops listed → unl ops.size listed ≤ fuel →
    all.length ≤ k → (∀ j, j < k → On listed j ∨ ops.size ≤ j) → (∀ j, k ≤ j → ¬ On listed j) → wpList P ops Q (ops.toList.drop k) a W → wpAny P .any ops Q fuel listed a W := by
  intro fuel
  induction fuel with
  | zero =>
    intro k listed a W hd hf hk h1 h2 h
    have hkn : ops.size ≤ k := by
      rcases Nat.lt_or_ge k ops.size with hlt | hge
      · have := unl_pos hlt ((not_on hd.sz hlt).1 (h2 k (Nat.le_refl _)))
        omega
      · exact hge
    refine ⟨?_, ?_⟩
    · refine List.eq_nil_iff_forall_not_mem.2 fun j hj => ?_
      obtain ⟨h0, o, ho, _⟩ := mem_ready.1 hj
      have hlt := (Array.getElem?_eq_some_iff.1 ho).1
      exact (not_on hd.sz hlt).2 h0 ((h1 j (by omega)).resolve_right (by omega))
    · rw [List.drop_eq_nil_of_le (by simpa using hkn)] at h
      exact h
  | succ fuel ih =>
    intro k listed a W hd hf hk h1 h2 h
    rcases Nat.lt_or_ge k ops.size with hlt | hge
    · have hno := h2 k (Nat.le_refl _)
      refine ⟨fun hr => ?_, fun i hi => ?_⟩
      · obtain ⟨k', _, hk'⟩ := F.least hd k hlt hno
        rw [hr] at hk'
        cases hk'
      · obtain ⟨h0, o, ho, _⟩ := mem_ready.1 hi
        have hin := (Array.getElem?_eq_some_iff.1 ho).1
        have hik : k ≤ i := Nat.le_of_not_lt fun hh => (not_on hd.sz hin).2 h0 ((h1 i hh).resolve_right (by omega))
        have hki : i = k := by
          rcases Nat.lt_or_ge k i with hh | hh
          · exact absurd (F.ready_pre hd hi (F.tail i (by omega) hin k hh)) hno
          · omega
        subst hki
        have hdrop : ops.toList.drop i = o :: ops.toList.drop (i + 1) := drop_cons (by simpa using ho)
        rw [hdrop] at h
        have hop : wpOp P ops Q i (wpList P ops Q (ops.toList.drop (i + 1))) a W := by
          unfold wpOp
          simp only [ho]
          exact h
        refine wpOp_mono (fun a' W' h' => ih (i + 1) _ a' W' (hd.set hi) ?_ (by omega) (fun j hj => ?_) (fun j hj hon => ?_) h') hop
        · have := unl_set hlt h0
          omega
        · rcases Nat.lt_or_ge j i with hji | hji
          · exact (h1 j hji).imp (fun hh => getD_set_true hh) id
          · have : j = i := by omega
            subst this
            exact .inl (by unfold On; simp [hd.sz, hin])
        · rcases on_set hon with hh | hh
          · omega
          · exact h2 j (by omega) hh
    · have hnil : Region.ready .any ops listed = [] := by
        refine List.eq_nil_iff_forall_not_mem.2 fun j hj => ?_
        obtain ⟨h0, o, ho, _⟩ := mem_ready.1 hj
        have hin := (Array.getElem?_eq_some_iff.1 ho).1
        exact (not_on hd.sz hin).2 h0 ((h1 j (by omega)).resolve_right (by omega))
      rw [List.drop_eq_nil_of_le (by simpa using hge)] at h
      exact wpAny_done hnil h (fuel + 1)
end
/-- THE FRONT, half done. -/
structure FlowInv (ops : Array Oper) (all : List (Nat × Tmp)) (Vs : List FV) (w0 : World) (a : Act) (listed : Array Bool) (a' : Act) (W : World) (vals : Nat → Value) : Prop where
  notail : ∀ i, all.length ≤ i → ¬ On listed i
  df : a'.defers = a.defers
  ts : a'.tmps.size = a.tmps.size
  val : ∀ p ∈ all, On listed p.1 → a'.tmps[p.2]? = some (vals p.1)
  v : ∀ p ∈ all, On listed p.1 → flowV Vs p.1 (vals p.1) W
  oth : ∀ d, (∀ p ∈ all, On listed p.1 → p.2 ≠ d) → a'.tmps[d]? = a.tmps[d]?
  aft : Aft w0 W

section
variable {ops : Array Oper} {pre : Nat → List Nat} {all : List (Nat × Tmp)} {uses : Nat → List (Nat × Tmp)} {listed : Array Bool} {P : Program} {Q : Exit → Act → World → Prop} {Vs : List FV} {w0 : World} {a : Act}

theorem FlowFacts.same (F : FlowFacts ops pre all uses a.tmps.size) {p q : Nat × Tmp} (hp : p ∈ all) (hq : q ∈ all) (h : p.2 = q.2) : p = q := by
  obtain ⟨k, hk⟩ := List.mem_iff_getElem?.1 hp
  obtain ⟨k', hk'⟩ := List.mem_iff_getElem?.1 hq
  obtain ⟨h1, h2, h3, h4⟩ := F.tgt k p.1 p.2 hk
  by_cases hkk : k' = k
  · subst hkk; rw [hk] at hk'; cases hk'; rfl
  · exact absurd h.symm (h4 k' q.1 q.2 hk' hkk)

theorem FlowFacts.in_all (F : FlowFacts ops pre all uses a.tmps.size) {p : Nat × Tmp} (hp : p ∈ all) : all[p.1]? = some p ∧ p.2 < a.tmps.size ∧ Region.dstOf ops p.1 = some p.2 ∧ p.1 < all.length := by
  obtain ⟨k, hk⟩ := List.mem_iff_getElem?.1 hp
  obtain ⟨h1, h2, h3, h4⟩ := F.tgt k p.1 p.2 hk
  exact ⟨h1 ▸ hk, h2, h1 ▸ h3, h1 ▸ (List.getElem?_eq_some_iff.1 hk).1⟩

/-- What the operation sees is what it sees in the act of its operands alone. -/
theorem FlowInv.sees (F : FlowFacts ops pre all uses a.tmps.size) (hd : Downs ops listed) {a' : Act} {W : World} {vals : Nat → Value} (I : FlowInv ops all Vs w0 a listed a' W vals)
    {i : Nat} (hr : i ∈ Region.ready .any ops listed) {o : Oper} (ho : ops[i]? = some o) (hil : i < all.length) {t : Tmp} (ht : t ∈ o.looksAt ops) : a'.tmps[t]? = (a.puts vals (uses i)).tmps[t]? := by
  obtain ⟨U1, U2⟩ := F.use i o hil ho
  have hu : ∀ p ∈ uses i, p ∈ all := fun p hp => List.mem_iff_getElem?.2 ⟨_, (U1 p hp).2⟩
  by_cases hex : ∃ p ∈ all, p.2 = t
  · obtain ⟨p, hp, rfl⟩ := hex
    rcases U2 p.2 ht p hp rfl with ⟨h1, h2⟩ | h1
    · rw [I.val p hp (F.ready_pre hd hr h1), Act.puts_val vals (k := p.1) (uses i) a (F.in_all hp).2.1 ⟨p, h2, rfl⟩ (fun q hq he => by rw [F.same (hu q hq) hp he])]
    · have hno : ¬ On listed p.1 := fun hon => by
        have h0 := (mem_ready.1 hr).1
        exact (not_on hd.sz (Array.getElem?_eq_some_iff.1 ho).1).2 h0 (F.on_pre hd p.1 i hon h1)
      rw [I.oth p.2 (fun q hq hon he => by rw [F.same hq hp he] at hon; exact hno hon)]
      rw [Act.puts_oth vals (uses i) a (fun q hq he => by
        have := F.same (hu q hq) hp he
        subst this
        exact hno (F.ready_pre hd hr (U1 q hq).1))]
  · rw [I.oth t (fun q hq _ he => hex ⟨q, hq, he⟩), Act.puts_oth vals (uses i) a (fun q hq he => hex ⟨q, hu q hq, he⟩)]

theorem yielded_congr {a b : Act} {g : Nat} (h : ∀ t, (ops[g]?).bind (·.dst) = some t → a.tmps[t]? = b.tmps[t]?) : yielded ops a.tmps g = yielded ops b.tmps g := by
  unfold yielded
  cases ht : (ops[g]?).bind (·.dst) with
  | none => rfl
  | some t => simp only [Option.bind_some, h t ht]

theorem FlowFacts.run_front (F : FlowFacts ops pre all uses a.tmps.size)
    (obs : ∀ i p, all[i]? = some p → ∃ o, ops[i]? = some o ∧ ∀ W, Aft w0 W → flowOb P ops Vs p.1 p.2 o (uses i) a W)
    (fin : ∀ W, Aft w0 W → flowEnd P ops Vs Q (ops.toList.drop all.length) all a W) :
    ∀ (fuel : Nat) (listed : Array Bool) (a' : Act) (W : World) (vals : Nat → Value), Downs ops listed → unl ops.size listed ≤ fuel → FlowInv ops all Vs w0 a listed a' W vals → wpAny P .any ops Q fuel listed a' W := by
  intro fuel
  induction fuel with
  | zero =>
    intro listed a' W vals hd hf I
    refine (?_ : wpAny P .any ops Q 0 listed a' W)
    have hall : ∀ j, j < ops.size → On listed j := fun j hj => Classical.not_not.1 fun hn => by
      have := unl_pos hj ((not_on hd.sz hj).1 hn)
      omega
    have hlen : all.length = ops.size := by
      rcases Nat.lt_or_ge all.length ops.size with h | h
      · exact absurd (hall _ h) (I.notail _ (Nat.le_refl _))
      · have := F.len; omega
    refine F.run_tail 0 all.length listed a' W hd hf (Nat.le_refl _) (fun j hj => .inl (hall j (by omega))) (fun j hj => I.notail j hj) ?_
    have ha : a' = a.puts vals all := by
      have hsh := Act.puts_shape vals all a
      have : a'.tmps = (a.puts vals all).tmps := by
        apply Array.ext_getElem?
        intro d
        by_cases hex : ∃ p ∈ all, p.2 = d
        · obtain ⟨p, hp, rfl⟩ := hex
          rw [I.val p hp (hall _ (by have := (F.in_all hp).2.2.2; omega)), Act.puts_val vals (k := p.1) all a (F.in_all hp).2.1 ⟨p, hp, rfl⟩ (fun q hq he => by rw [F.same hq hp he])]
        · rw [I.oth d (fun q hq _ he => hex ⟨q, hq, he⟩), Act.puts_oth vals all a (fun q hq he => hex ⟨q, hq, he⟩)]
      cases a'
      have h2 := I.df
      rw [← hsh.1] at h2
      cases hb : a.puts vals all
      simp_all
    rw [ha]
    exact flowEnd_puts vals all a (fin W I.aft) (fun p hp => I.v p hp (hall _ (by have := (F.in_all hp).2.2.2; omega)))
  | succ fuel ih =>
    intro listed a' W vals hd hf I
    by_cases hall : ∀ j, j < all.length → On listed j
    · refine F.run_tail (fuel + 1) all.length listed a' W hd hf (Nat.le_refl _) (fun j hj => .inl (hall j hj)) (fun j hj => I.notail j hj) ?_
      have ha : a' = a.puts vals all := by
        have hsh := Act.puts_shape vals all a
        have : a'.tmps = (a.puts vals all).tmps := by
          apply Array.ext_getElem?
          intro d
          by_cases hex : ∃ p ∈ all, p.2 = d
          · obtain ⟨p, hp, rfl⟩ := hex
            rw [I.val p hp (hall _ (F.in_all hp).2.2.2), Act.puts_val vals (k := p.1) all a (F.in_all hp).2.1 ⟨p, hp, rfl⟩ (fun q hq he => by rw [F.same hq hp he])]
          · rw [I.oth d (fun q hq _ he => hex ⟨q, hq, he⟩), Act.puts_oth vals all a (fun q hq he => hex ⟨q, hq, he⟩)]
        cases a'
        have h2 := I.df
        rw [← hsh.1] at h2
        cases hb : a.puts vals all
        simp_all
      rw [ha]
      exact flowEnd_puts vals all a (fin W I.aft) (fun p hp => I.v p hp (hall _ (F.in_all hp).2.2.2))
    · obtain ⟨j0, hj0⟩ := Classical.not_forall.1 hall
      obtain ⟨hj0, hno⟩ := Classical.not_imp.1 hj0
      have hlen := F.len
      refine ⟨fun hr => ?_, fun i hi => ?_⟩
      · obtain ⟨k', _, hk'⟩ := F.least hd j0 (by omega) hno
        rw [hr] at hk'
        cases hk'
      · obtain ⟨h0, o, ho, _⟩ := mem_ready.1 hi
        have hin := (Array.getElem?_eq_some_iff.1 ho).1
        have hil : i < all.length := Nat.lt_of_not_le fun hge => hno (F.ready_pre hd hi (F.tail i hge hin j0 (by omega)))
        have hpi : all[i]? = some all[i] := by simp [hil]
        generalize hp0 : all[i] = p at hpi
        obtain ⟨j, d⟩ := p
        obtain ⟨rfl, hdm, hdst, _⟩ := F.tgt i j d hpi
        have hmem : ((j, d) : Nat × Tmp) ∈ all := List.mem_iff_getElem?.2 ⟨_, hpi⟩
        obtain ⟨o', ho', hob⟩ := obs j _ hpi
        rw [ho] at ho'
        cases ho'
        have hdo : o.dst = some d := by simpa [Region.dstOf, ho] using hdst
        obtain ⟨U1, U2⟩ := F.use j o hil ho
        have hu : ∀ p ∈ uses j, p ∈ all := fun p hp => List.mem_iff_getElem?.2 ⟨_, (U1 p hp).2⟩
        have hrun := flowOb_puts vals (uses j) a (hob W I.aft) (fun p hp => I.v p (hu p hp) (F.ready_pre hd hi (U1 p hp).1))
        have hsee := fun t ht => I.sees F hd hi ho hil (t := t) ht
        refine op_lift (G := fun v W' => flowV Vs j v W' ∧ Aft W W') ho hdo (by rw [(Act.puts_shape vals (uses j) a).2]; exact hdm) ?_ ?_ hrun ?_
        · refine execOp_congr o (fun cs b => Region.noSelect_spec F.sel j o cs b ho) fun x hx => ?_
          cases x with
          | tmp t =>
            have := hsee t (List.mem_append_left _ (List.mem_filterMap.2 ⟨.tmp t, by simpa using hx, rfl⟩))
            simp only [Act.eval, Array.getD_eq_getD_getElem?, this]
          | _ => rfl
        · unfold Region.wanted
          cases hg : o.guard with
          | none => rfl
          | some gw =>
            obtain ⟨g, want⟩ := gw
            have := yielded_congr (ops := ops) (a := a') (b := a.puts vals (uses j)) (g := g) (fun t ht => hsee t (by simp [Oper.looksAt, hg, ht]))
            simp only [this]
        · rintro v W' ⟨hv, hW⟩
          refine ih _ _ _ (fun k => if k = j then v else vals k) (hd.set hi) (by have := unl_set hin h0; omega) ⟨fun k hk hon => ?_, I.df, by simpa [Act.put] using I.ts, fun q hq hon => ?_, fun q hq hon => ?_, fun d' hd' => ?_, I.aft.trans hW⟩
          · rcases on_set hon with rfl | hon
            · omega
            · exact I.notail k hk hon
          · by_cases hqj : q.1 = j
            · have hqe : q = (j, d) := by
                have h1 := (F.in_all hq).1
                rw [hqj, hpi] at h1
                simpa using h1.symm
              subst hqe
              simp [Act.put, I.ts, hdm]
            · have hon' : On listed q.1 := (on_set hon).resolve_left hqj
              have hne : d ≠ q.2 := fun he => hqj (by rw [F.same hq hmem he.symm])
              simp only [Act.put, if_neg hqj]
              rw [Array.getElem?_setIfInBounds_ne hne]
              exact I.val q hq hon'
          · by_cases hqj : q.1 = j
            · simp only [hqj, if_true]; exact hv
            · have hon' : On listed q.1 := (on_set hon).resolve_left hqj
              simp only [if_neg hqj]
              exact flowV_st (I.v q hq hon') hW
          · have hne : d ≠ d' := hd' (j, d) hmem (by unfold On; simp [hd.sz, hin])
            simp only [Act.put]
            rw [Array.getElem?_setIfInBounds_ne hne]
            exact I.oth d' (fun q hq hon => hd' q hq (getD_set_true hon))
end

/-- A region that draws its order, by the flow of its values. 'all': the front, each operation's number and target; 'uses': for each of the front the operations whose targets it looks at. -/
theorem wp_region_flow {P : Program} {id : Nat} {Q : Exit → Act → World → Prop} {a : Act} {w : World} (w0 : World) (hw : Aft w0 w) {l : List Oper} (Vs : List FV) (all : List (Nat × Tmp)) (uses : List (List (Nat × Tmp)))
    (hm : P.follows .mixedOrders = true) (hB : flowOk l.toArray (Region.preTable l.toArray) all uses a.tmps.size = true)
    (obs : flowObs P l.toArray Vs w0 a l all uses)
    (fin : ∀ W, Aft w0 W → flowEnd P l.toArray Vs Q (l.drop all.length) all a W) : (Code.region id l.toArray true).wp P Q a w := by
  have F := flowOk_facts hB
  refine wp_region_any hm ?_
  refine F.run_front (Vs := Vs) (w0 := w0) (fun i p hp => ?_) (by simpa using fin) l.toArray.size _ _ _ (fun _ => undef) ⟨by simp, fun i o hon => ?_⟩ (unl_new _) ⟨fun i _ hon => ?_, rfl, rfl, fun p _ hon => ?_, fun p _ hon => ?_, fun _ _ => rfl, hw.drew⟩
  · obtain ⟨o, h1, h2⟩ := flowObs_get l all uses obs i p hp
    exact ⟨o, by simpa using h1, h2⟩
  all_goals
    exfalso
    unfold On at hon
    simp only [Array.getD_eq_getD_getElem?, Array.getElem?_replicate] at hon
    split at hon <;> simp at hon
theorem flowOb_nil {P : Program} {ops : Array Oper} {Vs : List FV} {i : Nat} {d : Tmp} {o : Oper} {b : Act} {W : World}
    (h : wpList P ops (fun e b' W' => e = .normal ∧ b'.defers = b.defers ∧ flowV Vs i (b'.tmps.getD d undef) W' ∧ Aft W W') [o] b W) : flowOb P ops Vs i d o [] b W := h
theorem flowOb_cons {P : Program} {ops : Array Oper} {Vs : List FV} {i : Nat} {d : Tmp} {o : Oper} {p : Nat × Tmp} {ps : List (Nat × Tmp)} {b : Act} {W : World}
    (h : ∀ v, flowV Vs p.1 v W → flowOb P ops Vs i d o ps (b.put (some p.2) v) W) : flowOb P ops Vs i d o (p :: ps) b W := h
theorem flowObs_cons {P : Program} {ops : Array Oper} {Vs : List FV} {w0 : World} {a : Act} {o : Oper} {os : List Oper} {p : Nat × Tmp} {ps : List (Nat × Tmp)} {u : List (Nat × Tmp)} {us : List (List (Nat × Tmp))}
    (h : ∀ W, Aft w0 W → flowOb P ops Vs p.1 p.2 o u a W) (t : flowObs P ops Vs w0 a os ps us) : flowObs P ops Vs w0 a (o :: os) (p :: ps) (u :: us) := ⟨h, t⟩
theorem flowObs_nil {P : Program} {ops : Array Oper} {Vs : List FV} {w0 : World} {a : Act} {os : List Oper} {us : List (List (Nat × Tmp))} : flowObs P ops Vs w0 a os [] us := by
  cases os <;> cases us <;> exact trivial

theorem flowEnd_nil {P : Program} {ops : Array Oper} {Vs : List FV} {Q : Exit → Act → World → Prop} {tail : List Oper} {b : Act} {W : World} (h : wpList P ops Q tail b W) : flowEnd P ops Vs Q tail [] b W := h
theorem flowEnd_cons {P : Program} {ops : Array Oper} {Vs : List FV} {Q : Exit → Act → World → Prop} {tail : List Oper} {p : Nat × Tmp} {ps : List (Nat × Tmp)} {b : Act} {W : World}
    (h : ∀ v, flowV Vs p.1 v W → flowEnd P ops Vs Q tail ps (b.put (some p.2) v) W) : flowEnd P ops Vs Q tail (p :: ps) b W := h
end Go
/- The flow theorem for regions that draw their order, inside a fence that lets every function in (a loop over a function's body, an iterator that calls yield). -/
namespace Go
open Go.RowKit

/-- A fence that lets all in. -/
structure Fence.Free (F : Fence) : Prop where
  fn : ∀ f, F.fn f
  depth : F.depth = none
  rows : ∀ {n : Nat} {P : Program} {row : String} {args : Array Value} {w : World} {R : Value → World → Prop}, Rows P row args w R → RowsIn F n P row args w R
  calls : ∀ {n : Nat} {P : Program} {f : FuncId} {args : Array Value} {w : World} {R : Ending → World → Prop}, Calls P f args w R → CallsIn F n P f args w R
theorem Fence.free_wide : Fence.wide.Free := ⟨fun _ => trivial, rfl, fun h c cs _ => (let ⟨v, w', r, s⟩ := h c cs; ⟨v, w', r, stepsIn_wide.2 s⟩), fun h => callsIn_wide.2 h⟩
theorem Fence.Free.inRound {F : Fence} (h : F.Free) (l : Nat) : (F.inRound l).Free := ⟨h.fn, h.depth, fun k => h.rows k, fun k => h.calls k⟩

def noDefer (ops : Array Oper) : Bool := ops.all fun o => match o.op with
  | .defer _ => false
  | _ => true
theorem noDefer_spec {ops : Array Oper} (h : noDefer ops = true) {i : Nat} {o : Oper} (ho : ops[i]? = some o) : ∀ c, o.op ≠ .defer c := fun c e => by
  have := (Array.all_eq_true_iff_forall_mem.1 h) o (Array.mem_of_getElem? ho)
  simp [e] at this

def flowEndIn (F : Fence) (n : Nat) (P : Program) (ops : Array Oper) (Vs : List FV) (Q : Exit → Act → World → Prop) (tail : List Oper) : List (Nat × Tmp) → Act → World → Prop
  | [], b, W => wpListIn F n P ops Q tail b W
  | p :: ps, b, W => ∀ v, flowV Vs p.1 v W → flowEndIn F n P ops Vs Q tail ps (b.put (some p.2) v) W
theorem flowEndIn_nil {F : Fence} {n : Nat} {P : Program} {ops : Array Oper} {Vs : List FV} {Q : Exit → Act → World → Prop} {tail : List Oper} {b : Act} {W : World} (h : wpListIn F n P ops Q tail b W) : flowEndIn F n P ops Vs Q tail [] b W := h
theorem flowEndIn_cons {F : Fence} {n : Nat} {P : Program} {ops : Array Oper} {Vs : List FV} {Q : Exit → Act → World → Prop} {tail : List Oper} {p : Nat × Tmp} {ps : List (Nat × Tmp)} {b : Act} {W : World}
    (h : ∀ v, flowV Vs p.1 v W → flowEndIn F n P ops Vs Q tail ps (b.put (some p.2) v) W) : flowEndIn F n P ops Vs Q tail (p :: ps) b W := h

theorem flowEndIn_puts {F : Fence} {n : Nat} {P : Program} {ops : Array Oper} {Vs : List FV} {Q : Exit → Act → World → Prop} {tail : List Oper} (vals : Nat → Value) {W : World} : ∀ (ps : List (Nat × Tmp)) (a : Act), flowEndIn F n P ops Vs Q tail ps a W →
    (∀ p ∈ ps, flowV Vs p.1 (vals p.1) W) → wpListIn F n P ops Q tail (a.puts vals ps) W
  | [], a, h, _ => h
  | p :: ps, a, h, hv => flowEndIn_puts vals ps _ (h _ (hv p (by simp))) (fun q hq => hv q (List.mem_cons_of_mem _ hq))


theorem op_liftIn {F : Fence} (hF : F.Free) {n : Nat} {P : Program} {ops : Array Oper} {o : Oper} {d : Tmp} {i : Nat} (hnd : ∀ c, o.op ≠ .defer c) {G : Value → World → Prop} {b a' : Act} {W : World} {Q : Exit → Act → World → Prop} {K : Act → World → Prop}
    (hi : ops[i]? = some o) (hd : o.dst = some d) (hb : d < b.tmps.size)
    (he : execOp a'.eval o = execOp b.eval o) (hw : Region.wanted o (yielded ops a'.tmps) = Region.wanted o (yielded ops b.tmps))
    (h : wpList P ops (fun e b' W' => e = .normal ∧ b'.defers = b.defers ∧ G (b'.tmps.getD d undef) W') [o] b W)
    (hK : ∀ v W', G v W' → K (a'.put (some d) v) W') : wpOpIn F n P ops Q i K a' W := by
  have hput : ∀ v, (b.put o.dst v).tmps.getD d undef = v := fun v => by simp [hd, Act.put, hb]
  unfold wpOpIn
  simp only [hi]
  simp only [wpList] at h
  rw [hw]
  by_cases hwt : Region.wanted o (yielded ops b.tmps) = true
  · rw [if_pos hwt] at h ⊢
    refine ⟨fun f _ => hF.fn f, ?_⟩
    rw [Oper.semAt_eq _ _ _ hnd, he]
    rcases h with h | ⟨_, ⟨_, _, h, _⟩⟩
    · unfold Oper.wp at h
      generalize (execOp b.eval o).run P W = r at *
      cases r with
      | ok n w' =>
        cases n <;> simp only [Oper.upon, Oper.uponIn] at h ⊢
        case value u => rw [hput] at h; rw [hd]; exact hK _ _ h.2.2
        case skip => rw [hput] at h; rw [hd]; exact hK _ _ h.2.2
        case defer x =>
          exfalso
          have h2 := h.2.1
          rw [hd] at h2
          simp only [Act.put] at h2
          exact absurd (congrArg List.length h2) (by simp)
        case enter f args =>
          refine ⟨fun hh => by simp [hF.depth] at hh, CallsIn.mono (hF.calls h) fun e w'' he' => ?_⟩
          cases e with
          | returned u => simp only at he' ⊢; rw [hput] at he'; rw [hd]; exact hK _ _ he'.2.2
          | panicked c => exact absurd he'.1 (by simp)
          | outgrown => obtain ⟨_, _, h', _⟩ := he'; cases h'
        case row row args => exact ⟨fun hh => by simp [hF.depth] at hh, RowsIn.mono (hF.rows h) fun u w'' he' => by rw [hput] at he'; rw [hd]; exact hK _ _ he'.2.2⟩
      | halt x w' =>
        cases x <;> simp only [Oper.upon, Oper.uponIn] at h ⊢
        case panic u => exact absurd h.1 (by simp)
    · cases h
  · rw [if_neg hwt] at h ⊢
    have := h.2.2
    rw [hput] at this
    rw [hd]
    exact ⟨fun f _ => hF.fn f, hK _ _ this⟩

section
variable {F : Fence} {n : Nat} {ops : Array Oper} {pre : Nat → List Nat} {all : List (Nat × Tmp)} {uses : Nat → List (Nat × Tmp)} {m : Nat} {listed : Array Bool}
theorem FlowFacts.run_tailIn {P : Program} {Q : Exit → Act → World → Prop} (Fa : FlowFacts ops pre all uses m) : ∀ (fuel k : Nat) (listed : Array Bool) (a : Act) (W : World), Downs ops listed → unl ops.size listed ≤ fuel →
    all.length ≤ k → (∀ j, j < k → On listed j ∨ ops.size ≤ j) → (∀ j, k ≤ j → ¬ On listed j) → wpListIn F n P ops Q (ops.toList.drop k) a W → wpAnyIn F n P .any ops Q fuel listed a W := by
  intro fuel
  induction fuel with
  | zero =>
    intro k listed a W hd hf hk h1 h2 h
    have hkn : ops.size ≤ k := by
      rcases Nat.lt_or_ge k ops.size with hlt | hge
      · have := unl_pos hlt ((not_on hd.sz hlt).1 (h2 k (Nat.le_refl _)))
        omega
      · exact hge
    refine ⟨?_, ?_⟩
    · refine List.eq_nil_iff_forall_not_mem.2 fun j hj => ?_
      obtain ⟨h0, o, ho, _⟩ := mem_ready.1 hj
      have hlt := (Array.getElem?_eq_some_iff.1 ho).1
      exact (not_on hd.sz hlt).2 h0 ((h1 j (by omega)).resolve_right (by omega))
    · rw [List.drop_eq_nil_of_le (by simpa using hkn)] at h
      exact h
  | succ fuel ih =>
    intro k listed a W hd hf hk h1 h2 h
    rcases Nat.lt_or_ge k ops.size with hlt | hge
    · have hno := h2 k (Nat.le_refl _)
      refine ⟨fun hr => ?_, fun i hi => ?_⟩
      · obtain ⟨k', _, hk'⟩ := Fa.least hd k hlt hno
        rw [hr] at hk'
        cases hk'
      · obtain ⟨h0, o, ho, _⟩ := mem_ready.1 hi
        have hin := (Array.getElem?_eq_some_iff.1 ho).1
        have hik : k ≤ i := Nat.le_of_not_lt fun hh => (not_on hd.sz hin).2 h0 ((h1 i hh).resolve_right (by omega))
        have hki : i = k := by
          rcases Nat.lt_or_ge k i with hh | hh
          · exact absurd (Fa.ready_pre hd hi (Fa.tail i (by omega) hin k hh)) hno
          · omega
        subst hki
        have hdrop : ops.toList.drop i = o :: ops.toList.drop (i + 1) := drop_cons (by simpa using ho)
        rw [hdrop] at h
        have hop : wpOpIn F n P ops Q i (wpListIn F n P ops Q (ops.toList.drop (i + 1))) a W := by
          unfold wpOpIn
          simp only [ho]
          exact h
        refine wpOpIn_mono (fun a' W' h' => ih (i + 1) _ a' W' (hd.set hi) ?_ (by omega) (fun j hj => ?_) (fun j hj hon => ?_) h') hop
        · have := unl_set hlt h0
          omega
        · rcases Nat.lt_or_ge j i with hji | hji
          · exact (h1 j hji).imp (fun hh => getD_set_true hh) id
          · have : j = i := by omega
            subst this
            exact .inl (by unfold On; simp [hd.sz, hin])
        · rcases on_set hon with hh | hh
          · omega
          · exact h2 j (by omega) hh
    · have hnil : Region.ready .any ops listed = [] := by
        refine List.eq_nil_iff_forall_not_mem.2 fun j hj => ?_
        obtain ⟨h0, o, ho, _⟩ := mem_ready.1 hj
        have hin := (Array.getElem?_eq_some_iff.1 ho).1
        exact (not_on hd.sz hin).2 h0 ((h1 j (by omega)).resolve_right (by omega))
      rw [List.drop_eq_nil_of_le (by simpa using hge)] at h
      exact wpAnyIn_done hnil h (fuel + 1)
end
section
variable {F : Fence} {n : Nat} {ops : Array Oper} {pre : Nat → List Nat} {all : List (Nat × Tmp)} {uses : Nat → List (Nat × Tmp)} {listed : Array Bool} {P : Program} {Q : Exit → Act → World → Prop} {Vs : List FV} {w0 : World} {a : Act}
theorem FlowFacts.run_frontIn (Fa : FlowFacts ops pre all uses a.tmps.size) (hF : F.Free) (hnd : noDefer ops = true)
    (obs : ∀ i p, all[i]? = some p → ∃ o, ops[i]? = some o ∧ ∀ W, Aft w0 W → flowOb P ops Vs p.1 p.2 o (uses i) a W)
    (fin : ∀ W, Aft w0 W → flowEndIn F n P ops Vs Q (ops.toList.drop all.length) all a W) :
    ∀ (fuel : Nat) (listed : Array Bool) (a' : Act) (W : World) (vals : Nat → Value), Downs ops listed → unl ops.size listed ≤ fuel → FlowInv ops all Vs w0 a listed a' W vals → wpAnyIn F n P .any ops Q fuel listed a' W := by
  intro fuel
  induction fuel with
  | zero =>
    intro listed a' W vals hd hf I
    refine (?_ : wpAnyIn F n P .any ops Q 0 listed a' W)
    have hall : ∀ j, j < ops.size → On listed j := fun j hj => Classical.not_not.1 fun hn => by
      have := unl_pos hj ((not_on hd.sz hj).1 hn)
      omega
    have hlen : all.length = ops.size := by
      rcases Nat.lt_or_ge all.length ops.size with h | h
      · exact absurd (hall _ h) (I.notail _ (Nat.le_refl _))
      · have := Fa.len; omega
    refine Fa.run_tailIn 0 all.length listed a' W hd hf (Nat.le_refl _) (fun j hj => .inl (hall j (by omega))) (fun j hj => I.notail j hj) ?_
    have ha : a' = a.puts vals all := by
      have hsh := Act.puts_shape vals all a
      have : a'.tmps = (a.puts vals all).tmps := by
        apply Array.ext_getElem?
        intro d
        by_cases hex : ∃ p ∈ all, p.2 = d
        · obtain ⟨p, hp, rfl⟩ := hex
          rw [I.val p hp (hall _ (by have := (Fa.in_all hp).2.2.2; omega)), Act.puts_val vals (k := p.1) all a (Fa.in_all hp).2.1 ⟨p, hp, rfl⟩ (fun q hq he => by rw [Fa.same hq hp he])]
        · rw [I.oth d (fun q hq _ he => hex ⟨q, hq, he⟩), Act.puts_oth vals all a (fun q hq he => hex ⟨q, hq, he⟩)]
      cases a'
      have h2 := I.df
      rw [← hsh.1] at h2
      cases hb : a.puts vals all
      simp_all
    rw [ha]
    exact flowEndIn_puts vals all a (fin W I.aft) (fun p hp => I.v p hp (hall _ (by have := (Fa.in_all hp).2.2.2; omega)))
  | succ fuel ih =>
    intro listed a' W vals hd hf I
    by_cases hall : ∀ j, j < all.length → On listed j
    · refine Fa.run_tailIn (fuel + 1) all.length listed a' W hd hf (Nat.le_refl _) (fun j hj => .inl (hall j hj)) (fun j hj => I.notail j hj) ?_
      have ha : a' = a.puts vals all := by
        have hsh := Act.puts_shape vals all a
        have : a'.tmps = (a.puts vals all).tmps := by
          apply Array.ext_getElem?
          intro d
          by_cases hex : ∃ p ∈ all, p.2 = d
          · obtain ⟨p, hp, rfl⟩ := hex
            rw [I.val p hp (hall _ (Fa.in_all hp).2.2.2), Act.puts_val vals (k := p.1) all a (Fa.in_all hp).2.1 ⟨p, hp, rfl⟩ (fun q hq he => by rw [Fa.same hq hp he])]
          · rw [I.oth d (fun q hq _ he => hex ⟨q, hq, he⟩), Act.puts_oth vals all a (fun q hq he => hex ⟨q, hq, he⟩)]
        cases a'
        have h2 := I.df
        rw [← hsh.1] at h2
        cases hb : a.puts vals all
        simp_all
      rw [ha]
      exact flowEndIn_puts vals all a (fin W I.aft) (fun p hp => I.v p hp (hall _ (Fa.in_all hp).2.2.2))
    · obtain ⟨j0, hj0⟩ := Classical.not_forall.1 hall
      obtain ⟨hj0, hno⟩ := Classical.not_imp.1 hj0
      have hlen := Fa.len
      refine ⟨fun hr => ?_, fun i hi => ?_⟩
      · obtain ⟨k', _, hk'⟩ := Fa.least hd j0 (by omega) hno
        rw [hr] at hk'
        cases hk'
      · obtain ⟨h0, o, ho, _⟩ := mem_ready.1 hi
        have hin := (Array.getElem?_eq_some_iff.1 ho).1
        have hil : i < all.length := Nat.lt_of_not_le fun hge => hno (Fa.ready_pre hd hi (Fa.tail i hge hin j0 (by omega)))
        have hpi : all[i]? = some all[i] := by simp [hil]
        generalize hp0 : all[i] = p at hpi
        obtain ⟨j, d⟩ := p
        obtain ⟨rfl, hdm, hdst, _⟩ := Fa.tgt i j d hpi
        have hmem : ((j, d) : Nat × Tmp) ∈ all := List.mem_iff_getElem?.2 ⟨_, hpi⟩
        obtain ⟨o', ho', hob⟩ := obs j _ hpi
        rw [ho] at ho'
        cases ho'
        have hdo : o.dst = some d := by simpa [Region.dstOf, ho] using hdst
        obtain ⟨U1, U2⟩ := Fa.use j o hil ho
        have hu : ∀ p ∈ uses j, p ∈ all := fun p hp => List.mem_iff_getElem?.2 ⟨_, (U1 p hp).2⟩
        have hrun := flowOb_puts vals (uses j) a (hob W I.aft) (fun p hp => I.v p (hu p hp) (Fa.ready_pre hd hi (U1 p hp).1))
        have hsee := fun t ht => I.sees Fa hd hi ho hil (t := t) ht
        refine op_liftIn hF (noDefer_spec hnd ho) (G := fun v W' => flowV Vs j v W' ∧ Aft W W') ho hdo (by rw [(Act.puts_shape vals (uses j) a).2]; exact hdm) ?_ ?_ hrun ?_
        · refine execOp_congr o (fun cs b => Region.noSelect_spec Fa.sel j o cs b ho) fun x hx => ?_
          cases x with
          | tmp t =>
            have := hsee t (List.mem_append_left _ (List.mem_filterMap.2 ⟨.tmp t, by simpa using hx, rfl⟩))
            simp only [Act.eval, Array.getD_eq_getD_getElem?, this]
          | _ => rfl
        · unfold Region.wanted
          cases hg : o.guard with
          | none => rfl
          | some gw =>
            obtain ⟨g, want⟩ := gw
            have := yielded_congr (ops := ops) (a := a') (b := a.puts vals (uses j)) (g := g) (fun t ht => hsee t (by simp [Oper.looksAt, hg, ht]))
            simp only [this]
        · rintro v W' ⟨hv, hW⟩
          refine ih _ _ _ (fun k => if k = j then v else vals k) (hd.set hi) (by have := unl_set hin h0; omega) ⟨fun k hk hon => ?_, I.df, by simpa [Act.put] using I.ts, fun q hq hon => ?_, fun q hq hon => ?_, fun d' hd' => ?_, I.aft.trans hW⟩
          · rcases on_set hon with rfl | hon
            · omega
            · exact I.notail k hk hon
          · by_cases hqj : q.1 = j
            · have hqe : q = (j, d) := by
                have h1 := (Fa.in_all hq).1
                rw [hqj, hpi] at h1
                simpa using h1.symm
              subst hqe
              simp [Act.put, I.ts, hdm]
            · have hon' : On listed q.1 := (on_set hon).resolve_left hqj
              have hne : d ≠ q.2 := fun he => hqj (by rw [Fa.same hq hmem he.symm])
              simp only [Act.put, if_neg hqj]
              rw [Array.getElem?_setIfInBounds_ne hne]
              exact I.val q hq hon'
          · by_cases hqj : q.1 = j
            · simp only [hqj, if_true]; exact hv
            · have hon' : On listed q.1 := (on_set hon).resolve_left hqj
              simp only [if_neg hqj]
              exact flowV_st (I.v q hq hon') hW
          · have hne : d ≠ d' := hd' (j, d) hmem (by unfold On; simp [hd.sz, hin])
            simp only [Act.put]
            rw [Array.getElem?_setIfInBounds_ne hne]
            exact I.oth d' (fun q hq hon => hd' q hq (getD_set_true hon))
end
theorem wpIn_region_flow {F : Fence} {n : Nat} (hF : F.Free) {P : Program} {id : Nat} {Q : Exit → Act → World → Prop} {a : Act} {w : World} (w0 : World) (hw : Aft w0 w) {l : List Oper} (Vs : List FV) (all : List (Nat × Tmp)) (uses : List (List (Nat × Tmp)))
    (hm : P.follows .mixedOrders = true) (hnd : noDefer l.toArray = true) (hB : flowOk l.toArray (Region.preTable l.toArray) all uses a.tmps.size = true)
    (obs : flowObs P l.toArray Vs w0 a l all uses)
    (fin : ∀ W, Aft w0 W → flowEndIn F n P l.toArray Vs Q (l.drop all.length) all a W) : (Code.region id l.toArray true).wpIn F n P Q a w := by
  have Fa := flowOk_facts hB
  refine wpIn_region_any hm ?_
  refine Fa.run_frontIn hF hnd (Vs := Vs) (w0 := w0) (fun i p hp => ?_) (by simpa using fin) l.toArray.size _ _ _ (fun _ => undef) ⟨by simp, fun i o hon => ?_⟩ (unl_new _) ⟨fun i _ hon => ?_, rfl, rfl, fun p _ hon => ?_, fun p _ hon => ?_, fun _ _ => rfl, hw.drew⟩
  · obtain ⟨o, h1, h2⟩ := flowObs_get l all uses obs i p hp
    exact ⟨o, by simpa using h1, h2⟩
  all_goals
    exfalso
    unfold On at hon
    simp only [Array.getD_eq_getD_getElem?, Array.getElem?_replicate] at hon
    split at hon <;> simp at hon
end Go
/- append to a row of the call's own as one step of a region that draws its order. -/
namespace Go
open Go.RowKit

theorem Rd.drew {w : World} {a : Option Addr} {cs : List Value} (h : Rd w a cs) : Rd w.drew a cs := h

end Go
/- Contracts of the small functions that the statements about sheets reach. -/
namespace Go.Proofs.Ytokdclbfjlnnjaa
open Go.RowKit Go.BigFrame

theorem Try.info3 : (Try.prog.info? 3).map (fun i => (i.zero, i.size, i.bytes)) = some (some (.int .i64 0), 1, 8) := by kernel_rfl
theorem Try.info41 : (Try.prog.info? 41).map (fun i => (i.zero, i.size, i.bytes)) = some (some (.agg #[.int .i64 0, .int .i64 0]), 2, 16) := by kernel_rfl

def aroundI (n m : Int) : Int := if m < 1 then 0 else (if n < 0 then -(n+1) else n) % m

set_option maxHeartbeats 400000 in
theorem around_any (n m : Int) (w : World) (h1 : -9223372036854775808 ≤ n) (h2 : n ≤ 9223372036854775807) :
    Calls Try.prog 18 #[.int .i64 n, .int .i64 m] w fun e w' => e = .returned (.int .i64 (aroundI n m)) ∧ w = w' := by
  go_enter Try.func18, Try.ntmps18
  go_wp2
  all_goals go_ret
  all_goals refine ⟨ret_int ?_, rfl⟩
  all_goals unfold aroundI
  · rw [if_pos (by assumption)]
  · rw [if_neg (by omega), if_pos (by assumption), ← Int.tmod_eq_emod_of_nonneg (by omega), Int.neg_tmod]
  · rw [if_pos (by assumption)]
  · rw [if_neg (by omega), if_neg (by omega)]

theorem aroundI_lt (n m : Int) (h : 1 ≤ m) : 0 ≤ aroundI n m ∧ aroundI n m < m := by
  unfold aroundI
  rw [if_neg (by omega)]
  exact ⟨Int.emod_nonneg _ (by omega), Int.emod_lt_of_pos _ (by omega)⟩

def atI (l : List Int) (i m : Int) : Int := if i < 0 ∨ l.length ≤ i then 0 else aroundI (l.getD i.toNat 0) m

theorem atI_lt (l : List Int) (i m : Int) (h : 1 ≤ m) : 0 ≤ atI l i m ∧ atI l i m < m := by
  unfold atI
  split
  · omega
  · exact aroundI_lt _ _ h

set_option maxHeartbeats 400000 in
theorem at_any (v : Value) (l : List Int) (i m : Int) (w : World) (hl : Ints w v l) :
    Calls Try.prog 63 #[v, .int .i64 i, .int .i64 m] w fun e w' => e = .returned (.int .i64 (atI l i m)) ∧ w = w' := by
  obtain ⟨a, c, rfl, hl⟩ := hl
  have hle := hl.le
  by_cases h : i < 0 ∨ l.length ≤ i
  · rcases h with h | h
    · go_enter Try.func63, Try.ntmps63
      go_wp2
      go_ret
      refine ⟨ret_int ?_, rfl⟩
      simp [atI, h]
    · have h' : 0 ≤ i := by omega
      go_enter Try.func63, Try.ntmps63
      go_wp2
      go_ret
      refine ⟨ret_int ?_, rfl⟩
      simp [atI, h]
  · obtain ⟨n, rfl⟩ : ∃ n : Nat, i = n := ⟨i.toNat, by omega⟩
    obtain ⟨b, off, x, rfl, hc, _, hx, hx1, hx2⟩ := hl.rd.int hl.ok (show n < l.length by omega)
    go_enter Try.func63, Try.ntmps63
    go_wp2_with (go_at_call 18; refine (around_any _ _ _ (by omega) (by omega)).mono ?_; rintro e w' ⟨rfl, rfl⟩)
    go_ret
    refine ⟨ret_int ?_, rfl⟩
    simp only [atI]
    rw [if_neg h]
    simp [List.getD, hx.out]

set_option maxHeartbeats 400000 in
theorem same_any (v v' : Value) (l l' : List Int) (w : World) (hl : Ints w v l) (hl' : Ints w v' l') :
    Calls Try.prog 21 #[v, v'] w fun e w' => e = .returned (.bool (l == l')) ∧ Aft w w' := by
  obtain ⟨a, c, rfl, hl⟩ := hl
  obtain ⟨a', c', rfl, hl'⟩ := hl'
  have hn := hl.le
  have hn' := hl'.le
  by_cases hle : l.length = l'.length
  · have hle' : ((l.length : Int) != (l'.length : Int)) = false := by simp [hle]
    have Hle := hid hle; clear hle
    go_enter Try.func21, Try.ntmps21
    go_wp2
    go_loopw [5] (fun i wr => ∃ k : Nat, k ≤ l.length ∧ i = .int .i64 k ∧ Hid (l.take k = l'.take k) ∧ Aft w wr) (fun i _ => l.length - (intOf i).toNat)
    case atStart => exact ⟨0, by omega, rfl, rfl, Aft.refl w⟩
    case round =>
      obtain ⟨k, hk, rfl, ht, hw⟩ := hrel
      by_cases hlt : k < l.length
      · have hlt' : k < l'.length := by rw [← Hle.out]; exact hlt
        obtain ⟨b, off, x, rfl, hc, hb, hx, _⟩ := hl.rd.int hl.ok hlt
        obtain ⟨b', off', x', rfl, hc', hb', hx', _⟩ := hl'.rd.int hl'.ok hlt'
        go_wp2
        refine wp_region_lat w hw (by kernel_rfl) (by kernel_rfl) ?_
        repeat (go_big_quiet_step (fail))
        refine wpQuiet_nil ?_
        intro _ hw'; obtain ⟨y, rfl⟩ := hw'
        go_wp2
        · have hne : (x != x') = true := by assumption
          go_ret
          refine ⟨ret_bool ?_, y.aft⟩
          have hx := hx.out; have hx' := hx'.out
          have : l ≠ l' := fun e => by rw [e, hx'] at hx; simp at hx; simp [hx] at hne
          simp [this]
        · have hne : (x != x') = false := by assumption
          go_roundw
          case rel =>
            refine ⟨k + 1, by omega, by go_num, hid ?_, y.aft⟩
            rw [take_snoc hx.out, take_snoc hx'.out, ht.out]
            simp at hne; rw [hne]
          case measure => simp [intOf]; omega
      · go_wp2
        go_ret
        refine ⟨ret_bool ?_, hw⟩
        have h1 := ht.out
        rw [List.take_of_length_le (by omega), List.take_of_length_le (by rw [← Hle.out]; omega)] at h1
        simp [h1]
  · go_enter Try.func21, Try.ntmps21
    go_wp2
    go_ret
    refine ⟨ret_bool ?_, Aft.refl w⟩
    have : l ≠ l' := fun e => hle (by rw [e])
    simp [this]

def inB (s : Int × Int) (x wd : Int) : Bool := decide (x ≤ s.1) && decide (s.2 ≤ x + wd)

set_option maxHeartbeats 400000 in
theorem sin_any (s : Int × Int) (x wd : Int) (w : World) (h : -9223372036854775808 ≤ x + wd) (h' : x + wd ≤ 9223372036854775807) :
    Calls Try.prog 65 #[pr s, .int .i64 x, .int .i64 wd] w fun e w' => e = .returned (.bool (inB s x wd)) ∧ Aft w w' := by
  unfold pr
  by_cases hx : x ≤ s.1
  · have hd : decide (x ≤ s.1) = true := by simpa using hx
    go_enter Try.func65, Try.ntmps65
    go_wp2
    go_ret
    exact ⟨ret_bool (by simp [inB, hx]), (Aft.refl w).alloc _⟩
  · have hd : decide (x ≤ s.1) = false := by simpa using hx
    go_enter Try.func65, Try.ntmps65
    go_wp2
    go_ret
    exact ⟨ret_bool (by simp [inB]; omega), (Aft.refl w).alloc _⟩

def covB (s : Int × Int) (l : List Int) (wd : Int) : Bool := l.any fun x => inB s x wd

def spansI (l : List Int) : List (Int × Int) := (List.range (min 10 ((l.length + 1) / 2))).map fun i : Nat => (atI l (2 * (i : Int)) 90, atI l (2 * (i : Int)) 90 + atI l (2 * (i : Int) + 1) 21)

def badP (p : Int × Int) : Bool := decide (p.1 < 0) || decide (p.2 < p.1) || decide (1000 < p.2)
def wideP (wd : Int) (p : Int × Int) : Bool := decide (wd < p.2 - p.1)
def fitsE (l : List (Int × Int)) (wd : Int) : Int := if 64 < l.length then 4 else if wd < 1 ∨ 1000 < wd then 1 else if l.any badP then 1 else if l.any (wideP wd) then 14 else 0

theorem bad_of {l : List (Int × Int)} (h : l.any badP = false) {k : Nat} {x y : Int} (hk : l[k]? = some (x, y)) : 0 ≤ x ∧ x ≤ y ∧ y ≤ 1000 := by
  have := List.any_eq_false.1 h _ (List.mem_of_getElem? hk)
  simp [badP] at this
  omega

def apartB (s o : Int × Int) (wd : Int) : Bool := decide (wd < max s.2 o.2 - min s.1 o.1)

set_option maxHeartbeats 400000 in
theorem sapart_any (s o : Int × Int) (wd : Int) (w : World) (h : 0 ≤ s.1 ∧ s.1 ≤ 1000 ∧ 0 ≤ s.2 ∧ s.2 ≤ 1000) (h' : 0 ≤ o.1 ∧ o.1 ≤ 1000 ∧ 0 ≤ o.2 ∧ o.2 ≤ 1000) :
    Calls Try.prog 69 #[pr s, pr o, .int .i64 wd] w fun e w' => e = .returned (.bool (apartB s o wd)) ∧ Aft w w' := by
  unfold pr
  obtain ⟨a1, a2, a3, a4⟩ := h
  obtain ⟨b1, b2, b3, b4⟩ := h'
  go_enter Try.func69, Try.ntmps69
  go_wp2
  all_goals
    go_ret
    exact ⟨ret_bool (by unfold apartB; rw [decide_eq_decide]; omega), ((Aft.refl w).alloc _).alloc _⟩

end Go.Proofs.Ytokdclbfjlnnjaa
/- The contract of the reference's Split. -/
namespace Go.Proofs.Ytokdclbfjlnnjaa
open Go.RowKit Go.BigFrame

/-- One step of the search for a pin, at element i. -/
def pinStep (l : List (Int × Int)) (at_ : List Int) (wd : Int) (i : Nat) (pin : Int) : Int :=
  if !covB (l.getD i (0, 0)) at_ wd && (decide (pin < 0) || decide ((l.getD i (0, 0)).1 ≤ (l.getD pin.toNat (0, 0)).1)) then i else pin
def pinLoop (l : List (Int × Int)) (at_ : List Int) (wd : Int) : Nat → Int → Int
  | 0, pin => pin
  | i + 1, pin => pinLoop l at_ wd i (pinStep l at_ wd i pin)
def rStep (l : List (Int × Int)) (wd : Int) (s : List Int × List Int) : List Int × List Int :=
  if 0 ≤ pinLoop l s.1 wd l.length (-1) then (s.1 ++ [(l.getD (pinLoop l s.1 wd l.length (-1)).toNat (0, 0)).1], s.2 ++ [pinLoop l s.1 wd l.length (-1)]) else s
def rRounds (l : List (Int × Int)) (wd : Int) : Nat → List Int × List Int → List Int × List Int
  | 0, s => s
  | k + 1, s => rRounds l wd k (rStep l wd s)
def rSplit (l : List (Int × Int)) (wd : Int) : List Int × List Int × Int :=
  if fitsE l wd = 0 then ((rRounds l wd l.length ([], [])).1, (rRounds l wd l.length ([], [])).2, 0) else ([], [], fitsE l wd)

def SplitPost (w : World) (r : List Int × List Int × Int) (e : Ending) (w' : World) : Prop :=
  ∃ v v', e = .returned (.tuple #[v, v', .int .i64 r.2.2]) ∧ Ints w' v r.1 ∧ Ints w' v' r.2.1 ∧ Aft w w'

theorem getD_of {α : Type} {l : List α} {k : Nat} {x d : α} (h : l[k]? = some x) : l.getD k d = x := by simp [List.getD, h]

theorem Ints.empty (w : World) : Ints w (.slice none 0 0) [] := ⟨none, 0, rfl, rfl, Rd.nil, by simp [okI], Nat.le_refl _, fun _ => rfl, by simp⟩

theorem fits_ok {l : List (Int × Int)} {wd : Int} (h : fitsE l wd = 0) : l.length ≤ 64 ∧ 1 ≤ wd ∧ wd ≤ 1000 ∧ l.any badP = false ∧ l.any (wideP wd) = false := by
  unfold fitsE at h
  split at h
  · omega
  split at h
  · omega
  split at h
  · omega
  rename_i h3
  split at h
  · omega
  rename_i h4
  refine ⟨by omega, by omega, by omega, by simpa using h3, by simpa using h4⟩

end Go.Proofs.Ytokdclbfjlnnjaa
/- Contracts of the program's fits, and of slices.ContainsFunc over pairs. -/
namespace Go.Proofs.Ytokdclbfjlnnjaa
open Go.RowKit Go.BigFrame

set_option maxHeartbeats 400000 in
theorem bad_any (p : Int × Int) (w : World) :
    Calls Try.prog 108 #[pr p] w fun e w' => e = .returned (.bool (badP p)) ∧ Aft w w' := by
  obtain ⟨x, y⟩ := p
  unfold pr
  rcases (show (decide (x < 0) = true) ∨ (decide (x < 0) = false ∧ decide (y < x) = true) ∨ (decide (x < 0) = false ∧ decide (y < x) = false ∧ decide (1000 < y) = true) ∨ (decide (x < 0) = false ∧ decide (y < x) = false ∧ decide (1000 < y) = false) by
        cases decide (x < 0) <;> cases decide (y < x) <;> cases decide (1000 < y) <;> simp) with e1 | ⟨e1, e2⟩ | ⟨e1, e2, e3⟩ | ⟨e1, e2, e3⟩
  all_goals
    go_enter Try.func108, Try.ntmps108
    go_wp2
    go_ret
  · exact ⟨ret_bool (by simp only [badP, e1]; rfl), (Aft.refl w).alloc _⟩
  · exact ⟨ret_bool (by simp only [badP, e1, e2]; rfl), (Aft.refl w).alloc _⟩
  · exact ⟨ret_bool (by simp only [badP, e1, e2, e3]; rfl), (Aft.refl w).alloc _⟩
  · exact ⟨ret_bool (by simp only [badP, e1, e2, e3]; rfl), (Aft.refl w).alloc _⟩

set_option maxHeartbeats 400000 in
theorem wide_any (p : Int × Int) (b : Nat) (wd : Int) (w : World) (hc : w.cell? ⟨b, 0, none⟩ = some (.int .i64 wd)) (hp : badP p = false) :
    Calls Try.prog 109 #[pr p, .pointer (some ⟨b, 0, none⟩)] w fun e w' => e = .returned (.bool (wideP wd p)) ∧ Aft w w' := by
  obtain ⟨x, y⟩ := p
  have hb := World.block_lt_of_cell? w _ hc
  simp only [] at hb
  have hp' : 0 ≤ x ∧ x ≤ y ∧ y ≤ 1000 := by simp [badP] at hp; omega
  obtain ⟨p1, p2, p3⟩ := hp'
  clear hp
  unfold pr
  go_enter Try.func109, Try.ntmps109
  go_wp2
  go_ret
  exact ⟨ret_bool (by simp only [wideP]), (Aft.refl w).alloc _⟩

theorem findIdx_hit {α : Type} {l : List α} {g : α → Bool} {k : Nat} {x : α} (hx : l[k]? = some x) (hg : g x = true) (h : ∀ j, j < k → ∀ z, l[j]? = some z → g z = false) : l.findIdx? g = some k := by
  obtain ⟨hk, rfl⟩ := List.getElem?_eq_some_iff.1 hx
  rw [List.findIdx?_eq_some_iff_getElem]
  refine ⟨hk, hg, fun j hj => ?_⟩
  have := h j hj _ (List.getElem?_eq_getElem (by omega))
  simp [this]
theorem findIdx_miss {α : Type} {l : List α} {g : α → Bool} (h : ∀ j, j < l.length → ∀ z, l[j]? = some z → g z = false) : l.findIdx? g = none := by
  rw [List.findIdx?_eq_none_iff]
  intro x hx
  obtain ⟨j, hj, rfl⟩ := List.getElem_of_mem hx
  exact h j hj _ (List.getElem?_eq_getElem hj)
def idxI (n : Option Nat) : Int := match n with | some k => k | none => -1
theorem idx_ge (n : Option Nat) : -1 ≤ idxI n := by cases n <;> simp [idxI] <;> omega
theorem idx_any {α : Type} (l : List α) (g : α → Bool) : decide ((0 : Int) ≤ idxI (l.findIdx? g)) = l.any g := by
  cases h : l.findIdx? g with
  | none =>
    rw [List.findIdx?_eq_none_iff] at h
    have : l.any g = false := List.any_eq_false.2 fun x hx => by simp [h x hx]
    rw [this]; rfl
  | some k =>
    obtain ⟨hk, hg, _⟩ := List.findIdx?_eq_some_iff_getElem.1 h
    have : l.any g = true := List.any_eq_true.2 ⟨_, List.getElem_mem hk, hg⟩
    rw [this]; simp [idxI]
/-- What a function value of one bool answers for the elements of a list, in whatever later world. -/
def Asks (P : Program) (F : Nat) (caps : Array Value) {α : Type} (l : List α) (enc : α → Value) (g : α → Bool) (w : World) : Prop :=
  ∀ p ∈ l, ∀ w', Aft w w' → Calls P F (#[enc p] ++ caps) w' fun e w'' => e = .returned (.bool (g p)) ∧ Aft w' w''

set_option maxHeartbeats 400000 in
theorem index_any (v : Value) (l : List (Int × Int)) (F : Nat) (caps : Array Value) (g : Int × Int → Bool) (w : World) (hl : Prs w v l)
    (hF : ∀ args w, (callFunc F args).run Try.prog w = .ok (.enter F args) w) (hg : Asks Try.prog F caps l pr g w) :
    Calls Try.prog 121 #[v, .func (.func F) #[] caps] w fun e w' => e = .returned (.int .i64 (idxI (l.findIdx? g))) ∧ Aft w w' := by
  obtain ⟨a, c, rfl, hl⟩ := hl
  have hn := hl.le
  have Hg := hid hg; clear hg
  go_enter Try.func121, Try.ntmps121
  go_wp2
  go_loopw [8, 5] (fun i _ wr => ∃ k : Nat, k ≤ l.length ∧ i = .int .i64 k ∧ Hid (∀ j, j < k → ∀ x, l[j]? = some x → g x = false) ∧ Aft w wr) (fun i _ _ => l.length - (intOf i).toNat)
  case atStart => exact ⟨0, by omega, rfl, fun j hj => by omega, Aft.refl _⟩
  case round =>
    obtain ⟨k, hk, rfl, ht, hw⟩ := hrel
    by_cases hlt : k < l.length
    · obtain ⟨b, off, x, y, rfl, hc1, hc2, hb, hx, _, _, _, _⟩ := (hl.aft hw).rd.pair hl.ok hlt
      go_wp2_with fail
      refine (Hg.out (x, y) (List.mem_of_getElem? hx.out) wr hw).mono ?_
      rintro e w' ⟨rfl, hw'⟩
      have hwf := hw.trans hw'
      cases hgx : g (x, y)
      all_goals go_wp2_with fail
      · go_roundw
        case rel =>
          refine ⟨k + 1, by omega, by go_num, hid fun j hj z hz => ?_, hwf⟩
          rcases Nat.lt_or_ge j k with h | h
          · exact ht.out j h z hz
          · obtain rfl : j = k := by omega
            rw [hx.out] at hz
            cases hz
            exact hgx
        case measure => simp [intOf] <;> omega
      · go_ret
        refine ⟨ret_int ?_, hwf⟩
        rw [findIdx_hit hx.out hgx ht.out]
        rfl
    · go_wp2
      go_ret
      refine ⟨ret_int ?_, hw⟩
      rw [findIdx_miss (fun j hj z hz => ht.out j (by omega) z hz)]
      rfl

/-- ContainsFunc over pairs. -/
theorem contains_any (v : Value) (l : List (Int × Int)) (F : Nat) (caps : Array Value) (g : Int × Int → Bool) (w : World) (hl : Prs w v l)
    (hF : ∀ args w, (callFunc F args).run Try.prog w = .ok (.enter F args) w) (hg : Asks Try.prog F caps l pr g w) :
    Calls Try.prog 107 #[v, .func (.func F) #[] caps] w fun e w' => e = .returned (.bool (l.any g)) ∧ Aft w w' := by
  have hb := idx_ge (l.findIdx? g)
  have he : decide ((0 : Int) ≤ idxI (l.findIdx? g)) = l.any g := idx_any l g
  go_enter Try.func107, Try.ntmps107
  go_wp2_with fail
  refine (index_any v l F caps g w hl hF hg).mono ?_
  rintro e w' ⟨rfl, hw⟩
  go_wp2_with fail
  go_ret
  exact ⟨rfl, hw⟩

set_option maxHeartbeats 1000000 in
theorem fits_any (v : Value) (l : List (Int × Int)) (wd : Int) (w : World) (hl : Prs w v l) :
    Calls Try.prog 64 #[v, .int .i64 wd] w fun e w' => e = .returned (.int .i64 (fitsE l wd)) ∧ Aft w w' := by
  have hl0 := hl
  obtain ⟨a, c, rfl, hl⟩ := hl
  have hn := hl.le
  by_cases h64 : 64 < l.length
  · go_enter Try.func64, Try.ntmps64
    go_wp2
    go_ret
    exact ⟨ret_int (by simp [fitsE, h64]), (Aft.refl w).alloc _⟩
  by_cases hw1 : wd < 1
  · go_enter Try.func64, Try.ntmps64
    go_wp2
    go_ret
    exact ⟨ret_int (by simp [fitsE, h64, hw1]), (Aft.refl w).alloc _⟩
  have d1 : decide (wd < 1) = false := by simpa using hw1
  by_cases hw2 : 1000 < wd
  · have d2 : decide (1000 < wd) = true := by simpa using hw2
    go_enter Try.func64, Try.ntmps64
    go_wp2
    go_ret
    exact ⟨ret_int (by simp [fitsE, h64, hw2]), (Aft.refl w).alloc _⟩
  have d2 : decide (1000 < wd) = false := by simpa using hw2
  go_enter Try.func64, Try.ntmps64
  go_wp2_with fail
  refine (contains_any _ l 108 #[] badP _ (hl0.aft ((Aft.refl w).alloc _)) (fun args w => by kernel_rfl) (fun p _ w' _ => bad_any p w')).mono ?_
  rintro e w1 ⟨rfl, hw3⟩
  cases hbad : l.any badP
  · have HB := hid hbad; clear hbad
    have hb1 : w.heap.size < w1.heap.size := by have := hw3.size; simp at this; omega
    have hcell : w1.cell? ⟨w.heap.size, 0, none⟩ = some (.int .i64 wd) := by rw [hw3.cell (by simp)]; simp
    have haf : Aft w w1 := ((Aft.refl w).alloc _).trans hw3
    go_wp2_with fail
    refine (contains_any _ l 109 #[.pointer (some ⟨w.heap.size, 0, none⟩)] (wideP wd) _ (hl0.aft haf) (fun args w => by kernel_rfl) (fun p hp w' hw' => wide_any p _ wd w' (by rw [hw'.cell hb1]; exact hcell) (by simpa using List.any_eq_false.1 HB.out p hp))).mono ?_
    rintro e w2 ⟨rfl, hw4⟩
    cases hwide : l.any (wideP wd)
    · go_wp2
      go_ret
      exact ⟨ret_int (by simp only [fitsE]; rw [if_neg h64, if_neg (by omega), HB.out, hwide]; rfl), haf.trans hw4⟩
    · go_wp2
      go_ret
      exact ⟨ret_int (by simp only [fitsE]; rw [if_neg h64, if_neg (by omega), HB.out, hwide]; rfl), haf.trans hw4⟩
  · go_wp2
    go_ret
    exact ⟨ret_int (by simp only [fitsE]; rw [if_neg h64, if_neg (by omega), hbad]; rfl), ((Aft.refl w).alloc _).trans hw3⟩
end Go.Proofs.Ytokdclbfjlnnjaa
/- Plain law: the greatest-first search for a pin finds the least element that is not covered. -/
namespace Go.Proofs.Ytokdclbfjlnnjaa

def liI (l : List (Int × Int)) (i : Int) : Option (Int × Int) := if 0 ≤ i then l[i.toNat]? else none
/-- The elements that no window of at_ covers. -/
def unc (l : List (Int × Int)) (at_ : List Int) (wd : Int) (i : Int) : Option (Int × Int) := (liI l i).filter fun p => !covB p at_ wd

/-- pin is the least of f, by X and then by number, among those that see says. -/
def Least (f : Int → Option (Int × Int)) (see : Int → Bool) (pin : Int) : Prop :=
  (pin = -1 ∧ ∀ i p, f i = some p → see i = false) ∨
  (0 ≤ pin ∧ ∃ q, f pin = some q ∧ see pin = true ∧ ∀ i p, f i = some p → see i = true → q.1 < p.1 ∨ (q.1 = p.1 ∧ pin ≤ i))

theorem unc_some {l : List (Int × Int)} {at_ : List Int} {wd i : Int} {p : Int × Int} (h : unc l at_ wd i = some p) : 0 ≤ i ∧ i < l.length ∧ l[i.toNat]? = some p ∧ covB p at_ wd = false := by
  unfold unc liI at h
  split at h
  · rename_i h0
    simp only [Option.filter_eq_some_iff] at h
    obtain ⟨h1, h2⟩ := h
    have := (List.getElem?_eq_some_iff.1 h1).1
    exact ⟨h0, by omega, h1, by simpa using h2⟩
  · simp at h

theorem Least.uniq {f : Int → Option (Int × Int)} {see : Int → Bool} {a b : Int} (ha : Least f see a) (hb : Least f see b) : a = b := by
  rcases ha with ⟨rfl, h1⟩ | ⟨h0, q, hq, hs, hm⟩
  · rcases hb with ⟨rfl, _⟩ | ⟨_, q, hq, hs, _⟩
    · rfl
    · rw [h1 b q hq] at hs; cases hs
  · rcases hb with ⟨rfl, h2⟩ | ⟨_, q', hq', hs', hm'⟩
    · rw [h2 a q hq] at hs; cases hs
    · have h1 := hm b q' hq' hs'
      have h2 := hm' a q hq hs
      omega

theorem pinLoop_least (l : List (Int × Int)) (at_ : List Int) (wd : Int) : ∀ (k : Nat) (p : Int), k ≤ l.length → Least (unc l at_ wd) (fun i => decide ((k : Int) ≤ i)) p →
    Least (unc l at_ wd) (fun _ => true) (pinLoop l at_ wd k p) := by
  intro k
  induction k with
  | zero =>
    intro p _ h
    unfold pinLoop
    rcases h with ⟨rfl, h⟩ | ⟨h0, q, hq, _, hm⟩
    · refine .inl ⟨rfl, fun i p hp => ?_⟩
      have h1 := h i p hp
      have h2 := (unc_some hp).1
      simp at h1
      omega
    · refine .inr ⟨h0, q, hq, rfl, fun i p hp _ => hm i p hp ?_⟩
      have h2 := (unc_some hp).1
      simpa using h2
  | succ k ih =>
    intro p hk h
    unfold pinLoop
    refine ih _ (by omega) ?_
    have hkl : k < l.length := by omega
    have hgd : l.getD k (0, 0) = l[k] := by simp [List.getD, hkl]
    have hstep : ∀ i q, unc l at_ wd i = some q → decide ((k : Int) ≤ i) = true → i = k ∨ decide (((k + 1 : Nat) : Int) ≤ i) = true := by
      intro i q _ h1
      simp at h1 ⊢
      omega
    unfold pinStep
    rw [hgd]
    cases hc : covB l[k] at_ wd with
    | true =>
      simp only [Bool.not_true, Bool.false_and, Bool.false_eq_true, if_false]
      have hno : ∀ q, unc l at_ wd (k : Int) ≠ some q := by
        intro q hq
        obtain ⟨_, _, h1, h2⟩ := unc_some hq
        simp [hkl] at h1
        rw [← h1] at h2
        rw [h2] at hc; cases hc
      rcases h with ⟨rfl, h⟩ | ⟨h0, q, hq, hs, hm⟩
      · refine .inl ⟨rfl, fun i p hp => ?_⟩
        have h1 := h i p hp
        simp at h1 ⊢
        have : i ≠ k := fun e => hno p (e ▸ hp)
        omega
      · refine .inr ⟨h0, q, hq, by simp at hs ⊢; omega, fun i p hp hs' => hm i p hp ?_⟩
        rcases hstep i p hp hs' with h | h
        · exact absurd (h ▸ hp) (hno p)
        · exact h
    | false =>
      have hk' : unc l at_ wd (k : Int) = some l[k] := by
        unfold unc liI
        simp [hkl, hc]
      simp only [Bool.not_false, Bool.true_and]
      rcases h with ⟨rfl, h⟩ | ⟨h0, q, hq, hs, hm⟩
      · simp only [Int.reduceNeg, Int.reduceLT, decide_true, Bool.true_or, if_true]
        refine .inr ⟨by omega, _, hk', by simp, fun i p hp hs' => ?_⟩
        rcases hstep i p hp hs' with h1 | h1
        · subst h1; rw [hk'] at hp; cases hp; omega
        · have := h i p hp; simp at this h1; omega
      · obtain ⟨_, hlt, hgq, _⟩ := unc_some hq
        have hgp : l.getD p.toNat (0, 0) = q := by simp [List.getD, hgq]
        rw [hgp]
        have hd : decide (p < 0) = false := by simp; omega
        simp only [hd, Bool.false_or]
        by_cases hle : l[k].1 ≤ q.1
        · rw [if_pos (by simpa using hle)]
          refine .inr ⟨by omega, _, hk', by simp, fun i p' hp hs' => ?_⟩
          rcases hstep i p' hp hs' with h1 | h1
          · subst h1; rw [hk'] at hp; cases hp; omega
          · have := hm i p' hp h1
            simp at h1
            omega
        · rw [if_neg (by simpa using hle)]
          refine .inr ⟨h0, q, hq, by simp at hs ⊢; omega, fun i p' hp hs' => ?_⟩
          rcases hstep i p' hp hs' with h1 | h1
          · subst h1; rw [hk'] at hp; cases hp; omega
          · exact hm i p' hp h1

theorem pinLoop_eq {l : List (Int × Int)} {at_ : List Int} {wd pin : Int} (h : Least (unc l at_ wd) (fun _ => true) pin) : pinLoop l at_ wd l.length (-1) = pin := by
  refine (pinLoop_least l at_ wd l.length (-1) (Nat.le_refl _) (.inl ⟨rfl, fun i p hp => ?_⟩)).uniq h
  have := (unc_some hp).2.1
  simp; omega

theorem covB_snoc (p : Int × Int) (at_ : List Int) (x wd : Int) : covB p (at_ ++ [x]) wd = (covB p at_ wd || inB p x wd) := by simp [covB]

/-- How many are not covered. -/
def uncN (l : List (Int × Int)) (at_ : List Int) (wd : Int) : Nat := (l.filter fun p => !covB p at_ wd).length

theorem filter_le {α : Type} {f g : α → Bool} (h : ∀ a, g a = true → f a = true) : ∀ l : List α, (l.filter g).length ≤ (l.filter f).length
  | [] => Nat.le_refl _
  | a :: l => by
    have ih := filter_le h l
    have ha := h a
    simp only [List.filter_cons]
    cases hg : g a <;> cases hf : f a <;> simp_all <;> omega
theorem filter_lt {α : Type} {f g : α → Bool} (h : ∀ a, g a = true → f a = true) {p : α} (h1 : f p = true) (h2 : g p = false) : ∀ l : List α, p ∈ l → (l.filter g).length < (l.filter f).length
  | [], hp => by cases hp
  | a :: l, hp => by
    have hle := filter_le h l
    rcases List.mem_cons.1 hp with e | e
    · subst e
      simp only [List.filter_cons, h1, h2]
      simp; omega
    · have ih := filter_lt h h1 h2 l e
      have ha := h a
      simp only [List.filter_cons]
      cases hg : g a <;> cases hf : f a <;> simp_all <;> omega
theorem uncN_lt {l : List (Int × Int)} {at_ : List Int} {wd x : Int} {p : Int × Int} (hp : p ∈ l) (h1 : covB p at_ wd = false) (h2 : inB p x wd = true) : uncN l (at_ ++ [x]) wd < uncN l at_ wd :=
  filter_lt (fun a ha => by rw [covB_snoc] at ha; cases hc : covB a at_ wd <;> simp_all) (by simp [h1]) (by rw [covB_snoc, h2]; simp) l hp

theorem uncN_nil (l : List (Int × Int)) (wd : Int) : uncN l [] wd = l.length := by
  unfold uncN
  rw [List.filter_eq_self.2]
  intro a _
  simp [covB]
theorem uncN_pos {l : List (Int × Int)} {at_ : List Int} {wd i : Int} {p : Int × Int} (h : unc l at_ wd i = some p) : 0 < uncN l at_ wd := by
  obtain ⟨_, _, h1, h2⟩ := unc_some h
  unfold uncN
  exact List.length_pos_of_mem (List.mem_filter.2 ⟨List.mem_of_getElem? h1, by simp [h2]⟩)
theorem rRounds_stuck {l : List (Int × Int)} {wd : Int} {at_ pins : List Int} (h : ∀ i, unc l at_ wd i = none) : ∀ k, rRounds l wd k (at_, pins) = (at_, pins) := by
  have hp : pinLoop l at_ wd l.length (-1) = -1 := pinLoop_eq (.inl ⟨rfl, fun i p hp => by rw [h i] at hp; cases hp⟩)
  intro k
  induction k with
  | zero => rfl
  | succ k ih => unfold rRounds rStep; simp only [hp]; simpa using ih
end Go.Proofs.Ytokdclbfjlnnjaa
/- The contract of the program's Split: it returns what the reference's does. -/
namespace Go.Proofs.Ytokdclbfjlnnjaa
open Go.RowKit Go.BigFrame

/-- What the map holds when k elements have been laid into it. -/
def laid (l : List (Int × Int)) (k : Nat) (i : Int) : Option (Int × Int) := if i < k then liI l i else none

theorem laid_zero (l : List (Int × Int)) : laid l 0 = fun _ => none := by
  funext i
  unfold laid liI
  split
  · rw [if_neg (by omega)]
  · rfl
theorem laid_succ {l : List (Int × Int)} {k : Nat} {p : Int × Int} (h : l[k]? = some p) : (fun j : Int => if j = k then some p else laid l k j) = laid l (k + 1) := by
  funext j
  unfold laid liI
  by_cases hj : j = k
  · subst hj
    rw [if_pos rfl, if_pos (by omega), if_pos (by omega), Int.toNat_natCast, h]
  · rw [if_neg hj]
    by_cases h2 : j < k
    · rw [if_pos h2, if_pos (show j < ((k + 1 : Nat) : Int) by omega)]
    · rw [if_neg h2, if_neg (by omega)]
theorem laid_all (l : List (Int × Int)) (wd : Int) : laid l l.length = unc l [] wd := by
  funext i
  unfold laid unc liI
  by_cases h0 : 0 ≤ i
  · rw [if_pos h0]
    by_cases h1 : i < l.length
    · rw [if_pos h1]
      cases hq : l[i.toNat]? <;> simp [covB, Option.filter]
    · rw [if_neg h1, List.getElem?_eq_none (by omega)]; rfl
  · rw [if_neg h0]; simp

/-- What is in the new map while some keys are still to come. -/
def restF (l : List (Int × Int)) (at_ : List Int) (wd x : Int) (left : Int → Bool) (i : Int) : Option (Int × Int) := if left i then none else (unc l at_ wd i).filter fun p => !inB p x wd
theorem restF_start (l : List (Int × Int)) (at_ : List Int) (wd x : Int) : (fun _ => none) = restF l at_ wd x fun i => (unc l at_ wd i).isSome := by
  funext i
  unfold restF
  cases h : unc l at_ wd i with
  | none => simp only [h]; rfl
  | some p => simp only [h]; rfl
theorem restF_skip {l : List (Int × Int)} {at_ : List Int} {wd x i : Int} {p : Int × Int} {left : Int → Bool} (hi : unc l at_ wd i = some p) (hl : left i = true) (hin : inB p x wd = true) : restF l at_ wd x left = restF l at_ wd x fun j => left j && !decide (j = i) := by
  funext j
  unfold restF
  by_cases hj : j = i
  · subst hj; simp [hl, hi, hin, Option.filter]
  · simp [hj]
theorem restF_put {l : List (Int × Int)} {at_ : List Int} {wd x i : Int} {p : Int × Int} {left : Int → Bool} (hi : unc l at_ wd i = some p) (hin : inB p x wd = false) : (fun j => if j = i then some p else restF l at_ wd x left j) = restF l at_ wd x fun j => left j && !decide (j = i) := by
  funext j
  unfold restF
  by_cases hj : j = i
  · subst hj; simp [hi, hin, Option.filter]
  · simp [hj]
theorem restF_end {l : List (Int × Int)} {at_ : List Int} {wd x : Int} {left : Int → Bool} (h : ∀ i, left i = false) : restF l at_ wd x left = unc l (at_ ++ [x]) wd := by
  funext i
  unfold restF unc
  simp only [h i, covB_snoc, Option.filter_filter]
  simp

theorem see_step {left : Int → Bool} {i j : Int} : (!(left j && !decide (j = i))) = true ↔ (!left j) = true ∨ j = i := by
  by_cases h : j = i
  · subst h; simp
  · simp [h]
theorem least_first {f : Int → Option (Int × Int)} {left : Int → Bool} {i : Int} {p : Int × Int} (h : Least f (fun j => !left j) (-1)) (hi : f i = some p) (h0 : 0 ≤ i := by omega) : Least f (fun j => !(left j && !decide (j = i))) i := by
  refine .inr ⟨h0, p, hi, see_step.2 (.inr rfl), fun j q hq hs => ?_⟩
  rcases see_step.1 hs with h1 | h1
  · rcases h with ⟨_, h⟩ | ⟨h, _⟩
    · have := h j q hq; simp only [] at this; rw [h1] at this; cases this
    · omega
  · subst h1; rw [hi] at hq; cases hq; omega
theorem least_new {l : List (Int × Int)} {at_ : List Int} {wd : Int} {left : Int → Bool} {i : Int} {p x : Int × Int} {q : Nat} (h : Least (unc l at_ wd) (fun j => !left j) q) (hi : unc l at_ wd i = some p) (hx : l[q]? = some x) (hlt : p.1 < x.1 ∨ p.1 = x.1 ∧ i < q) :
    Least (unc l at_ wd) (fun j => !(left j && !decide (j = i))) i := by
  refine .inr ⟨(unc_some hi).1, p, hi, see_step.2 (.inr rfl), fun j r hr hs => ?_⟩
  rcases see_step.1 hs with h1 | h1
  · rcases h with ⟨h, _⟩ | ⟨_, s, hs1, _, hs2⟩
    · omega
    · have e := (unc_some hs1).2.2.1
      simp only [Int.toNat_natCast] at e
      rw [hx] at e
      cases e
      have := hs2 j r hr h1
      omega
  · subst h1; rw [hi] at hr; cases hr; omega
theorem least_old {l : List (Int × Int)} {at_ : List Int} {wd : Int} {left : Int → Bool} {i : Int} {p x : Int × Int} {q : Nat} (h : Least (unc l at_ wd) (fun j => !left j) q) (hi : unc l at_ wd i = some p) (hx : l[q]? = some x) (hlt : x.1 < p.1 ∨ p.1 = x.1 ∧ (q : Int) ≤ i) :
    Least (unc l at_ wd) (fun j => !(left j && !decide (j = i))) q := by
  rcases h with ⟨h, _⟩ | ⟨h0, s, hs1, hs3, hs2⟩
  · omega
  · have e := (unc_some hs1).2.2.1
    simp only [Int.toNat_natCast] at e
    rw [hx] at e
    cases e
    refine .inr ⟨h0, _, hs1, see_step.2 (.inl hs3), fun j r hr hs => ?_⟩
    rcases see_step.1 hs with h1 | h1
    · exact hs2 j r hr h1
    · subst h1; rw [hi] at hr; cases hr; omega

set_option maxRecDepth 100000 in
set_option maxHeartbeats 4000000 in
theorem split_any (v : Value) (l : List (Int × Int)) (wd : Int) (w : World) (hl : Prs w v l) :
    Calls Try.prog 19 #[v, .int .i64 wd] w (SplitPost w (rSplit l wd)) := by
  by_cases hf : fitsE l wd = 0
  · obtain ⟨f1, f2, f3, f4, f5⟩ := fits_ok hf
    have F4 := hid f4; clear f4
    have F5 := hid f5; clear f5
    have hf0 : (fitsE l wd != 0) = false := by simp [hf]
    have Hf := hid hf; clear hf
    have hl0 := hl
    obtain ⟨a, c, rfl, hl⟩ := hl
    have hn := hl.le
    have hmm := @run_makeMap Try.prog
    go_enter Try.func19, Try.ntmps19
    go_wp2_with (go_at_call 64; refine (fits_any _ l wd _ hl0).mono ?_; rintro e w1 ⟨rfl, hw1⟩)
    have hs1 := hw1.size
    go_loopw [29, 11] (fun i _ wr => ∃ k : Nat, k ≤ l.length ∧ i = .int .i64 k ∧ IM Try.prog 3 wr w1.heap.size k (laid l k) ∧ Aft w wr) (fun i _ _ => l.length - (intOf i).toNat)
    case atStart => exact ⟨0, by omega, rfl, by rw [laid_zero]; exact IM.made w1, hw1.alloc _⟩
    case round =>
      obtain ⟨k, hk, rfl, him, hw⟩ := hrel
      by_cases hlt : k < l.length
      · obtain ⟨b, off, x, y, rfl, hc1, hc2, hb, hx, _, _, _, _⟩ := (hl.aft hw).rd.pair hl.ok hlt
        go_wp2_with (at_mapUpdate; refine wpList_im_store Try.underlying3 rfl _ _ _ 99 rfl 100 Try.underlying99 w1.heap.size k _ rfl (him.aft ((Aft.refl _).alloc _)) (by unfold maxLen; omega) k (x, y) rfl rfl (by omega) ?_; intro w2 him2 hg2)
        rw [laid_succ hx.out] at him2
        have hw2 := (hw.alloc (.cells #[.int .i64 x, .int .i64 y] 41)).grown hg2 (fun j hj => by cases hj; omega)
        go_wp2
        go_roundw
        case rel => exact ⟨k + 1, by omega, by go_num, him2, hw2⟩
        case measure => simp [intOf] <;> omega
      · obtain rfl : k = l.length := by omega
        rw [laid_all l wd] at him
        clear hlt hk
        have hsr := hw.size
        go_wp2
        go_loopw [8, 9, 10, 13, 14, 16, 17, 18] (fun v v' m _ _ _ _ _ wx => ∃ (at_ pins : List Int) (bm N : Nat), m = .map (some bm) ∧ w.heap.size ≤ bm ∧ N ≤ 64 ∧ IM Try.prog 3 wx bm N (unc l at_ wd) ∧ wx.ownsRow w.heap.size 3 1 v at_.length (i64s at_) ∧ wx.ownsRow w.heap.size 3 1 v' pins.length (i64s pins) ∧
          Sep v v' ∧ Hid (rRounds l wd l.length ([], []) = rRounds l wd (l.length - at_.length) (at_, pins)) ∧ Hid (∀ x ∈ at_, 0 ≤ x ∧ x ≤ 1000) ∧ Hid (∀ x ∈ pins, 0 ≤ x ∧ x ≤ 1000) ∧ Hid (pins.length = at_.length) ∧ at_.length + uncN l at_ wd ≤ l.length ∧ Aft w wx) (fun v _ _ _ _ _ _ _ _ => l.length - lenOf v)
        case atStart => exact ⟨[], [], w1.heap.size, l.length, rfl, hs1, f1, him, World.ownsRow_nil _ _ _ _, World.ownsRow_nil _ _ _ _, Sep.nil _, rfl, by simp [Hid], by simp [Hid], rfl, by rw [uncN_nil]; simp, hw⟩
        case round =>
          clear him
          obtain ⟨at_, pins, bm, N, rfl, hbm, hN, him, own1, own2, hsep, hrr, hat, hpin, hpl, hun, hw⟩ := hrel
          obtain ⟨wo, hwo⟩ : ∃ wo : World, wo = wr := ⟨_, rfl⟩
          subst hwo
          have hso := hw.size
          by_cases hne : ∃ i, (unc l at_ wd i).isSome = true
          · obtain ⟨i0, hi0⟩ := hne
            have Hne := hid hi0; clear hi0
            go_wp2_with (first
              | (at_len; refine wpList_im_len Try.underlying3 rfl _ 99 rfl 100 Try.underlying99 bm N _ rfl him ?_; intro s hs1 hs2; have hs3 : 0 < s := hs2.2 ⟨_, Hne.out⟩; clear hs2)
              | (at_range; refine wpList_im_range Try.underlying3 rfl _ 99 rfl 100 Try.underlying99 bm N _ rfl him ?_; intro w2 cnt himr hcN hw2 hsz2))
            go_frame
            have Hsz2 := hid hsz2; clear hsz2
            go_loopw [13] (fun pv w3 => ∃ (left : Int → Bool) (cnt : Nat) (p : Int), pv = .int .i64 p ∧ Hid (Least (unc l at_ wd) (fun i => !left i) p) ∧ -1 ≤ p ∧ p < l.length ∧ IMr Try.prog 3 w3 bm wo.heap.size N (unc l at_ wd) left cnt ∧ Aft wo w3) (fun _ w3 => w3.rangeLeft bm wo.heap.size)
            case atStart => exact ⟨_, cnt, -1, rfl, .inl ⟨rfl, fun i p hp => by simp [hp]⟩, by omega, by omega, himr, hw2⟩
            case round =>
              clear himr hw2
              obtain ⟨left, cnt, p, rfl, hleast, hp1, hp2, himr, hw3⟩ := hrel
              have hl3 := hl.aft (hw.trans hw3)
              go_wp2_with (at_next; refine wpList_im_next Try.underlying3 rfl _ rfl bm wo.heap.size N _ left cnt rfl himr ?_ ?_)
              · intro hdone
                have hl1 : Least (unc l at_ wd) (fun _ => true) p := by
                  have e : (fun i => !left i) = fun _ => true := by funext i; simp [hdone i]
                  rw [← e]; exact hleast.out
                have hpin0 : 0 ≤ p := by
                  rcases hl1 with ⟨_, h⟩ | ⟨h, _⟩
                  · obtain ⟨y, hy⟩ := Option.isSome_iff_exists.1 Hne.out
                    have := h _ y hy; cases this
                  · exact h
                obtain ⟨q, rfl⟩ := Int.eq_ofNat_of_zero_le hpin0
                have hq : q < l.length := by omega
                have Hpl := hid (pinLoop_eq hl1)
                have Hl1 := hid hl1; clear hl1
                clear hdone
                obtain ⟨b, off, x, y, rfl, hc1, hc2, hb, hx, _, _, _, _⟩ := hl3.rd.pair hl3.ok hq
                have hg := bad_of F4.out hx.out
                have ow1 := ownsRow_aft own1 hw3
                have ow2 := ownsRow_aft own2 hw3
                have hmr := himr.im
                have hne1 : some bm ≠ u8.ownBlock := fun e => own_ne_map ow1 hmr bm e.symm rfl
                have hne2 : some bm ≠ u9.ownBlock := fun e => own_ne_map ow2 hmr bm e.symm rfl
                have hs4 := hw3.size
                have hpl' : pins.length ≤ 64 := by have := hpl.out; omega
                have hwr := hw.trans hw3
                go_wp2_with (first
                  | (at_builtin; refine wpList_app _ rfl (.tmp 81) (.tmp 83) 22 rfl w.heap.size 3 (.int .i64 0) 1 8 Try.underlying22 Try.info3 rfl (by decide) _ _ _ rfl (ow1.alloc _) (some ⟨wr.heap.size, 0, none⟩) 1 1 (i64s [x]) rfl (fun h => by cases h) rfl Rd.new (i64s_one _) (by unfold maxLen; omega) (by omega) (by simp; omega) ?_; intro v1 wa howna hga hloc; have hownb := hsep.symm.kept (ow2.alloc _) hga; have hsa := hga.size; simp at hsa; have hsp1 := hsep.moved (ow2.alloc _) hloc; have hwa := (hwr.alloc _).grown hga (fun j hj => (ow1.lt j hj).1); have hma := (hmr.aft ((Aft.refl _).alloc _)).kept hga hne1)
                  | (at_builtin; refine wpList_app _ rfl (.tmp 85) (.tmp 87) 22 rfl w.heap.size 3 (.int .i64 0) 1 8 Try.underlying22 Try.info3 rfl (by decide) _ _ _ rfl (hownb.alloc _) (some ⟨wa.heap.size, 0, none⟩) 1 1 (i64s [q]) rfl (fun h => by cases h) rfl Rd.new (i64s_one _) (by unfold maxLen; omega) (by omega) (by simp; omega) ?_; intro v2 wb hownc hgb hlocb; have hsp2 := hsp1.symm.moved (howna.alloc _) hlocb; have hownd := hsp1.kept (howna.alloc _) hgb; have hwf := (hwa.alloc _).grown hgb (fun j hj => (hownb.lt j hj).1); have hmb := (hma.aft ((Aft.refl _).alloc _)).kept hgb hne2; have hsb := hwf.size)
                  | (at_range; refine wpList_im_range Try.underlying3 rfl _ 99 rfl 100 Try.underlying99 bm N _ rfl (hmb.aft ((Aft.refl _).alloc _)) ?_; intro w5 cnt5 himr5 hcN5 hw5 hsz5))
                go_frame
                have hr2 : (wb.alloc (.map #[] 0)).heap.size = wb.heap.size + 1 := by simp
                rw [hr2] at himr5
                clear hsz5
                rw [hr2]
                have him5 : IM Try.prog 3 w5 wb.heap.size 0 _ := (IM.made wb).aft hw5
                rw [restF_start l at_ wd x] at him5
                have hbmb : bm < wb.heap.size := hmb.lt
                clear himr
                go_loopw [18] (fun _ w6 => ∃ (left : Int → Bool) (cnt N2 : Nat), N2 + cnt ≤ N ∧ IMr Try.prog 3 w6 bm (wb.heap.size + 1) N (unc l at_ wd) left cnt ∧ IM Try.prog 3 w6 wb.heap.size N2 (restF l at_ wd x left) ∧ Aft wb w6 ∧ wb.heap.size + 1 < w6.heap.size) (fun _ w6 => w6.rangeLeft bm (wb.heap.size + 1))
                case atStart => exact ⟨_, cnt5, 0, by omega, himr5, him5, ((Aft.refl _).alloc _).trans hw5, himr5.lt2⟩
                case round =>
                  clear himr5 him5 hw5 hcN5
                  obtain ⟨left2, cnt6, N2, hN2, himr6, him6, hw6, hsz6⟩ := hrel
                  go_wp2_with (at_next; refine wpList_im_next Try.underlying3 rfl _ rfl bm (wb.heap.size + 1) N _ left2 cnt6 rfl himr6 ?_ ?_)
                  · intro hdone2
                    rw [restF_end hdone2] at him6
                    clear hdone2
                    have him6b := himr6.im
                    go_wp2_with (with_reducible refine wpList_im_clear rfl (.tmp 105) 99 rfl 100 Try.underlying99 bm N _ rfl him6b ?_; intro w8 hg8)
                    have how1 := own_kept_map (ownsRow_aft hownd hw6) him6b hg8
                    have how2 := own_kept_map (ownsRow_aft hownc hw6) him6b hg8
                    have him8 := him6.kept hg8 (fun e => by cases e; omega)
                    have hw8 := (hwf.trans hw6).grown hg8 (fun k hk => by cases hk; exact hbm)
                    have hl8 := lenOf_own how1
                    have hl0 := lenOf_own own1
                    obtain ⟨u, hu, _⟩ : ∃ u, unc l at_ wd q = some u ∧ True := by
                      rcases Hl1.out with ⟨h, _⟩ | ⟨_, u, hu, _⟩
                      · omega
                      · exact ⟨u, hu, trivial⟩
                    have hxu : u = (x, y) := by
                      have := (unc_some hu).2.2.1
                      rw [Int.toNat_natCast, hx.out] at this
                      cases this; rfl
                    subst hxu
                    have hin : inB (x, y) x wd = true := by
                      have := List.any_eq_false.1 F5.out _ (List.mem_of_getElem? hx.out)
                      simp [wideP] at this
                      simp [inB]; omega
                    have hup := uncN_pos hu
                    have hul := uncN_lt (List.mem_of_getElem? hx.out) (unc_some hu).2.2.2 hin
                    clear hu hin
                    go_roundw
                    case rel =>
                      refine ⟨at_ ++ [x], pins ++ [(q : Int)], wb.heap.size, N2, rfl, by omega, by omega, him8, ?_, ?_, hsp2.symm, ?_, ?_, ?_, ?_, ?_, hw8⟩
                      · rw [i64s_append, List.length_append]; exact how1
                      · rw [i64s_append, List.length_append]; exact how2
                      · refine hid ?_
                        rw [hrr.out, show l.length - at_.length = (l.length - (at_.length + 1)) + 1 by omega, List.length_append]
                        simp only [rRounds, rStep, Hpl.out, List.length_singleton]
                        rw [if_pos (by omega), Int.toNat_natCast, getD_of hx.out]
                      · refine hid fun z hz => ?_
                        rcases List.mem_append.1 hz with h | h
                        · exact hat.out z h
                        · obtain rfl : z = x := by simpa using h
                          omega
                      · refine hid fun z hz => ?_
                        rcases List.mem_append.1 hz with h | h
                        · exact hpin.out z h
                        · obtain rfl : z = q := by simpa using h
                          omega
                      · refine hid ?_
                        rw [List.length_append, List.length_append, hpl.out]; rfl
                      · rw [List.length_append]
                        simp only [List.length_singleton]
                        omega
                    case measure => rw [hl8, hl0]; omega
                  · intro i px py w7 cnt7 hi1 hi2 hleft hfi himr7 hlt7 hg7 hsz7 hen
                    clear hsz7
                    have hw7 := hw6.grown hg7 (fun k hk => by have := Option.some.inj hk; omega)
                    have him7 := him6.kept hg7 (fun e => by have := Option.some.inj e; omega)
                    have hs7 := hg7.size
                    have HF := hid hfi; clear hfi
                    have Hleft := hid hleft; clear hleft
                    have hxw : -9223372036854775808 ≤ x + wd ∧ x + wd ≤ 9223372036854775807 := by omega
                    cases hin : inB (px, py) x wd
                    · go_wp2_with (first
                        | (go_at_call 65; refine (sin_any (px, py) x wd _ hxw.1 hxw.2).mono ?_; rintro e w8 ⟨rfl, hw78⟩; have c0 := hw78.cell (b := w7.heap.size) (o := 0) (by simp); have c1 := hw78.cell (b := w7.heap.size) (o := 1) (by simp); simp at c0 c1; have hw8 := (hw7.alloc (.cells #[.int .i64 px, .int .i64 py] 100)).trans hw78; have him8 := him7.aft (((Aft.refl _).alloc (.cells #[.int .i64 px, .int .i64 py] 100)).trans hw78); have himr8 := himr7.aft (((Aft.refl _).alloc (.cells #[.int .i64 px, .int .i64 py] 100)).trans hw78))
                        | (at_mapUpdate; refine wpList_im_store Try.underlying3 rfl _ _ _ 99 rfl 100 Try.underlying99 wb.heap.size N2 _ rfl him8 (by unfold maxLen; omega) i (px, py) rfl rfl (by omega) ?_; intro w9 him9 hg9; go_frame))
                      rw [restF_put HF.out hin] at him9
                      have himr9 := himr8.kept hg9 (fun e => by have := Option.some.inj e; omega) (fun e => by have := Option.some.inj e; omega)
                      have hw9 := hw8.grown hg9 (fun k hk => by have := Option.some.inj hk; omega)
                      have hsz9 : wb.heap.size + 1 < w9.heap.size := himr9.lt2
                      go_roundw
                      case rel => exact ⟨_, cnt7, N2 + 1, by omega, himr9, him9, hw9, hsz9⟩
                      case measure => rw [himr9.cnt_eq, himr6.cnt_eq]; exact hlt7
                    · go_wp2_with (go_at_call 65; refine (sin_any (px, py) x wd _ hxw.1 hxw.2).mono ?_; rintro e w8 ⟨rfl, hw78⟩; have hw8 := (hw7.alloc (.cells #[.int .i64 px, .int .i64 py] 100)).trans hw78; have him8 := him7.aft (((Aft.refl _).alloc (.cells #[.int .i64 px, .int .i64 py] 100)).trans hw78); have himr8 := himr7.aft (((Aft.refl _).alloc (.cells #[.int .i64 px, .int .i64 py] 100)).trans hw78))
                      rw [restF_skip HF.out Hleft.out hin] at him8
                      have hsz9 : wb.heap.size + 1 < w8.heap.size := himr8.lt2
                      go_roundw
                      case rel => exact ⟨_, cnt7, N2, by omega, himr8, him8, hw8, hsz9⟩
                      case measure => rw [himr8.cnt_eq, himr6.cnt_eq]; exact hlt7
              · intro i px py w4 cnt4 hi1 hi2 hleft hfi himr4 hlt4 hg4 hsz4 hen
                have hw4 := hw3.grown hg4 (fun k hk => by cases hk; exact Nat.le_refl _)
                have hl4 := hl.aft (hw.trans hw4)
                obtain ⟨i1, i2, i3, i4⟩ := unc_some hfi
                clear hsz4
                have HF := hid hfi; clear hfi
                have I3 := hid i3; clear i3
                clear i4 hleft
                rcases Int.lt_or_le p 0 with hneg | hnn
                · obtain rfl : p = -1 := by omega
                  go_wp2
                  refine wp_region_lat (w4.alloc (.cells #[.int .i64 px, .int .i64 py] 100)) (Aft.refl _) (by kernel_rfl) (by kernel_rfl) ?_
                  repeat (go_big_quiet_step (fail))
                  refine wpQuiet_nil ?_
                  intro _ hw'; obtain ⟨z, rfl⟩ := hw'
                  go_wp2
                  go_roundw
                  case rel => exact ⟨_, cnt4, i, rfl, hid (least_first hleast.out HF.out), by omega, by omega, (himr4.aft ((Aft.refl _).alloc _)).aft z.aft, (hw4.alloc _).trans z.aft⟩
                  case measure => rw [((himr4.aft ((Aft.refl _).alloc _)).aft z.aft).cnt_eq, himr.cnt_eq]; exact hlt4

                · obtain ⟨q, rfl⟩ := Int.eq_ofNat_of_zero_le hnn
                  have hq : q < l.length := by omega
                  have hd : decide ((q : Int) < 0) = false := by simp
                  obtain ⟨b, off, x2, y2, rfl, hc3, hc4, hb4, hx2, _, _, _, _⟩ := hl4.rd.pair hl4.ok hq
                  rcases (show (decide (px < x2) = true) ∨ (decide (px < x2) = false ∧ (px == x2) = true ∧ decide (i < (q : Int)) = true) ∨ (decide (px < x2) = false ∧ (px == x2) = true ∧ decide (i < (q : Int)) = false) ∨ (decide (px < x2) = false ∧ (px == x2) = false) by
                    cases decide (px < x2) <;> cases (px == x2) <;> cases decide (i < (q : Int)) <;> simp) with e1 | ⟨e1, e2, e3⟩ | ⟨e1, e2, e3⟩ | ⟨e1, e2⟩
                  · go_wp2
                    refine wp_region_lat (w4.alloc (.cells #[.int .i64 px, .int .i64 py] 100)) (Aft.refl _) (by kernel_rfl) (by kernel_rfl) ?_
                    repeat (go_big_quiet_step (fail))
                    refine wpQuiet_nil ?_
                    intro _ hw'; obtain ⟨z, rfl⟩ := hw'
                    go_wp2
                    go_roundw
                    case rel => exact ⟨_, cnt4, i, rfl, hid (least_new hleast.out HF.out hx2.out (by simp at e1; omega)), by omega, by omega, (himr4.aft ((Aft.refl _).alloc _)).aft z.aft, (hw4.alloc _).trans z.aft⟩
                    case measure => rw [((himr4.aft ((Aft.refl _).alloc _)).aft z.aft).cnt_eq, himr.cnt_eq]; exact hlt4

                  · go_wp2
                    refine wp_region_lat (w4.alloc (.cells #[.int .i64 px, .int .i64 py] 100)) (Aft.refl _) (by kernel_rfl) (by kernel_rfl) ?_
                    repeat (go_big_quiet_step (fail))
                    refine wpQuiet_nil ?_
                    intro _ hw'; obtain ⟨z, rfl⟩ := hw'
                    go_wp2
                    go_roundw
                    case rel => exact ⟨_, cnt4, i, rfl, hid (least_new hleast.out HF.out hx2.out (by simp at e1 e2 e3; omega)), by omega, by omega, (himr4.aft ((Aft.refl _).alloc _)).aft z.aft, (hw4.alloc _).trans z.aft⟩
                    case measure => rw [((himr4.aft ((Aft.refl _).alloc _)).aft z.aft).cnt_eq, himr.cnt_eq]; exact hlt4

                  · go_wp2
                    refine wp_region_lat (w4.alloc (.cells #[.int .i64 px, .int .i64 py] 100)) (Aft.refl _) (by kernel_rfl) (by kernel_rfl) ?_
                    repeat (go_big_quiet_step (fail))
                    refine wpQuiet_nil ?_
                    intro _ hw'; obtain ⟨z, rfl⟩ := hw'
                    go_wp2
                    go_roundw
                    case rel => exact ⟨_, cnt4, q, rfl, hid (least_old hleast.out HF.out hx2.out (by simp at e1 e2 e3; omega)), by omega, by omega, (himr4.aft ((Aft.refl _).alloc _)).aft z.aft, (hw4.alloc _).trans z.aft⟩
                    case measure => rw [((himr4.aft ((Aft.refl _).alloc _)).aft z.aft).cnt_eq, himr.cnt_eq]; exact hlt4

                  · go_wp2
                    refine wp_region_lat (w4.alloc (.cells #[.int .i64 px, .int .i64 py] 100)) (Aft.refl _) (by kernel_rfl) (by kernel_rfl) ?_
                    repeat (go_big_quiet_step (fail))
                    refine wpQuiet_nil ?_
                    intro _ hw'; obtain ⟨z, rfl⟩ := hw'
                    go_wp2
                    go_roundw
                    case rel => exact ⟨_, cnt4, q, rfl, hid (least_old hleast.out HF.out hx2.out (by simp at e1 e2; omega)), by omega, by omega, (himr4.aft ((Aft.refl _).alloc _)).aft z.aft, (hw4.alloc _).trans z.aft⟩
                    case measure => rw [((himr4.aft ((Aft.refl _).alloc _)).aft z.aft).cnt_eq, himr.cnt_eq]; exact hlt4

          · have hno : ∀ i, unc l at_ wd i = none := fun i => by
              cases h : unc l at_ wd i with
              | none => rfl
              | some p => exact absurd ⟨i, by rw [h]; rfl⟩ hne
            have Hno := hid hno; clear hno hne
            go_wp2_with (at_len; refine wpList_im_len Try.underlying3 rfl _ 99 rfl 100 Try.underlying99 bm N _ rfl him ?_; intro s hs1 hs2; have hs3 : s ≤ 0 := Nat.le_of_not_lt (fun h => (by obtain ⟨i, hi⟩ := hs2.1 h; rw [Hno.out i] at hi; cases hi)); clear hs2)
            go_ret3
            have e1 : rSplit l wd = (at_, pins, 0) := by
              unfold rSplit
              rw [if_pos Hf.out, hrr.out, rRounds_stuck Hno.out]
            rw [e1]
            exact ⟨_, _, rfl, ownsRow_ints own1 (fun x hx => by have := hat.out x hx; omega) (by show at_.length * 8 ≤ _; omega), ownsRow_ints own2 (fun x hx => by have := hpin.out x hx; omega) (by show pins.length * 8 ≤ _; rw [hpl.out]; omega), hw⟩
  · have hf0 : (fitsE l wd != 0) = true := by simp [hf]
    have e1 : rSplit l wd = ([], [], fitsE l wd) := by unfold rSplit; rw [if_neg hf]
    rw [e1]
    clear e1 hf
    go_enter Try.func19, Try.ntmps19
    go_wp2_with (go_at_call 64; refine (fits_any _ l wd _ hl).mono ?_; rintro e w1 ⟨rfl, hw1⟩)
    go_ret3
    exact ⟨_, _, rfl, Ints.empty _, Ints.empty _, hw1⟩
end Go.Proofs.Ytokdclbfjlnnjaa
/- Contracts of both Checks, for whatever windows: the sum of a window's beginning and the width may wrap. -/
namespace Go.Proofs.Ytokdclbfjlnnjaa
open Go.RowKit Go.BigFrame

def inW (s : Int × Int) (x wd : Int) : Bool := decide (x ≤ s.1) && decide (s.2 ≤ wrap64 (x + wd))
def covW (s : Int × Int) (l : List Int) (wd : Int) : Bool := l.any fun x => inW s x wd

set_option maxHeartbeats 400000 in
theorem sinw_any (s : Int × Int) (x wd : Int) (w : World) :
    Calls Try.prog 65 #[pr s, .int .i64 x, .int .i64 wd] w fun e w' => e = .returned (.bool (inW s x wd)) ∧ Aft w w' := by
  unfold pr
  by_cases hx : x ≤ s.1
  · have hd : decide (x ≤ s.1) = true := by simpa using hx
    go_enter Try.func65, Try.ntmps65
    go_wp2
    go_ret
    exact ⟨ret_bool (by simp [inW, hx]), (Aft.refl w).alloc _⟩
  · have hd : decide (x ≤ s.1) = false := by simpa using hx
    go_enter Try.func65, Try.ntmps65
    go_wp2
    go_ret
    exact ⟨ret_bool (by simp only [inW, hd, Bool.false_and]), (Aft.refl w).alloc _⟩

/-! slices.IndexFunc and ContainsFunc over numbers. -/
set_option maxHeartbeats 400000 in
theorem indexi_any (v : Value) (l : List Int) (F : Nat) (caps : Array Value) (g : Int → Bool) (w : World) (hl : Ints w v l)
    (hF : ∀ args w, (callFunc F args).run Try.prog w = .ok (.enter F args) w) (hg : Asks Try.prog F caps l (Value.int .i64) g w) :
    Calls Try.prog 122 #[v, .func (.func F) #[] caps] w fun e w' => e = .returned (.int .i64 (idxI (l.findIdx? g))) ∧ Aft w w' := by
  obtain ⟨a, c, rfl, hl⟩ := hl
  have hn := hl.le
  have Hg := hid hg; clear hg
  go_enter Try.func122, Try.ntmps122
  go_wp2
  go_loopw [8, 5] (fun i _ wr => ∃ k : Nat, k ≤ l.length ∧ i = .int .i64 k ∧ Hid (∀ j, j < k → ∀ x, l[j]? = some x → g x = false) ∧ Aft w wr) (fun i _ _ => l.length - (intOf i).toNat)
  case atStart => exact ⟨0, by omega, rfl, fun j hj => by omega, Aft.refl _⟩
  case round =>
    obtain ⟨k, hk, rfl, ht, hw⟩ := hrel
    by_cases hlt : k < l.length
    · obtain ⟨b, off, x, rfl, hc1, hb, hx, _, _⟩ := (hl.aft hw).rd.int hl.ok hlt
      go_wp2_with fail
      refine (Hg.out x (List.mem_of_getElem? hx.out) wr hw).mono ?_
      rintro e w' ⟨rfl, hw'⟩
      have hwf := hw.trans hw'
      cases hgx : g x
      all_goals go_wp2_with fail
      · go_roundw
        case rel =>
          refine ⟨k + 1, by omega, by go_num, hid fun j hj z hz => ?_, hwf⟩
          rcases Nat.lt_or_ge j k with h | h
          · exact ht.out j h z hz
          · obtain rfl : j = k := by omega
            rw [hx.out] at hz
            cases hz
            exact hgx
        case measure => simp [intOf] <;> omega
      · go_ret
        refine ⟨ret_int ?_, hwf⟩
        rw [findIdx_hit hx.out hgx ht.out]
        rfl
    · go_wp2
      go_ret
      refine ⟨ret_int ?_, hw⟩
      rw [findIdx_miss (fun j hj z hz => ht.out j (by omega) z hz)]
      rfl
theorem containsi_any (v : Value) (l : List Int) (F : Nat) (caps : Array Value) (g : Int → Bool) (w : World) (hl : Ints w v l)
    (hF : ∀ args w, (callFunc F args).run Try.prog w = .ok (.enter F args) w) (hg : Asks Try.prog F caps l (Value.int .i64) g w) :
    Calls Try.prog 111 #[v, .func (.func F) #[] caps] w fun e w' => e = .returned (.bool (l.any g)) ∧ Aft w w' := by
  have hb := idx_ge (l.findIdx? g)
  have he : decide ((0 : Int) ≤ idxI (l.findIdx? g)) = l.any g := idx_any l g
  go_enter Try.func111, Try.ntmps111
  go_wp2_with fail
  refine (indexi_any v l F caps g w hl hF hg).mono ?_
  rintro e w' ⟨rfl, hw⟩
  go_wp2_with fail
  go_ret
  exact ⟨rfl, hw⟩

/-! sheets.covered and its closures. -/
set_option maxHeartbeats 400000 in
theorem cov11_any (x : Int) (s : Int × Int) (wd : Int) (b1 b2 : Nat) (w : World) (h1 : w.cell? ⟨b1, 0, none⟩ = some (.int .i64 s.1)) (h2 : w.cell? ⟨b1, 1, none⟩ = some (.int .i64 s.2)) (h3 : w.cell? ⟨b2, 0, none⟩ = some (.int .i64 wd)) :
    Calls Try.prog 112 #[.int .i64 x, .pointer (some ⟨b1, 0, none⟩), .pointer (some ⟨b2, 0, none⟩)] w fun e w' => e = .returned (.bool (inW s x wd)) ∧ Aft w w' := by
  go_enter Try.func112, Try.ntmps112
  go_wp2_with fail
  refine (sinw_any s x wd w).mono ?_
  rintro e w' ⟨rfl, hw⟩
  go_wp2_with fail
  go_ret
  exact ⟨rfl, hw⟩

set_option maxHeartbeats 400000 in
theorem cov1_any (s : Int × Int) (v : Value) (l : List Int) (wd : Int) (b1 b2 : Nat) (w : World) (h1 : w.cell? ⟨b1, 0, none⟩ = some v) (h3 : w.cell? ⟨b2, 0, none⟩ = some (.int .i64 wd)) (hl : Ints w v l) :
    Calls Try.prog 110 #[pr s, .pointer (some ⟨b1, 0, none⟩), .pointer (some ⟨b2, 0, none⟩)] w fun e w' => e = .returned (.bool (!covW s l wd)) ∧ Aft w w' := by
  have hb1 := World.block_lt_of_cell? w _ h1
  have hb2 := World.block_lt_of_cell? w _ h3
  simp only [] at hb1 hb2
  unfold pr
  have hl0 := hl
  obtain ⟨a, c, rfl, hl⟩ := hl
  go_enter Try.func110, Try.ntmps110
  go_wp2_with fail
  refine (containsi_any _ l 112 #[.pointer (some ⟨w.heap.size, 0, none⟩), .pointer (some ⟨b2, 0, none⟩)] (fun x => inW s x wd) _ (hl0.aft ((Aft.refl w).alloc _)) (fun args w => by kernel_rfl) (fun x _ w' hw' => cov11_any x s wd _ _ w' ?_ ?_ ?_)).mono ?_
  · rw [hw'.cell (by simp)]; simp
  · rw [hw'.cell (by simp)]; simp
  · rw [hw'.cell (by simp; omega), ((Aft.refl w).alloc _).cell hb2]; exact h3
  rintro e w' ⟨rfl, hw⟩
  go_wp2_with fail
  go_ret
  exact ⟨rfl, ((Aft.refl w).alloc _).trans hw⟩

set_option maxHeartbeats 400000 in
theorem covered_any (v v' : Value) (l : List (Int × Int)) (at_ : List Int) (wd : Int) (w : World) (hl : Prs w v l) (hat : Ints w v' at_) :
    Calls Try.prog 68 #[v, .int .i64 wd, v'] w fun e w' => e = .returned (.bool (l.all fun s => covW s at_ wd)) ∧ Aft w w' := by
  have hl0 := hl
  have hat0 := hat
  obtain ⟨a, c, rfl, hl⟩ := hl
  obtain ⟨a', c', rfl, hat⟩ := hat
  have hq : (!(l.any fun s => !covW s at_ wd)) = l.all fun s => covW s at_ wd := by rw [List.not_any_eq_all_not]; simp
  have Hq := hid hq; clear hq
  have haf : Aft w ((w.alloc (.cells #[.int .i64 wd] 3)).alloc (.cells #[.slice a' at_.length c'] 22)) := ((Aft.refl w).alloc _).alloc _
  go_enter Try.func68, Try.ntmps68
  go_wp2_with fail
  refine (contains_any _ l 110 #[.pointer (some ⟨w.heap.size + 1, 0, none⟩), .pointer (some ⟨w.heap.size, 0, none⟩)] (fun s => !covW s at_ wd) _ (hl0.aft haf) (fun args w => by kernel_rfl) (fun s _ w' hw' => cov1_any s _ at_ wd _ _ w' ?_ ?_ (hat0.aft (haf.trans hw')))).mono ?_
  · rw [hw'.cell (by simp)]; simp
  · rw [hw'.cell (by simp; omega)]; simp
  rintro e w' ⟨rfl, hw⟩
  go_wp2_with fail
  go_ret
  exact ⟨ret_bool (Hq.out), haf.trans hw⟩
end Go.Proofs.Ytokdclbfjlnnjaa
/- The contract of the reference's Check. -/
namespace Go.Proofs.Ytokdclbfjlnnjaa
open Go.RowKit Go.BigFrame

def pinOk (l : List (Int × Int)) (at_ pins : List Int) (i : Nat) : Bool :=
  decide (0 ≤ pins.getD i 0) && decide (pins.getD i 0 < l.length) && (decide (i = 0) || decide (at_.getD (i - 1) 0 < at_.getD i 0))
def apOk (l : List (Int × Int)) (wd : Int) (pins : List Int) (i k : Nat) : Bool := apartB (l.getD (pins.getD i 0).toNat (0, 0)) (l.getD (pins.getD k 0).toNat (0, 0)) wd
def Right (l : List (Int × Int)) (wd : Int) (at_ pins : List Int) : Prop :=
  at_.length = pins.length ∧ (∀ s ∈ l, covW s at_ wd = true) ∧ (∀ i, i < pins.length → pinOk l at_ pins i = true) ∧ (∀ i, i < pins.length → ∀ k, k < i → apOk l wd pins i k = true)
noncomputable def checkE (l : List (Int × Int)) (wd : Int) (at_ pins : List Int) : Int :=
  open Classical in if fitsE l wd ≠ 0 then fitsE l wd else if Right l wd at_ pins then 0 else 19
theorem checkE_fits {l : List (Int × Int)} {wd : Int} {at_ pins : List Int} (h : fitsE l wd ≠ 0) : checkE l wd at_ pins = fitsE l wd := by unfold checkE; rw [if_pos h]
theorem checkE_right {l : List (Int × Int)} {wd : Int} {at_ pins : List Int} (h : fitsE l wd = 0) (hr : Right l wd at_ pins) : checkE l wd at_ pins = 0 := by unfold checkE; rw [if_neg (by simp [h]), if_pos hr]
theorem checkE_wrong {l : List (Int × Int)} {wd : Int} {at_ pins : List Int} (h : fitsE l wd = 0) (hr : ¬ Right l wd at_ pins) : checkE l wd at_ pins = 19 := by unfold checkE; rw [if_neg (by simp [h]), if_neg hr]

theorem pinOk_lt {l : List (Int × Int)} {at_ pins : List Int} {i : Nat} (h : pinOk l at_ pins i = true) : 0 ≤ pins.getD i 0 ∧ pins.getD i 0 < l.length := by
  simp only [pinOk, Bool.and_eq_true, decide_eq_true_eq] at h
  exact h.1

end Go.Proofs.Ytokdclbfjlnnjaa
/- The contract of the program's Check: it returns what the reference's does. -/
namespace Go.Proofs.Ytokdclbfjlnnjaa
open Go.RowKit Go.BigFrame

theorem pinOk_step {l : List (Int × Int)} {at_ pins : List Int} {q : Nat} (ht : ∀ i, i < q → pinOk l at_ pins i = true) (h : pinOk l at_ pins q = true) : ∀ i, i ≤ q → pinOk l at_ pins i = true := fun i hi => by
  rcases Nat.lt_or_ge i q with h1 | h1
  · exact ht i h1
  · obtain rfl : i = q := by omega
    exact h

set_option maxRecDepth 100000 in
set_option maxHeartbeats 4000000 in
theorem check_any (v v1 v2 : Value) (l : List (Int × Int)) (wd : Int) (at_ pins : List Int) (w : World) (hl : Prs w v l) (hat : Ints w v1 at_) (hpin : Ints w v2 pins) :
    Calls Try.prog 24 #[v, .int .i64 wd, v1, v2] w fun e w' => e = .returned (.int .i64 (checkE l wd at_ pins)) ∧ Aft w w' := by
  by_cases hf : fitsE l wd = 0
  · obtain ⟨f1, f2, f3, f4, f5⟩ := fits_ok hf
    have F4 := hid f4; clear f4
    clear f5
    have hf0 : (fitsE l wd != 0) = false := by simp [hf]
    have Hf := hid hf; clear hf
    have hl0 := hl
    have hat0 := hat
    have hpin0 := hpin
    obtain ⟨a, c, rfl, hl⟩ := hl
    obtain ⟨a1, c1, rfl, hat⟩ := hat
    obtain ⟨a2, c2, rfl, hpin⟩ := hpin
    have hn := hl.le
    have hn1 := hat.le
    have hn2 := hpin.le
    have hcap := hpin.cap
    by_cases hle : at_.length = pins.length
    · have hle' : ((at_.length : Int) != (pins.length : Int)) = false := by simp [hle]
      have Hle := hid hle; clear hle
      go_enter Try.func24, Try.ntmps24
      go_wp2_with (go_at_call 64; refine (fits_any _ l wd _ hl0).mono ?_; rintro e w1 ⟨rfl, hw1⟩)
      refine (covered_any _ _ l at_ wd _ (hl0.aft hw1) (hat0.aft hw1)).mono ?_
      rintro e w2 ⟨rfl, hw2⟩
      have hw := hw1.trans hw2
      cases hcov : l.all fun s => covW s at_ wd
      · go_wp2
        go_ret
        refine ⟨ret_int (checkE_wrong Hf.out fun h => ?_).symm, hw⟩
        have := List.all_eq_true.2 h.2.1
        rw [this] at hcov; cases hcov
      · have Hcov := hid (List.all_eq_true.1 hcov); clear hcov
        go_wp2
        go_loopw [34, 10, 11] (fun i _ _ wr => ∃ k : Nat, k ≤ pins.length ∧ i = .int .i64 k ∧ Hid (∀ j, j < k → pinOk l at_ pins j = true) ∧ Hid (∀ i, i < k → ∀ j, j < i → apOk l wd pins i j = true) ∧ Aft w wr) (fun i _ _ _ => pins.length - (intOf i).toNat)
        case atStart => exact ⟨0, by omega, rfl, fun j hj => by omega, fun j hj => by omega, hw⟩
        case round =>
          clear hw
          obtain ⟨q, hq, rfl, htp, ht, hw⟩ := hrel
          by_cases hlq : q < pins.length
          · obtain ⟨b2, o2, p, rfl, hcp, hbp, hp, hp1, hp2⟩ := hpin.rd.int hpin.ok hlq
            have hcpr : wr.cell? ⟨b2, o2 + q, none⟩ = some (.int .i64 p) := by rw [hw.cell hbp]; exact hcp
            have Hp : Hid (pins.getD q 0 = p) := hid (getD_of hp.out)
            rcases Int.lt_or_le p 0 with hneg | hnn
            · have d1 : decide (p < 0) = true := by simpa using hneg
              go_wp2
              refine wp_region_lat w hw (by kernel_rfl) (by kernel_rfl) ?_
              repeat (go_big_quiet_step (fail))
              refine wpQuiet_nil ?_
              intro _ hw'; obtain ⟨z, rfl⟩ := hw'
              go_wp2
              go_ret
              exact ⟨ret_int (checkE_wrong Hf.out fun h => by have := pinOk_lt (h.2.2.1 q hlq); rw [Hp.out] at this; omega).symm, z.aft⟩
            have d1 : decide (p < 0) = false := by simp; omega
            rcases Int.lt_or_le p l.length with hpl | hpl
            · have d2 : decide ((l.length : Int) ≤ p) = false := by simp; omega
              obtain ⟨pn, rfl⟩ := Int.eq_ofNat_of_zero_le hnn
              have d2' : decide (l.length ≤ pn) = false := by rw [decide_eq_false_iff_not]; omega
              rcases Nat.eq_zero_or_pos q with rfl | hqp
              · have Hpq := hid (pinOk_step htp.out (show pinOk l at_ pins 0 = true by unfold pinOk; rw [Hp.out]; simp; omega))
                have e0 : ((0 : Nat) : Int) = 0 := rfl
                have hcp0 : wr.cell? ⟨b2, o2, none⟩ = some (.int .i64 pn) := hcpr
                rw [e0]
                clear e0
                go_wp2
                refine wp_region_lat w hw (by kernel_rfl) (by kernel_rfl) ?_
                repeat (go_big_quiet_step (fail))
                refine wpQuiet_nil ?_
                intro _ hw'; obtain ⟨z, rfl⟩ := hw'
                go_wp2
                go_loopw [67, 13] (fun i _ w3 => i = .int .i64 0 ∧ Aft w w3) (fun _ _ _ => 0)
                case atStart => exact ⟨rfl, z.aft⟩
                case round =>
                  clear hw
                  obtain ⟨rfl, hw⟩ := hrel
                  go_wp2
                  go_roundw
                  case rel => exact ⟨0 + 1, by omega, by go_num, hid fun i hi => Hpq.out i (by omega), hid fun i hi i3 h3 => by omega, hw⟩
                  case measure => simp [intOf] <;> omega
              · obtain ⟨j, rfl⟩ : ∃ j, q = j + 1 := ⟨q - 1, by omega⟩
                have hlj : j + 1 < at_.length := by rw [Hle.out]; exact hlq
                obtain ⟨b1, o1, x1, rfl, hc1, hb1, hx1, hx1a, hx1b⟩ := hat.rd.int hat.ok hlj
                obtain ⟨x0, hc0, hx0, hx0a, hx0b⟩ := hat.rd.int_at hat.ok (show j < at_.length by omega)
                have ej : ((j + 1 : Nat) : Int) = (j : Int) + 1 := by omega
                rw [ej]
                have d3 : decide ((0 : Int) < (j : Int) + 1) = true := by rw [decide_eq_true_eq]; omega
                clear ej
                cases hcmp : decide (x1 ≤ x0)
                · have Hpq := hid (pinOk_step htp.out (show pinOk l at_ pins (j + 1) = true by
                    unfold pinOk
                    rw [Hp.out, getD_of hx1.out, Nat.add_sub_cancel, getD_of hx0.out]
                    simp at hcmp
                    simp [hcmp]; omega))
                  go_wp2
                  refine wp_region_lat w hw (by kernel_rfl) (by kernel_rfl) ?_
                  repeat (go_big_quiet_step (fail))
                  refine wpQuiet_nil ?_
                  intro _ hw'; obtain ⟨z, rfl⟩ := hw'
                  go_wp2
                  go_loopw [67, 13] (fun i _ w3 => ∃ k : Nat, k ≤ (j + 1) ∧ i = .int .i64 k ∧ Hid (∀ i3, i3 < k → apOk l wd pins (j + 1) i3 = true) ∧ Aft w w3) (fun i _ _ => (j + 1) - (intOf i).toNat)
                  case atStart => exact ⟨0, by omega, rfl, fun i3 h3 => by omega, z.aft⟩
                  case round =>
                    clear hw
                    obtain ⟨n2, hn2, rfl, ht2, hw⟩ := hrel
                    by_cases hl2 : n2 < (j + 1)
                    · obtain ⟨p', hcp', hp', _, _⟩ := hpin.rd.int_at hpin.ok (show n2 < pins.length by omega)
                      have Hp' : Hid (pins.getD n2 0 = p') := hid (getD_of hp'.out)
                      obtain ⟨hp1', hp2'⟩ := Hp'.out ▸ pinOk_lt (Hpq.out n2 (by omega))
                      obtain ⟨pm, rfl⟩ := Int.eq_ofNat_of_zero_le hp1'
                      have hpnl : pn < l.length := by omega
                      have hpml : pm < l.length := by omega
                      obtain ⟨b, off, x, y, rfl, hc1, hc2, hb, hx, _, _, _, _⟩ := hl.rd.pair hl.ok hpnl
                      obtain ⟨x', y', hc1', hc2', hx', _⟩ := hl.rd.pair_at hl.ok hpml
                      have hg := bad_of F4.out hx.out
                      have hg' := bad_of F4.out hx'.out
                      have Hap : Hid (apOk l wd pins (j + 1) n2 = apartB (x, y) (x', y') wd) := hid (by unfold apOk; rw [Hp.out, Hp'.out, Int.toNat_natCast, Int.toNat_natCast, getD_of hx.out, getD_of hx'.out])
                      have hcp2 : ∀ W, Aft w W → W.cell? ⟨b2, o2 + n2, none⟩ = some (.int .i64 pm) := fun W hW => by rw [hW.cell hbp]; exact hcp'
                      have hcp3 := hcp2 _ hw
                      clear hcp2
                      cases hap : apartB (x, y) (x', y') wd
                      all_goals
                        go_wp2
                        refine wp_region_lat w hw (by kernel_rfl) (by kernel_rfl) ?_
                        repeat (go_big_quiet_step ((go_at_call 69; exact Calls.lat (hap ▸ sapart_any (x, y) (x', y') wd _ (by simp; omega) (by simp; omega)))))
                        refine wpQuiet_nil ?_
                        intro _ hw'; obtain ⟨z2, rfl⟩ := hw'
                        go_wp2
                      · go_ret
                        refine ⟨ret_int (checkE_wrong Hf.out fun h => ?_).symm, z2.aft⟩
                        have := h.2.2.2 (j + 1) hlq n2 hl2
                        rw [Hap.out, hap] at this; cases this
                      · go_roundw
                        case rel =>
                          refine ⟨n2 + 1, by omega, by go_num, hid fun i3 h3 => ?_, z2.aft⟩
                          rcases Nat.lt_or_ge i3 n2 with h | h
                          · exact ht2.out i3 h
                          · obtain rfl : i3 = n2 := by omega
                            rw [Hap.out, hap]
                        case measure => simp [intOf] <;> omega
                    · obtain rfl : n2 = (j + 1) := by omega
                      go_wp2
                      go_roundw
                      case rel =>
                        refine ⟨(j + 1) + 1, by omega, by go_num, hid fun i hi => ?_, hid fun i hi i3 h3 => ?_, hw⟩
                        · exact Hpq.out i (by omega)
                        · rcases Nat.lt_or_ge i ((j + 1)) with h | h
                          · exact ht.out i h i3 h3
                          · obtain rfl : i = (j + 1) := by omega
                            exact ht2.out i3 h3
                      case measure => simp [intOf] <;> omega
                · go_wp2
                  refine wp_region_lat w hw (by kernel_rfl) (by kernel_rfl) ?_
                  repeat (go_big_quiet_step (fail))
                  refine wpQuiet_nil ?_
                  intro _ hw'; obtain ⟨z, rfl⟩ := hw'
                  go_wp2
                  go_ret
                  refine ⟨ret_int (checkE_wrong Hf.out fun h => ?_).symm, z.aft⟩
                  have := h.2.2.1 (j + 1) hlq
                  unfold pinOk at this
                  rw [Hp.out, getD_of hx1.out, Nat.add_sub_cancel, getD_of hx0.out] at this
                  simp at hcmp this
                  omega
            · have d2 : decide ((l.length : Int) ≤ p) = true := by simpa using hpl
              go_wp2
              refine wp_region_lat w hw (by kernel_rfl) (by kernel_rfl) ?_
              repeat (go_big_quiet_step (fail))
              refine wpQuiet_nil ?_
              intro _ hw'; obtain ⟨z, rfl⟩ := hw'
              go_wp2
              go_ret
              exact ⟨ret_int (checkE_wrong Hf.out fun h => by have := pinOk_lt (h.2.2.1 q hlq); rw [Hp.out] at this; omega).symm, z.aft⟩
          · go_wp2
            go_ret
            exact ⟨ret_int (checkE_right Hf.out ⟨Hle.out, Hcov.out, fun i hi => htp.out i (by omega), fun i hi j hj => ht.out i (by omega) j hj⟩).symm, hw⟩
    · have hle' : ((at_.length : Int) != (pins.length : Int)) = true := by simp; omega
      go_enter Try.func24, Try.ntmps24
      go_wp2_with (go_at_call 64; refine (fits_any _ l wd _ hl0).mono ?_; rintro e w1 ⟨rfl, hw1⟩)
      go_ret
      exact ⟨ret_int (checkE_wrong Hf.out fun h => hle h.1).symm, hw1⟩
  · have hf0 : (fitsE l wd != 0) = true := by simp [hf]
    rw [checkE_fits hf]
    clear hf
    go_enter Try.func24, Try.ntmps24
    go_wp2_with (go_at_call 64; refine (fits_any _ l wd _ hl).mono ?_; rintro e w1 ⟨rfl, hw1⟩)
    go_ret
    exact ⟨rfl, hw1⟩
end Go.Proofs.Ytokdclbfjlnnjaa
/- The contract of lives: the documented example stands. -/
namespace Go.Proofs.Ytokdclbfjlnnjaa
open Go.RowKit Go.BigFrame

def l0 : List (Int × Int) := [(0, 4), (3, 9), (8, 12), (20, 20)]
theorem l0_split : rSplit l0 10 = ([0, 8, 20], [0, 2, 3], 0) := by decide +kernel
theorem l0_c1 : checkE l0 10 [0, 8, 20] [0, 2, 3] = 0 := checkE_right (by decide +kernel) ⟨rfl, by decide +kernel, by decide +kernel, by decide +kernel⟩
theorem l0_c2 : checkE l0 10 [0, 8] [0, 2] = 19 := checkE_wrong (by decide +kernel) fun h => absurd (h.2.1 (20, 20) (by decide +kernel)) (by decide +kernel)
theorem l0_c3 : checkE l0 20 [0, 8, 20] [0, 2, 3] = 19 := checkE_wrong (by decide +kernel) fun h => absurd (h.2.2.2 1 (by decide +kernel) 0 (by decide +kernel)) (by decide +kernel)

theorem Ints.pre {w : World} {a : Option Addr} {n c : Nat} {l : List Int} (h : IntsAt w a n c l) (m : Nat) (hm : m ≤ n) : Ints w (.slice a m c) (l.take m) := by
  have e : (l.take m).length = m := by rw [List.length_take, ← h.len]; omega
  have := h.cap
  have := h.size
  exact ⟨a, c, by rw [e], rfl, by rw [← i64s_take]; exact h.rd.front m, fun x hx => h.ok x (List.mem_of_mem_take hx), by omega, h.nil, by omega⟩

theorem Ints.lit {w : World} {c : Nat} {l : List Int} {e : TypeId} (hc : c = l.length) (ok : okI l) (hs : l.length * 8 ≤ 140737488351232) : Ints (w.alloc (.cells (i64s l).toArray e)) (.slice (some ⟨w.heap.size, 0, none⟩) l.length c) l :=
  ⟨_, _, rfl, rfl, by have := Rd.new (w := w) (cs := (i64s l).toArray) (e := e); simpa using this, ok, by omega, fun h => (by cases h), hs⟩

set_option maxRecDepth 100000 in
set_option maxHeartbeats 2000000 in
theorem lives_any (w : World) : Calls Try.prog 22 #[] w fun e w' => e = .returned (.bool true) ∧ Aft w w' := by
  have hP : Prs (w.alloc (.cells #[.int .i64 0, .int .i64 4, .int .i64 3, .int .i64 9, .int .i64 8, .int .i64 12, .int .i64 20, .int .i64 20] 41)) (.slice (some ⟨w.heap.size, 0, none⟩) 4 4) l0 :=
    ⟨_, 4, rfl, rfl, Rd.new, by unfold okP l0; simp, by decide, fun h => (by cases h), by decide⟩
  have ha := (Aft.refl w).alloc (.cells #[.int .i64 0, .int .i64 4, .int .i64 3, .int .i64 9, .int .i64 8, .int .i64 12, .int .i64 20, .int .i64 20] 41)
  go_enter Try.func22, Try.ntmps22
  go_wp2_with fail
  refine (split_any _ l0 10 _ hP).mono ?_
  rw [l0_split]
  rintro e w1 ⟨v, v', rfl, h1, h2, hw1⟩
  obtain ⟨a1, c1, rfl, h1⟩ := h1
  obtain ⟨a2, c2, rfl, h2⟩ := h2
  have hP1 := hP.aft hw1
  have ha1 := ha.trans hw1
  go_wp2_with fail
  refine (same_any _ _ [0, 8, 20] [0, 8, 20] _ (Ints.aft ⟨a1, c1, rfl, h1⟩ ((Aft.refl w1).alloc _)) (Ints.lit rfl (by unfold okI; simp) (by decide))).mono ?_
  rintro e w2 ⟨he, hw2⟩
  have he : e = .returned (.bool true) := he
  subst he
  have hw12 := ((Aft.refl w1).alloc (.cells #[.int .i64 0, .int .i64 8, .int .i64 20] 3)).trans hw2
  go_wp2_with fail
  refine (same_any _ _ [0, 2, 3] [0, 2, 3] _ (Ints.aft ⟨a2, c2, rfl, h2⟩ (hw12.alloc _)) (Ints.lit rfl (by unfold okI; simp) (by decide))).mono ?_
  rintro e w3 ⟨he, hw3⟩
  have he : e = .returned (.bool true) := he
  subst he
  have hw13 := (hw12.alloc (.cells #[.int .i64 0, .int .i64 2, .int .i64 3] 3)).trans hw3
  have k1 := h1.aft hw13
  have k2 := h2.aft hw13
  have hP3 := hP1.aft hw13
  obtain ⟨b1, o1, x1, rfl, _, _, _, _, _⟩ := h1.rd.int h1.ok (show 0 < [0, 8, 20].length by decide)
  obtain ⟨b2, o2, x2, rfl, _, _, _, _, _⟩ := h2.rd.int h2.ok (show 0 < [0, 2, 3].length by decide)
  have hc1 : 3 ≤ c1 := k1.cap
  have hc2 : 3 ≤ c2 := k2.cap
  have haf := ha1.trans hw13
  clear h1 h2 hP hP1 ha ha1 hw13 hw12 hw3 hw2 hw1
  have i1 : Ints w3 (.slice (some ⟨b1, o1, none⟩) 3 c1) [0, 8, 20] := ⟨_, c1, rfl, k1⟩
  have i2 : Ints w3 (.slice (some ⟨b2, o2, none⟩) 3 c2) [0, 2, 3] := ⟨_, c2, rfl, k2⟩
  have j1 : Ints w3 (.slice (some ⟨b1, o1, none⟩) 2 c1) [0, 8] := Ints.pre k1 2 (by decide)
  have j2 : Ints w3 (.slice (some ⟨b2, o2, none⟩) 2 c2) [0, 2] := Ints.pre k2 2 (by decide)
  have C1 : Hid (∀ y : Lat w3, Calls Try.prog 24 #[(Value.slice (some ⟨w.heap.size, 0, none⟩) 4 4), .int .i64 10, .slice (some ⟨b1, o1, none⟩) 3 c1, .slice (some ⟨b2, o2, none⟩) 3 c2] y.W fun e w'' => e = .returned (.int .i64 0) ∧ ∃ z : Lat w3, w'' = z.W) :=
    hid fun y => Calls.lat (by
      have := check_any _ _ _ l0 10 [0, 8, 20] [0, 2, 3] y.W (hP3.aft y.aft) (i1.aft y.aft) (i2.aft y.aft)
      rw [l0_c1] at this
      exact this)
  have C2 : Hid (∀ y : Lat w3, Calls Try.prog 24 #[(Value.slice (some ⟨w.heap.size, 0, none⟩) 4 4), .int .i64 10, .slice (some ⟨b1, o1, none⟩) 2 c1, .slice (some ⟨b2, o2, none⟩) 2 c2] y.W fun e w'' => e = .returned (.int .i64 19) ∧ ∃ z : Lat w3, w'' = z.W) :=
    hid fun y => Calls.lat (by
      have := check_any _ _ _ l0 10 [0, 8] [0, 2] y.W (hP3.aft y.aft) (j1.aft y.aft) (j2.aft y.aft)
      rw [l0_c2] at this
      exact this)
  have C3 : Hid (∀ y : Lat w3, Calls Try.prog 24 #[(Value.slice (some ⟨w.heap.size, 0, none⟩) 4 4), .int .i64 20, .slice (some ⟨b1, o1, none⟩) 3 c1, .slice (some ⟨b2, o2, none⟩) 3 c2] y.W fun e w'' => e = .returned (.int .i64 19) ∧ ∃ z : Lat w3, w'' = z.W) :=
    hid fun y => Calls.lat (by
      have := check_any _ _ _ l0 20 [0, 8, 20] [0, 2, 3] y.W (hP3.aft y.aft) (i1.aft y.aft) (i2.aft y.aft)
      rw [l0_c3] at this
      exact this)
  clear i1 i2 j1 j2 k1 k2 hP3
  go_wp2_with fail
  refine wp_region_lat w3 (Aft.refl w3) (by kernel_rfl) (by kernel_rfl) ?_
  repeat (go_big_quiet_step (first | (with_reducible exact C1.out _) | (with_reducible exact C2.out _) | (with_reducible exact C3.out _)))
  refine wpQuiet_nil ?_
  intro _ hw'; obtain ⟨z, rfl⟩ := hw'
  go_wp2
  go_ret
  exact ⟨rfl, haf.trans z.aft⟩
end Go.Proofs.Ytokdclbfjlnnjaa
/- The contracts of Take at any number, and of odd: it returns some spans. -/
namespace Go.Proofs.Ytokdclbfjlnnjaa
open Go.RowKit Go.BigFrame

theorem cell_new (W : World) (cs : Array Value) (e : TypeId) (o : Nat) (v : Value) (h : cs[o]? = some v) : (W.alloc (.cells cs e)).cell? ⟨W.heap.size, o, none⟩ = some v := by
  simp only [World.cell?, heap_alloc_new]
  exact h
theorem frozen_new (W : World) (cs : Array Value) (e : TypeId) (o : Nat) : (W.alloc (.cells cs e)).frozen? ⟨W.heap.size, o, none⟩ = false := by
  simp only [World.frozen?, heap_alloc_new]
  simp
theorem size_new (W : World) (o : Obj) : W.heap.size < (W.alloc o).heap.size := by
  show W.heap.size < (W.heap.push o).size
  rw [Array.size_push]
  omega
def fvInts (l : List Int) : FV := ⟨fun v W => Ints W v l, fun _ _ _ h hw => h.aft hw⟩
def fvIdx (n : Nat) : FV := FV.pure fun v => ∃ k : Nat, v = .int .i64 k ∧ k < n
def fvNum (lo hi : Int) : FV := FV.pure fun v => ∃ x : Int, v = .int .i64 x ∧ lo ≤ x ∧ x ≤ hi
def fvPtr (lo hi : Int) : FV := ⟨fun v W => ∃ g o x, v = .pointer (some ⟨g, o, none⟩) ∧ W.cell? ⟨g, o, none⟩ = some (.int .i64 x) ∧ lo ≤ x ∧ x ≤ hi,
  fun _ _ _ ⟨g, o, x, h1, h2, h3⟩ hw => ⟨g, o, x, h1, (by rw [hw.cell (World.block_lt_of_cell? _ _ h2)]; exact h2), h3⟩⟩
def fvPair (lo hi : Int) : FV := FV.pure fun v => ∃ x y : Int, v = .agg #[.int .i64 x, .int .i64 y] ∧ lo ≤ x ∧ x ≤ hi ∧ lo ≤ y ∧ y ≤ hi
def fvNew2 (b : Nat) : FV := ⟨fun v W => ∃ g, v = .pointer (some ⟨g, 0, none⟩) ∧ b ≤ g ∧ g < W.heap.size ∧ W.cell? ⟨g, 0, none⟩ = some (.int .i64 0) ∧ W.cell? ⟨g, 1, none⟩ = some (.int .i64 0) ∧ W.frozen? ⟨g, 0, none⟩ = false ∧ W.frozen? ⟨g, 1, none⟩ = false,
  fun _ _ _ ⟨g, h1, h2, hb, h3, h4, h5, h6⟩ hw => ⟨g, h1, h2, Nat.lt_of_lt_of_le hb hw.size, (by rw [hw.cell hb]; exact h3), (by rw [hw.cell hb]; exact h4), (by rw [hw.frozen hb]; exact h5), (by rw [hw.frozen hb]; exact h6)⟩⟩

theorem ownsRow_some' {w : World} {base size n : Nat} {e : TypeId} {v : Value} {xs : List Value} (h : w.ownsRow base e size v n xs) (hn : 0 < n) : ∃ g cap, v = .slice (some ⟨g, 0, none⟩) n cap := by
  rcases h.2 with ⟨rfl, rfl⟩ | ⟨g, cap, cur, rfl, _⟩
  · omega
  · exact ⟨g, cap, rfl⟩

end Go.Proofs.Ytokdclbfjlnnjaa
