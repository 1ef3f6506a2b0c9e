/- Laws for a map from int to pairs of int that a call makes: what it holds, said as a function on numbers. -/
import Derived.Test.YtokdclbfjlnnjaaBase
import Derived.Maps.RangeWalk
import Derived.Maps.Ext
namespace Go
open Go.RowKit Go.Maps

def pd (p : Int × Int) : DataW Unit := .agg [.lit (.int .i64 p.1), .lit (.int .i64 p.2)]
def pairR (v : Value) : Option (DataW Unit × List MemPlace) :=
  match v with
  | .agg ⟨[.int .i64 a, .int .i64 b]⟩ => some (pd (a, b), [])
  | _ => none
theorem pairR_mk (p : Int × Int) : pairR (pr p) = some (pd p, []) := rfl
theorem pairR_inv {v : Value} {y : DataW Unit × List MemPlace} (h : pairR v = some y) : ∃ p, v = pr p ∧ y = (pd p, []) := by
  unfold pairR at h
  split at h
  · rename_i a b
    simp only [Option.some.injEq] at h
    exact ⟨(a, b), rfl, h.symm⟩
  · cases h
theorem pd_inj {p q : Int × Int} (h : pd p = pd q) : p = q := by
  simp only [pd, DataW.agg.injEq, List.cons.injEq, DataW.lit.injEq, Lit.int.injEq, true_and, and_true] at h
  exact Prod.ext h.1 h.2
theorem okKey {i : Int} (h : -9223372036854775808 ≤ i ∧ i ≤ 9223372036854775807) : (Lit.int .i64 i).wf = true := WalkArith.wf_i64 h

section
variable {P : Program} {K : Nat} (hK : P.underlying K = some (.int .i64))

/-- Block b is a map of at most n entries that holds just what f says. -/
def IM (P : Program) (K : Nat) (w : World) (b n : Nat) (f : Int → Option (Int × Int)) : Prop :=
  ∃ D : DataW Unit, w.ownsMap P K pairR b n D ∧ (∀ i, Maps.has D (.int .i64 i) = (f i).isSome) ∧ (∀ i p, f i = some p → ∀ z, D.atKey (.int .i64 i) z = pd p)
/-- .. under a range loop: left: which keys are still to come. -/
def IMr (P : Program) (K : Nat) (w : World) (b r n : Nat) (f : Int → Option (Int × Int)) (left : Int → Bool) (cnt : Nat) : Prop :=
  ∃ (D : DataW Unit) (lf : Lit → Bool), w.ranges P K pairR b r n D lf cnt ∧ (∀ i, Maps.has D (.int .i64 i) = (f i).isSome) ∧ (∀ i p, f i = some p → ∀ z, D.atKey (.int .i64 i) z = pd p) ∧ (∀ i, lf (.int .i64 i) = left i)

theorem IM.made (w : World) : IM P K (w.alloc (.map #[] 0)) w.heap.size 0 (fun _ => none) :=
  ⟨.map [], World.ownsMap_made _ _ _ _, fun _ => rfl, fun _ _ h => by cases h⟩
theorem IM.kept {w w' : World} {b n : Nat} {f : Int → Option (Int × Int)} {row : Option Nat} (h : IM P K w b n f) (hg : w.grownBy w' row) (hne : some b ≠ row) : IM P K w' b n f :=
  let ⟨D, h1, h2⟩ := h; ⟨D, h1.kept hg hne, h2⟩
theorem IM.lt {w : World} {b n : Nat} {f : Int → Option (Int × Int)} (h : IM P K w b n f) : b < w.heap.size := let ⟨_, h1, _⟩ := h; h1.lt
theorem Aft.grows {w w' : World} (h : Aft w w') (row : Option Nat) : w.grownBy w' row := ⟨h.os, h.tape, h.output, h.size, fun k hk _ => h.block k hk⟩
theorem IM.aft {w w' : World} {b n : Nat} {f : Int → Option (Int × Int)} (h : IM P K w b n f) (hw : Aft w w') : IM P K w' b n f := h.kept (hw.grows none) (by simp)
theorem IMr.kept {w w' : World} {b r n cnt : Nat} {f : Int → Option (Int × Int)} {left : Int → Bool} {row : Option Nat} (h : IMr P K w b r n f left cnt) (hg : w.grownBy w' row) (hb : some b ≠ row) (hr : some r ≠ row) : IMr P K w' b r n f left cnt :=
  let ⟨D, lf, h1, h2⟩ := h; ⟨D, lf, h1.kept hg hb hr, h2⟩
theorem IMr.aft {w w' : World} {b r n cnt : Nat} {f : Int → Option (Int × Int)} {left : Int → Bool} (h : IMr P K w b r n f left cnt) (hw : Aft w w') : IMr P K w' b r n f left cnt := h.kept (hw.grows none) (by simp) (by simp)
theorem IMr.im {w : World} {b r n cnt : Nat} {f : Int → Option (Int × Int)} {left : Int → Bool} (h : IMr P K w b r n f left cnt) : IM P K w b n f :=
  let ⟨D, _, h1, h2, h3, _⟩ := h; ⟨D, h1.owns, h2, h3⟩
theorem IMr.cnt_eq {w : World} {b r n cnt : Nat} {f : Int → Option (Int × Int)} {left : Int → Bool} (h : IMr P K w b r n f left cnt) : w.rangeLeft b r = cnt := let ⟨_, _, h1, _⟩ := h; h1.left_eq

theorem IMr.lt2 {w : World} {b r n cnt : Nat} {f : Int → Option (Int × Int)} {left : Int → Bool} (h : IMr P K w b r n f left cnt) : r < w.heap.size := by
  obtain ⟨D, lf, ⟨es, clock, since, seen, c0, _, _, _, _, hr, _⟩, _⟩ := h
  exact (Array.getElem?_eq_some_iff.1 hr).1

variable {w : World} {ops : Array Oper} {rest : List Oper} {o : Oper} {a : Act} {Q : Exit → Act → World → Prop}

include hK in
theorem wpList_im_store (hg : o.guard = none) (m x v : Operand) (t : TypeId) (hop : o.op = Op.mapUpdate t m x v) (e : TypeId) (ht : P.underlying t = some (.map K e))
    (b n : Nat) (f : Int → Option (Int × Int)) (hm : a.eval m = .map (some b)) (hown : IM P K w b n f) (hn : n < maxLen) (i : Int) (p : Int × Int) (hx : a.eval x = .int .i64 i) (hv : a.eval v = pr p)
    (hi : -9223372036854775808 ≤ i ∧ i ≤ 9223372036854775807)
    (h : ∀ w', IM P K w' b (n + 1) (fun j => if j = i then some p else f j) → w.grownBy w' (some b) → wpList P ops Q rest (a.put o.dst undef) w') : wpList P ops Q (o :: rest) a w := by
  obtain ⟨D, h1, h2, h3⟩ := hown
  refine wpList_mapUpdate_own w hg m x v t hop K e (int_keyed hK) ht pairR b n D hm h1 hn _ _ (.int .i64 i) hx hv (keyOf_int_mk hK (okKey hi)) (pd p) [] (pairR_mk p) (fun w' g1 g2 => h w' ⟨_, g1, fun j => ?_, fun j q hq z => ?_⟩ g2)
  · by_cases hj : j = i
    · subst hj; rw [has_put_same h1.isMap (by simp [WideAt.IsKeyLit])]; simp
    · rw [has_put_other (by simp [hj]), h2]; simp [hj]
  · by_cases hj : j = i
    · subst hj
      simp only [if_true, Option.some.injEq] at hq
      rw [atKey_put_same h1.isMap (by simp [WideAt.IsKeyLit]), hq]
    · simp only [if_neg hj] at hq
      rw [atKey_put_other (by simp [hj])]; exact h3 j q hq z

include hK in
/-- Where a map has an entry it has a key. -/
theorem has_of_size {w : World} {b n : Nat} {D : DataW Unit} (h : w.ownsMap P K pairR b n D) : 0 < Maps.size D ↔ ∃ i, Maps.has D (.int .i64 i) = true := by
  obtain ⟨es, c, hb, F, _, rfl⟩ := h
  constructor
  · intro h
    rw [size_eq, length_read] at h
    have hm : es[0] ∈ es.toList := by simp
    obtain ⟨y, hy⟩ := F.reads _ hm
    obtain ⟨x, hx, hkl, hwf⟩ := Maps.keyOf_int_inv hK (WideElems.rd_key hy)
    refine ⟨x, ?_⟩
    rw [has_eq, List.any_eq_true]
    refine ⟨y, ?_, by rw [hkl]; simp [Lit.sameKey]⟩
    have : WideElems.rg P K pairR es[0] = y := by simp [WideElems.rg, hy]
    rw [← this]
    have hmm := List.mem_map_of_mem (f := WideElems.rg P K pairR) hm
    have : ∀ (l : List (Lit × DataW Unit)) z, z ∈ l → z ∈ l.foldr DataW.insert [] := by
      intro l z
      induction l with
      | nil => exact fun h => h
      | cons q l ih =>
        intro hz
        have hins : ∀ (x z : Lit × DataW Unit) l, z ∈ DataW.insert x l ↔ z = x ∨ z ∈ l := by
          intro x z l
          induction l with
          | nil => simp [DataW.insert]
          | cons y r ih2 => unfold DataW.insert; split <;> simp [ih2]; constructor <;> (rintro (h | h | h) <;> simp [h])
        rw [List.foldr_cons, hins]
        rcases List.mem_cons.1 hz with h | h
        · exact .inl h
        · exact .inr (ih h)
    exact this _ _ hmm
  · rintro ⟨i, hi⟩
    rw [has_eq, List.any_eq_true] at hi
    obtain ⟨y, hy, _⟩ := hi
    rw [size_eq]
    exact List.length_pos_of_mem hy

include hK in
theorem wpList_im_len (hg : o.guard = none) (m : Operand) (t : TypeId) (hop : o.op = Op.call { callee := Callee.builtin Builtin.len, args := #[m], argTypes := #[t] }) (e : TypeId) (ht : P.underlying t = some (.map K e))
    (b n : Nat) (f : Int → Option (Int × Int)) (hm : a.eval m = .map (some b)) (hown : IM P K w b n f)
    (h : ∀ s : Nat, s ≤ n → (0 < s ↔ ∃ i, (f i).isSome = true) → wpList P ops Q rest (a.put o.dst (.int .i64 s)) w) : wpList P ops Q (o :: rest) a w := by
  obtain ⟨D, h1, h2, h3⟩ := hown
  refine wpList_len_own w hg m t hop K e ht pairR b n D hm h1 (h _ h1.size_le ?_)
  rw [has_of_size hK h1]
  simp only [h2]

include hK in
theorem wpList_im_range (hg : o.guard = none) (m : Operand) (t : TypeId) (hop : o.op = Op.range t m) (e : TypeId) (ht : P.underlying t = some (.map K e)) (b n : Nat) (f : Int → Option (Int × Int))
    (hm : a.eval m = .map (some b)) (hown : IM P K w b n f)
    (h : ∀ w' cnt, IMr P K w' b w.heap.size n f (fun i => (f i).isSome) cnt → cnt ≤ n → Aft w w' → w'.heap.size = w.heap.size + 1 → wpList P ops Q rest (a.put o.dst (.pointer (some ⟨w.heap.size, 0, none⟩))) w') : wpList P ops Q (o :: rest) a w := by
  obtain ⟨D, h1, h2, h3⟩ := hown
  refine wpList_range_own w hg m t hop K e (int_keyed hK) ht pairR b n D hm h1 (fun w' g1 g2 g3 => h w' _ ⟨D, _, g1, h2, h3, h2⟩ h1.size_le ⟨g2.os, g2.tape, g2.output, g2.size, fun k hk => g2.block k hk (by simp)⟩ g3)

include hK in
theorem wpList_im_next (hg : o.guard = none) (it : Operand) (hop : o.op = Op.next it false) (b r n : Nat) (f : Int → Option (Int × Int)) (left : Int → Bool) (cnt : Nat)
    (hit : a.eval it = .pointer (some ⟨r, 0, none⟩)) (hr : IMr P K w b r n f left cnt)
    (hDone : (∀ i, left i = false) → wpList P ops Q rest (a.put o.dst (.tuple #[.bool false])) w)
    (hMore : ∀ (x : Int) (p : Int × Int) (w' : World) (cnt' : Nat), -9223372036854775808 ≤ x ∧ x ≤ 9223372036854775807 → left x = true → f x = some p → IMr P K w' b r n f (fun i => left i && !decide (i = x)) cnt' → cnt' < cnt → w.grownBy w' (some r) → w'.heap.size = w.heap.size →
      (Instr.entry (.pointer (some ⟨r, 0, none⟩))).run P w' = .ok (.tuple #[.int .i64 x, .agg #[.int .i64 p.1, .int .i64 p.2]]) w' → wpList P ops Q rest (a.put o.dst (.tuple #[.bool true, .int .i64 x, .agg #[.int .i64 p.1, .int .i64 p.2]])) w') : wpList P ops Q (o :: rest) a w := by
  obtain ⟨D, lf, h1, h2, h3, h4⟩ := hr
  refine wpList_next_ranges w hg it hop K (int_keyed hK) pairR (Value.int .i64) pr (fun key kl hk => by obtain ⟨x, rfl, _⟩ := Maps.keyOf_int_inv hK hk; exact ⟨x, rfl⟩) (fun v y hv => by obtain ⟨p, rfl, _⟩ := pairR_inv hv; exact ⟨p, rfl⟩)
    b r n D lf cnt hit h1 (fun _ g => hDone fun i => by rw [← h4]; exact g _) (fun x p kl y w' cnt' g1 g2 g3 g4 g5 g6 g7 g8 g9 => ?_)
  obtain ⟨x', ex, rfl, hwf⟩ := Maps.keyOf_int_inv hK g1
  cases ex
  obtain ⟨q, eq, ey⟩ := pairR_inv g3
  have hpq : p = q := by
    simp only [pr, Value.agg.injEq] at eq
    have := congrArg Array.toList eq
    simp only [List.cons.injEq, Value.int.injEq, true_and, and_true] at this
    exact Prod.ext this.1 this.2
  subst hpq
  subst ey
  have hhas := Maps.has_true_of_atKey g4
  have hf : f x = some p := by
    rw [h2] at hhas
    obtain ⟨q, hq⟩ := Option.isSome_iff_exists.1 hhas
    have e1 := g4 .nil
    rw [h3 x q hq] at e1
    rw [hq, pd_inj e1]
  have hb : -9223372036854775808 ≤ x ∧ x ≤ 9223372036854775807 := by
    simp [Lit.wf, IntKind.min, IntKind.max, IntKind.signed, IntKind.bits] at hwf
    exact hwf
  refine hMore x p w' cnt' hb (by rw [← h4]; exact g2) hf ⟨D, _, g5, h2, h3, fun i => ?_⟩ g6 g7 g8 g9
  show (lf (.int .i64 i) && !(Lit.int .i64 i).sameKey (.int .i64 x)) = _
  rw [h4]
  simp [Lit.sameKey]

theorem wpList_im_clear (hg : o.guard = none) (m : Operand) (t : TypeId) (hop : o.op = Op.call { callee := Callee.builtin Builtin.clear, args := #[m], argTypes := #[t] }) (e : TypeId) (ht : P.underlying t = some (.map K e))
    (b n : Nat) (f : Int → Option (Int × Int)) (hm : a.eval m = .map (some b)) (hown : IM P K w b n f)
    (h : ∀ w', w.grownBy w' (some b) → wpList P ops Q rest (a.put o.dst (.tuple #[])) w') : wpList P ops Q (o :: rest) a w := by
  obtain ⟨D, ⟨es, clock, hb, _⟩, _, _⟩ := hown
  have hrun : (Builtin.clear_ #[t] o.type #[.map (some b)]).run P w = .ok (.tuple #[]) (ChangeMaps.setBlock w b (.map #[] clock)) := by
    simp [Builtin.clear_, run_underlying ht, MapKept.run_getObj_map hb, Result.andThen, setObj, Sem.run, hb, ChangeMaps.setBlock]
  refine wpList_plain hg fun K' hK' => ?_
  unfold Oper.wp
  simp [execOp, hop, resolve, invoke, builtin, hm, hrun, Result.andThen]
  refine hK' _ _ (h _ ⟨rfl, rfl, rfl, by simp [ChangeMaps.setBlock], fun k hk hne => ?_⟩)
  simp only [ChangeMaps.setBlock]
  rw [Array.getElem?_setIfInBounds_ne (by intro e; exact hne (by rw [e]))]
end

/-- A row of cells is no map. -/
theorem own_ne_map {P : Program} {K : Nat} {w : World} {base : Nat} {e : TypeId} {size : Nat} {v : Value} {n : Nat} {xs : List Value} (h : w.ownsRow base e size v n xs) {b m : Nat} {f : Int → Option (Int × Int)} (hm : IM P K w b m f) : ∀ k, v.ownBlock = some k → k ≠ b := by
  intro k hk e
  subst e
  obtain ⟨D, ⟨es, c, hb, _⟩, _⟩ := hm
  rcases h.2 with ⟨rfl, _⟩ | ⟨g, cap, cur, rfl, _, hg, _⟩
  · simp [Value.ownBlock] at hk
  · simp [Value.ownBlock] at hk
    subst hk
    rw [hb] at hg
    cases hg
theorem own_kept_map {P : Program} {K : Nat} {w w' : World} {base : Nat} {e : TypeId} {size : Nat} {v : Value} {n : Nat} {xs : List Value} (h : w.ownsRow base e size v n xs) {b m : Nat} {f : Int → Option (Int × Int)} (hm : IM P K w b m f) (hg : w.grownBy w' (some b)) : w'.ownsRow base e size v n xs := by
  refine h.kept hg ?_
  cases hv : v.ownBlock with
  | none => exact .inl rfl
  | some k => exact .inr fun e' => own_ne_map h hm k hv (Option.some.inj e')
def lenOf : Value → Nat
  | .slice _ n _ => n
  | _ => 0
theorem lenOf_own {w : World} {base : Nat} {e : TypeId} {size : Nat} {v : Value} {n : Nat} {xs : List Value} (h : w.ownsRow base e size v n xs) : lenOf v = n := by
  obtain ⟨a, c, rfl, _⟩ := ownsRow_rd h
  rfl
end Go
