/- The abstract machine: the same laws from facts on types that a program can print. -/
import Derived.Test.YtokdclbfjlnnjaaM9
namespace Go.Ab
open Go.RowKit

/-! Lists written over, cut out and filled, so that the outcome is written out. -/
inductive Spl {α : Type} : List α → Nat → List α → List α → Prop
  | done {l : List α} : Spl l 0 [] l
  | skip {x : α} {l new l' : List α} {off : Nat} (r : Spl l off new l') : Spl (x :: l) (off + 1) new (x :: l')
  | put {x y : α} {l new l' : List α} (r : Spl l 0 new l') : Spl (x :: l) 0 (y :: new) (y :: l')
theorem Spl.eq {α : Type} {l new l' : List α} {off : Nat} (h : Spl l off new l') : l' = splice l off new ∧ off + new.length ≤ l.length := by
  induction h with
  | done => simp [splice]
  | skip r ih => exact ⟨by rw [ih.1]; simp [splice, Nat.add_right_comm], by simp; have := ih.2; omega⟩
  | put r ih => exact ⟨by rw [ih.1]; simp [splice], by simp; have := ih.2; omega⟩
inductive CutL {α : Type} : List α → Nat → Nat → List α → Prop
  | done {l : List α} : CutL l 0 0 []
  | skip {x : α} {l ds : List α} {off m : Nat} (r : CutL l off m ds) : CutL (x :: l) (off + 1) m ds
  | take {x : α} {l ds : List α} {m : Nat} (r : CutL l 0 m ds) : CutL (x :: l) 0 (m + 1) (x :: ds)
theorem CutL.eq {α : Type} {l ds : List α} {off m : Nat} (h : CutL l off m ds) : (l.drop off).take m = ds ∧ ds.length = m := by
  induction h with
  | done => simp
  | skip r ih => exact ⟨by simpa using ih.1, ih.2⟩
  | take r ih => exact ⟨by simpa using ih.1, by simpa using ih.2⟩
inductive Fill (pl : List (Nat × Nat)) : List D → List (Nat × D) → List D → Prop
  | nil {cells : List D} : Fill pl cells [] cells
  | cons {cells cells' out cs : List D} {i off size : Nat} {d : D} {rest : List (Nat × D)} (hp : pl[i]? = some (off, size)) (hv : d.val = true) (hc : d.cells = cs) (hl : cs.length = size) (hs : Spl cells off cs cells') (r : Fill pl cells' rest out) : Fill pl cells ((i, d) :: rest) out
theorem Fill.eq {pl : List (Nat × Nat)} {cells out : List D} {parts : List (Nat × D)} (h : Fill pl cells parts out) : fillD pl cells parts = some out := by
  induction h with
  | nil => rfl
  | cons hp hv hc hl hs r ih =>
    obtain ⟨h1, h2⟩ := hs.eq
    subst hc
    simp only [fillD, hp]
    rw [if_pos (by simp [hv, hl]; omega), ← h1]
    exact ih

def rowT (P : Program) (t : TypeId) : Option Bool := (P.underlying t).map fun | .struct _ | .array _ _ => true | _ => false
theorem rowT_get {P : Program} {t : TypeId} {b : Bool} (h : rowT P t = some b) : ∃ d, P.underlying t = some d ∧ d.isRow = b := by
  unfold rowT at h
  obtain ⟨d, h1, h2⟩ := Option.map_eq_some_iff.1 h
  refine ⟨d, h1, ?_⟩
  rw [← h2]
  cases d <;> rfl
section
variable {P : Program} {o : Oper} {σ : St} {fr : Nat}
theorem ld1 {t : TypeId} {x : Operand} {k off : Nat} {ob : AObj} {d : D} (hu : rowT P t = some false) (ho : o.op = .load t x) (hx : σ.ev x = some (.ref k off)) (hk : σ.H k = some ob) (hc : ob.cells[off]? = some d) : OpOk P o σ fr d [] := by
  obtain ⟨dsc, h1, h2⟩ := rowT_get hu
  exact ok_load1 ho h1 h2 hx hk hc
theorem ldn {t : TypeId} {x : Operand} {k off m : Nat} {ob : AObj} {ds : List D} (hu : rowT P t = some true) (hi : (P.info? t).map (·.size) = some m) (ho : o.op = .load t x) (hx : σ.ev x = some (.ref k off)) (hk : σ.H k = some ob) (hc : (ob.cells.drop off).take m = ds) (hm : ds.length = m) : OpOk P o σ fr (.agg ds) [] := by
  obtain ⟨dsc, h1, h2⟩ := rowT_get hu
  exact ok_loadn ho h1 h2 hi hx hk hc hm
theorem ldc {t : TypeId} {x : Operand} {k off m : Nat} {ob : AObj} {ds : List D} (hu : rowT P t = some true) (hi : (P.info? t).map (·.size) = some m) (ho : o.op = .load t x) (hx : σ.ev x = some (.ref k off)) (hk : σ.H k = some ob) (hc : CutL ob.cells off m ds) : OpOk P o σ fr (.agg ds) [] := ldn hu hi ho hx hk hc.eq.1 hc.eq.2
theorem stb {t e : TypeId} {x y : Operand} {k off : Nat} {ds ds' : List D} {d : D} (hy : EvT σ y d) (ho : o.op = .store t x y) (hi : (P.info? t).map (·.size) = some d.cells.length) (hx : σ.ev x = some (.ref k off)) (hv : d.val = true) (hk : σ.H k = some (.box e ds))
    (hp : Spl ds off d.cells ds') (hpos : 0 < d.cells.length) : OpOk P o σ fr (.tup []) [(k, some (.box e ds'))] := ok_store ho hi hx hy hv hk (by
  obtain ⟨h1, h2⟩ := hp.eq
  simp only [AObj.put]
  rw [if_pos h2, h1]) hpos
theorem put_row {e : TypeId} {s n off : Nat} {ts xs : List Tree} {new : List D} (h : off + new.length ≤ ts.length) (hx : asTrees new = some xs) : (AObj.row e s n ts false).put off new = some (.row e s n (splice ts off xs) false) := by
  simp only [AObj.put]
  rw [if_pos ⟨h, trivial⟩, hx]
  rfl
theorem str {t e : TypeId} {x y : Operand} {k off s n : Nat} {ts xs : List Tree} {d : D} (hy : EvT σ y d) (ho : o.op = .store t x y) (hi : (P.info? t).map (·.size) = some d.cells.length) (hx : σ.ev x = some (.ref k off)) (hv : d.val = true) (hk : σ.H k = some (.row e s n ts false))
    (h : off + d.cells.length ≤ ts.length) (hxs : asTrees d.cells = some xs) (hpos : 0 < d.cells.length) : OpOk P o σ fr (.tup []) [(k, some (.row e s n (splice ts off xs) false))] := ok_store ho hi hx hy hv hk (put_row h hxs) hpos
theorem lp1 {t : TypeId} {x : Operand} {ts : List Tree} {off : Nat} {tr : Tree} (hu : rowT P t = some false) (ho : o.op = .load t x) (hx : σ.ev x = some (.ptr ts off)) (hc : ts[off]? = some tr) : OpOk P o σ fr (.t tr) [] := by
  obtain ⟨dsc, h1, h2⟩ := rowT_get hu
  exact ok_loadp1 ho h1 h2 hx hc
theorem lpn {t : TypeId} {x : Operand} {ts xs : List Tree} {off m : Nat} (hu : rowT P t = some true) (hi : (P.info? t).map (·.size) = some m) (ho : o.op = .load t x) (hx : σ.ev x = some (.ptr ts off)) (hc : (ts.drop off).take m = xs) (hm : xs.length = m) : OpOk P o σ fr (.agg (xs.map .t)) [] := by
  obtain ⟨dsc, h1, h2⟩ := rowT_get hu
  exact ok_loadpn ho h1 h2 hi hx hc hm

theorem withEv {x : Operand} {d d' : D} {W : Wr} (h : σ.ev x = some d) (k : σ.ev x = some d → OpOk P o σ fr d' W) : OpOk P o σ fr d' W := k h
theorem ix_p {t : TypeId} {x y : Operand} {s n r : Nat} {ts : List Tree} (hs : elemSz P t = some s) (ho : o.op = .indexAddr t x y) (hx : σ.ev x = some (.t (.sl n ts))) (hy : σ.ev y = some (I (r : Nat))) (hn : r < n) : OpOk P o σ fr (.ptr ts (r * s)) [] := by
  have := ok_indexp (P := P) (fr := fr) ho hs hx hy (by omega) (by omega)
  rwa [Int.toNat_natCast] at this
theorem ix_r {t : TypeId} {x y : Operand} {s n q r : Nat} {ts : List Tree} {e : TypeId} {st : Bool} {s' : Nat} (hs : elemSz P t = some s) (ho : o.op = .indexAddr t x y) (hx : σ.ev x = some (.own q)) (hq : σ.H q = some (.row e s' n ts st)) (hy : σ.ev y = some (I (r : Nat))) (hn : r < n) : OpOk P o σ fr (.ref q (r * s)) [] := by
  have := ok_indexr (P := P) (fr := fr) ho hs hx hq hy (by omega) (by omega)
  rwa [Int.toNat_natCast] at this
/-- var x T. -/
theorem ok_alloc {e : TypeId} {z : Value} (ho : o.op = .alloc e) (hz : (P.info? e).bind (·.zero) = some z) (h1 : constOk z = true) : OpOk P o σ fr (.ref fr 0) [(fr, some (.box e (ofVal z).cells))] := by
  intro E σ₁ a w hT hH h100 hf hd hR Q
  obtain ⟨i, hi, hz'⟩ := Option.bind_eq_some_iff.1 hz
  have hb : OpOk P { o with op := .box e (.const z) } σ fr (.ref fr 0) [(fr, some (.box e (ofVal z).cells))] := ok_box rfl (by simp [St.ev, h1]) (by cases z <;> first | rfl | cases h1)
  have h := hb E σ₁ a w hT hH h100 hf hd hR Q
  unfold Oper.wp at h ⊢
  have he : (execOp a.eval o).run P w = (execOp a.eval { o with op := .box e (.const z) }).run P w := by
    unfold execOp
    rw [ho]
    simp [Instr.alloc, Instr.box, zeroValue, typeInfo, hi, hz', Act.eval]
  rw [he]
  exact h
/-- The zero cells of a row. -/
theorem zeros_get (z : List Value) (hz : 0 < z.length) : ∀ (len i : Nat), i < len * z.length → ((List.replicate len z).flatten)[i]? = z[i % z.length]?
  | 0, i, h => by omega
  | len + 1, i, h => by
    rw [List.replicate_succ, List.flatten_cons]
    by_cases hi : i < z.length
    · rw [List.getElem?_append_left hi, Nat.mod_eq_of_lt hi]
    · rw [List.getElem?_append_right (by omega), zeros_get z hz len (i - z.length) (by rw [Nat.add_mul, Nat.one_mul] at h; omega)]
      congr 1
      conv => rhs; rw [show i = (i - z.length) + z.length by omega, Nat.add_mod_right]
theorem LitT.of {t e : TypeId} {z : Value} {s bytes : Nat} (hT : AppT P t e z s bytes) (h1 : ∀ u ∈ z.cells.toList, u.oneCell' = true) (len : Nat) (hl : len * s ≤ 2 ^ 24) : LitT P t e s len (List.replicate len z.cells.toList).flatten := by
  have hs := hT.s
  have hzl : z.cells.toList.length = s := by rw [Array.length_toList]; exact hT.z
  have hlen : (List.replicate len z.cells.toList).flatten.length = len * s := by simp [hT.z]
  refine ⟨hT.u, fun u hu => ?_, hlen, ?_, fun w parts cells hf => ?_⟩
  · obtain ⟨l, h2, h3⟩ := List.mem_flatten.1 hu
    rw [(List.mem_replicate.1 h2).2] at h3
    exact h1 u h3
  · have : len ≤ len * s := Nat.le_mul_of_pos_right _ hs
    unfold maxLen; omega
  · obtain ⟨i, hi, hz, hsz, hby⟩ := info_parts hT.i
    by_cases h0 : len = 0
    · subst h0
      simp at hf
      have h9 : ∀ f : Nat → Value, Array.map f (Array.range 0) = #[] := fun f => by simp
      simp [Instr.buildSlice, run_underlying hT.u, sizeOf, typeInfo, hi, hsz, newRow, h9, hf]
    · refine run_buildSlice w t e len parts cells i z hT.u hi hz (by rw [hsz]; omega) (by rw [hsz]; exact Nat.mul_ne_zero h0 (by omega)) ?_
      rw [hsz]
      have : (Array.range (len * s)).map (z.cells[· % z.cells.size]!) = (List.replicate len z.cells.toList).flatten.toArray := by
        apply Array.ext_getElem?
        intro j
        by_cases hj : j < len * s
        · have hm : j % z.cells.size < z.cells.size := Nat.mod_lt _ (by rw [hT.z]; exact hs)
          have e1 : ((Array.range (len * s)).map (z.cells[· % z.cells.size]!))[j]? = z.cells[j % z.cells.size]? := by simp [hj, hm]
          have e2 := zeros_get z.cells.toList (by rw [hzl]; exact hs) len j (by rw [hzl]; exact hj)
          rw [hzl, ← hT.z] at e2
          rw [e1]
          simpa using e2.symm
        · rw [Array.getElem?_eq_none (by simp; omega), Array.getElem?_eq_none (by rw [List.size_toArray, hlen]; omega)]
      rw [this]
      exact hf
end

/-! ### Lists as trees -/
def intsT (l : List Int) : List Tree := l.map ti
theorem flat_len {α : Type} {f : α → List Tree} {s : Nat} (h : ∀ x, (f x).length = s) (l : List α) : (l.flatMap f).length = l.length * s := by
  induction l with
  | nil => simp
  | cons a l ih => rw [List.flatMap_cons, List.length_append, h, ih, List.length_cons, Nat.add_mul]; omega
theorem flat_get {α : Type} {f : α → List Tree} {s : Nat} (h : ∀ x, (f x).length = s) {l : List α} : ∀ {i : Nat} {x : α}, l[i]? = some x → ∀ j, j < s → (l.flatMap f)[i * s + j]? = (f x)[j]? := by
  induction l with
  | nil => intro i x h; simp at h
  | cons a l ih =>
    intro i x hx j hj
    rw [List.flatMap_cons]
    cases i with
    | zero => simp at hx; subst hx; rw [Nat.zero_mul, Nat.zero_add, List.getElem?_append_left (by rw [h]; exact hj)]
    | succ i =>
      rw [List.getElem?_append_right (by rw [h, Nat.add_mul]; omega), h, show (i + 1) * s + j - s = i * s + j by rw [Nat.add_mul]; omega]
      exact ih (by simpa using hx) j hj
theorem flat_part {α : Type} {f : α → List Tree} {s : Nat} (h : ∀ x, (f x).length = s) {l : List α} {i : Nat} {x : α} (hx : l[i]? = some x) : ((l.flatMap f).drop (i * s)).take s = f x := by
  apply List.ext_getElem?
  intro j
  rw [List.getElem?_take]
  by_cases hj : j < s
  · rw [if_pos hj, List.getElem?_drop]; exact flat_get h hx j hj
  · rw [if_neg hj, List.getElem?_eq_none (by rw [h]; omega)]
end Go.Ab
