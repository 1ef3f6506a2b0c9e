/- The abstract machine: variables, rows, addresses, loads and stores. -/
import Derived.Test.YtokdclbfjlnnjaaM4
import Derived.Deep.MidRow
import Derived.Great.BuildSlice
namespace Go.Ab
open Go.RowKit

def D.cells : D → List D
  | .agg ds => ds
  | d => [d]
def D.val : D → Bool
  | .tup _ | .any => false
  | _ => true
theorem cells_one {v : Value} (h : v.oneCell' = true) : v.cells = #[v] := by cases v <;> first | rfl | cases h
theorem DR.cells {ν : Nat → Value} {nm : Nat → Bool} {w : World} {G : Lim} {v : Value} {d : D} (h : DR ν nm w G v d) (hd : d.val = true) :
    v.cells.size = d.cells.length ∧ ∀ (i : Nat) (u : Value) (e : D), v.cells[i]? = some u → d.cells[i]? = some e → DR ν nm w G u e ∧ u.oneCell' = true := by
  have one : d.one = true → v.cells.size = [d].length ∧ ∀ (i : Nat) (u : Value) (e : D), v.cells[i]? = some u → [d][i]? = some e → DR ν nm w G u e ∧ u.oneCell' = true := fun ho => by
    have hv := h.oneCell ho
    rw [cells_one hv]
    refine ⟨rfl, fun i u e hu he => ?_⟩
    cases i with
    | zero => simp at hu he; subst hu he; exact ⟨h, hv⟩
    | succ i => simp at he
  cases d with
  | agg ds =>
    cases h with
    | @agg vs _ hl h h1 =>
      exact ⟨hl, fun i u e hu he => ⟨h i u e hu he, h1 u (List.mem_iff_getElem?.2 ⟨i, by rw [Array.getElem?_toList]; exact hu⟩)⟩⟩
  | tup ds => cases hd
  | any => cases hd
  | t x => exact one rfl
  | own k => exact one rfl
  | ref k off => exact one rfl
  | ptr ts off => exact one rfl
  | fn f caps => exact one rfl

def AObj.cells : AObj → List D
  | .box _ ds => ds
  | .row _ _ _ ts _ => ts.map .t
theorem ObjOk.cell {E : Env} {ν : Nat → Value} {nm : Nat → Bool} {w : World} {G : Lim} {k : Nat} {o : AObj} (h : ObjOk E ν nm w G k o) {i : Nat} {d : D} (hd : o.cells[i]? = some d) :
    ∃ g u, blk (ν k) = some g ∧ w.cell? ⟨g, i, none⟩ = some u ∧ DR ν nm w G u d ∧ u.oneCell' = true := by
  cases o with
  | box e ds =>
    obtain ⟨g, cur, h1, h2, h3, h4, h5, h6⟩ := h
    have hi : i < cur.size := by rw [h5]; exact (List.getElem?_eq_some_iff.1 hd).1
    obtain ⟨q1, q2⟩ := h6 i cur[i] d (Array.getElem?_eq_getElem hi) hd
    exact ⟨g, cur[i], by rw [h1]; rfl, by rw [cell_of_row' h3]; exact Array.getElem?_eq_getElem hi, q1, q2⟩
  | row e s n ts st =>
    obtain ⟨xs, h1, h2, h3, h4⟩ := h
    simp only [AObj.cells, List.getElem?_map] at hd
    obtain ⟨t, ht, rfl⟩ := Option.map_eq_some_iff.1 hd
    have hi : i < xs.length := by rw [h2]; exact (List.getElem?_eq_some_iff.1 ht).1
    have htr := h3 i xs[i] t (List.getElem?_eq_getElem hi) ht
    rcases h1.2 with ⟨_, hn⟩ | ⟨g, cap, cur, hv, r1, r2, r3, r4, r5, r6⟩
    · have := h1.1
      rw [hn, Nat.zero_mul] at this
      omega
    · refine ⟨g, xs[i], by rw [hv]; rfl, ?_, .t htr, htr.one⟩
      rw [cell_of_row' r2]
      have hx : (cur.toList.take (n * s))[i]? = some xs[i] := by rw [r6]; exact List.getElem?_eq_getElem hi
      rw [List.getElem?_take] at hx
      split at hx
      · simpa using hx
      · cases hx
theorem ObjOk.mayb {E : Env} {ν : Nat → Value} {nm : Nat → Bool} {w : World} {G : Lim} {k : Nat} {o : AObj} (h : ObjOk E ν nm w G k o) {g : Nat} (hg : Ab.blk (ν k) = some g) : E.may g := by
  cases o with
  | box e ds => obtain ⟨g', cur, h1, h2, _⟩ := h; rw [h1] at hg; cases hg; exact h2
  | row e s n ts st => obtain ⟨xs, h1, h2, h3, h4⟩ := h; exact (h4 g hg).1

/-! ### New names -/
def setν (ν : Nat → Value) (k : Nat) (x : Value) : Nat → Value := fun j => if j = k then x else ν j
theorem setν_same {ν : Nat → Value} {k : Nat} {x : Value} : setν ν k x k = x := by simp [setν]
theorem setν_ne {ν : Nat → Value} {k j : Nat} {x : Value} (h : j ≠ k) : setν ν k x j = ν j := by simp [setν, h]

/-- A new object under the name fr; k, if any, is given up. -/
theorem Inv.new {E : Env} {σ : St} {ν : Nat → Value} {G G' : Lim} {w w' : World} {a : Act} (I : Inv E σ ν G w a.tmps) {fr : Nat} (h100 : 100 ≤ fr) (hf : ∀ k, fr ≤ k → k < fr + 8 → σ.nm k = false) {dst : Option Tmp} (ht : ∀ t, dst = some t → t < E.m)
    {W : Wr} (k0 : Option Nat) {o : AObj} (hW : ∀ k, look k W = if k = fr then some (some o) else if some k = k0 then some none else none)
    (hos : w'.os = w.os) (htape : w'.tape = w.tape) (hout : w'.output = w.output) (hsize : w.heap.size ≤ w'.heap.size)
    (hblk : ∀ b, b < w.heap.size → (∀ k, some k = k0 → blk (ν k) ≠ some b) → w'.heap[b]? = w.heap[b]? ∧ G' b = G b) (hcell : ∀ b i u, Cell w G b i u → Cell w' G' b i u) (hmay : ∀ k g, some k = k0 → blk (ν k) = some g → E.may g)
    (hk0 : ∀ k, some k = k0 → ∃ o, σ.H k = some o)
    {x : Value} (hx : ∀ g, blk x = some g → w.heap.size ≤ g ∨ ∃ k, some k = k0 ∧ blk (ν k) = some g) (ho : ObjOk E (setν ν fr x) (σ.upd dst .any W fr).nm w' G' fr o) {v : Value} {d : D} (hd : DR (setν ν fr x) (σ.upd dst .any W fr).nm w' G' v d) :
    Inv E (σ.upd dst d W fr) (setν ν fr x) G' w' (a.put dst v).tmps := by
  have hnf : σ.nm fr = false := hf fr (Nat.le_refl _) (by omega)
  have hn : ∀ k, σ.nm k = true → (σ.upd dst d W fr).nm k = true ∧ setν ν fr x k = ν k := fun k hk => ⟨by simp [St.upd, hk], setν_ne (fun e => by rw [e, hnf] at hk; cases hk)⟩
  have hHlt : ∀ k o, σ.H k = some o → ∀ g, blk (ν k) = some g → g < w.heap.size := fun k o h g hg => (I.H k o h).2.blk_lt hg
  refine ⟨⟨hos.trans I.kept.os, htape.trans I.kept.tape, hout.trans I.kept.output, Nat.le_trans I.kept.size hsize, fun b hb hX => ?_⟩, fun b i u h => hcell b i u (I.keep b i u h), fun k h1 h2 => ?_, fun b hb hX => ?_, ?_, fun t d' h => ?_, fun k o' h => ?_, fun k o1 k' o2 h h' hne g hg => ?_⟩
  · refine ((hblk b (Nat.lt_of_lt_of_le hb I.kept.size) (fun k hk hbk => ?_)).1).trans (I.kept.block b hb hX)
    rcases hmay k b hk hbk with h | h
    · omega
    · exact hX h
  · rw [setν_ne (by omega)]
    exact I.pin k h1 h2
  · refine ((hblk b (Nat.lt_of_lt_of_le hb I.kept.size) (fun k hk hbk => ?_)).2).trans (I.g0 b hb hX)
    rcases hmay k b hk hbk with h | h
    · omega
    · exact hX h
  · cases dst <;> simp [Act.put, I.sz]
  · simp only [St.upd] at h
    split at h
    · rename_i he
      cases h
      subst he
      refine ⟨v, ?_, hd⟩
      have := ht t rfl
      simp [Act.put, I.sz, this]
    · rename_i he
      obtain ⟨u, hu, hdu⟩ := I.T t d' h
      refine ⟨u, ?_, hdu.mono hn hcell⟩
      cases dst with
      | none => simpa [Act.put] using hu
      | some t' =>
        have hne : t' ≠ t := fun e => he (by rw [e])
        simp only [Act.put]
        rw [Array.getElem?_setIfInBounds_ne hne]
        exact hu
  · simp only [St.upd, hW] at h
    by_cases hk : k = fr
    · subst hk
      simp only [if_true, Option.some.injEq] at h
      subst h
      exact ⟨by simp [St.upd], ho⟩
    · rw [if_neg hk] at h
      by_cases hk' : some k = k0
      · rw [if_pos hk'] at h; cases h
      · rw [if_neg hk'] at h
        obtain ⟨h1, h2⟩ := I.H k o' h
        refine ⟨(hn k h1).1, h2.mono h1 hn hcell (fun g hg => hblk g (h2.blk_lt hg) (fun j hj hbj => ?_))⟩
        obtain ⟨oj, hoj⟩ := hk0 j hj
        exact I.dis k o' j oj h hoj (fun e => hk' (by rw [e]; exact hj)) g hg hbj
  · simp only [St.upd, hW] at h h'
    by_cases hk : k = fr
    · subst hk
      rw [setν_same] at hg
      have hne' : k' ≠ k := fun e => hne e.symm
      rw [if_neg hne'] at h'
      by_cases hk' : some k' = k0
      · rw [if_pos hk'] at h'; cases h'
      · rw [if_neg hk'] at h'
        rw [setν_ne hne']
        intro hgk
        rcases hx g hg with h0 | ⟨j, hj, hbj⟩
        · have := hHlt k' o2 h' g hgk
          omega
        · obtain ⟨oj, hoj⟩ := hk0 j hj
          exact I.dis k' o2 j oj h' hoj (fun e => hk' (by rw [e]; exact hj)) g hgk hbj
    · rw [if_neg hk] at h
      by_cases hk1 : some k = k0
      · rw [if_pos hk1] at h; cases h
      · rw [if_neg hk1] at h
        rw [setν_ne hk] at hg
        by_cases hk' : k' = fr
        · subst hk'
          rw [setν_same]
          intro hgx
          rcases hx g hgx with h0 | ⟨j, hj, hbj⟩
          · have := hHlt k o1 h g hg
            omega
          · obtain ⟨oj, hoj⟩ := hk0 j hj
            exact I.dis k o1 j oj h hoj (fun e => hk1 (by rw [e]; exact hj)) g hg hbj
        · rw [if_neg hk'] at h'
          by_cases hk2 : some k' = k0
          · rw [if_pos hk2] at h'; cases h'
          · rw [if_neg hk2] at h'
            rw [setν_ne hk']
            exact I.dis k o1 k' o2 h h' hne g hg

/-- A new object in a block of its own. -/
theorem Inv.fresh {E : Env} {σ : St} {ν : Nat → Value} {G G' : Lim} {w w' : World} {a : Act} (I : Inv E σ ν G w a.tmps) {fr : Nat} (h100 : 100 ≤ fr) (hf : ∀ k, fr ≤ k → k < fr + 8 → σ.nm k = false) {dst : Option Tmp} (ht : ∀ t, dst = some t → t < E.m)
    {o : AObj} (hA : Aft w w') (hG : ∀ b, b < w.heap.size → G' b = G b) {x : Value} (hx : ∀ g, blk x = some g → w.heap.size ≤ g) (ho : ObjOk E (setν ν fr x) (σ.upd dst .any [(fr, some o)] fr).nm w' G' fr o) {v : Value} {d : D}
    (hd : DR (setν ν fr x) (σ.upd dst .any [(fr, some o)] fr).nm w' G' v d) : Inv E (σ.upd dst d [(fr, some o)] fr) (setν ν fr x) G' w' (a.put dst v).tmps :=
  I.new h100 hf ht none (fun k => by
    by_cases h : k = fr
    · subst h; simp [look]
    · simp [look, h, Ne.symm h]) hA.os hA.tape hA.output hA.size (fun b hb _ => ⟨hA.block b hb, hG b hb⟩) (fun _ _ _ h => h.aft hA hG) (fun _ _ h => by cases h) (fun _ h => by cases h) (fun g hg => .inl (hx g hg)) ho hd

theorem upd_nm_fr (σ : St) (dst : Option Tmp) (d : D) (W : Wr) (fr : Nat) : (σ.upd dst d W fr).nm fr = true := by simp [St.upd]

section
variable {P : Program} {o : Oper} {σ : St} {fr : Nat}

/-- x := &T{..}: a variable with a value. -/
theorem ok_box {e : TypeId} {x : Operand} {d : D} (ho : o.op = .box e x) (hx : σ.ev x = some d) (hv : d.val = true) : OpOk P o σ fr (.ref fr 0) [(fr, some (.box e d.cells))] := by
  intro E σ₁ a w hT _ h100 hf hd ⟨ν, G, I⟩ Q
  have hdx := I.ev (St.ev_le hT hx)
  unfold Oper.wp
  have hr : (execOp a.eval o).run P w = .ok (.value (.pointer (some ⟨w.heap.size, 0, none⟩))) (w.alloc (.cells (a.eval x).cells e)) := by
    unfold execOp
    rw [ho]
    simp [Instr.box, newVar, newRow]
  rw [hr, Oper.upon_value]
  have hA : Aft w (w.alloc (.cells (a.eval x).cells e)) := (Aft.refl w).alloc _
  refine ⟨put_defers .., _, _, I.fresh (G' := fun b => if b = w.heap.size then 0 else G b) h100 hf hd hA (fun b hb => if_neg (by omega)) (x := .pointer (some ⟨w.heap.size, 0, none⟩)) (fun g hg => by cases hg; exact Nat.le_refl _) ?_ (.ref (upd_nm_fr ..) (by rw [setν_same]; rfl))⟩
  obtain ⟨hc1, hc2⟩ := hdx.cells hv
  refine ⟨w.heap.size, (a.eval x).cells, setν_same, .inl I.kept.size, heap_alloc_new w _, if_pos rfl, hc1, fun i u d' hu hd' => ?_⟩
  obtain ⟨q1, q2⟩ := hc2 i u d' hu hd'
  refine ⟨q1.mono (fun k hk => ⟨by simp [St.upd, hk], setν_ne (fun e => ?_)⟩) (fun _ _ _ h => h.aft hA (fun b hb => if_neg (by omega))), q2⟩
  rw [e, hf fr (Nat.le_refl _) (by omega)] at hk
  cases hk

/-! ### Loads -/
theorem run_load1 {t : TypeId} {dsc : TypeDesc} (hu : P.underlying t = some dsc) (hd : dsc.isRow = false) {w : World} {b i : Nat} {u : Value} (hc : w.cell? ⟨b, i, none⟩ = some u) : (Instr.loadAt t (.pointer (some ⟨b, i, none⟩))).run P w = .ok u w := by
  have hagg : (isAgg t).run P w = .ok false w := by
    unfold isAgg
    rw [Sem.run_bind, run_underlying hu w]
    cases dsc <;> simp_all
  simp [Instr.loadAt, Instr.sureAddr, loadVar, Sem.run_bind, hagg, hc]

theorem ref_of {ν : Nat → Value} {nm : Nat → Bool} {w : World} {G : Lim} {v : Value} {k off : Nat} (h : DR ν nm w G v (.ref k off)) : ∃ g, blk (ν k) = some g ∧ v = .pointer (some ⟨g, off, none⟩) ∧ nm k = true := by
  cases h with | ref hk hg => exact ⟨_, hg, rfl, hk⟩
theorem ok_load1 {t : TypeId} {dsc : TypeDesc} {x : Operand} {k off : Nat} {ob : AObj} {d : D} (ho : o.op = .load t x) (hu : P.underlying t = some dsc) (hdsc : dsc.isRow = false) (hx : σ.ev x = some (.ref k off)) (hk : σ.H k = some ob) (hc : ob.cells[off]? = some d) : OpOk P o σ fr d [] :=
  ok_pure fun E σ₁ ν G w a hH I hev => by
    obtain ⟨g, hg, hv, _⟩ := ref_of (hev x _ hx)
    obtain ⟨g', u, hg', hcu, hdu, _⟩ := (I.H k ob (hH k ob hk)).2.cell hc
    rw [hg] at hg'
    cases hg'
    refine ⟨u, ?_, hdu⟩
    unfold execOp
    rw [ho]
    simp [hv, run_load1 hu hdsc hcu]
theorem ok_loadn {t : TypeId} {dsc : TypeDesc} {x : Operand} {k off m : Nat} {ob : AObj} {ds : List D} (ho : o.op = .load t x) (hu : P.underlying t = some dsc) (hdsc : dsc.isRow = true) (hi : (P.info? t).map (·.size) = some m) (hx : σ.ev x = some (.ref k off)) (hk : σ.H k = some ob)
    (hc : (ob.cells.drop off).take m = ds) (hm : ds.length = m) : OpOk P o σ fr (.agg ds) [] :=
  ok_pure fun E σ₁ ν G w a hH I hev => by
    obtain ⟨g, hg, hv, _⟩ := ref_of (hev x _ hx)
    have hob := (I.H k ob (hH k ob hk)).2
    have hget : ∀ i d, ds[i]? = some d → ob.cells[off + i]? = some d := fun i d h => by
      rw [← hc, List.getElem?_take] at h
      split at h
      · simpa using h
      · cases h
    have hall : ∀ i, i < m → ∃ u, w.cell? ⟨g, off + i, none⟩ = some u ∧ ∀ d, ds[i]? = some d → DR ν σ₁.nm w G u d ∧ u.oneCell' = true := fun i h => by
      have hd : ds[i]? = some ds[i] := List.getElem?_eq_getElem (by omega)
      obtain ⟨g', u, hg', hcu, hdu, h1⟩ := hob.cell (hget i _ hd)
      rw [hg] at hg'; cases hg'
      exact ⟨u, hcu, fun d h => by rw [hd] at h; cases h; exact ⟨hdu, h1⟩⟩
    let cs : List Value := (List.range m).map fun i => (w.cell? ⟨g, off + i, none⟩).getD undef
    have hcs : ∀ i u, cs[i]? = some u → i < m ∧ w.cell? ⟨g, off + i, none⟩ = some u := fun i u h => by
      have hi : i < m := by simpa [cs] using (List.getElem?_eq_some_iff.1 h).1
      obtain ⟨u', h', _⟩ := hall i hi
      simp [cs, hi, h'] at h
      exact ⟨hi, by rw [h', h]⟩
    refine ⟨.agg cs.toArray, ?_, .agg (by simp [cs, hm]) (fun i u d h h' => ?_) (fun u h => ?_)⟩
    · unfold execOp
      rw [ho]
      simp only [hv, Sem.run_bind, run_loadAt_mid w g off t cs dsc (fun j v h => (hcs j v h).2) hu hdsc (by rw [hi]; simp [cs])]
      rfl
    · obtain ⟨hi, hcu⟩ := hcs i u (by simpa using h)
      obtain ⟨u', h1, h2⟩ := hall i hi
      rw [hcu] at h1; cases h1
      exact (h2 d h').1
    · obtain ⟨i, hiu⟩ := List.mem_iff_getElem?.1 (by simpa using h : u ∈ cs)
      obtain ⟨hi, hcu⟩ := hcs i u hiu
      obtain ⟨u', h1, h2⟩ := hall i hi
      rw [hcu] at h1; cases h1
      exact (h2 _ (List.getElem?_eq_getElem (by omega))).2

theorem ptr_of {ν : Nat → Value} {nm : Nat → Bool} {w : World} {G : Lim} {v : Value} {ts : List Tree} {off : Nat} (h : DR ν nm w G v (.ptr ts off)) : ∃ (b o : Nat) (us : List Value), v = .pointer (some ⟨b, o + off, none⟩) ∧ us.length = ts.length ∧ (∀ (i : Nat) (u : Value), us[i]? = some u → Cell w G b (o + i) u) ∧ ∀ (i : Nat) (u : Value) (t : Tree), us[i]? = some u → ts[i]? = some t → TR w G u t := by
  cases h with | @ptr b o _ us _ hl hc h => exact ⟨b, o, us, rfl, hl, hc, h⟩
theorem ok_loadp1 {t : TypeId} {dsc : TypeDesc} {x : Operand} {ts : List Tree} {off : Nat} {tr : Tree} (ho : o.op = .load t x) (hu : P.underlying t = some dsc) (hdsc : dsc.isRow = false) (hx : σ.ev x = some (.ptr ts off)) (hc : ts[off]? = some tr) : OpOk P o σ fr (.t tr) [] :=
  ok_pure fun E σ₁ ν G w a hH I hev => by
    obtain ⟨b, q, us, hv, hl, hcu, htr⟩ := ptr_of (hev x _ hx)
    have hi : off < us.length := by rw [hl]; exact (List.getElem?_eq_some_iff.1 hc).1
    have hu' : us[off]? = some us[off] := List.getElem?_eq_getElem hi
    refine ⟨us[off], ?_, .t (htr off _ tr hu' hc)⟩
    unfold execOp
    rw [ho]
    simp [hv, run_load1 hu hdsc (hcu off _ hu').1]
theorem ok_loadpn {t : TypeId} {dsc : TypeDesc} {x : Operand} {ts xs : List Tree} {off m : Nat} (ho : o.op = .load t x) (hu : P.underlying t = some dsc) (hdsc : dsc.isRow = true) (hi : (P.info? t).map (·.size) = some m) (hx : σ.ev x = some (.ptr ts off))
    (hc : (ts.drop off).take m = xs) (hm : xs.length = m) : OpOk P o σ fr (.agg (xs.map .t)) [] :=
  ok_pure fun E σ₁ ν G w a hH I hev => by
    obtain ⟨b, q, us, hv, hl, hcu, htr⟩ := ptr_of (hev x _ hx)
    have hget : ∀ i d, xs[i]? = some d → ts[off + i]? = some d := fun i d h => by
      rw [← hc, List.getElem?_take] at h
      split at h
      · simpa using h
      · cases h
    let cs : List Value := (us.drop off).take m
    have hlen : cs.length = m := by
      have h1 : xs.length = min m (ts.length - off) := by rw [← hc]; simp
      simp only [cs, List.length_take, List.length_drop, hl]
      omega
    have hcs : ∀ i u, cs[i]? = some u → us[off + i]? = some u := fun i u h => by
      simp only [cs, List.getElem?_take] at h
      split at h
      · simpa using h
      · cases h
    refine ⟨.agg cs.toArray, ?_, .agg (by simp [hlen, hm]) (fun i u d h h' => ?_) (fun u h => ?_)⟩
    · unfold execOp
      rw [ho]
      simp only [hv, Sem.run_bind, run_loadAt_mid w b (q + off) t cs dsc (fun j v h => by rw [Nat.add_assoc]; exact (hcu _ v (hcs j v h)).1) hu hdsc (by rw [hi, hlen])]
      rfl
    · rw [List.getElem?_map] at h'
      obtain ⟨tr, h1, rfl⟩ := Option.map_eq_some_iff.1 h'
      exact .t (htr _ u tr (hcs i u (by simpa using h)) (hget i tr h1))
    · obtain ⟨i, hiu⟩ := List.mem_iff_getElem?.1 (by simpa using h : u ∈ cs)
      have hi' : i < xs.length := by rw [hm, ← hlen]; exact (List.getElem?_eq_some_iff.1 hiu).1
      exact (htr _ u _ (hcs i u hiu) (hget i _ (List.getElem?_eq_getElem hi'))).one

/-! ### Addresses -/
def fieldOff (P : Program) (s : TypeId) (f : Nat) : Option Nat :=
  match P.underlying s with
  | some (.struct fs) => match fs[f]? with
    | some fl => match P.info? fl.type with
      | some i => if i.size = 0 then none else some fl.offset
      | none => none
    | none => none
  | _ => none
theorem run_fieldAt {s : TypeId} {f q : Nat} (h : fieldOff P s f = some q) (w : World) (b i : Nat) : (Instr.fieldAt s (.pointer (some ⟨b, i, none⟩)) f).run P w = .ok (.pointer (some ⟨b, i + q, none⟩)) w := by
  unfold fieldOff at h
  split at h
  · rename_i fs hu
    split at h
    · rename_i fl hfl
      split at h
      · rename_i inf hinf
        split at h
        · cases h
        · rename_i h0
          cases h
          simp [Instr.fieldAt, run_underlying hu, hfl, Instr.sureAddr, fieldPlace, sizeOf, typeInfo, hinf, h0, Addr.add_mid]
      · cases h
    · cases h
  · cases h
theorem ok_fieldr {s : TypeId} {x : Operand} {f q k off : Nat} (ho : o.op = .fieldAddr s x f) (hq : fieldOff P s f = some q) (hx : σ.ev x = some (.ref k off)) : OpOk P o σ fr (.ref k (off + q)) [] :=
  ok_pure fun E σ₁ ν G w a hH I hev => by
    have hr := hev x _ hx
    obtain ⟨g, hg, hv, hk⟩ := ref_of hr
    refine ⟨.pointer (some ⟨g, off + q, none⟩), ?_, ?_⟩
    · unfold execOp
      rw [ho]
      simp [hv, run_fieldAt hq]
    · exact .ref hk hg
theorem ok_fieldp {s : TypeId} {x : Operand} {f q off : Nat} {ts : List Tree} (ho : o.op = .fieldAddr s x f) (hq : fieldOff P s f = some q) (hx : σ.ev x = some (.ptr ts off)) : OpOk P o σ fr (.ptr ts (off + q)) [] :=
  ok_pure fun E σ₁ ν G w a hH I hev => by
    obtain ⟨b, i, us, hv, hl, hcu, htr⟩ := ptr_of (hev x _ hx)
    refine ⟨.pointer (some ⟨b, i + (off + q), none⟩), ?_, .ptr hl hcu htr⟩
    unfold execOp
    rw [ho]
    simp [hv, run_fieldAt hq, Nat.add_assoc]

def elemSz (P : Program) (t : TypeId) : Option Nat :=
  match P.underlying t with
  | some (.slice e) => (P.info? e).map (·.size)
  | _ => none
theorem run_indexSl {t : TypeId} {s : Nat} (h : elemSz P t = some s) (w : World) (b i n c : Nat) (k : IntKind) (j : Int) (h0 : 0 ≤ j) (hn : j < n) :
    (Instr.indexAt t (.slice (some ⟨b, i, none⟩) n c) (.int k j)).run P w = .ok (.pointer (some ⟨b, i + j.toNat * s, none⟩)) w := by
  unfold elemSz at h
  split at h
  · rename_i e hu
    obtain ⟨inf, hinf, hs⟩ := Option.map_eq_some_iff.1 h
    simp [Instr.indexAt, run_underlying hu, asIntOf, sizeOf, typeInfo, hinf, hs, h0, hn, Addr.add_mid]
  · cases h
/-- l[i] of what can only be read. -/
theorem ok_indexp {t : TypeId} {x y : Operand} {s n : Nat} {ts : List Tree} {k : IntKind} {j : Int} (ho : o.op = .indexAddr t x y) (hs : elemSz P t = some s) (hx : σ.ev x = some (.t (.sl n ts))) (hy : σ.ev y = some (.t (.v (.int k j)))) (h0 : 0 ≤ j) (hn : j < n) :
    OpOk P o σ fr (.ptr ts (j.toNat * s)) [] :=
  ok_pure fun E σ₁ ν G w a hH I hev => by
    have hv := hev x _ hx
    have hj := bool_of (hev y _ hy)
    obtain ⟨v, he⟩ : ∃ v, a.eval x = v := ⟨_, rfl⟩
    rw [he] at hv
    cases hv with
    | t hv =>
      cases hv with
      | nil _ => omega
      | sl b i n c us _ hl hc hn' h =>
        refine ⟨.pointer (some ⟨b, i + j.toNat * s, none⟩), ?_, .ptr hl hc h⟩
        unfold execOp
        rw [ho]
        simp [he, hj, run_indexSl hs w b i n c k j h0 hn]
/-- l[i] of a row of the walk's own. -/
theorem ok_indexr {t : TypeId} {x y : Operand} {s n q : Nat} {ts : List Tree} {e : TypeId} {st : Bool} {s' : Nat} {k : IntKind} {j : Int} (ho : o.op = .indexAddr t x y) (hs : elemSz P t = some s) (hx : σ.ev x = some (.own q)) (hq : σ.H q = some (.row e s' n ts st)) (hy : σ.ev y = some (.t (.v (.int k j)))) (h0 : 0 ≤ j) (hn : j < n) :
    OpOk P o σ fr (.ref q (j.toNat * s)) [] :=
  ok_pure fun E σ₁ ν G w a hH I hev => by
    have hv := hev x _ hx
    have hj := bool_of (hev y _ hy)
    obtain ⟨v, he⟩ : ∃ v, a.eval x = v := ⟨_, rfl⟩
    rw [he] at hv
    cases hv with
    | own hk h1 =>
      obtain ⟨xs, r1, r2, r3, r4⟩ := (I.H q _ (hH q _ hq)).2
      rcases r1.2 with ⟨_, hz⟩ | ⟨g, cap, cur, hvv, _⟩
      · omega
      · refine ⟨.pointer (some ⟨g, j.toNat * s, none⟩), ?_, .ref hk (by rw [hvv]; rfl)⟩
        unfold execOp
        rw [ho]
        simp [he, hj, hvv, run_indexSl hs w g 0 n cap k j h0 hn]
def arrSz (P : Program) (t : TypeId) : Option (Nat × Nat) :=
  match P.underlying t with
  | some (.array n e) => (P.info? e).map fun i => (n, i.size)
  | _ => none
end
end Go.Ab
