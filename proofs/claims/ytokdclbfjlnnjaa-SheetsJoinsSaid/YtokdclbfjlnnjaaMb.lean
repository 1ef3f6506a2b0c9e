/- The abstract machine: rows that are made. -/
import Derived.Test.YtokdclbfjlnnjaaMa
namespace Go.Ab
open Go.RowKit

/-- What zero cells are read as. -/
inductive ZTs : List Value → List Tree → Prop
  | nil : ZTs [] []
  | v {x : Value} {l : List Value} {ts : List Tree} (h : x.oneCell' = true) (r : ZTs l ts) : ZTs (x :: l) (.v x :: ts)
  | sl {l : List Value} {ts : List Tree} (r : ZTs l ts) : ZTs (.slice none 0 0 :: l) (.sl 0 [] :: ts)
theorem ZTs.append {l l' : List Value} {ts ts' : List Tree} (h : ZTs l ts) (h' : ZTs l' ts') : ZTs (l ++ l') (ts ++ ts') := by
  induction h with
  | nil => exact h'
  | v h r ih => exact .v h ih
  | sl r ih => exact .sl ih
theorem ZTs.reps {l : List Value} {ts : List Tree} (h : ZTs l ts) : ∀ n, ZTs (List.replicate n l).flatten (List.replicate n ts).flatten
  | 0 => .nil
  | n + 1 => by rw [List.replicate_succ, List.replicate_succ, List.flatten_cons, List.flatten_cons]; exact h.append (h.reps n)
theorem ZTs.rel {l : List Value} {ts : List Tree} (h : ZTs l ts) (w : World) (G : Lim) : l.length = ts.length ∧ ∀ (i : Nat) (u : Value) (t : Tree), l[i]? = some u → ts[i]? = some t → TR w G u t := by
  induction h with
  | nil => exact ⟨rfl, fun i u t h => by simp at h⟩
  | v h r ih =>
    refine ⟨by simp [ih.1], fun i u t hu ht => ?_⟩
    cases i with
    | zero => simp at hu ht; subst hu ht; exact .v _ h
    | succ i => exact ih.2 i u t (by simpa using hu) (by simpa using ht)
  | sl r ih =>
    refine ⟨by simp [ih.1], fun i u t hu ht => ?_⟩
    cases i with
    | zero => simp at hu ht; subst hu ht; exact .nil (fun _ => rfl)
    | succ i => exact ih.2 i u t (by simpa using hu) (by simpa using ht)
theorem made_eq {z : Value} {s : Nat} (hz : z.cells.size = s) (hs : 0 < s) (n : Nat) : (madeCells z.cells (n * s)).toList = (List.replicate n z.cells.toList).flatten := by
  apply List.ext_getElem?
  intro j
  have hzl : z.cells.toList.length = s := by rw [Array.length_toList]; exact hz
  by_cases hj : j < n * s
  · have hm : j % z.cells.size < z.cells.size := Nat.mod_lt _ (by rw [hz]; exact hs)
    have e2 := zeros_get z.cells.toList (by rw [hzl]; exact hs) n j (by rw [hzl]; exact hj)
    rw [e2, hzl, ← hz]
    simp only [madeCells, Array.toList_map, Array.toList_range, List.getElem?_map, List.getElem?_range, hz, hj, Option.map_some]
    rw [hz] at hm
    rw [Array.getElem?_toList]
    rw [getElem!_pos _ _ (by rw [hz]; exact hm), Array.getElem?_eq_getElem (by rw [hz]; exact hm)]
  · rw [List.getElem?_eq_none (by rw [Array.length_toList, size_madeCells]; omega), List.getElem?_eq_none (by simp [hz]; omega)]
section
variable {P : Program} {o : Oper} {σ : St} {fr : Nat}
/-- make([]T, n). -/
theorem ok_make {t e : TypeId} {z : Value} {s bytes : Nat} (st : Bool) {l c : Operand} {n : Nat} {zt : List Tree} (hT : AppT P t e z s bytes) (hz : ZTs z.cells.toList zt) (ho : o.op = .makeSlice t l c) (hl : σ.ev l = some (I n)) (hc : σ.ev c = some (I n))
    (hb : bytes * n ≤ 281474976710656 ∧ n ≤ maxLen) : OpOk P o σ fr (.own fr) [(fr, some (.row e s n (List.replicate n zt).flatten st))] := by
  intro E σ₁ a w hTT hHH h100 hf hd ⟨ν, G, I⟩ Q
  obtain ⟨i, hi, hz', h2, h3⟩ := info_parts hT.i
  have hlv := bool_of (I.ev (St.ev_le hTT hl))
  have hcv := bool_of (I.ev (St.ev_le hTT hc))
  obtain ⟨w', hr, r1, r2⟩ := run_make_full (P := P) w 0 t e i z s hT.u hi hz' h2 .i64 .i64 n (by rw [h3]; exact hb.1) hb.2 (Nat.zero_le _)
  have hB : (i.bytes : Int) * (n : Int) ≤ 281474976710656 := by
    have h : ((i.bytes * n : Nat) : Int) ≤ 281474976710656 := by rw [h3]; omega
    rwa [Int.natCast_mul] at h
  have hr2 := run_make (P := P) w t e i z hT.u hi hz' .i64 .i64 n n (by omega) (Int.le_refl _) hB (by have := hb.2; simp only [maxLen] at this; omega)
  simp only [Int.toNat_natCast] at hr2
  rw [hr] at hr2
  have hw : w' = w.alloc (.cells (madeCells z.cells (n * i.size)) e) := by injection hr2
  have hA : Aft w w' := hw ▸ (Aft.refl w).alloc _
  have hG : ∀ b, b < w.heap.size → (fun b => if b = w.heap.size then (if st then n * s else 0) else G b) b = G b := fun b hb => if_neg (by omega)
  have he : (execOp a.eval o).run P w = .ok (.value (.slice (some ⟨w.heap.size, 0, none⟩) n n)) w' := by
    unfold execOp
    rw [ho]
    simp [hlv, hcv, hr]
  unfold Oper.wp
  rw [he, Oper.upon_value]
  have hzr := (hz.reps n).rel w' (fun b => if b = w.heap.size then (if st then n * s else 0) else G b)
  rw [← made_eq hT.z hT.s] at hzr
  refine ⟨put_defers .., _, _, I.fresh (G' := fun b => if b = w.heap.size then (if st then n * s else 0) else G b) h100 hf hd hA hG (x := .slice (some ⟨w.heap.size, 0, none⟩) n n) (fun g hg => by cases hg; exact Nat.le_refl _) ?_ ?_⟩
  · refine ⟨_, by rw [setν_same]; exact r1, hzr.1, hzr.2, fun g hg => ?_⟩
    rw [setν_same] at hg
    cases hg
    exact ⟨.inl I.kept.size, if_pos rfl⟩
  · have : DR (setν ν fr (.slice (some ⟨w.heap.size, 0, none⟩) n n)) (σ₁.upd o.dst .any [(fr, some (.row e s n (List.replicate n zt).flatten st))] fr).nm w' (fun b => if b = w.heap.size then (if st then n * s else 0) else G b) (setν ν fr (.slice (some ⟨w.heap.size, 0, none⟩) n n) fr) (.own fr) := .own (upd_nm_fr ..) (by rw [setν_same]; rfl)
    rw [setν_same] at this
    exact this
end

/-! ### Results -/
/-- One result: a temporary, or a variable. -/
inductive RV (P : Program) (σ : St) : ResultVar → D → Prop
  | tmp {t : Tmp} {d : D} (h : σ.T t = some d) : RV P σ (.tmp t) d
  | row {p : Tmp} {t : TypeId} {k m : Nat} {e : TypeId} {ds : List D} (hp : σ.T p = some (.ref k 0)) (hk : σ.H k = some (.box e ds)) (hu : rowT P t = some true) (hi : (P.info? t).map (·.size) = some m) (hm : ds.length = m) : RV P σ (.cell p t) (.agg ds)
  | one {p : Tmp} {t : TypeId} {k : Nat} {e : TypeId} {d : D} (hp : σ.T p = some (.ref k 0)) (hk : σ.H k = some (.box e [d])) (hu : rowT P t = some false) : RV P σ (.cell p t) d
def rvRun (tm : Array Value) : ResultVar → Sem Value
  | .tmp t => pure (tm.getD t undef)
  | .cell a t => do loadVar t (← asAddr (tm.getD a undef))
theorem RV.run {P : Program} {σ : St} {rv : ResultVar} {d : D} (h : RV P σ rv d) {E : Env} {ν : Nat → Value} {G : Lim} {w : World} {tm : Array Value} (I : Inv E σ ν G w tm) : ∃ v, (rvRun tm rv).run P w = .ok v w ∧ DR ν σ.nm w G v d := by
  have get : ∀ p d, σ.T p = some d → DR ν σ.nm w G (tm.getD p undef) d := fun p d hp => by
    obtain ⟨v, hv, hd⟩ := I.T p d hp
    have : tm.getD p undef = v := by simp [Array.getD_eq_getD_getElem?, hv]
    rw [this]
    exact hd
  cases h with
  | tmp h => exact ⟨_, rfl, get _ _ h⟩
  | @row p t k m e ds hp hk hu hi hm =>
    obtain ⟨g, hg, hv, _⟩ := ref_of (get _ _ hp)
    obtain ⟨dsc, h1, h2⟩ := rowT_get hu
    have hob := (I.H k _ hk).2
    have hall : ∀ i, i < m → ∃ u, w.cell? ⟨g, 0 + i, none⟩ = some u ∧ ∀ d, ds[i]? = some d → DR ν σ.nm w G u d ∧ u.oneCell' = true := fun i h => by
      have hd : ds[i]? = some ds[i] := List.getElem?_eq_getElem (by omega)
      obtain ⟨g', u, hg', hcu, hdu, h1⟩ := hob.cell (o := .box e ds) hd
      rw [hg] at hg'; cases hg'
      exact ⟨u, by rw [Nat.zero_add]; exact hcu, fun d h => by rw [hd] at h; cases h; exact ⟨hdu, h1⟩⟩
    let cs : List Value := (List.range m).map fun i => (w.cell? ⟨g, 0 + i, none⟩).getD undef
    have hcs : ∀ i u, cs[i]? = some u → i < m ∧ w.cell? ⟨g, 0 + i, none⟩ = some u := fun i u h => by
      have hi : i < m := by simpa [cs] using (List.getElem?_eq_some_iff.1 h).1
      obtain ⟨u', h', _⟩ := hall i hi
      have h2 : cs[i]? = some u' := by
        show ((List.range m).map fun i => (w.cell? ⟨g, 0 + i, none⟩).getD undef)[i]? = some u'
        rw [List.getElem?_map, List.getElem?_range hi]
        simp only [Option.map_some, h', Option.getD_some]
      rw [h2] at h
      cases h
      exact ⟨hi, h'⟩
    refine ⟨.agg cs.toArray, ?_, .agg (by simp [cs, hm]) (fun i u d h h' => ?_) (fun u h => ?_)⟩
    · simp only [rvRun, hv, asAddr, Sem.run_bind, Sem.run_pure, Result.andThen_ok]
      exact run_loadVar_mid w g 0 t cs dsc (fun j v h => (hcs j v h).2) h1 h2 (by rw [hi]; simp [cs])
    · obtain ⟨hi, hcu⟩ := hcs i u (by simpa using h)
      obtain ⟨u', h1, h2⟩ := hall i hi
      rw [hcu] at h1; cases h1
      exact (h2 d h').1
    · obtain ⟨i, hiu⟩ := List.mem_iff_getElem?.1 (by simpa using h : u ∈ cs)
      obtain ⟨hi, hcu⟩ := hcs i u hiu
      obtain ⟨u', h1, h2⟩ := hall i hi
      rw [hcu] at h1; cases h1
      exact (h2 _ (List.getElem?_eq_getElem (by omega))).2
  | @one p t k e d hp hk hu =>
    obtain ⟨g, hg, hv, _⟩ := ref_of (get _ _ hp)
    obtain ⟨dsc, h1, h2⟩ := rowT_get hu
    obtain ⟨g', u, hg', hcu, hdu, _⟩ := (I.H k _ hk).2.cell (o := .box e [d]) (i := 0) rfl
    rw [hg] at hg'; cases hg'
    refine ⟨u, ?_, hdu⟩
    have h := run_load1 h1 h2 hcu
    simp only [Instr.loadAt, Instr.sureAddr, Sem.run_bind, Sem.run_pure, Result.andThen_ok] at h
    simp only [rvRun, hv, asAddr, Sem.run_bind, Sem.run_pure, Result.andThen_ok]
    exact h
theorem RV.all {P : Program} {σ : St} {rv : ResultVar} {d : D} (h : RV P σ rv d) {E : Env} {w : World} {tm : Array Value} (hR : R E σ tm w) : ∃ v, (rvRun tm rv).run P w = .ok v w ∧ ∀ ν G, Inv E σ ν G w tm → DR ν σ.nm w G v d := by
  obtain ⟨ν, G, I⟩ := hR
  obtain ⟨v, hv, _⟩ := h.run I
  refine ⟨v, hv, fun ν' G' I' => ?_⟩
  obtain ⟨v', hv', hd'⟩ := h.run I'
  rw [hv] at hv'
  cases hv'
  exact hd'
theorem results_rv (fn : Func) (tm : Array Value) : results fn tm = (do
    let vs ← fn.results.mapM (rvRun tm)
    pure (if h : vs.size = 1 then vs[0] else .tuple vs)) := by
  unfold results
  congr 1
abbrev RetC (rn : List (Nat × Nat)) (H' : List (Nat × AObj)) : Prop := (rn.all (fun p => decide (p.1 < 50) || decide (100 ≤ p.1)) && decide ((H'.map fun p => rnm rn p.1).Nodup) && H'.all (fun p => decide (p.1 < 108))) = true
section
variable {P : Program} {fn : Func} {E : Env} {σ : St} {r : D} {H' : List (Nat × AObj)}
theorem tup2 {ν : Nat → Value} {nm : Nat → Bool} {w : World} {G : Lim} {v1 v2 : Value} {d1 d2 : D} (h1 : DR ν nm w G v1 d1) (h2 : DR ν nm w G v2 d2) : DR ν nm w G (.tuple #[v1, v2]) (.tup [d1, d2]) := .tup rfl fun i u d hu hd => by
  match i with
  | 0 => simp at hu hd; subst hu hd; exact h1
  | 1 => simp at hu hd; subst hu hd; exact h2
  | i + 2 => simp at hu
/-- Two results. -/
theorem retc2 {p1 p2 : ResultVar} {d1 d2 : D} (rn : List (Nat × Nat)) (hr : fn.results = #[p1, p2]) (ht1 : RV P σ p1 d1) (ht2 : RV P σ p2 d2) (hle : DLe false σ.H (fun k => decide (k < 108)) (rnm rn) (.tup [d1, d2]) r)
    (hH : AllH false σ (fun k => decide (k < 108)) (rnm rn) H') (hc : RetC rn H') :
    ∀ tm w, R E σ tm w → ∃ v, (results fn tm).run P w = .ok v w ∧ R { E with m := 1 } (res r H') #[v] w := by
  intro tm w hR
  obtain ⟨v1, hv1, hd1⟩ := ht1.all hR
  obtain ⟨v2, hv2, hd2⟩ := ht2.all hR
  refine ⟨.tuple #[v1, v2], ?_, res_of rn hR (fun ν G I => tup2 (hd1 ν G I) (hd2 ν G I)) hle hH hc⟩
  rw [results_rv, hr]
  simp [hv1, hv2]
end
/-- A field that is nil, as a row of the walk's own. -/
theorem aw_nilcell {P : Program} {E : Env} {c : Code} {Q : Exit → St → Prop} {T : Nat → Option D} {H : Nat → Option AObj} {N : Nat} (k i : Nat) (e : TypeId) (s : Nat) (st : Bool) {e' : TypeId} {ds : List D} (hk : H k = some (.box e' ds)) (hi : ds[i]? = some (.t (.v (.slice none 0 0)))) (hN : 100 ≤ N)
    (h : AWp P E c Q (mk T (fun j => if N = j then some (.row e s 0 [] st) else if k = j then some (.box e' (ds.set i (.own N))) else H j) (N + 8))) : AWp P E c Q (mk T H N) := by
  intro a w hd ⟨ν, G, I⟩
  have lt : ∀ j, (mk T H N).nm j = true → j < N := fun j hj => by simpa using hj
  have ne : ∀ j, (mk T H N).nm j = true → setν ν N (.slice none 0 0) j = ν j := fun j hj => setν_ne (by have := lt j hj; omega)
  have hn : ∀ j, (mk T H N).nm j = true → decide (j < N + 8) = true ∧ setν ν N (.slice none 0 0) j = ν j := fun j hj => ⟨by have := lt j hj; simp; omega, ne j hj⟩
  have old : ∀ j o, H j = some o → j < N := fun j o hj => lt j (I.H j o hj).1
  have back : ∀ j o, (if N = j then some (.row e s 0 [] st) else if k = j then some (.box e' (ds.set i (.own N))) else H j) = some o → j = N ∨ (j < N ∧ ∃ o', H j = some o') := fun j o h => by
    by_cases h1 : N = j
    · exact .inl h1.symm
    · rw [if_neg h1] at h
      by_cases h2 : k = j
      · subst h2; exact .inr ⟨old _ _ hk, _, hk⟩
      · rw [if_neg h2] at h; exact .inr ⟨old _ _ h, _, h⟩
  refine h a w hd ⟨setν ν N (.slice none 0 0), G, I.kept, I.keep, fun j h1 h2 => ?_, I.g0, I.sz, fun t d ht => ?_, fun j o hj => ?_, fun j1 o1 j2 o2 h1 h2 hne g hg => ?_⟩
  · rw [setν_ne (by omega)]; exact I.pin j h1 h2
  · obtain ⟨v, hv, hdv⟩ := I.T t d ht
    exact ⟨v, hv, hdv.mono hn (fun _ _ _ h => h)⟩
  · rcases back j o hj with rfl | ⟨hlt, o', ho'⟩
    · simp only [if_true, Option.some.injEq] at hj
      subst hj
      refine ⟨by simp, [], by rw [setν_same]; exact World.ownsRow_nil w 0 e s, rfl, fun i u t h => by simp at h, fun g hg => by rw [setν_same] at hg; cases hg⟩
    · obtain ⟨q1, q2⟩ := I.H j o' ho'
      have q3 := q2.mono (ν' := setν ν N (.slice none 0 0)) (nm' := fun j => decide (j < N + 8)) q1 hn (fun _ _ _ h => h) (fun g _ => ⟨rfl, rfl⟩)
      refine ⟨by simp; omega, ?_⟩
      simp only [if_neg (show ¬ N = j by omega)] at hj
      by_cases h2 : k = j
      · subst h2
        rw [if_pos rfl] at hj
        rw [hk] at ho'
        cases ho'
        cases hj
        obtain ⟨g, cur, z1, z2, z3, z4, z5, z6⟩ := q3
        refine ⟨g, cur, z1, z2, z3, z4, by rw [List.length_set]; exact z5, fun m u d hu hd => ?_⟩
        by_cases hm : i = m
        · subst hm
          have hlt2 : i < ds.length := (List.getElem?_eq_some_iff.1 hi).1
          rw [List.getElem?_set_self hlt2] at hd
          cases hd
          obtain ⟨y1, y2⟩ := z6 i u _ hu hi
          have := bool_of y1
          subst this
          refine ⟨?_, y2⟩
          have hown : DR (setν ν N (.slice none 0 0)) (fun j => decide (j < N + 8)) w G (setν ν N (.slice none 0 0) N) (.own N) := .own (by simp) (by rw [setν_same]; rfl)
          rw [setν_same] at hown
          exact hown
        · rw [List.getElem?_set_ne hm] at hd
          exact z6 m u d hu hd
      · rw [if_neg h2] at hj
        rw [hj] at ho'
        cases ho'
        exact q3
  · rcases back j1 o1 h1 with rfl | ⟨l1, p1, hp1⟩
    · rw [setν_same] at hg; cases hg
    · rcases back j2 o2 h2 with rfl | ⟨l2, p2, hp2⟩
      · rw [setν_same]; simp [blk]
      · rw [setν_ne (by omega)] at hg ⊢
        exact I.dis j1 p1 j2 p2 hp1 hp2 hne g hg
/-! ### Lists that are changed at one place -/
theorem flat_put {α : Type} {f : α → List Tree} {s : Nat} (h : ∀ x, (f x).length = s) {x : α} : ∀ {l : List α} {i : Nat}, i < l.length → splice (l.flatMap f) (i * s) (f x) = (l.set i x).flatMap f
  | [], i, hi => by simp at hi
  | y :: l, 0, _ => by
    simp only [splice, Nat.zero_mul, List.take_zero, List.nil_append, Nat.zero_add, List.set_cons_zero, List.flatMap_cons, h x]
    rw [List.drop_append_of_le_length (by rw [h]; exact Nat.le_refl _), List.drop_eq_nil_of_le (by rw [h]; exact Nat.le_refl _), List.nil_append]
  | y :: l, i + 1, hi => by
    have ih := flat_put h (x := x) (l := l) (i := i) (by simpa using hi)
    rw [List.set_cons_succ, List.flatMap_cons, List.flatMap_cons, ← ih]
    have e1 : (i + 1) * s = s + i * s := by rw [Nat.add_mul]; omega
    simp only [splice, e1]
    rw [h x, List.take_append, List.drop_append, h y, List.take_of_length_le (by rw [h]; omega), List.drop_eq_nil_of_le (by rw [h]; omega), List.nil_append, Nat.add_sub_cancel_left, show s + i * s + s - s = i * s + s by omega, List.append_assoc, List.append_assoc, List.append_assoc]
theorem okB {P : Program} {o : Oper} {σ : St} {fr : Nat} {c b : Bool} (h : OpOk P o σ fr (B c) []) (e : c = b) : OpOk P o σ fr (B b) [] := e ▸ h
def boolT (l : List Bool) : List Tree := l.flatMap fun b => [.v (.bool b)]
theorem boolT_put {l : List Bool} {i : Nat} {b : Bool} (h : i < l.length) : splice (boolT l) (i * 1) [.v (.bool b)] = boolT (l.set i b) :=
  flat_put (f := fun b : Bool => [Tree.v (.bool b)]) (s := 1) (fun _ => rfl) (x := b) h
end Go.Ab
