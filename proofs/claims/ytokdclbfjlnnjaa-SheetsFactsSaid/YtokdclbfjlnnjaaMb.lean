/- The abstract machine: rows that are made. -/
import Derived.Test.YtokdclbfjlnnjaaMa
namespace Go.Ab
open Go.RowKit

/-- What zero cells are read as. -/
inductive ZTs : List Value → List Tree → Prop
  | nil : ZTs [] []
  | v {x : Value} {l : List Value} {ts : List Tree} (h : x.oneCell' = true) (r : ZTs l ts) : ZTs (x :: l) (.v x :: ts)
  | sl {l : List Value} {ts : List Tree} (r : ZTs l ts) : ZTs (.slice none 0 0 :: l) (.sl 0 [] :: ts)
theorem ZTs.append {l l' : List Value} {ts ts' : List Tree} (h : ZTs l ts) (h' : ZTs l' ts') : ZTs (l ++ l') (ts ++ ts') := by
  induction h with
  | nil => exact h'
  | v h r ih => exact .v h ih
  | sl r ih => exact .sl ih
theorem ZTs.rel {l : List Value} {ts : List Tree} (h : ZTs l ts) (w : World) (G : Lim) : l.length = ts.length ∧ ∀ (i : Nat) (u : Value) (t : Tree), l[i]? = some u → ts[i]? = some t → TR w G u t := by
  induction h with
  | nil => exact ⟨rfl, fun i u t h => by simp at h⟩
  | v h r ih =>
    refine ⟨by simp [ih.1], fun i u t hu ht => ?_⟩
    cases i with
    | zero => simp at hu ht; subst hu ht; exact .v _ h
    | succ i => exact ih.2 i u t (by simpa using hu) (by simpa using ht)
  | sl r ih =>
    refine ⟨by simp [ih.1], fun i u t hu ht => ?_⟩
    cases i with
    | zero => simp at hu ht; subst hu ht; exact .nil (fun _ => rfl)
    | succ i => exact ih.2 i u t (by simpa using hu) (by simpa using ht)
section
variable {P : Program} {o : Oper} {σ : St} {fr : Nat}
end

/-! ### Results -/
/-- One result: a temporary, or a variable. -/
inductive RV (P : Program) (σ : St) : ResultVar → D → Prop
  | tmp {t : Tmp} {d : D} (h : σ.T t = some d) : RV P σ (.tmp t) d
  | row {p : Tmp} {t : TypeId} {k m : Nat} {e : TypeId} {ds : List D} (hp : σ.T p = some (.ref k 0)) (hk : σ.H k = some (.box e ds)) (hu : rowT P t = some true) (hi : (P.info? t).map (·.size) = some m) (hm : ds.length = m) : RV P σ (.cell p t) (.agg ds)
  | one {p : Tmp} {t : TypeId} {k : Nat} {e : TypeId} {d : D} (hp : σ.T p = some (.ref k 0)) (hk : σ.H k = some (.box e [d])) (hu : rowT P t = some false) : RV P σ (.cell p t) d
def rvRun (tm : Array Value) : ResultVar → Sem Value
  | .tmp t => pure (tm.getD t undef)
  | .cell a t => do loadVar t (← asAddr (tm.getD a undef))
theorem RV.run {P : Program} {σ : St} {rv : ResultVar} {d : D} (h : RV P σ rv d) {E : Env} {ν : Nat → Value} {G : Lim} {w : World} {tm : Array Value} (I : Inv E σ ν G w tm) : ∃ v, (rvRun tm rv).run P w = .ok v w ∧ DR ν σ.nm w G v d := by
  have get : ∀ p d, σ.T p = some d → DR ν σ.nm w G (tm.getD p undef) d := fun p d hp => by
    obtain ⟨v, hv, hd⟩ := I.T p d hp
    have : tm.getD p undef = v := by simp [Array.getD_eq_getD_getElem?, hv]
    rw [this]
    exact hd
  cases h with
  | tmp h => exact ⟨_, rfl, get _ _ h⟩
  | @row p t k m e ds hp hk hu hi hm =>
    obtain ⟨g, hg, hv, _⟩ := ref_of (get _ _ hp)
    obtain ⟨dsc, h1, h2⟩ := rowT_get hu
    have hob := (I.H k _ hk).2
    have hall : ∀ i, i < m → ∃ u, w.cell? ⟨g, 0 + i, none⟩ = some u ∧ ∀ d, ds[i]? = some d → DR ν σ.nm w G u d ∧ u.oneCell' = true := fun i h => by
      have hd : ds[i]? = some ds[i] := List.getElem?_eq_getElem (by omega)
      obtain ⟨g', u, hg', hcu, hdu, h1⟩ := hob.cell (o := .box e ds) hd
      rw [hg] at hg'; cases hg'
      exact ⟨u, by rw [Nat.zero_add]; exact hcu, fun d h => by rw [hd] at h; cases h; exact ⟨hdu, h1⟩⟩
    let cs : List Value := (List.range m).map fun i => (w.cell? ⟨g, 0 + i, none⟩).getD undef
    have hcs : ∀ i u, cs[i]? = some u → i < m ∧ w.cell? ⟨g, 0 + i, none⟩ = some u := fun i u h => by
      have hi : i < m := by simpa [cs] using (List.getElem?_eq_some_iff.1 h).1
      obtain ⟨u', h', _⟩ := hall i hi
      have h2 : cs[i]? = some u' := by
        show ((List.range m).map fun i => (w.cell? ⟨g, 0 + i, none⟩).getD undef)[i]? = some u'
        rw [List.getElem?_map, List.getElem?_range hi]
        simp only [Option.map_some, h', Option.getD_some]
      rw [h2] at h
      cases h
      exact ⟨hi, h'⟩
    refine ⟨.agg cs.toArray, ?_, .agg (by simp [cs, hm]) (fun i u d h h' => ?_) (fun u h => ?_)⟩
    · simp only [rvRun, hv, asAddr, Sem.run_bind, Sem.run_pure, Result.andThen_ok]
      exact run_loadVar_mid w g 0 t cs dsc (fun j v h => (hcs j v h).2) h1 h2 (by rw [hi]; simp [cs])
    · obtain ⟨hi, hcu⟩ := hcs i u (by simpa using h)
      obtain ⟨u', h1, h2⟩ := hall i hi
      rw [hcu] at h1; cases h1
      exact (h2 d h').1
    · obtain ⟨i, hiu⟩ := List.mem_iff_getElem?.1 (by simpa using h : u ∈ cs)
      obtain ⟨hi, hcu⟩ := hcs i u hiu
      obtain ⟨u', h1, h2⟩ := hall i hi
      rw [hcu] at h1; cases h1
      exact (h2 _ (List.getElem?_eq_getElem (by omega))).2
  | @one p t k e d hp hk hu =>
    obtain ⟨g, hg, hv, _⟩ := ref_of (get _ _ hp)
    obtain ⟨dsc, h1, h2⟩ := rowT_get hu
    obtain ⟨g', u, hg', hcu, hdu, _⟩ := (I.H k _ hk).2.cell (o := .box e [d]) (i := 0) rfl
    rw [hg] at hg'; cases hg'
    refine ⟨u, ?_, hdu⟩
    have h := run_load1 h1 h2 hcu
    simp only [Instr.loadAt, Instr.sureAddr, Sem.run_bind, Sem.run_pure, Result.andThen_ok] at h
    simp only [rvRun, hv, asAddr, Sem.run_bind, Sem.run_pure, Result.andThen_ok]
    exact h
theorem RV.all {P : Program} {σ : St} {rv : ResultVar} {d : D} (h : RV P σ rv d) {E : Env} {w : World} {tm : Array Value} (hR : R E σ tm w) : ∃ v, (rvRun tm rv).run P w = .ok v w ∧ ∀ ν G, Inv E σ ν G w tm → DR ν σ.nm w G v d := by
  obtain ⟨ν, G, I⟩ := hR
  obtain ⟨v, hv, _⟩ := h.run I
  refine ⟨v, hv, fun ν' G' I' => ?_⟩
  obtain ⟨v', hv', hd'⟩ := h.run I'
  rw [hv] at hv'
  cases hv'
  exact hd'
abbrev RetC (rn : List (Nat × Nat)) (H' : List (Nat × AObj)) : Prop := (rn.all (fun p => decide (p.1 < 50) || decide (100 ≤ p.1)) && decide ((H'.map fun p => rnm rn p.1).Nodup) && H'.all (fun p => decide (p.1 < 108))) = true
section
variable {P : Program} {fn : Func} {E : Env} {σ : St} {r : D} {H' : List (Nat × AObj)}
end
/-! ### Lists that are changed at one place -/
theorem okB {P : Program} {o : Oper} {σ : St} {fr : Nat} {c b : Bool} (h : OpOk P o σ fr (B c) []) (e : c = b) : OpOk P o σ fr (B b) [] := e ▸ h
def boolT (l : List Bool) : List Tree := l.flatMap fun b => [.v (.bool b)]
end Go.Ab
