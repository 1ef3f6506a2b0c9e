/- The abstract machine: appends, values that are built, parts of values, lengths. -/
import Derived.Test.YtokdclbfjlnnjaaM6
namespace Go.Ab
open Go.RowKit

/-! ### append -/
structure AppT (P : Program) (t e : TypeId) (z : Value) (s bytes : Nat) : Prop where
  u : P.underlying t = some (.slice e)
  i : (P.info? e).map (fun i => (i.zero, i.size, i.bytes)) = some (some z, s, bytes)
  z : z.cells.size = s
  s : 0 < s

/-- What a slice operand holds. -/
inductive Src (σ : St) (x : Operand) : Nat → List Tree → Prop
  | t {n : Nat} {ts : List Tree} (h : σ.ev x = some (.t (.sl n ts))) : Src σ x n ts
  | own {k n : Nat} {ts : List Tree} {e : TypeId} {s : Nat} {st : Bool} (h : σ.ev x = some (.own k)) (hk : σ.H k = some (.row e s n ts st)) : Src σ x n ts
  | nil (h : σ.ev x = some (.t (.v (.slice none 0 0)))) : Src σ x 0 []

theorem Src.rd {σ σ₁ : St} {x : Operand} {n : Nat} {ts : List Tree} (h : Src σ x n ts) {E : Env} {ν : Nat → Value} {G : Lim} {w : World} {a : Act} (hT : ∀ t d, σ.T t = some d → σ₁.T t = some d) (hH : ∀ k o, σ.H k = some o → σ₁.H k = some o) (I : Inv E σ₁ ν G w a.tmps) :
    ∃ ax c us, a.eval x = .slice ax n c ∧ us.length = ts.length ∧ Rd w ax us ∧ (ax = none → c = 0 ∧ n = 0) ∧ ∀ (i : Nat) (u : Value) (t : Tree), us[i]? = some u → ts[i]? = some t → TR w G u t := by
  cases h with
  | t h =>
    have hv := I.ev (St.ev_le hT h)
    obtain ⟨v, he⟩ : ∃ v, a.eval x = v := ⟨_, rfl⟩
    rw [he] at hv ⊢
    cases hv with
    | t hv =>
      cases hv with
      | nil h0 => exact ⟨_, _, [], rfl, rfl, Rd.nil, fun e => ⟨h0 e, rfl⟩, fun i u t h => by simp at h⟩
      | sl b q _ c us _ hl hc hn h => exact ⟨_, c, us, rfl, hl, fun j u hj => ⟨_, rfl, by rw [Addr.add_mid]; exact (hc j u hj).1⟩, (fun e => by cases e), h⟩
  | own h hk =>
    have hv := I.ev (St.ev_le hT h)
    obtain ⟨v, he⟩ : ∃ v, a.eval x = v := ⟨_, rfl⟩
    rw [he] at hv ⊢
    cases hv with
    | own _ _ =>
      obtain ⟨xs, r1, r2, r3, r4⟩ := (I.H _ _ (hH _ _ hk)).2
      rcases r1.2 with ⟨hv, hn⟩ | ⟨g, cap, cur, hv, _⟩
      · have hx : xs = [] := List.eq_nil_of_length_eq_zero (by rw [r1.1, hn, Nat.zero_mul])
        exact ⟨none, 0, xs, by rw [hv, hn], r2, by rw [hx]; exact Rd.nil, fun _ => ⟨rfl, hn⟩, r3⟩
      · exact ⟨_, cap, xs, hv, r2, fun j u hj => ⟨_, rfl, r1.cells (by rw [hv]; rfl) j u hj⟩, (fun e => by cases e), r3⟩
  | nil h =>
    have hv := bool_of (I.ev (St.ev_le hT h))
    exact ⟨none, 0, [], hv, rfl, Rd.nil, fun _ => ⟨rfl, rfl⟩, fun i u t h => by simp at h⟩

/-- Where append begins. -/
inductive Dst (σ : St) (s : Operand) (e : TypeId) (size : Nat) (st : Bool) : Option Nat → Nat → List Tree → Prop
  | own {k n : Nat} {ts : List Tree} (h : σ.ev s = some (.own k)) (hk : σ.H k = some (.row e size n ts st)) : Dst σ s e size st (some k) n ts
  | nil (h : σ.ev s = some (.t (.v (.slice none 0 0)))) : Dst σ s e size st none 0 []
  | nil' (h : σ.ev s = some (.t (.sl 0 []))) (hnil : False) : Dst σ s e size st none 0 []

def appW (k0 : Option Nat) (fr : Nat) (o : AObj) : Wr := match k0 with | some k => [(fr, some o), (k, none)] | none => [(fr, some o)]

section
variable {P : Program} {o : Oper} {σ : St} {fr : Nat}

/-! ### Lengths -/
theorem ok_len {t : TypeId} {x : Operand} {n : Nat} {ts : List Tree} {e : TypeId} {tys : Array TypeId} (hu : P.underlying t = some (.slice e)) (ho : o.op = .call { callee := .builtin .len, args := #[x], argTypes := tys }) (hty : tys = #[t]) (hx : Src σ x n ts) : OpOk P o σ fr (I n) [] := by
  intro E σ₁ a w hT hH h100 hf hd ⟨ν, G, I⟩ Q
  obtain ⟨ax, c, us, hxv, _⟩ := hx.rd hT hH I
  subst hty
  unfold Oper.wp
  have he : (execOp a.eval o).run P w = .ok (.value (.int .i64 n)) w := by
    unfold execOp
    rw [ho]
    simp [resolve, invoke, builtin, hxv, Builtin.len_, run_underlying hu, goInt]
  rw [he, Oper.upon_value]
  exact ⟨put_defers .., ν, G, I.put (.t (.v _ rfl)) hd fr a rfl⟩

/-! ### Values that are built -/
def fillD (pl : List (Nat × Nat)) : List D → List (Nat × D) → Option (List D)
  | cells, [] => some cells
  | cells, (i, d) :: rest => match pl[i]? with
    | none => none
    | some (off, size) => if d.val && (d.cells.length == size) && decide (off + d.cells.length ≤ cells.length) then fillD pl (splice cells off d.cells) rest else none

def evParts (σ : St) : List (Nat × Operand) → Option (List (Nat × D))
  | [] => some []
  | p :: l => match σ.ev p.2, evParts σ l with
    | some d, some r => some ((p.1, d) :: r)
    | _, _ => none

/-- How a struct or an array is built: its zero cells and where its parts lie. -/
structure BuildT (P : Program) (t : TypeId) (zs : List Value) (pl : List (Nat × Nat)) : Prop where
  one : ∀ u ∈ zs, u.oneCell' = true
  run : ∃ place : Nat → Option (Nat × Nat), (∀ i p, pl[i]? = some p → place i = some p) ∧ ∀ parts, P.built t parts = Instr.fill place zs.toArray parts

/-- The cells of a new row as data: rows among them that are only appended to are given out. -/
inductive Trs (H : Nat → Option AObj) : List D → List Tree → Prop
  | nil : Trs H [] []
  | t {x : Tree} {l : List D} {xs : List Tree} (r : Trs H l xs) : Trs H (.t x :: l) (x :: xs)
  | own {k n : Nat} {e : TypeId} {s : Nat} {ts : List Tree} {l : List D} {xs : List Tree} (h : H k = some (.row e s n ts true)) (r : Trs H l xs) : Trs H (.own k :: l) (.sl n ts :: xs)
theorem Trs.len {H : Nat → Option AObj} {l : List D} {xs : List Tree} (h : Trs H l xs) : l.length = xs.length := by
  induction h with
  | nil => rfl
  | t r ih => simp [ih]
  | own h r ih => simp [ih]
theorem Trs.rel {H : Nat → Option AObj} {l : List D} {xs : List Tree} (h : Trs H l xs) {ν : Nat → Value} {nm : Nat → Bool} {w : World} {G : Lim} (hr : ∀ k e s n ts, H k = some (.row e s n ts true) → TR w G (ν k) (.sl n ts)) :
    ∀ (i : Nat) (u : Value) (d : D) (t : Tree), l[i]? = some d → xs[i]? = some t → DR ν nm w G u d → TR w G u t := by
  induction h with
  | nil => intro i u d t h; simp at h
  | t r ih =>
    intro i u d t hd ht hu
    cases i with
    | zero => simp at hd ht; subst hd ht; cases hu with | t h => exact h
    | succ i => exact ih i u d t (by simpa using hd) (by simpa using ht) hu
  | own h r ih =>
    intro i u d t hd ht hu
    cases i with
    | zero => simp at hd ht; subst hd ht; cases hu with | own _ _ => exact hr _ _ _ _ _ h
    | succ i => exact ih i u d t (by simpa using hd) (by simpa using ht) hu
/-- []T{..}: a row of the walk's own. -/
structure LitT (P : Program) (t e : TypeId) (s len : Nat) (zs : List Value) : Prop where
  u : P.underlying t = some (.slice e)
  one : ∀ u ∈ zs, u.oneCell' = true
  zl : zs.length = len * s
  ml : len ≤ maxLen
  run : ∀ (w : World) (parts : Array (Nat × Value)) (cells : Array Value), Instr.fill (fun i => some (i * s, s)) zs.toArray parts.toList = some cells → (Instr.buildSlice t len parts).run P w = .ok (.slice (some ⟨w.heap.size, 0, none⟩) len len) (w.alloc (.cells cells e))
end
end Go.Ab
