/- Rows of shapes of a call's own, with few and small points: what stays of them behind stores and appends. -/
import Derived.Test.YtokdclbfjlnnjaaR10
namespace Go.Proofs.Ytokdclbfjlnnjaa
open Go.RowKit Go.BigFrame

def kOk (k : Int) : Prop := -9223372036854775808 ≤ k ∧ k ≤ 9223372036854775807
/-- A row of few small points. -/
def PRow (base B : Nat) (w : World) (v : Value) : Prop := ∃ l : List Pt, w.ownsRow base 57 2 v l.length (prs l) ∧ l.length ≤ B ∧ ScL l
/-- A row of shapes whose points lie in such rows. -/
structure GS (base B : Nat) (w : World) (a : Option Addr) (n c : Nat) (R : List (Int × Value)) : Prop where
  len : n = R.length
  own : w.ownsRow base 51 2 (.slice a n c) n (shCells R)
  row : ∀ r ∈ R, kOk r.1 ∧ PRow base B w r.2
theorem PRow.mono {b b' B B' : Nat} {w : World} {v : Value} (h : PRow b B w v) (hb : b' ≤ b) (hB : B ≤ B') : PRow b' B' w v := by
  obtain ⟨l, h1, h2, h3⟩ := h
  exact ⟨l, ownsRow_mono h1 hb, by omega, h3⟩
theorem PRow.aft {b B : Nat} {w w' : World} {v : Value} (h : PRow b B w v) (hw : Aft w w') : PRow b B w' v := by
  obtain ⟨l, h1, h2, h3⟩ := h
  exact ⟨l, ownsRow_aft h1 hw, h2, h3⟩
theorem PRow.kx {X : Nat → Prop} {b B : Nat} {w w' : World} {v : Value} (h : PRow b B w v) (hk : Kx X w w') (hX : ∀ g, v.ownBlock = some g → ¬ X g) : PRow b B w' v := by
  obtain ⟨l, h1, h2, h3⟩ := h
  exact ⟨l, ownsRow_kx3 h1 hk hX, h2, h3⟩
theorem PRow.nil (b B : Nat) (w : World) : PRow b B w (.slice none 0 0) := ⟨[], World.ownsRow_nil _ _ _ _, Nat.zero_le _, fun p h => by cases h⟩
theorem okP_of_sc {l : List Pt} (h : ScL l) : okP l := fun p hp => by
  obtain ⟨h1, h2⟩ := h p hp
  unfold Sc at h1 h2
  exact ⟨⟨by omega, by omega⟩, by omega, by omega⟩
theorem PRow.toPrs {b B : Nat} {w : World} {v : Value} (h : PRow b B w v) (hB : B ≤ 1000) : ∃ l, Prs w v l ∧ l.length ≤ B ∧ ScL l := by
  obtain ⟨l, h1, h2, h3⟩ := h
  exact ⟨l, ownsRow_prs h1 (okP_of_sc h3) (by omega), h2, h3⟩
theorem GS.aft {b B : Nat} {w w' : World} {a : Option Addr} {n c : Nat} {R : List (Int × Value)} (h : GS b B w a n c R) (hw : Aft w w') : GS b B w' a n c R :=
  ⟨h.len, ownsRow_aft h.own hw, fun r hr => ⟨(h.row r hr).1, (h.row r hr).2.aft hw⟩⟩
theorem GS.mono {b b' B B' : Nat} {w : World} {a : Option Addr} {n c : Nat} {R : List (Int × Value)} (h : GS b B w a n c R) (hb : b' ≤ b) (hB : B ≤ B') : GS b' B' w a n c R :=
  ⟨h.len, ownsRow_mono h.own hb, fun r hr => ⟨(h.row r hr).1, (h.row r hr).2.mono hb hB⟩⟩
theorem prow_lt {b B : Nat} {w : World} {v : Value} (h : PRow b B w v) : ∀ g, v.ownBlock = some g → b ≤ g ∧ g < w.heap.size := by
  obtain ⟨l, h1, _⟩ := h
  exact h1.lt
theorem GS.kx {X : Nat → Prop} {b B : Nat} {w w' : World} {a : Option Addr} {n c : Nat} {R : List (Int × Value)} (h : GS b B w a n c R) (hk : Kx X w w') (hX : ∀ j, X j → j < b) : GS b B w' a n c R :=
  ⟨h.len, ownsRow_kx h.own hk hX, fun r hr => ⟨(h.row r hr).1, (h.row r hr).2.kx hk (fun g hg hx => by have := (prow_lt (h.row r hr).2 g hg).1; have := hX g hx; omega)⟩⟩
theorem GS.nil (b B : Nat) (w : World) : GS b B w none 0 0 [] := ⟨rfl, World.ownsRow_nil _ _ _ _, fun r h => by cases h⟩
/-- Shapes with few and small points. -/
def GoodL (B : Nat) (L : List Sh) : Prop := ∀ s ∈ L, s.2.length ≤ B ∧ ScL s.2 ∧ kOk s.1
theorem GoodL.sc {B : Nat} {L : List Sh} (h : GoodL B L) (hB : B ≤ 1000) : ShSc L := fun s hs => ⟨by have := (h s hs).1; omega, (h s hs).2.1⟩
theorem GoodL.mono {B B' : Nat} {L : List Sh} (h : GoodL B L) (hB : B ≤ B') : GoodL B' L := fun s hs => ⟨by have := (h s hs).1; omega, (h s hs).2⟩
theorem shs_of_rows {w : World} {b B : Nat} (hB : B ≤ 1000) : ∀ (R : List (Int × Value)), (∀ r ∈ R, kOk r.1 ∧ PRow b B w r.2) →
    ∃ L : List Sh, L.length = R.length ∧ (∀ (i : Nat) (r : Int × Value) (s : Sh), R[i]? = some r → L[i]? = some s → r.1 = s.1 ∧ Prs w r.2 s.2) ∧ GoodL B L
  | [], _ => ⟨[], rfl, fun i r s h => by simp at h, fun s h => by cases h⟩
  | r :: R, h => by
    obtain ⟨L, h1, h2, h3⟩ := shs_of_rows hB R (fun r hr => h r (List.mem_cons_of_mem _ hr))
    obtain ⟨hk, hp⟩ := h r (List.mem_cons_self ..)
    obtain ⟨l, q1, q2, q3⟩ := hp.toPrs hB
    refine ⟨(r.1, l) :: L, by simp [h1], fun i r' s hr hs => ?_, fun s hs => ?_⟩
    · cases i with
      | zero => simp at hr hs; subst hr hs; exact ⟨rfl, q1⟩
      | succ i => exact h2 i r' s (by simpa using hr) (by simpa using hs)
    · rcases List.mem_cons.1 hs with rfl | hs
      · exact ⟨q2, q3, hk⟩
      · exact h3 s hs
/-- Such a row can be read as shapes. -/
theorem GS.shs {b B : Nat} {w : World} {a : Option Addr} {n c : Nat} {R : List (Int × Value)} (h : GS b B w a n c R) (hB : B ≤ 1000) (hn : n ≤ 1000) :
    ∃ L : List Sh, L.length = n ∧ Shs w (.slice a n c) L ∧ GoodL B L := by
  obtain ⟨L, h1, h2, h3⟩ := shs_of_rows hB R h.row
  have hl := h.len
  have hn' : L.length = n := by omega
  obtain ⟨a', c', e, hrd, q1, q2⟩ := ownsRow_at h.own
  simp only [Value.slice.injEq] at e
  obtain ⟨rfl, _, rfl⟩ := e
  exact ⟨L, hn', ⟨a, c, R, by rw [hn'], by omega, by omega, hrd, h2, by omega, q2, by omega⟩, h3⟩
/-- A row of shapes and one of points lie in different blocks. -/
theorem sep_types {w : World} {b b' : Nat} {n m : Nat} {v u : Value} {xs ys : List Value} (h : w.ownsRow b 51 2 v n xs) (k : w.ownsRow b' 57 2 u m ys) : Sep v u := by
  intro g h1 h2
  rcases h.2 with ⟨rfl, _⟩ | ⟨g1, cap, cur, rfl, _, hh, _⟩
  · cases h1
  rcases k.2 with ⟨rfl, _⟩ | ⟨g2, cap', cur', rfl, _, hh', _⟩
  · cases h2
  cases h1
  cases h2
  rw [hh] at hh'
  cases hh'
theorem PRow.grown {b b' B n : Nat} {w w' : World} {v u : Value} {xs : List Value} (h : PRow b B w u) (ho : w.ownsRow b' 51 2 v n xs) (hg : w.grownBy w' v.ownBlock) : PRow b B w' u := by
  obtain ⟨l, h1, h2, h3⟩ := h
  exact ⟨l, Sep.kept (sep_types ho h1).symm h1 hg, h2, h3⟩
/-- With one shape more, appended. -/
theorem GS.snoc {b B : Nat} {w w' : World} {a a' : Option Addr} {n c c' : Nat} {R : List (Int × Value)} {k : Int} {u : Value} (h : GS b B w a n c R) (hk : kOk k) (hu : PRow b B w u)
    (hg : w.grownBy w' (Value.slice a n c).ownBlock) (ho : w'.ownsRow b 51 2 (.slice a' (n + 1) c') (n + 1) (shCells (R ++ [(k, u)]))) : GS b B w' a' (n + 1) c' (R ++ [(k, u)]) := by
  refine ⟨by have := h.len; simp [this], ho, fun r hr => ?_⟩
  rcases List.mem_append.1 hr with hr | hr
  · exact ⟨(h.row r hr).1, (h.row r hr).2.grown h.own hg⟩
  · simp at hr
    subst hr
    exact ⟨hk, hu.grown h.own hg⟩
theorem GS.row_at {b B : Nat} {w : World} {a : Option Addr} {n c : Nat} {R : List (Int × Value)} (h : GS b B w a n c R) {k : Nat} (hk : k < n) : ∃ g x u, a = some ⟨g, 0, none⟩ ∧ R[k]? = some (x, u) ∧ b ≤ g ∧ g < w.heap.size ∧
    w.cell? ⟨g, k * 2, none⟩ = some (.int .i64 x) ∧ w.cell? ⟨g, k * 2 + 1, none⟩ = some u ∧ (∀ j, w.frozen? ⟨g, j, none⟩ = false) ∧ kOk x ∧ PRow b B w u := by
  have hl := h.len
  have hr : R[k]? = some R[k] := List.getElem?_eq_getElem (by omega)
  obtain ⟨g, cap, e⟩ := ownsRow_some' h.own (by omega)
  simp only [Value.slice.injEq] at e
  obtain ⟨rfl, _, rfl⟩ := e
  obtain ⟨h1, h2⟩ := shCells_get hr
  have hlt := h.own.lt g rfl
  have q := h.row _ (List.mem_of_getElem? hr)
  have A : ∀ j u, (shCells R)[j]? = some u → w.cell? ⟨g, j, none⟩ = some u := fun j u hj => Rd.at0 (off := 0) (fun i v hi => ⟨_, rfl, h.own.cells rfl i v hi⟩) hj |> fun e => by simpa using e
  exact ⟨g, R[k].1, R[k].2, rfl, hr, hlt.1, hlt.2, A _ _ h1, A _ _ h2, fun j => h.own.frozenAt j, q.1, q.2⟩
/-- The rows of other shapes lie elsewhere. -/
def Lone (R : List (Int × Value)) (k : Nat) (v : Value) : Prop := ∀ i r, R[i]? = some r → i ≠ k → Sep v r.2
def Alone (R : List (Int × Value)) : Prop := ∀ k r, R[k]? = some r → Lone R k r.2
theorem Lone.moved {b B : Nat} {w : World} {a : Option Addr} {n c : Nat} {R : List (Int × Value)} (h : GS b B w a n c R) {k : Nat} {v u : Value} {y : Int} (hl : Lone R k v) (hm : u.ownBlock = v.ownBlock ∨ u.ownBlock = some w.heap.size) : Lone (R.set k (y, u)) k u := by
  intro i r hi hik
  rw [List.getElem?_set] at hi
  rw [if_neg (by omega)] at hi
  obtain ⟨_, l, q1, _⟩ := h.row r (List.mem_of_getElem? hi)
  exact Sep.moved (hl i r hi hik) q1 hm
theorem Alone.nil : Alone [] := fun k r h => by simp at h
theorem Alone.snoc {b B n : Nat} {w : World} {a : Option Addr} {c : Nat} {R : List (Int × Value)} (h : GS b B w a n c R) (hA : Alone R) {k : Int} {u : Value} (hu : ∀ g, u.ownBlock = some g → w.heap.size ≤ g) : Alone (R ++ [(k, u)]) := by
  have S : ∀ r ∈ R, Sep u r.2 := fun r hr g h1 h2 => by
    have := hu g h1
    have := (prow_lt (h.row r hr).2 g h2).2
    omega
  intro j r hr i s hs hne
  rw [List.getElem?_append] at hr hs
  split at hr <;> split at hs
  · exact hA j r hr i s hs hne
  · have : (k, u) = s := by
      have := List.mem_of_getElem? hs
      simp at this
      exact this.symm
    subst this
    exact (S r (List.mem_of_getElem? hr)).symm
  · have : (k, u) = r := by
      have := List.mem_of_getElem? hr
      simp at this
      exact this.symm
    subst this
    exact S s (List.mem_of_getElem? hs)
  · have hj := (List.getElem?_eq_some_iff.1 hr).1
    have hi := (List.getElem?_eq_some_iff.1 hs).1
    simp at hj hi
    omega
/-- A front of a row of points. -/
theorem PRow.front {b B m cap : Nat} {w : World} {a : Option Addr} (h : PRow b B w (.slice a m cap)) {j : Nat} (hj : j ≤ m) : PRow b B w (.slice a j cap) := by
  obtain ⟨l, h1, h2, h3⟩ := h
  have hm : m = l.length := by
    rcases h1.2 with ⟨e, h0⟩ | ⟨g, cap', cur, e, _⟩
    · cases e; omega
    · cases e; rfl
  refine ⟨l.take j, ?_, by rw [List.length_take]; omega, fun p hp => h3 p (List.mem_of_mem_take hp)⟩
  have hlj : (l.take j).length = j := by rw [List.length_take]; omega
  refine ⟨by rw [prs_length], ?_⟩
  rcases h1.2 with ⟨e, h0⟩ | ⟨g, cap', cur, e, q1, q2, q3, q4, q5, q6⟩
  · cases e
    have : j = 0 := by omega
    subst this
    exact .inl ⟨rfl, by simp⟩
  · cases e
    refine .inr ⟨g, cap, cur, by rw [hlj], q1, q2, by omega, q4, q5, ?_⟩
    rw [hlj]
    have e2 : prs (l.take j) = (prs l).take (j * 2) := by
      have h0 : l = l.take j ++ l.drop j := (List.take_append_drop j l).symm
      have h4 := prs_append (l.take j) (l.drop j)
      rw [← h0] at h4
      rw [h4]
      exact (List.take_left' (by rw [prs_length, hlj])).symm
    rw [e2, ← q6, List.take_take]
    congr 1
    omega
end Go.Proofs.Ytokdclbfjlnnjaa
