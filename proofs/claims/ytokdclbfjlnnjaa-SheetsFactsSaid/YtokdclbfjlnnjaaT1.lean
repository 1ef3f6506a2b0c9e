/- Contracts of the older kind, told of data. -/
import Derived.Test.YtokdclbfjlnnjaaMa
import Derived.Test.YtokdclbfjlnnjaaR36
import Derived.Test.YtokdclbfjlnnjaaR30
import Derived.Test.YtokdclbfjlnnjaaR31
import Derived.Test.YtokdclbfjlnnjaaA1
namespace Go.Ab
open Go.RowKit

inductive Pure : D → Prop
  | t {x : Tree} : Pure (.t x)
  | agg {ds : List D} (h : ∀ d ∈ ds, Pure d) : Pure (.agg ds)
  | tup {ds : List D} (h : ∀ d ∈ ds, Pure d) : Pure (.tup ds)
theorem DR.pure {ν ν' : Nat → Value} {nm nm' : Nat → Bool} {w : World} {G : Lim} {v : Value} {d : D} (h : DR ν nm w G v d) (hp : Pure d) : DR ν' nm' w G v d := by
  induction h with
  | t h => exact .t h
  | agg hl h h1 ih =>
    cases hp with
    | agg hp => exact .agg hl (fun i u d hu hd => ih i u d hu hd (hp d (List.mem_iff_getElem?.2 ⟨i, hd⟩))) h1
  | tup hl h ih =>
    cases hp with
    | tup hp => exact .tup hl (fun i u d hu hd => ih i u d hu hd (hp d (List.mem_iff_getElem?.2 ⟨i, hd⟩)))
  | own => cases hp
  | ref => cases hp
  | ptr => cases hp
  | fn => cases hp
  | any => cases hp

def DR0 (w : World) (G : Lim) (v : Value) (d : D) : Prop := DR (fun _ => .nilFunc) (fun _ => false) w G v d
def blkSize (w : World) (b : Nat) : Nat := match w.heap[b]? with | some (.cells c _ _) => c.size | _ => 0
/-- What may be relied on behind a call that made new blocks only. -/
def newG (w w' : World) (G : Lim) : Lim := fun b => if b < w.heap.size then G b else blkSize w' b

theorem does_calls {P : Program} {f : FuncId} {ds : List D} {ι : Type} {C : ι → Prop} {r : ι → D} (hds : ∀ d ∈ ds, Pure d) (hr : ∀ i, C i → Pure (r i))
    (h : ∀ (w : World) (G : Lim) (vs : Array Value), vs.size = ds.length → (∀ (i : Nat) (u : Value) (d : D), vs[i]? = some u → ds[i]? = some d → DR0 w G u d) →
      Calls P f vs w fun e w' => ∃ v, e = .returned v ∧ Aft w w' ∧ ∃ i, C i ∧ DR0 w' (newG w w' G) v (r i)) : DoesN P f ds [] C r (fun _ => []) := by
  intro E w vs hw _ hl ⟨ν, G, I⟩
  subst hw
  refine (h _ G vs hl (fun i u d hu hd => ?_)).mono ?_
  · obtain ⟨v, hv, hdv⟩ := I.T i d hd
    rw [hu] at hv
    cases hv
    exact hdv.pure (hds d (List.mem_iff_getElem?.2 ⟨i, hd⟩))
  · rintro e w' ⟨v, rfl, hA, i, hC, hd⟩
    have hG : ∀ b, b < E.w0.heap.size → newG E.w0 w' G b = G b := fun b hb => if_pos hb
    refine ⟨v, rfl, i, hC, ν, newG E.w0 w' G, ⟨hA.os, hA.tape, hA.output, hA.size, fun b hb _ => hA.block b hb⟩, fun b j u h => (I.keep b j u h).aft hA hG, I.pin, fun b hb hX => (hG b hb).trans (I.g0 b hb hX), rfl, fun t d' h => ?_, fun k o h => by simp [look] at h, fun k o k' o' h => by simp [look] at h⟩
    simp only at h
    split at h
    · rename_i e; subst e; cases h
      exact ⟨v, rfl, hd.pure (hr i hC)⟩
    · cases h
theorem does_calls1 {P : Program} {f : FuncId} {ds : List D} {r : D} (hds : ∀ d ∈ ds, Pure d) (hr : Pure r)
    (h : ∀ (w : World) (G : Lim) (vs : Array Value), vs.size = ds.length → (∀ (i : Nat) (u : Value) (d : D), vs[i]? = some u → ds[i]? = some d → DR0 w G u d) →
      Calls P f vs w fun e w' => ∃ v, e = .returned v ∧ Aft w w' ∧ DR0 w' (newG w w' G) v r) : Does P f ds [] r [] := fun E w vs h1 h2 h3 h4 =>
  (does_calls (C := fun _ : Unit => True) (r := fun _ => r) hds (fun _ _ => hr) (fun w G vs q1 q2 => (h w G vs q1 q2).mono fun _ _ ⟨v, e1, e2, e3⟩ => ⟨v, e1, e2, (), trivial, e3⟩) E w vs h1 h2 h3 h4).mono fun _ _ ⟨v, e1, _, _, e2⟩ => ⟨v, e1, e2⟩

/-- A row of a call's own, new. -/
theorem owned_tree {w w' : World} {G : Lim} {base : Nat} {e : TypeId} {s n : Nat} {v : Value} {xs : List Value} {ts : List Tree} (h : w'.ownsRow base e s v n xs) (hb : w.heap.size ≤ base) (hl : xs.length = ts.length)
    (ht : ∀ (i : Nat) (u : Value) (t : Tree), xs[i]? = some u → ts[i]? = some t → TR w' (newG w w' G) u t) : TR w' (newG w w' G) v (.sl n ts) := by
  have h0 : w'.ownsRow 0 e s v n xs := ⟨h.1, h.2.imp id fun ⟨g, cap, cur, hv, _, rest⟩ => ⟨g, cap, cur, hv, Nat.zero_le _, rest⟩⟩
  refine row_tree h0 hl ht (fun g hg => ?_)
  rcases h.2 with ⟨rfl, _⟩ | ⟨g', cap, cur, rfl, h1, h2, h3, h4, h5, h6⟩
  · cases hg
  · simp only [blk, Option.some.injEq] at hg
    subst hg
    unfold newG
    rw [if_neg (by omega)]
    unfold blkSize
    rw [h2]
    simp only
    rw [h5]
    exact Nat.mul_le_mul_right _ h3

theorem tr_v {w : World} {G : Lim} {v x : Value} (h : TR w G v (.v x)) : v = x := by cases h; rfl
theorem rd_of {w : World} {G : Lim} {b o : Nat} {us : List Value} (hc : ∀ (i : Nat) (u : Value), us[i]? = some u → Cell w G b (o + i) u) : Rd w (some ⟨b, o, none⟩) us := fun j v hj => ⟨_, rfl, by rw [Addr.add_mid]; exact (hc j v hj).1⟩
/-- A slice told as a tree, opened. -/
theorem tr_open {w : World} {G : Lim} {v : Value} {n : Nat} {ts : List Tree} (h : TR w G v (.sl n ts)) : ∃ a c us, v = .slice a n c ∧ us.length = ts.length ∧ Rd w a us ∧ n ≤ c ∧ (a = none → c = 0) ∧ ∀ (i : Nat) (u : Value) (t : Tree), us[i]? = some u → ts[i]? = some t → TR w G u t := by
  cases h with
  | nil h0 => exact ⟨_, _, [], rfl, rfl, Rd.nil, Nat.zero_le _, h0, fun i u t h => by simp at h⟩
  | sl b o _ c us _ hl hc hn h => exact ⟨_, c, us, rfl, hl, rd_of hc, hn, (fun e => by cases e), h⟩
end Go.Ab
namespace Go.Proofs.Ytokdclbfjlnnjaa
open Go.RowKit Go.Ab

def ptT (l : List Pt) : List Tree := l.flatMap fun p => [ti p.1, ti p.2]
def shT (L : List Sh) : List Tree := L.flatMap fun s => [ti s.1, .sl s.2.length (ptT s.2)]
def shtC (s : Sht) : List Tree := [ti s.x, ti s.wd, ti s.ht, .sl s.sh.length (shT s.sh), .sl s.of_.length (intsT s.of_)]
def shtT (l : List Sht) : List Tree := l.flatMap shtC

section
variable {w : World} {G : Lim}
abbrev Rel2 (w : World) (G : Lim) (us : List Value) (ts : List Tree) : Prop := ∀ (i : Nat) (u : Value) (t : Tree), us[i]? = some u → ts[i]? = some t → TR w G u t
theorem rel_cons {u : Value} {us : List Value} {t : Tree} {ts : List Tree} (h : Rel2 w G (u :: us) (t :: ts)) : TR w G u t ∧ Rel2 w G us ts := ⟨h 0 u t rfl rfl, fun i u' t' h1 h2 => h (i + 1) u' t' (by simpa using h1) (by simpa using h2)⟩
theorem ints_back : ∀ (l : List Int) (us : List Value), us.length = (intsT l).length → Rel2 w G us (intsT l) → us = i64s l
  | [], us, h, _ => List.eq_nil_of_length_eq_zero (by simpa [intsT] using h)
  | x :: l, [], h, _ => by simp [intsT] at h
  | x :: l, u :: us, h, hr => by
    obtain ⟨h1, h2⟩ := rel_cons hr
    rw [tr_v h1, ints_back l us (by simpa [intsT] using h) h2]
    rfl
theorem pts_back : ∀ (l : List Pt) (us : List Value), us.length = (ptT l).length → Rel2 w G us (ptT l) → us = prs l
  | [], us, h, _ => List.eq_nil_of_length_eq_zero (by simpa [ptT] using h)
  | x :: l, [], h, _ => by simp [ptT] at h
  | x :: l, [u], h, _ => by simp [ptT] at h
  | x :: l, u :: u' :: us, h, hr => by
    have hr' : Rel2 w G (u :: u' :: us) (ti x.1 :: ti x.2 :: ptT l) := hr
    obtain ⟨h1, h2⟩ := rel_cons hr'
    obtain ⟨h3, h4⟩ := rel_cons h2
    rw [tr_v h1, tr_v h3, pts_back l us (by simp [ptT] at h ⊢; omega) h4]
    rfl
theorem shs_back : ∀ (L : List Sh) (us : List Value), us.length = (shT L).length → Rel2 w G us (shT L) → ∃ R : List (Int × Value), us = shCells R ∧ R.length = L.length ∧ ∀ (i : Nat) (r : Int × Value) (s : Sh), R[i]? = some r → L[i]? = some s → r.1 = s.1 ∧ TR w G r.2 (.sl s.2.length (ptT s.2))
  | [], us, h, _ => ⟨[], List.eq_nil_of_length_eq_zero (by simpa [shT] using h), rfl, fun i r s h => by simp at h⟩
  | x :: l, [], h, _ => by simp [shT] at h
  | x :: l, [u], h, _ => by simp [shT] at h
  | x :: l, u :: u' :: us, h, hr => by
    have hr' : Rel2 w G (u :: u' :: us) (ti x.1 :: .sl x.2.length (ptT x.2) :: shT l) := hr
    obtain ⟨h1, h2⟩ := rel_cons hr'
    obtain ⟨h3, h4⟩ := rel_cons h2
    obtain ⟨R, e1, e2, e3⟩ := shs_back l us (by simp [shT] at h ⊢; omega) h4
    refine ⟨(x.1, u') :: R, by rw [tr_v h1, e1]; rfl, by simp [e2], fun i r s hr hs => ?_⟩
    cases i with
    | zero => simp at hr hs; subst hr hs; exact ⟨rfl, h3⟩
    | succ i => exact e3 i r s (by simpa using hr) (by simpa using hs)
theorem tr_ints {v : Value} {l : List Int} (h : TR w G v (.sl l.length (intsT l))) (ok : okI l) (hl : l.length ≤ 17592186043904) : Ints w v l := by
  obtain ⟨a, c, us, rfl, h1, h2, h3, h4, h5⟩ := tr_open h
  have := ints_back l us h1 h5
  subst this
  exact ⟨a, c, rfl, rfl, h2, ok, h3, h4, by omega⟩
theorem tr_prs {v : Value} {l : List Pt} (h : TR w G v (.sl l.length (ptT l))) (ok : okP l) (hl : l.length ≤ 1000) : Prs w v l := by
  obtain ⟨a, c, us, rfl, h1, h2, h3, h4, h5⟩ := tr_open h
  have := pts_back l us h1 h5
  subst this
  exact ⟨a, c, rfl, rfl, h2, ok, h3, h4, by omega⟩
theorem tr_shs {v : Value} {L : List Sh} (h : TR w G v (.sl L.length (shT L))) (ok : ∀ s ∈ L, okP s.2 ∧ s.2.length ≤ 1000) (hl : L.length ≤ 1000) : Shs w v L := by
  obtain ⟨a, c, us, rfl, h1, h2, h3, h4, h5⟩ := tr_open h
  obtain ⟨R, e1, e2, e3⟩ := shs_back L us h1 h5
  subst e1
  refine ⟨a, c, R, rfl, rfl, e2, h2, fun i r s hr hs => ?_, h3, h4, by omega⟩
  obtain ⟨q1, q2⟩ := e3 i r s hr hs
  have hm := ok s (List.mem_iff_getElem?.2 ⟨i, hs⟩)
  exact ⟨q1, tr_prs q2 hm.1 hm.2⟩
end

section
variable {w w' : World} {G : Lim}
theorem rel_of_nil : Rel2 w G [] [] := fun i u t h => by simp at h
theorem rel_cons' {u : Value} {us : List Value} {t : Tree} {ts : List Tree} (h1 : TR w G u t) (h2 : Rel2 w G us ts) : Rel2 w G (u :: us) (t :: ts) := fun i u' t' h h' => by
  cases i with
  | zero => simp at h h'; subst h h'; exact h1
  | succ i => exact h2 i u' t' (by simpa using h) (by simpa using h')
theorem ints_len (l : List Int) : (i64s l).length = (intsT l).length := by simp [i64s, intsT]
theorem ints_rel : ∀ l : List Int, Rel2 w G (i64s l) (intsT l)
  | [] => rel_of_nil
  | _ :: l => rel_cons' (.v _ rfl) (ints_rel l)
theorem pts_len : ∀ l : List Pt, (prs l).length = (ptT l).length
  | [] => rfl
  | x :: l => by
    have e1 : (prs (x :: l)).length = 2 + (prs l).length := by simp [prs, pcells]; omega
    have e2 : (ptT (x :: l)).length = 2 + (ptT l).length := by simp [ptT]; omega
    rw [e1, e2, pts_len l]
theorem pts_rel : ∀ l : List Pt, Rel2 w G (prs l) (ptT l)
  | [] => rel_of_nil
  | x :: l => by
    show Rel2 w G (.int .i64 x.1 :: .int .i64 x.2 :: prs l) (ti x.1 :: ti x.2 :: ptT l)
    exact rel_cons' (.v _ rfl) (rel_cons' (.v _ rfl) (pts_rel l))
theorem gx_tree {base : Nat} {a : Option Addr} {n c : Nat} {R : List (Int × Value)} {L : List Sh} (h : GX base w' a n c R L) (hb : w.heap.size ≤ base) : TR w' (newG w w' G) (.slice a n c) (.sl L.length (shT L)) := by
  have hn := h.len
  have gen : ∀ (R : List (Int × Value)) (L : List Sh), R.length = L.length → (∀ (i : Nat) (r : Int × Value) (s : Sh), R[i]? = some r → L[i]? = some s → r.1 = s.1 ∧ TR w' (newG w w' G) r.2 (.sl s.2.length (ptT s.2))) → (shCells R).length = (shT L).length ∧ Rel2 w' (newG w w' G) (shCells R) (shT L) := by
    intro R
    induction R with
    | nil => intro L hl _; cases L with
      | nil => exact ⟨rfl, rel_of_nil⟩
      | cons => simp at hl
    | cons r R ih =>
      intro L hl hr
      cases L with
      | nil => simp at hl
      | cons s L =>
        obtain ⟨h1, h2⟩ := ih L (by simpa using hl) (fun i r s h h' => hr (i + 1) r s (by simpa using h) (by simpa using h'))
        obtain ⟨q1, q2⟩ := hr 0 r s rfl rfl
        refine ⟨?_, ?_⟩
        · have e1 : (shCells (r :: R)).length = 2 + (shCells R).length := by simp [shCells]; omega
          have e2 : (shT (s :: L)).length = 2 + (shT L).length := by simp [shT]; omega
          rw [e1, e2, h1]
        · show Rel2 w' (newG w w' G) (.int .i64 r.1 :: r.2 :: shCells R) (ti s.1 :: .sl s.2.length (ptT s.2) :: shT L)
          rw [q1]
          exact rel_cons' (.v _ rfl) (rel_cons' q2 h2)
  obtain ⟨h1, h2⟩ := gen R L (by rw [h.lenR, h.len]) (fun i r s hr hs => by
    obtain ⟨q1, q2, q3, q4⟩ := h.row i r s hr hs
    exact ⟨q1, owned_tree q2 hb (pts_len s.2) (pts_rel s.2)⟩)
  have := owned_tree (w := w) (G := G) h.own hb h1 h2
  rw [hn]
  exact this
theorem sx_tree {e5 : TypeId} {base : Nat} {v : Value} {l : List Sht} (h : SX e5 base w' v l) (hb : w.heap.size ≤ base) : TR w' (newG w w' G) v (.sl l.length (shtT l)) := by
  obtain ⟨Q, h1, h2, h3⟩ := h
  have gen : ∀ (Q : List Q5) (l : List Sht), Q.length = l.length → (∀ (i : Nat) (q : Q5) (s : Sht), Q[i]? = some q → l[i]? = some s → q.1 = s.x ∧ q.2.1 = s.wd ∧ q.2.2.1 = s.ht ∧ FX base w' s q.2.2.2.1 q.2.2.2.2) → (cells5 Q).length = (shtT l).length ∧ Rel2 w' (newG w w' G) (cells5 Q) (shtT l) := by
    intro Q
    induction Q with
    | nil => intro l hl _; cases l with
      | nil => exact ⟨rfl, rel_of_nil⟩
      | cons => simp at hl
    | cons q Q ih =>
      intro l hl hr
      cases l with
      | nil => simp at hl
      | cons s l =>
        obtain ⟨k1, k2⟩ := ih l (by simpa using hl) (fun i r s h h' => hr (i + 1) r s (by simpa using h) (by simpa using h'))
        obtain ⟨q1, q2, q3, ⟨⟨a, n, c, R, e1, hG, hn⟩, f2, f3, f4⟩⟩ := hr 0 q s rfl rfl
        refine ⟨?_, ?_⟩
        · have e1 : (cells5 (q :: Q)).length = 5 + (cells5 Q).length := by simp [cells5]; omega
          have e2 : (shtT (s :: l)).length = 5 + (shtT l).length := by simp [shtT, shtC]; omega
          rw [e1, e2, k1]
        · show Rel2 w' (newG w w' G) (.int .i64 q.1 :: .int .i64 q.2.1 :: .int .i64 q.2.2.1 :: q.2.2.2.1 :: q.2.2.2.2 :: cells5 Q) (ti s.x :: ti s.wd :: ti s.ht :: .sl s.sh.length (shT s.sh) :: .sl s.of_.length (intsT s.of_) :: shtT l)
          rw [q1, q2, q3, e1]
          exact rel_cons' (.v _ rfl) (rel_cons' (.v _ rfl) (rel_cons' (.v _ rfl) (rel_cons' (gx_tree hG hb) (rel_cons' (owned_tree f2 hb (ints_len s.of_) (ints_rel s.of_)) k2))))
  obtain ⟨k1, k2⟩ := gen Q l h2 h3
  exact owned_tree h1 hb k1 k2
end
end Go.Proofs.Ytokdclbfjlnnjaa
