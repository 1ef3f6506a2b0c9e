/- The abstract machine: appends, values that are built, parts of values, lengths. -/
import Derived.Test.YtokdclbfjlnnjaaM6
namespace Go.Ab
open Go.RowKit

/-! ### append -/
structure AppT (P : Program) (t e : TypeId) (z : Value) (s bytes : Nat) : Prop where
  u : P.underlying t = some (.slice e)
  i : (P.info? e).map (fun i => (i.zero, i.size, i.bytes)) = some (some z, s, bytes)
  z : z.cells.size = s
  s : 0 < s

theorem run_app {P : Program} {t ty e : TypeId} {z : Value} {s bytes : Nat} (hT : AppT P t e z s bytes) {w : World} {v : Value} {n : Nat} {xs : List Value} (hown : w.ownsRow 0 e s v n xs) {ax : Option Addr} {m c : Nat} {news : List Value} (hl : news.length = m * s) (hnews : Rd w ax news) (hc : ax = none → c = 0)
    (h1 : ∀ u ∈ news, u.oneCell' = true) (h63 : n + m ≤ maxLen) (hbytes : (n + m) * bytes ≤ 140737488355328) :
    ∃ v' w', (Builtin.append_ #[t, t] ty #[v, .slice ax m c]).run P w = .ok v' w' ∧ w'.ownsRow 0 e s v' (n + m) (xs ++ news) ∧ w'.os = w.os ∧ w'.tape = w.tape ∧ w'.output = w.output ∧ w.heap.size ≤ w'.heap.size ∧
      (∀ b, b < w.heap.size → v.ownBlock ≠ some b → w'.heap[b]? = w.heap[b]?) ∧ (∀ g i, v.ownBlock = some g → i < n * s → w'.cell? ⟨g, i, none⟩ = w.cell? ⟨g, i, none⟩) ∧ ∀ g, v'.ownBlock = some g → w.heap.size ≤ g ∨ v.ownBlock = some g := by
  obtain ⟨i, hi, hz, h2, h3⟩ := info_parts hT.i
  cases ax with
  | none =>
    have hnil : news = [] := Rd.none_nil hnews
    subst hnil
    have hm : m = 0 := by
      have := hl
      simp only [List.length_nil] at this
      rcases Nat.mul_eq_zero.1 this.symm with h | h
      · exact h
      · have := hT.s; omega
    subst hm
    have := hc rfl
    subst this
    have hsame : (Builtin.append_ #[t, t] ty #[v, .slice none 0 0]).run P w = .ok v w := by
      rcases hown.2 with ⟨rfl, rfl⟩ | ⟨g, cap, cur, rfl, _, hg, hnc, _, _, _⟩
      · simp [Builtin.append_, run_underlying hT.u, sizeOf, typeInfo, hi, Builtin.lenOf, Builtin.firstCells]
      · simp [Builtin.append_, run_underlying hT.u, sizeOf, typeInfo, hi, Builtin.lenOf, Builtin.firstCells, hnc, storeCells]
    exact ⟨v, w, hsame, by simpa using hown, rfl, rfl, rfl, Nat.le_refl _, fun _ _ _ => rfl, fun _ _ _ _ => rfl, fun g hg => .inr hg⟩
  | some ad =>
    have hn' : ∀ j u, news[j]? = some u → w.cell? (ad.add j) = some u := fun j u hj => by
      obtain ⟨ad', e', hc'⟩ := hnews j u hj
      cases e'
      exact hc'
    obtain ⟨v', w', hr, r2, r3, r4⟩ := run_append_own (P := P) w 0 t ty e i z s bytes hT.u hi hz h2 h3 hT.z hT.s v n xs hown ad m c news hl hn' h1 h63 hbytes (Nat.zero_le _)
    have key : (v'.ownBlock = v.ownBlock ∧ (m = 0 ∨ v'.ownBlock ≠ none)) ∨ (v'.ownBlock = some w.heap.size ∧ ∀ b, b < w.heap.size → w'.heap[b]? = w.heap[b]?) := by
      rcases hown.2 with ⟨rfl, rfl⟩ | ⟨g, cap, cur, rfl, _, hg, hnc, hcm, hcs, htake⟩
      · by_cases hm : m = 0
        · left
          rw [r4.2 ⟨rfl, hm⟩]
          exact ⟨rfl, .inl hm⟩
        · right
          have hr' := run_append_nil (P := P) w t ty e i z hT.u hi hz ad m c news (by rw [h2]; exact hl) hn' (by omega) (by simp only [maxLen] at h63; omega) (by rw [h3]; simp only [Nat.zero_add] at hbytes; omega)
          rw [hr'] at hr
          cases hr
          exact ⟨rfl, fun b hb => heap_alloc_old _ _ hb⟩
      · by_cases hroom : n + m ≤ cap
        · left
          have hfit : n * i.size + news.length ≤ cur.size := by rw [hl, hcs, h2, ← Nat.add_mul]; exact Nat.mul_le_mul_right _ hroom
          have hr' := run_append_room (P := P) w t ty e i hT.u hi g n cap cur hg ad m c news (by rw [h2]; exact hl) hn' h1 hroom hfit
          rw [hr'] at hr
          cases hr
          exact ⟨rfl, .inr (by simp [Value.ownBlock])⟩
        · right
          have holds : ∀ j u, xs[j]? = some u → w.cell? ((⟨g, 0, none⟩ : Addr).add j) = some u := hown.cells (g := g) rfl
          have hr' := run_append_grow (P := P) w t ty e i z hT.u hi hz ⟨g, 0, none⟩ n cap xs (by rw [h2]; exact hown.1) holds ad m c news (by rw [h2]; exact hl) hn' (by omega) (by simp only [maxLen] at h63; omega) (growslice_fits (by omega) (by rw [h3]; exact hbytes))
          rw [hr'] at hr
          cases hr
          exact ⟨rfl, fun b hb => heap_alloc_old _ _ hb⟩
    refine ⟨v', w', hr, r2, r3.os, r3.tape, r3.output, r3.size, fun b hb hne => r3.block b hb (fun e => hne e.symm), fun g j hg hj => ?_, fun g hg => ?_⟩
    · have hgl : g < w.heap.size := (hown.lt g hg).2
      rcases key with ⟨k1, _⟩ | ⟨_, k2⟩
      · have hx : xs[j]? = some (xs[j]'(by rw [hown.1]; exact hj)) := List.getElem?_eq_getElem _
        have c1 := hown.cells hg j _ hx
        have c2 := r2.cells (g := g) (by rw [k1]; exact hg) j _ (by rw [List.getElem?_append_left (by rw [hown.1]; exact hj)]; exact hx)
        rw [Addr.add_mid, Nat.zero_add] at c1 c2
        rw [c1, c2]
      · exact World.cell?_of_block (a := ⟨g, j, none⟩) (k2 g hgl)
    · rcases key with ⟨k1, _⟩ | ⟨k1, _⟩
      · exact .inr (by rw [← k1]; exact hg)
      · rw [k1] at hg; cases hg; exact .inl (Nat.le_refl _)

/-- What a slice operand holds. -/
inductive Src (σ : St) (x : Operand) : Nat → List Tree → Prop
  | t {n : Nat} {ts : List Tree} (h : σ.ev x = some (.t (.sl n ts))) : Src σ x n ts
  | own {k n : Nat} {ts : List Tree} {e : TypeId} {s : Nat} {st : Bool} (h : σ.ev x = some (.own k)) (hk : σ.H k = some (.row e s n ts st)) : Src σ x n ts
  | nil (h : σ.ev x = some (.t (.v (.slice none 0 0)))) : Src σ x 0 []

theorem Src.rd {σ σ₁ : St} {x : Operand} {n : Nat} {ts : List Tree} (h : Src σ x n ts) {E : Env} {ν : Nat → Value} {G : Lim} {w : World} {a : Act} (hT : ∀ t d, σ.T t = some d → σ₁.T t = some d) (hH : ∀ k o, σ.H k = some o → σ₁.H k = some o) (I : Inv E σ₁ ν G w a.tmps) :
    ∃ ax c us, a.eval x = .slice ax n c ∧ us.length = ts.length ∧ Rd w ax us ∧ (ax = none → c = 0 ∧ n = 0) ∧ ∀ (i : Nat) (u : Value) (t : Tree), us[i]? = some u → ts[i]? = some t → TR w G u t := by
  cases h with
  | t h =>
    have hv := I.ev (St.ev_le hT h)
    obtain ⟨v, he⟩ : ∃ v, a.eval x = v := ⟨_, rfl⟩
    rw [he] at hv ⊢
    cases hv with
    | t hv =>
      cases hv with
      | nil h0 => exact ⟨_, _, [], rfl, rfl, Rd.nil, fun e => ⟨h0 e, rfl⟩, fun i u t h => by simp at h⟩
      | sl b q _ c us _ hl hc hn h => exact ⟨_, c, us, rfl, hl, fun j u hj => ⟨_, rfl, by rw [Addr.add_mid]; exact (hc j u hj).1⟩, (fun e => by cases e), h⟩
  | own h hk =>
    have hv := I.ev (St.ev_le hT h)
    obtain ⟨v, he⟩ : ∃ v, a.eval x = v := ⟨_, rfl⟩
    rw [he] at hv ⊢
    cases hv with
    | own _ _ =>
      obtain ⟨xs, r1, r2, r3, r4⟩ := (I.H _ _ (hH _ _ hk)).2
      rcases r1.2 with ⟨hv, hn⟩ | ⟨g, cap, cur, hv, _⟩
      · have hx : xs = [] := List.eq_nil_of_length_eq_zero (by rw [r1.1, hn, Nat.zero_mul])
        exact ⟨none, 0, xs, by rw [hv, hn], r2, by rw [hx]; exact Rd.nil, fun _ => ⟨rfl, hn⟩, r3⟩
      · exact ⟨_, cap, xs, hv, r2, fun j u hj => ⟨_, rfl, r1.cells (by rw [hv]; rfl) j u hj⟩, (fun e => by cases e), r3⟩
  | nil h =>
    have hv := bool_of (I.ev (St.ev_le hT h))
    exact ⟨none, 0, [], hv, rfl, Rd.nil, fun _ => ⟨rfl, rfl⟩, fun i u t h => by simp at h⟩

/-- Where append begins. -/
inductive Dst (σ : St) (s : Operand) (e : TypeId) (size : Nat) (st : Bool) : Option Nat → Nat → List Tree → Prop
  | own {k n : Nat} {ts : List Tree} (h : σ.ev s = some (.own k)) (hk : σ.H k = some (.row e size n ts st)) : Dst σ s e size st (some k) n ts
  | nil (h : σ.ev s = some (.t (.v (.slice none 0 0)))) : Dst σ s e size st none 0 []
  | nil' (h : σ.ev s = some (.t (.sl 0 []))) (hnil : False) : Dst σ s e size st none 0 []

def appW (k0 : Option Nat) (fr : Nat) (o : AObj) : Wr := match k0 with | some k => [(fr, some o), (k, none)] | none => [(fr, some o)]

section
variable {P : Program} {o : Oper} {σ : St} {fr : Nat}
theorem ok_append {t e : TypeId} {z : Value} {size bytes : Nat} (st : Bool) {s x : Operand} {k0 : Option Nat} {n m : Nat} {ts ys : List Tree} (hT : AppT P t e z size bytes) (ho : o.op = .call { callee := .builtin .append, args := #[s, x], argTypes := #[t, t] })
    (hs : Dst σ s e size st k0 n ts) (hx : Src σ x m ys) (hl : ys.length = m * size) (hb : (n + m) * bytes ≤ 140737488355328 ∧ n + m ≤ maxLen) : OpOk P o σ fr (.own fr) (appW k0 fr (.row e size (n + m) (ts ++ ys) st)) := by
  intro E σ₁ a w hTT hHH h100 hf hd ⟨ν, G, I⟩ Q
  obtain ⟨ax, c, us, hxv, hul, hrd, hnone, htr⟩ := hx.rd hTT hHH I
  have hone : ∀ u ∈ us, u.oneCell' = true := fun u hu => by
    obtain ⟨i, hi⟩ := List.mem_iff_getElem?.1 hu
    have hlt : i < ys.length := by rw [← hul]; exact (List.getElem?_eq_some_iff.1 hi).1
    exact (htr i u _ hi (List.getElem?_eq_getElem hlt)).one
  -- the row that grows
  have hrow : ∃ v xs, a.eval s = v ∧ w.ownsRow 0 e size v n xs ∧ xs.length = ts.length ∧ (∀ (i : Nat) (u : Value) (t : Tree), xs[i]? = some u → ts[i]? = some t → TR w G u t) ∧ (∀ k, some k = k0 → ν k = v ∧ ∃ ob, σ₁.H k = some ob) ∧ (k0 = none → v.ownBlock = none) ∧
      (∀ g, v.ownBlock = some g → E.may g ∧ G g = if st then n * size else 0) := by
    cases hs with
    | @own k _ _ h hk =>
      have hv := I.ev (St.ev_le hTT h)
      obtain ⟨v, he⟩ : ∃ v, a.eval s = v := ⟨_, rfl⟩
      rw [he] at hv
      cases hv with
      | own _ _ =>
        obtain ⟨xs, r1, r2, r3, r4⟩ := (I.H _ _ (hHH _ _ hk)).2
        exact ⟨_, xs, he, r1, r2, r3, (fun k' hk' => by cases hk'; exact ⟨rfl, _, hHH _ _ hk⟩), (fun e => by cases e), fun g hg => r4 g (blk_own hg)⟩
    | nil h =>
      have hv := bool_of (I.ev (St.ev_le hTT h))
      exact ⟨_, [], hv, World.ownsRow_nil w 0 e size, rfl, (fun i u t h => by simp at h), (fun k h => by cases h), (fun _ => rfl), (fun g hg => by cases hg)⟩
    | nil' h hn => exact hn.elim
  obtain ⟨v, xs, hsv, hown, hxl, hxt, hk0, hk0n, hmay⟩ := hrow
  obtain ⟨v', w', hr, r2, q1, q2, q3, q4, q5, q6, q7⟩ := run_app (ty := o.type) hT hown (m := m) (c := c) (by rw [hul]; exact hl) hrd (fun e => (hnone e).1) hone hb.2 hb.1
  unfold Oper.wp
  have he : (execOp a.eval o).run P w = .ok (.value v') w' := by
    unfold execOp
    rw [ho]
    simp [resolve, invoke, builtin, hsv, hxv, hr]
  rw [he, Oper.upon_value]
  have hcell : ∀ b i u, Cell w G b i u → Cell w' (fun b => if v'.ownBlock = some b then (if st then (n + m) * size else 0) else G b) b i u := fun b i u h => by
    by_cases hb' : v.ownBlock = some b
    · have hG := (hmay b hb').2
      have h2 := h.2
      rw [hG] at h2
      cases st with
      | false => simp at h2
      | true =>
        simp only [if_true] at h2 hG
        refine ⟨(q6 b i hb' h2).trans h.1, ?_⟩
        show i < if v'.ownBlock = some b then (if true = true then (n + m) * size else 0) else G b
        split
        · simp only [if_true]
          exact Nat.lt_of_lt_of_le h2 (Nat.mul_le_mul_right _ (Nat.le_add_right _ _))
        · rw [hG]; exact h2
    · refine ⟨(World.cell?_of_block (a := ⟨b, i, none⟩) (q5 b h.lt hb')).trans h.1, ?_⟩
      have : v'.ownBlock ≠ some b := fun e => by
        rcases q7 b e with h' | h'
        · have := h.lt; omega
        · exact hb' h'
      simp only [if_neg this]
      exact h.2
  have hblkv : ∀ g, blk v' = some g → v'.ownBlock = some g := fun g hg => by rw [← ownsRow_blk r2]; exact hg
  refine ⟨put_defers .., setν ν fr v', _, I.new h100 hf hd k0 (o := .row e size (n + m) (ts ++ ys) st) (fun k => ?_) q1 q2 q3 q4 (fun b hb hnk => ?_) hcell (fun k g hk hg => ?_) (fun k hk => (hk0 k hk).2) (x := v') (fun g hg => ?_) ?_ ?_⟩
  · cases k0 with
    | none =>
      by_cases h : k = fr
      · subst h; simp [appW, look]
      · simp [appW, look, h, Ne.symm h]
    | some j =>
      by_cases h : k = fr
      · subst h; simp [appW, look]
      · by_cases h' : k = j
        · subst h'; simp [appW, look, h, Ne.symm h]
        · simp [appW, look, h, Ne.symm h, h', Ne.symm h']
  · have hne : v.ownBlock ≠ some b := fun e => by
      cases k0 with
      | none => rw [hk0n rfl] at e; cases e
      | some j => exact hnk j rfl (by rw [(hk0 j rfl).1, ownsRow_blk hown]; exact e)
    refine ⟨q5 b hb hne, if_neg (fun e => ?_)⟩
    rcases q7 b e with h | h
    · omega
    · exact hne h
  · rw [(hk0 k hk).1, ownsRow_blk hown] at hg
    exact (hmay g hg).1
  · rcases q7 g (hblkv g hg) with h | h
    · exact .inl h
    · cases k0 with
      | none => rw [hk0n rfl] at h; cases h
      | some j => exact .inr ⟨j, rfl, by rw [(hk0 j rfl).1, ownsRow_blk hown]; exact h⟩
  · refine ⟨xs ++ us, by rw [setν_same]; exact r2, by simp [hxl, hul], fun i u t hu ht => ?_, fun g hg => ?_⟩
    · by_cases hi : i < xs.length
      · rw [List.getElem?_append_left hi] at hu
        rw [List.getElem?_append_left (by omega)] at ht
        exact (hxt i u t hu ht).mono hcell
      · rw [List.getElem?_append_right (by omega)] at hu
        rw [List.getElem?_append_right (by omega)] at ht
        exact (htr _ u t hu (by rw [hxl]; exact ht)).mono hcell
    · rw [setν_same] at hg
      have hg' := hblkv g hg
      refine ⟨?_, if_pos hg'⟩
      rcases q7 g hg' with h | h
      · exact .inl (Nat.le_trans I.kept.size h)
      · exact (hmay g h).1
  · have : DR (setν ν fr v') (σ₁.upd o.dst .any (appW k0 fr (.row e size (n + m) (ts ++ ys) st)) fr).nm w' (fun b => if v'.ownBlock = some b then (if st then (n + m) * size else 0) else G b) (setν ν fr v' fr) (.own fr) := .own (upd_nm_fr ..) (by rw [setν_same]; exact ownsRow_one r2)
    rw [setν_same] at this
    exact this

/-! ### Lengths -/
theorem ok_len {t : TypeId} {x : Operand} {n : Nat} {ts : List Tree} {e : TypeId} {tys : Array TypeId} (hu : P.underlying t = some (.slice e)) (ho : o.op = .call { callee := .builtin .len, args := #[x], argTypes := tys }) (hty : tys = #[t]) (hx : Src σ x n ts) : OpOk P o σ fr (I n) [] := by
  intro E σ₁ a w hT hH h100 hf hd ⟨ν, G, I⟩ Q
  obtain ⟨ax, c, us, hxv, _⟩ := hx.rd hT hH I
  subst hty
  unfold Oper.wp
  have he : (execOp a.eval o).run P w = .ok (.value (.int .i64 n)) w := by
    unfold execOp
    rw [ho]
    simp [resolve, invoke, builtin, hxv, Builtin.len_, run_underlying hu, goInt]
  rw [he, Oper.upon_value]
  exact ⟨put_defers .., ν, G, I.put (.t (.v _ rfl)) hd fr a rfl⟩

/-! ### Values that are built -/
def fillD (pl : List (Nat × Nat)) : List D → List (Nat × D) → Option (List D)
  | cells, [] => some cells
  | cells, (i, d) :: rest => match pl[i]? with
    | none => none
    | some (off, size) => if d.val && (d.cells.length == size) && decide (off + d.cells.length ≤ cells.length) then fillD pl (splice cells off d.cells) rest else none
theorem foldl_setMany : ∀ (vs : List Value) (k off : Nat) (cells : Array Value), (vs.zipIdx k).foldl (fun cs (c, j) => cs.setIfInBounds (off + j) c) cells = setMany cells (off + k) vs
  | [], _, _, _ => rfl
  | v :: r, k, off, cells => by
    rw [List.zipIdx_cons, List.foldl_cons, foldl_setMany r (k + 1) off, setMany, Nat.add_assoc]

theorem fill_rel {ν : Nat → Value} {nm : Nat → Bool} {w : World} {G : Lim} {place : Nat → Option (Nat × Nat)} {pl : List (Nat × Nat)} (hpl : ∀ i p, pl[i]? = some p → place i = some p) : ∀ (parts : List (Nat × Value)) (ds : List (Nat × D)) (cells : Array Value) (cs out : List D),
    parts.length = ds.length → (∀ (i : Nat) (p : Nat × Value) (q : Nat × D), parts[i]? = some p → ds[i]? = some q → p.1 = q.1 ∧ DR ν nm w G p.2 q.2) → cells.size = cs.length → (∀ (i : Nat) (u : Value) (d : D), cells[i]? = some u → cs[i]? = some d → DR ν nm w G u d ∧ u.oneCell' = true) → fillD pl cs ds = some out →
    ∃ res, Instr.fill place cells parts = some res ∧ res.size = out.length ∧ ∀ (i : Nat) (u : Value) (d : D), res[i]? = some u → out[i]? = some d → DR ν nm w G u d ∧ u.oneCell' = true
  | [], [], cells, cs, out, _, _, hs, hr, hf => by cases hf; exact ⟨cells, rfl, hs, hr⟩
  | [], _ :: _, _, _, _, h, _, _, _, _ => by cases h
  | _ :: _, [], _, _, _, h, _, _, _, _ => by cases h
  | (i, v) :: rest, (i', d) :: ds, cells, cs, out, hlen, hp, hs, hr, hf => by
    obtain ⟨h1, h2⟩ := hp 0 (i, v) (i', d) rfl rfl
    simp only at h1 h2
    subst h1
    simp only [fillD] at hf
    split at hf
    · cases hf
    · rename_i off size hpi
      split at hf
      · rename_i hc
        simp only [Bool.and_eq_true, beq_iff_eq, decide_eq_true_eq] at hc
        obtain ⟨⟨c1, c2⟩, c3⟩ := hc
        obtain ⟨g1, g2⟩ := h2.cells c1
        have hstep : Instr.fill place cells ((i, v) :: rest) = Instr.fill place (setMany cells off v.cells.toList) rest := by
          simp only [Instr.fill, hpl i _ hpi]
          rw [if_neg (by simp [g1, c2]; omega)]
          congr 1
          have := foldl_setMany v.cells.toList 0 off cells
          rw [Nat.add_zero] at this
          rw [← this, ← Array.foldl_toList]
          simp
        rw [hstep]
        have hvl : v.cells.toList.length = d.cells.length := by simpa using g1
        refine fill_rel hpl rest ds _ _ out (by simpa using hlen) (fun j p q h h' => hp (j + 1) p q (by simpa using h) (by simpa using h')) (by rw [setMany_size, splice_length c3]; exact hs) (fun j u e hu he => ?_) hf
        rw [setMany_get _ _ _ _ (by omega)] at hu
        rw [splice_get c3] at he
        by_cases k1 : j < off
        · rw [if_pos k1] at hu he; exact hr j u e hu he
        · rw [if_neg k1] at hu he
          by_cases k2 : j < off + d.cells.length
          · rw [if_pos (by omega)] at hu
            rw [if_pos k2] at he
            exact g2 _ u e (by simpa using hu) he
          · rw [if_neg (by omega)] at hu
            rw [if_neg k2] at he
            exact hr j u e hu he
      · cases hf

def evParts (σ : St) : List (Nat × Operand) → Option (List (Nat × D))
  | [] => some []
  | p :: l => match σ.ev p.2, evParts σ l with
    | some d, some r => some ((p.1, d) :: r)
    | _, _ => none
theorem evParts_rel {σ : St} {ν : Nat → Value} {nm : Nat → Bool} {w : World} {G : Lim} {ρ : Operand → Value} (hev : ∀ x d, σ.ev x = some d → DR ν nm w G (ρ x) d) : ∀ (l : List (Nat × Operand)) (ds : List (Nat × D)), evParts σ l = some ds →
    (l.map fun p => (p.1, ρ p.2)).length = ds.length ∧ ∀ (i : Nat) (p : Nat × Value) (q : Nat × D), (l.map fun p => (p.1, ρ p.2))[i]? = some p → ds[i]? = some q → p.1 = q.1 ∧ DR ν nm w G p.2 q.2
  | [], ds, h => by cases h; exact ⟨rfl, fun i p q h => by simp at h⟩
  | x :: l, ds, h => by
    simp only [evParts] at h
    split at h
    · rename_i d r hd hr
      cases h
      obtain ⟨h1, h2⟩ := evParts_rel hev l r hr
      refine ⟨by simpa using h1, fun i p q hp hq => ?_⟩
      cases i with
      | zero => simp at hp hq; subst hp hq; exact ⟨rfl, hev _ _ hd⟩
      | succ i => exact h2 i p q (by simpa using hp) (by simpa using hq)
    · cases h

/-- How a struct or an array is built: its zero cells and where its parts lie. -/
structure BuildT (P : Program) (t : TypeId) (zs : List Value) (pl : List (Nat × Nat)) : Prop where
  one : ∀ u ∈ zs, u.oneCell' = true
  run : ∃ place : Nat → Option (Nat × Nat), (∀ i p, pl[i]? = some p → place i = some p) ∧ ∀ parts, P.built t parts = Instr.fill place zs.toArray parts
theorem ok_build {t : TypeId} {zs : List Value} {pl : List (Nat × Nat)} {parts : Array (Nat × Operand)} {ds : List (Nat × D)} {out : List D} (hB : BuildT P t zs pl) (ho : o.op = .build t parts) (hp : evParts σ parts.toList = some ds) (hf : fillD pl (zs.map fun u => .t (.v u)) ds = some out) : OpOk P o σ fr (.agg out) [] :=
  ok_pure fun E σ₁ ν G w a hH I hev => by
    obtain ⟨place, hpl, hrun⟩ := hB.run
    obtain ⟨h1, h2⟩ := evParts_rel hev _ _ hp
    obtain ⟨res, hres, hsz, hrel⟩ := fill_rel hpl _ ds zs.toArray (zs.map fun u => .t (.v u)) out h1 h2 (by simp) (fun i u d hu hd => by
      have hz : zs[i]? = some u := by simpa using hu
      rw [List.getElem?_map, hz] at hd
      cases hd
      have := hB.one u (List.mem_iff_getElem?.2 ⟨i, hz⟩)
      exact ⟨.t (.v u this), this⟩) hf
    refine ⟨.agg res, ?_, .agg hsz (fun i u d hu hd => (hrel i u d hu hd).1) (fun u hu => ?_)⟩
    · unfold execOp
      rw [ho]
      have := run_build (P := P) w t (parts.map fun (i, x) => (i, a.eval x)) res (by rw [hrun, Array.toList_map]; exact hres)
      simp [this]
    · obtain ⟨i, hi⟩ := List.mem_iff_getElem?.1 hu
      have hi' : res[i]? = some u := by simpa using hi
      have hlt : i < out.length := by rw [← hsz]; exact (Array.getElem?_eq_some_iff.1 hi').1
      exact (hrel i u _ hi' (List.getElem?_eq_getElem hlt)).2

/-- The cells of a new row as data: rows among them that are only appended to are given out. -/
inductive Trs (H : Nat → Option AObj) : List D → List Tree → Prop
  | nil : Trs H [] []
  | t {x : Tree} {l : List D} {xs : List Tree} (r : Trs H l xs) : Trs H (.t x :: l) (x :: xs)
  | own {k n : Nat} {e : TypeId} {s : Nat} {ts : List Tree} {l : List D} {xs : List Tree} (h : H k = some (.row e s n ts true)) (r : Trs H l xs) : Trs H (.own k :: l) (.sl n ts :: xs)
theorem Trs.len {H : Nat → Option AObj} {l : List D} {xs : List Tree} (h : Trs H l xs) : l.length = xs.length := by
  induction h with
  | nil => rfl
  | t r ih => simp [ih]
  | own h r ih => simp [ih]
theorem Trs.rel {H : Nat → Option AObj} {l : List D} {xs : List Tree} (h : Trs H l xs) {ν : Nat → Value} {nm : Nat → Bool} {w : World} {G : Lim} (hr : ∀ k e s n ts, H k = some (.row e s n ts true) → TR w G (ν k) (.sl n ts)) :
    ∀ (i : Nat) (u : Value) (d : D) (t : Tree), l[i]? = some d → xs[i]? = some t → DR ν nm w G u d → TR w G u t := by
  induction h with
  | nil => intro i u d t h; simp at h
  | t r ih =>
    intro i u d t hd ht hu
    cases i with
    | zero => simp at hd ht; subst hd ht; cases hu with | t h => exact h
    | succ i => exact ih i u d t (by simpa using hd) (by simpa using ht) hu
  | own h r ih =>
    intro i u d t hd ht hu
    cases i with
    | zero => simp at hd ht; subst hd ht; cases hu with | own _ _ => exact hr _ _ _ _ _ h
    | succ i => exact ih i u d t (by simpa using hd) (by simpa using ht) hu
/-- []T{..}: a row of the walk's own. -/
structure LitT (P : Program) (t e : TypeId) (s len : Nat) (zs : List Value) : Prop where
  u : P.underlying t = some (.slice e)
  one : ∀ u ∈ zs, u.oneCell' = true
  zl : zs.length = len * s
  ml : len ≤ maxLen
  run : ∀ (w : World) (parts : Array (Nat × Value)) (cells : Array Value), Instr.fill (fun i => some (i * s, s)) zs.toArray parts.toList = some cells → (Instr.buildSlice t len parts).run P w = .ok (.slice (some ⟨w.heap.size, 0, none⟩) len len) (w.alloc (.cells cells e))
theorem ok_lit {t e : TypeId} {s len : Nat} (st : Bool) {zs : List Value} {parts : Array (Nat × Operand)} {ds : List (Nat × D)} {out : List D} {ts : List Tree} (hB : LitT P t e s len zs) (ho : o.op = .buildSlice t len parts) (hp : evParts σ parts.toList = some ds)
    (hf : fillD ((List.range len).map fun i => (i * s, s)) (zs.map fun u => .t (.v u)) ds = some out) (hts : Trs σ.H out ts) : OpOk P o σ fr (.own fr) [(fr, some (.row e s len ts st))] := by
  intro E σ₁ a w hT hHH h100 hf' hd ⟨ν, G, I⟩ Q
  have hpl : ∀ (i : Nat) (p : Nat × Nat), ((List.range len).map fun i => (i * s, s))[i]? = some p → (fun i => some (i * s, s)) i = some p := fun i p h => by
    rw [List.getElem?_map] at h
    obtain ⟨j, hj, rfl⟩ := Option.map_eq_some_iff.1 h
    have := (List.getElem?_eq_some_iff.1 hj).2
    simp at this
    simp [this]
  obtain ⟨h1, h2⟩ := evParts_rel (fun x d hx => I.ev (St.ev_le hT hx)) _ _ hp
  obtain ⟨cells, hres, hsz, hrel⟩ := fill_rel hpl _ ds zs.toArray (zs.map fun u => .t (.v u)) out h1 h2 (by simp) (fun i u d hu hd => by
      have hz : zs[i]? = some u := by simpa using hu
      rw [List.getElem?_map, hz] at hd
      cases hd
      have := hB.one u (List.mem_iff_getElem?.2 ⟨i, hz⟩)
      exact ⟨.t (.v u this), this⟩) hf
  have hfl : ∀ (pl : List (Nat × Nat)) (ds : List (Nat × D)) (cs out : List D), fillD pl cs ds = some out → out.length = cs.length := by
    intro pl ds
    induction ds with
    | nil => intro cs out h; cases h; rfl
    | cons p r ih =>
      intro cs out h
      obtain ⟨i, d⟩ := p
      simp only [fillD] at h
      split at h
      · cases h
      · split at h
        · rename_i hc
          simp only [Bool.and_eq_true, beq_iff_eq, decide_eq_true_eq] at hc
          rw [ih _ _ h, splice_length hc.2]
        · cases h
  have hlen : out.length = len * s := by rw [hfl _ _ _ _ hf]; simp [hB.zl]
  have hmap := hts.len
  have hr := hB.run w (parts.map fun (i, x) => (i, a.eval x)) cells (by rw [Array.toList_map]; exact hres)
  unfold Oper.wp
  have he : (execOp a.eval o).run P w = .ok (.value (.slice (some ⟨w.heap.size, 0, none⟩) len len)) (w.alloc (.cells cells e)) := by
    unfold execOp
    rw [ho]
    simp [hr]
  rw [he, Oper.upon_value]
  have hA : Aft w (w.alloc (.cells cells e)) := (Aft.refl w).alloc _
  have hG : ∀ b, b < w.heap.size → (fun b => if b = w.heap.size then (if st then len * s else 0) else G b) b = G b := fun b hb => if_neg (by omega)
  refine ⟨put_defers .., _, _, I.fresh (G' := fun b => if b = w.heap.size then (if st then len * s else 0) else G b) h100 hf' hd hA hG (x := .slice (some ⟨w.heap.size, 0, none⟩) len len) (fun g hg => by cases hg; exact Nat.le_refl _) ?_ ?_⟩
  · refine ⟨cells.toList, ?_, ?_, fun i u t hu ht => ?_, fun g hg => ?_⟩
    · rw [setν_same]
      exact ⟨by simp [hsz, hlen], .inr ⟨w.heap.size, len, cells, rfl, Nat.zero_le _, heap_alloc_new w _, Nat.le_refl _, hB.ml, by rw [hsz, hlen], by rw [List.take_of_length_le (by simp [hsz, hlen])]⟩⟩
    · rw [← hmap]; simpa using hsz
    · have hlt : i < out.length := by rw [hmap]; exact (List.getElem?_eq_some_iff.1 ht).1
      have := (hrel i u _ (by simpa using hu) (List.getElem?_eq_getElem hlt)).1
      exact (hts.rel (fun k e s n ts h => I.rows _ _ _ _ _ _ (hHH _ _ h) rfl) i u _ t (List.getElem?_eq_getElem hlt) ht this).mono (fun _ _ _ h => h.aft hA hG)
    · rw [setν_same] at hg
      cases hg
      exact ⟨.inl I.kept.size, if_pos rfl⟩
  · have : DR (setν ν fr (.slice (some ⟨w.heap.size, 0, none⟩) len len)) (σ₁.upd o.dst .any [(fr, some (.row e s len ts st))] fr).nm (w.alloc (.cells cells e)) (fun b => if b = w.heap.size then (if st then len * s else 0) else G b) (setν ν fr (.slice (some ⟨w.heap.size, 0, none⟩) len len) fr) (.own fr) := .own (upd_nm_fr ..) (by rw [setν_same]; rfl)
    rw [setν_same] at this
    exact this
end
end Go.Ab
