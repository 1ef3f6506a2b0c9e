/- The law in plain words. Conditions are in the theorems. -/
import Derived.Test.YtlhdefefoaldfaaDoorG2
import Derived.Test.YtlhdefefoaldfaaDoorF6
import Derived.Test.YtlhdefefoaldfaaDoorG1
import Derived.Test.YtlhdefefoaldfaaDoorE7
/- FormulaValues: the loops. -/
namespace Go.Proofs
open Go Go.Ax Go.Ax.Alg
theorem w8_fill {N : Nat} {c0 by5 c3 c4 : Int} {c5 : Bool} {few : List Int} {L : List Ex} {K0 : _ → O} {k1 k2 : Unit → O} (hf : few.length ≤ 26) : ∀ (r i m : Nat), i + r = few.length → r < m →
    w8l0 N m (c0, by5, few, c3, c4, c5, (i : Int), L, List.replicate i by5) K0 k1 k2 = K0 (c0, by5, few, c3, c4, c5, L, List.replicate few.length by5)
 | _, _, 0, _, h => by omega
 | 0, i, m + 1, h, _ => by
   show w8F0 _ _ _ _ _ _ _ _ _ _ _ _ = _
   unfold w8F0
   simp only []
   have : i = few.length := by omega
   subst this
   rw [decide_eq_false (by omega), br_f]
 | r + 1, i, m + 1, h, hm => by
   show w8F0 _ _ _ _ _ _ _ _ _ _ _ _ = _
   unfold w8F0
   simp only []
   rw [decide_eq_true (by omega), br_t, ck_of (by unfold lim; simp; omega), wr (x := (i : Int) + 1) (by omega) (by omega), show (i : Int) + 1 = ((i + 1 : Nat) : Int) by omega, ← List.replicate_succ']
   exact w8_fill hf r (i + 1) m (by omega) (by omega)
theorem w8_copy {N : Nat} {c0 by5 c3 c4 : Int} {c5 : Bool} {few named : List Int} {L : List Ex} {K0 : Bool → O} {K1 : _ → O} {k2 : Unit → O} (hf : few.length ≤ 26) (hj : ∀ v ∈ few, J64 v) (hn : ∀ v ∈ named, 0 ≤ v ∧ v < 26) (hnl : named.length ≤ 26) : ∀ (l pre : List Int) (other : List Int) (m : Nat), named = pre ++ l → l.length < m → other.length = few.length → (∀ v : Nat, (v : Int) ∈ pre → other[v]? = few[v]?) → (∀ v ∈ other, J64 v) →
    ∃ other', w8l1 N m (c0, by5, few, c3, c4, c5, named, (pre.length : Int), L, other) K0 K1 k2 = K1 (c0, by5, few, c3, c4, c5, L, other') ∧ other'.length = few.length ∧ (∀ v : Nat, (v : Int) ∈ named → other'[v]? = few[v]?) ∧ ∀ v ∈ other', J64 v
 | _, _, _, 0, _, h, _, _, _ => by omega
 | [], pre, other, m + 1, hk, _, hol, hp, hoj => by
   refine ⟨other, ?_, hol, fun v hv => hp v (by rw [hk] at hv; simpa using hv), hoj⟩
   show w8F1 _ _ _ _ _ _ _ _ _ _ _ _ _ _ = _
   unfold w8F1
   simp only []
   rw [decide_eq_false (by rw [hk]; simp), br_f]
 | v :: l, pre, other, m + 1, hk, hm, hol, hp, hoj => by
   have hl : named.length = pre.length + (l.length + 1) := by rw [hk]; simp
   have hg : named[pre.length]? = some v := by rw [hk]; exact drop_get
   obtain ⟨v0, v1⟩ := hn v (by rw [hk]; simp)
   have st : w8l1 N (m + 1) (c0, by5, few, c3, c4, c5, named, (pre.length : Int), L, other) K0 K1 k2 = w8l1 N m (c0, by5, few, c3, c4, c5, named, (pre.length : Int) + 1, L, if v < few.length then other.set v.toNat (few[v.toNat]?.getD 0) else other) K0 K1 k2 := by
    show w8F1 _ _ _ _ _ _ _ _ _ _ _ _ _ _ = _
    unfold w8F1
    simp only []
    rw [decide_eq_true (by omega), br_t, gx_at hg, decide_eq_false (by omega), br_f, gx_at hg, wr (x := (pre.length : Int) + 1) (by omega) (by omega)]
    by_cases hv : v < few.length
    ·have hi : v.toNat < few.length := by omega
     rw [decide_eq_true hv, br_t, gx_at hg, gx_at hg, gx_of v0 (List.getElem?_eq_getElem hi), ck_of (by simp; omega), gn_of (List.getElem?_eq_getElem (show v.toNat < other.length by omega)), if_pos hv, List.getElem?_eq_getElem hi]
     rfl
    ·rw [decide_eq_false hv, br_f, if_neg hv]
   rw [st, show (pre.length : Int) + 1 = ((pre ++ [v]).length : Int) by simp]
   refine w8_copy hf hj hn hnl l (pre ++ [v]) _ m (by rw [hk]; simp) (by simp at hm; omega) (by split <;> simp [hol]) (fun u hu => ?_) ?_
   case refine_2 =>
    intro x hx
    split at hx
    ·rename_i hv
     rcases List.mem_or_eq_of_mem_set hx with h | h
     ·exact hoj x h
     ·rw [h, List.getElem?_eq_getElem (show v.toNat < few.length by omega)]
      exact hj _ (List.getElem_mem _)
    ·exact hoj x hx
   by_cases hv : v < few.length
   ·rw [if_pos hv]
    have hi : v.toNat < few.length := by omega
    by_cases e : v.toNat = u
    ·subst e
     rw [List.getElem?_set_self (by omega), List.getElem?_eq_getElem hi]
     rfl
    ·rw [List.getElem?_set_ne e]
     rcases List.mem_append.1 hu with h | h
     ·exact hp u h
     ·exact absurd (List.mem_singleton.1 h) (by omega)
   ·rw [if_neg hv]
    rcases List.mem_append.1 hu with h | h
    ·exact hp u h
    ·have := List.mem_singleton.1 h
     rw [List.getElem?_eq_none (by omega), List.getElem?_eq_none (by omega)]
end Go.Proofs
/- FormulaValues: which variables are named. -/
namespace Go.Proofs
open Go Go.Ax Go.Ax.Alg
theorem vz_mem {b : Nat → Bool} {v : Nat} (hb : b v = true) : ∀ m i, i ≤ v → v < i + m → (v : Int) ∈ vz b m i
 | 0, i, h1, h2 => by omega
 | m + 1, i, h1, h2 => by
   unfold vz
   by_cases e : i = v
   ·subst e; rw [if_pos hb]; exact List.mem_cons_self ..
   ·have := vz_mem hb m (i + 1) (by omega) (by omega)
    split
    ·exact List.mem_cons_of_mem _ this
    ·exact this
theorem vz_in {b : Nat → Bool} {x : Int} : ∀ m i, x ∈ vz b m i → (i : Int) ≤ x ∧ x < (i : Int) + m
 | 0, i, h => by cases h
 | m + 1, i, h => by
   unfold vz at h
   split at h
   ·rcases List.mem_cons.1 h with rfl | h
    ·omega
    ·have := vz_in m (i + 1) h; omega
   ·have := vz_in m (i + 1) h; omega
mutual
theorem uses_lt : ∀ (e : Ex) (root : Bool) (v : Nat), okE e root = true → usesE e v = true → v < 26
 | .mk o a ks, root, v, hok, h => by
   have hks : okL ks = true := by
    simp only [okE, Bool.and_eq_true] at hok
    exact hok.2
   simp only [usesE, Bool.or_eq_true, Bool.and_eq_true, decide_eq_true_eq] at h
   rcases h with ⟨⟨h1, h2⟩, _⟩ | h
   ·rcases ok_shape hok with ⟨h0, _⟩ | ⟨_, _, _, a1⟩ | ⟨h0, _⟩ | ⟨h0, _⟩ <;> omega
   ·exact usesL_lt ks v hks h
theorem usesL_lt : ∀ (l : List Ex) (v : Nat), okL l = true → usesL l v = true → v < 26
 | [], _, _, h => by cases h
 | k :: l, v, hok, h => by
   simp only [okL, Bool.and_eq_true] at hok
   simp only [usesL, Bool.or_eq_true] at h
   rcases h with h | h
   ·exact uses_lt k false v hok.1 h
   ·exact usesL_lt l v hok.2 h
end
theorem valueP_same {vs ws : List Int} {e : Ex} (h : ∀ v : Nat, (v : Int) ∈ varsZ e → vs[v]? = ws[v]?) : valueP vs e = valueP ws e := by
 unfold valueP
 split
 ·rename_i hv
  have hok := valid_ok hv
  rw [valP_congr e true hok fun v hu => h v (vz_mem hu 26 0 (Nat.zero_le _) (by have := uses_lt e true v hok hu; omega))]
 ·rfl
end Go.Proofs
/- The law on values. -/
namespace Go.Proofs
open Go Go.Ax Go.Ax.Alg
theorem w8_round {N : Nat} (hN : 10000 ≤ N) {c0 by5 : Int} (hb : J64 by5) {few : List Int} (hf : few.length ≤ 26) (hv : ∀ v ∈ few, J64 v) {L : List Ex} (hL : L.length = 2) (hs : ∀ e ∈ L, sizeE e ≤ 100) {K0 : Bool → O} {K1 k2 : Unit → O} : ∀ (r i m : Nat), i + r = 2 → r < m →
    w8l2 N m (c0, by5, few, (i : Int), L) K0 K1 k2 = K1 ()
 | _, _, 0, _, h => by omega
 | 0, i, m + 1, h, _ => by
   show w8F2 _ _ _ _ _ _ _ _ _ _ _ = _
   unfold w8F2
   simp only []
   rw [decide_eq_false (by omega), br_f]
 | r + 1, i, m + 1, h, hm => by
   have hi : i < L.length := by omega
   have hg : L[i]? = some L[i] := List.getElem?_eq_getElem hi
   have hsz := hs _ (List.getElem_mem hi)
   generalize he : L[i] = e at hg hsz
   have hin : ∀ v ∈ varsZ e, 0 ≤ v ∧ v < 26 := fun v h => by have := vz_in _ _ h; omega
   have hlen : (varsZ e).length ≤ 26 := vz_len _ _ _
   obtain ⟨other, h1, h2, h3, hv2⟩ := w8_copy (N := N) (c0 := c0) (by5 := by5) (c3 := (i : Int)) (c4 := (valueP few e).1) (c5 := (valueP few e).2) (L := L) (K0 := fun y => K0 y)
    (K1 := fun y => ck (decide (0 ≤ y.2.2.2.1 ∧ y.2.2.2.1 < (y.2.2.2.2.2.2.1.length : Int))) (gn y.2.2.2.2.2.2.1 y.2.2.2.1.toNat fun y123 => ck (w28p N y123.op y123.num y123.kids y.2.2.2.2.2.2.2) (br (!w28y1 N y123.op y123.num y123.kids y.2.2.2.2.2.2.2 == y.2.2.2.2.2.1 || decide (w28y0 N y123.op y123.num y123.kids y.2.2.2.2.2.2.2 ≠ y.2.2.2.2.1)) (K0 false) (w8l2 N m (y.1, y.2.1, y.2.2.1, IntKind.i64.wrap (y.2.2.2.1 + 1), y.2.2.2.2.2.2.1) K0 K1 k2))))
    (k2 := fun _ => none) hf hv hin hlen (varsZ e) [] (List.replicate few.length by5) N rfl (by omega) (by simp) (fun v h => by cases h) (fun v h => by rw [List.eq_of_mem_replicate h]; exact hb)
   have a1 := w28_p hN hv (e := e) (by omega) (by omega)
   have a2 := w28_y0 hN hv (e := e) (by omega) (by omega)
   have a3 := w28_y1 hN hv (e := e) (by omega) (by omega)
   have b1 := w29_p hN hv (e := e) (by omega) (by omega)
   have b2 := w29_y0 hN hv (e := e) (by omega) (by omega)
   have b3 := w29_y1 hN hv (e := e) (by omega) (by omega)
   have v1 := w30_p (N := N) (e := e) (by omega) (by omega) (by omega)
   have v2 := w30_y0 (N := N) (e := e) (by omega) (by omega) (by omega)
   have hsame : valueP other e = valueP few e := valueP_same h3
   have d1 := w28_p hN hv2 (e := e) (by omega) (by omega)
   have d2 := w28_y0 hN hv2 (e := e) (by omega) (by omega)
   have d3 := w28_y1 hN hv2 (e := e) (by omega) (by omega)
   rw [hsame] at d2 d3
   have hck : decide (0 ≤ (i : Int) ∧ (i : Int) < (L.length : Int)) = true := decide_eq_true (by omega)
   have heq : ∀ b : Bool, (!b == b) = false := fun b => by cases b <;> rfl
   have fill := w8_fill (N := N) (c0 := c0) (by5 := by5) (c3 := (i : Int)) (c4 := (valueP few e).1) (c5 := (valueP few e).2) (few := few) (L := L) (k1 := fun _ => none) (k2 := fun _ => none)
    (K0 := fun y => ck (decide (0 ≤ y.2.2.2.1 ∧ y.2.2.2.1 < (y.2.2.2.2.2.2.1.length : Int))) (gn y.2.2.2.2.2.2.1 y.2.2.2.1.toNat fun y94 => ck (w30p N y94.op y94.num y94.kids) (w8n1 N y.1 y.2.1 y.2.2.1 y.2.2.2.1 y.2.2.2.2.1 y.2.2.2.2.2.1 (w30y0 N y94.op y94.num y94.kids) 0 y.2.2.2.2.2.2.1 y.2.2.2.2.2.2.2 (fun z114 => K0 z114)
     (fun z115 z116 z117 z118 z119 z120 z121 z122 => ck (decide (0 ≤ z118 ∧ z118 < (z121.length : Int))) (gn z121 z118.toNat fun y123 => ck (w28p N y123.op y123.num y123.kids z122) (br (!w28y1 N y123.op y123.num y123.kids z122 == z120 || decide (w28y0 N y123.op y123.num y123.kids z122 ≠ z119)) (K0 false) (w8l2 N m (z115, z116, z117, IntKind.i64.wrap (z118 + 1), z121) K0 K1 k2))))))) hf few.length 0 N (by omega) (by omega)
   show w8F2 _ _ _ _ _ _ _ _ _ _ _ = _
   unfold w8F2
   simp only []
   rw [decide_eq_true (by omega), br_t, ck_of hck, Int.toNat_natCast, gn_of hg, ck_of a1, ck_of hck, gn_of hg, ck_of b1, a2, a3, b2, b3, heq, Bool.false_or, decide_eq_false (by simp), br_f]
   refine fill.trans ?_
   simp only []
   rw [ck_of hck, Int.toNat_natCast, gn_of hg, ck_of v1, v2]
   unfold w8n1
   refine h1.trans ?_
   simp only []
   rw [ck_of hck, Int.toNat_natCast, gn_of hg, ck_of d1, d2, d3, heq, Bool.false_or, decide_eq_false (by simp), br_f, wr (x := (i : Int) + 1) (by omega) (by omega), show (i : Int) + 1 = ((i + 1 : Nat) : Int) by omega]
   exact w8_round hN hb hf hv hL hs r (i + 1) m (by omega) (by omega)
end Go.Proofs
/- The law on values. -/
namespace Go.Proofs
open Go Go.Ax Go.Ax.Alg
theorem law8 {N : Nat} (hN : 10000 ≤ N) {l vars : List Int} {depth at1 how by5 : Int} (hl : ∀ x ∈ l, J64 x) (hlen : l.length < 2 ^ 60) (hv : ∀ x ∈ vars, J64 x) (hvl : vars.length < 2 ^ 47) (ha : J64 at1) (hh : J64 how) (hb : J64 by5) : w8z N l depth vars at1 how by5 = some true := by
 obtain ⟨e, p1, q1, q2, q3, ok, hs, hd, _⟩ := w12_py (N := N) (by omega) hl hlen depth
 obtain ⟨f, p2, r1, r2, r3, hf⟩ := w13_py (N := N) (e := e) ha hh hb (by omega) (by omega)
 unfold w8z w8 w8G
 simp only [q1, q2, q3, r1, r2, r3, p1, p2, w25_p hvl, w25_y0 hvl, ck_t, Ex.eta]
 unfold w8n2
 have := w8_round hN (c0 := at1) hb (few := vars.take 26) (by simp; omega) (fun v h => hv v (List.mem_of_mem_take h)) (L := [e, f]) rfl (fun k hk => by
     simp only [List.mem_cons, List.not_mem_nil, or_false] at hk
     rcases hk with rfl | rfl <;> omega) (K0 := fun y => (fun z124 => some (w8r0 z124)) y) (K1 := fun _ => some (w8r0 true)) (k2 := fun _ => none) 2 0 N rfl (by omega)
 refine (congrArg (fun z : O => z.bind w8un) this).trans ?_
 rfl
end Go.Proofs
/- Numbers that came in. -/
namespace Go.Proofs
open Go Go.Ax
theorem j64_w {z : Int} (h : OkV (.i .i64) z) : J64 z := by
 have h : (Lit.int .i64 z).wf = true := h
 simp [Lit.wf] at h
 have h1 : IntKind.i64.min = -9223372036854775808 := by decide
 rw [h1] at h
 unfold J64
 omega
theorem jl_w {l : List Int} (h : OkV (.sl (.i .i64)) l) : ∀ x ∈ l, J64 x := fun x hx => j64_w (h x hx)
theorem len_s {l : List Int} (h : SzV (.sl (.i .i64)) l) : l.length < 2 ^ 60 := by
 have h1 := h.1
 have h2 : l.length * 8 ≤ reachBytes := h1
 have h3 : reachBytes = 0x7ffffffff000 := rfl
 omega
theorem len40 {l : List Int} (h : SzV (.sl (.i .i64)) l) : l.length < 2 ^ 47 := by
 have h1 := h.1
 have h2 : l.length * 8 ≤ reachBytes := h1
 have h3 : reachBytes = 0x7ffffffff000 := rfl
 omega
end Go.Proofs
