/- Trees: which are the same; variables; the law in plain words. Conditions are in the theorems. -/
import Derived.Test.YtlhdefefoaldfaaDoorG1
import Derived.Test.YtlhdefefoaldfaaDoorF6
import Derived.Test.YtlhdefefoaldfaaDoorE7
/- Trees: which are the same. -/
namespace Go.Proofs
open Go Go.Ax Go.Ax.Alg
mutual
def sameE : Ex → Ex → Bool
 | .mk o a ks, .mk p b ls => decide (o = p) && decide (a = b) && sameL ks ls
def sameL : List Ex → List Ex → Bool
 | [], [] => true
 | k :: l, k' :: l' => sameE k k' && sameL l l'
 | _, _ => false
end
mutual
theorem sameE_eq : ∀ {e f : Ex}, sameE e f = true → e = f
 | .mk o a ks, .mk p b ls, h => by
   simp only [sameE, Bool.and_eq_true, decide_eq_true_eq] at h
   rw [h.1.1, h.1.2, sameL_eq h.2]
theorem sameL_eq : ∀ {l m : List Ex}, sameL l m = true → l = m
 | [], [], _ => rfl
 | k :: l, k' :: l', h => by
   simp only [sameL, Bool.and_eq_true] at h
   rw [sameE_eq h.1, sameL_eq h.2]
 | [], _ :: _, h => by simp [sameL] at h
 | _ :: _, [], h => by simp [sameL] at h
end
theorem sameL_len : ∀ {l m : List Ex}, l.length ≠ m.length → sameL l m = false := fun {l m} h => by
 cases hb : sameL l m with
 | false => rfl
 | true => exact absurd (congrArg List.length (sameL_eq hb)) h
theorem w69_loop {N : Nat} {rc : _} {K : Bool → O} {k1 k2 : Unit → O} : ∀ (l l' pre pre' ks ls : List Ex) (m : Nat), ks = pre ++ l → ls = pre' ++ l' → pre.length = pre'.length → l.length = l'.length → l.length < m → (∀ k ∈ l, ∀ k' ∈ l', rc.2 k.op k.num k.kids k'.op k'.num k'.kids = some (sameE k k')) → ks.length < 2 ^ 62 →
    w69l0 (N, rc) m (ls, ks, (ks.length : Int), (pre.length : Int)) K k1 k2 = br (sameL l l') (k1 ()) (K false)
 | _, _, _, _, _, _, 0, _, _, _, _, h, _, _ => by omega
 | [], l', pre, pre', ks, ls, m + 1, hk, _, _, hl, _, _, _ => by
   have : l' = [] := List.eq_nil_of_length_eq_zero hl.symm
   subst this
   show w69F0 _ _ _ _ _ _ _ _ = _
   unfold w69F0
   simp only []
   subst hk
   rw [decide_eq_false (by simp), br_f]
   rfl
 | k :: l, [], pre, pre', ks, ls, m + 1, hk, hk', hp, hl, hm, hr, h2 => by simp at hl
 | k :: l, k' :: l', pre, pre', ks, ls, m + 1, hk, hk', hp, hl, hm, hr, h2 => by
   have hlk : ks.length = pre.length + (l.length + 1) := by rw [hk]; simp
   have ih := w69_loop (N := N) (rc := rc) (K := K) (k1 := k1) (k2 := k2) l l' (pre ++ [k]) (pre' ++ [k']) ks ls m (by rw [hk]; simp) (by rw [hk']; simp) (by simp [hp]) (by simpa using hl) (by simp at hm; omega) (fun x hx y hy => hr x (List.mem_cons_of_mem _ hx) y (List.mem_cons_of_mem _ hy)) h2
   rw [show ((pre ++ [k]).length : Int) = (pre.length : Int) + 1 by simp] at ih
   show w69F0 _ _ _ _ _ _ _ _ = _
   unfold w69F0
   simp only []
   rw [decide_eq_true (by omega), br_t, gx_at (y := k) (by rw [hk]; exact drop_get), gx_at (y := k') (by rw [hk', hp]; exact drop_get)]
   simp only [hr k (List.mem_cons_self ..) k' (List.mem_cons_self ..)]
   simp only [Option.isSome_some, ck_t, Option.getD_some]
   rw [wr (x := (pre.length : Int) + 1) (by omega) (by omega)]
   cases hb : sameE k k' with
   | true =>
     simp only [sameL, hb, Bool.true_and, Bool.not_true, br_f]
     exact ih
   | false =>
     simp only [sameL, hb, Bool.false_and, Bool.not_false, br_t, br_f]
theorem w38_eq {N : Nat} : ∀ (n : Nat) (e f : Ex), 2 * sizeE e ≤ n → sizeE e < N → sizeE e < 2 ^ 60 → sizeE f < 2 ^ 60 → (w69gY N n).2 e.op e.num e.kids f.op f.num f.kids = some (sameE e f)
 | 0, e, _, h, _, _, _ => by have := size_pos e; omega
 | 1, e, _, h, _, _, _ => by have := size_pos e; omega
 | n + 2, .mk o a ks, .mk p b ls, h, hN, hB, hB' => by
   simp only [sizeE] at h hN hB hB'
   have hlen := len_le ks
   have h69 : (w69gY N (n + 1)).1 ks ls = some (sameL ks ls) := by
    show w69z (N, w69gY N n) ks ls = _
    unfold w69z w69 w69G
    by_cases hl : ks.length = ls.length
    ·rw [decide_eq_false (by simp [hl]), br_f]
     unfold w69n0
     refine (congrArg (fun z : O => z.bind w69un) (w69_loop ks ls [] [] ks ls N rfl rfl rfl hl (by omega) (fun k hk k' hk' => ?_) (by omega))).trans ?_
     ·have := size_mem hk
      have := size_mem hk'
      exact w38_eq n k k' (by omega) (by omega) (by omega) (by omega)
     ·cases sameL ks ls <;> rfl
    ·rw [decide_eq_true (by omega), br_t, sameL_len hl]
     rfl
   show w38z (N, w69gY N (n + 1)) o a ks p b ls = _
   unfold w38z w38 w38G
   simp only [h69]
   simp only [Option.isSome_some, Bool.or_true, ck_t, Option.getD_some]
   rfl
theorem w18_loop {N : Nat} {rc : _} {o a p b : Int} {K : Bool → O} {k1 k2 : Unit → O} : ∀ (l l' pre pre' ks ls : List Ex) (m : Nat), ks = pre ++ l → ls = pre' ++ l' → pre.length = pre'.length → l.length = l'.length → l.length < m → (∀ k ∈ l, ∀ k' ∈ l', rc k.op k.num k.kids k'.op k'.num k'.kids = some (sameE k k')) → ks.length < 2 ^ 62 →
    w18l0 (N, rc) m ((pre.length : Int), o, a, ks, p, b, ls) K k1 k2 = br (sameL l l') (k1 ()) (K false)
 | _, _, _, _, _, _, 0, _, _, _, _, h, _, _ => by omega
 | [], l', pre, pre', ks, ls, m + 1, hk, _, _, hl, _, _, _ => by
   have : l' = [] := List.eq_nil_of_length_eq_zero hl.symm
   subst this
   show w18F0 _ _ _ _ _ _ _ _ _ _ _ = _
   unfold w18F0
   simp only []
   subst hk
   rw [decide_eq_false (by simp), br_f]
   rfl
 | k :: l, [], pre, pre', ks, ls, m + 1, hk, hk', hp, hl, hm, hr, h2 => by simp at hl
 | k :: l, k' :: l', pre, pre', ks, ls, m + 1, hk, hk', hp, hl, hm, hr, h2 => by
   have hlk : ks.length = pre.length + (l.length + 1) := by rw [hk]; simp
   have ih := w18_loop (N := N) (rc := rc) (o := o) (a := a) (p := p) (b := b) (K := K) (k1 := k1) (k2 := k2) l l' (pre ++ [k]) (pre' ++ [k']) ks ls m (by rw [hk]; simp) (by rw [hk']; simp) (by simp [hp]) (by simpa using hl) (by simp at hm; omega) (fun x hx y hy => hr x (List.mem_cons_of_mem _ hx) y (List.mem_cons_of_mem _ hy)) h2
   rw [show ((pre ++ [k]).length : Int) = (pre.length : Int) + 1 by simp] at ih
   show w18F0 _ _ _ _ _ _ _ _ _ _ _ = _
   unfold w18F0
   simp only []
   rw [decide_eq_true (by omega), br_t, gx_at (y := k) (by rw [hk]; exact drop_get), gx_at (y := k') (by rw [hk', hp]; exact drop_get)]
   simp only [hr k (List.mem_cons_self ..) k' (List.mem_cons_self ..)]
   simp only [Option.isSome_some, ck_t, Option.getD_some]
   rw [wr (x := (pre.length : Int) + 1) (by omega) (by omega)]
   cases hb : sameE k k' with
   | true =>
     simp only [sameL, hb, Bool.true_and, Bool.not_true, br_f]
     exact ih
   | false =>
     simp only [sameL, hb, Bool.false_and, Bool.not_false, br_t, br_f]
theorem w18_eq {N : Nat} : ∀ (n : Nat) (e f : Ex), sizeE e ≤ n → sizeE e < N → sizeE e < 2 ^ 60 → sizeE f < 2 ^ 60 → w18Y N n e.op e.num e.kids f.op f.num f.kids = some (sameE e f)
 | 0, e, _, h, _, _, _ => by have := size_pos e; omega
 | n + 1, .mk o a ks, .mk p b ls, h, hN, hB, hB' => by
   simp only [sizeE] at h hN hB hB'
   have hlen := len_le ks
   show w18z (N, w18Y N n) o a ks p b ls = _
   unfold w18z w18 w18G
   simp only [sameE]
   by_cases h1 : o = p
   case neg => rw [decide_eq_true h1, decide_eq_false h1]; rfl
   by_cases h2 : a = b
   case neg => rw [decide_eq_false (show ¬ (o ≠ p) by simpa using h1), decide_eq_true (p := a ≠ b) h2, decide_eq_false h2, decide_eq_true h1]; rfl
   by_cases hl : ks.length = ls.length
   ·rw [decide_eq_false (show ¬ (o ≠ p) by simpa using h1), decide_eq_false (show ¬ (a ≠ b) by simpa using h2), decide_eq_false (show ¬ ((ks.length : Int) ≠ (ls.length : Int)) by simp [hl]), decide_eq_true h1, decide_eq_true h2]
    simp only [Bool.or_false, br_f, Bool.true_and]
    unfold w18n0
    refine (congrArg (fun z : O => z.bind w18un) (w18_loop (o := o) (a := a) (p := p) (b := b) ks ls [] [] ks ls N rfl rfl rfl hl (by omega) (fun k hk k' hk' => ?_) (by omega))).trans ?_
    ·have := size_mem hk
     have := size_mem hk'
     exact w18_eq n k k' (by omega) (by omega) (by omega) (by omega)
    ·cases sameL ks ls <;> rfl
   ·rw [decide_eq_true (show ((ks.length : Int) ≠ (ls.length : Int)) by omega), Bool.or_true, br_t, sameL_len hl, Bool.and_false]
    rfl
section
variable {N : Nat} {e f : Ex} (h : 2 * sizeE e ≤ N) (hB : sizeE e < 2 ^ 58) (hB' : sizeE f < 2 ^ 58)
include h hB hB'
theorem w38_p : w38p N e.op e.num e.kids f.op f.num f.kids = true := by have := size_pos e; unfold w38p; rw [w38_eq N e f (by omega) (by omega) (by omega) (by omega)]; rfl
theorem w38_y0 : w38y0 N e.op e.num e.kids f.op f.num f.kids = sameE e f := by have := size_pos e; unfold w38y0; rw [w38_eq N e f (by omega) (by omega) (by omega) (by omega)]; rfl
theorem w18_p : w18p N e.op e.num e.kids f.op f.num f.kids = true := by have := size_pos e; unfold w18p; rw [w18_eq N e f (by omega) (by omega) (by omega) (by omega)]; rfl
theorem w18_y0 : w18y0 N e.op e.num e.kids f.op f.num f.kids = sameE e f := by have := size_pos e; unfold w18y0; rw [w18_eq N e f (by omega) (by omega) (by omega) (by omega)]; rfl
end
end Go.Proofs
/- The variables of a tree. -/
namespace Go.Proofs
open Go Go.Ax Go.Ax.Alg
mutual
def usesE : Ex → Nat → Bool
 | .mk o a ks, v => (decide (o = 1) && decide (a = (v : Int)) && decide ((ks.length : Int) = 0)) || usesL ks v
def usesL : List Ex → Nat → Bool
 | [], _ => false
 | k :: l, v => usesE k v || usesL l v
end
abbrev T26 (b : Nat → Bool) := (b 0, b 1, b 2, b 3, b 4, b 5, b 6, b 7, b 8, b 9, b 10, b 11, b 12, b 13, b 14, b 15, b 16, b 17, b 18, b 19, b 20, b 21, b 22, b 23, b 24, b 25)
theorem sel_or {m i : Nat} {x : Bool} : sel (((0 : Nat) + m * (1 : Nat)).beq i) true x = (x || Nat.beq m i) := by
 rw [Nat.zero_add, Nat.mul_one]
 cases h : Nat.beq m i <;> simp [sel]
theorem w66_loop {N : Nat} {rc : _} {k1 k2 : Unit → O} : ∀ (l pre ks : List Ex) (b : Nat → Bool) (K : _ → O) (m : Nat), ks = pre ++ l → l.length < m → (∀ k ∈ l, ∀ b : Nat → Bool, rc k.op k.num k.kids (b 0) (b 1) (b 2) (b 3) (b 4) (b 5) (b 6) (b 7) (b 8) (b 9) (b 10) (b 11) (b 12) (b 13) (b 14) (b 15) (b 16) (b 17) (b 18) (b 19) (b 20) (b 21) (b 22) (b 23) (b 24) (b 25) = some (T26 fun i => b i || usesE k i)) → ks.length < 2 ^ 62 →
    w66l1 (N, rc) m (ks, (ks.length : Int), (pre.length : Int), b 0, b 1, b 2, b 3, b 4, b 5, b 6, b 7, b 8, b 9, b 10, b 11, b 12, b 13, b 14, b 15, b 16, b 17, b 18, b 19, b 20, b 21, b 22, b 23, b 24, b 25) K k1 k2 = K (T26 fun i => b i || usesL l i)
 | _, _, _, _, _, 0, _, h, _, _ => by omega
 | [], pre, ks, b, K, m + 1, hk, _, _, _ => by
   show w66F1 _ _ _ _ _ _ _ _ _ _ _ _ _ _ _ _ _ _ _ _ _ _ _ _ _ _ _ _ _ _ _ _ = _
   unfold w66F1
   simp only []
   subst hk
   rw [decide_eq_false (by simp), br_f]
   simp only [usesL, Bool.or_false]
 | k :: l, pre, ks, b, K, m + 1, hk, hm, hr, h2 => by
   have hlk : ks.length = pre.length + (l.length + 1) := by rw [hk]; simp
   have ih := w66_loop (N := N) (rc := rc) (k1 := k1) (k2 := k2) l (pre ++ [k]) ks (fun i => b i || usesE k i) K m (by rw [hk]; simp) (by simp at hm; omega) (fun x hx => hr x (List.mem_cons_of_mem _ hx)) h2
   rw [show ((pre ++ [k]).length : Int) = (pre.length : Int) + 1 by simp] at ih
   show w66F1 _ _ _ _ _ _ _ _ _ _ _ _ _ _ _ _ _ _ _ _ _ _ _ _ _ _ _ _ _ _ _ _ = _
   unfold w66F1
   simp only []
   rw [decide_eq_true (by omega), br_t, gx_at (y := k) (by rw [hk]; exact drop_get)]
   simp only [hr k (List.mem_cons_self ..) b]
   simp only [Option.isSome_some, ck_t, Option.getD_some]
   rw [wr (x := (pre.length : Int) + 1) (by omega) (by omega)]
   refine Eq.trans ?_ (ih.trans ?_)
   ·rfl
   ·simp only [usesL, Bool.or_assoc]
theorem w66_eq {N : Nat} : ∀ (n : Nat) (e : Ex) (b : Nat → Bool), sizeE e ≤ n → sizeE e < N → sizeE e < 2 ^ 60 → w66gY N n e.op e.num e.kids (b 0) (b 1) (b 2) (b 3) (b 4) (b 5) (b 6) (b 7) (b 8) (b 9) (b 10) (b 11) (b 12) (b 13) (b 14) (b 15) (b 16) (b 17) (b 18) (b 19) (b 20) (b 21) (b 22) (b 23) (b 24) (b 25) = some (T26 fun i => b i || usesE e i)
 | 0, e, _, h, _, _ => by have := size_pos e; omega
 | n + 1, .mk o a ks, b, h, hN, hB => by
   simp only [sizeE] at h hN hB
   have hlen := len_le ks
   have loop : ∀ b : Nat → Bool, _ := fun b => w66_loop (N := N) (rc := w66gY N n) (k1 := fun _ => none) (k2 := fun _ => none) ks [] ks b (fun y => some (w66r0 (y.1) (y.2.1) (y.2.2.1) (y.2.2.2.1) (y.2.2.2.2.1) (y.2.2.2.2.2.1) (y.2.2.2.2.2.2.1) (y.2.2.2.2.2.2.2.1) (y.2.2.2.2.2.2.2.2.1) (y.2.2.2.2.2.2.2.2.2.1) (y.2.2.2.2.2.2.2.2.2.2.1) (y.2.2.2.2.2.2.2.2.2.2.2.1) (y.2.2.2.2.2.2.2.2.2.2.2.2.1) (y.2.2.2.2.2.2.2.2.2.2.2.2.2.1) (y.2.2.2.2.2.2.2.2.2.2.2.2.2.2.1) (y.2.2.2.2.2.2.2.2.2.2.2.2.2.2.2.1) (y.2.2.2.2.2.2.2.2.2.2.2.2.2.2.2.2.1) (y.2.2.2.2.2.2.2.2.2.2.2.2.2.2.2.2.2.1) (y.2.2.2.2.2.2.2.2.2.2.2.2.2.2.2.2.2.2.1) (y.2.2.2.2.2.2.2.2.2.2.2.2.2.2.2.2.2.2.2.1) (y.2.2.2.2.2.2.2.2.2.2.2.2.2.2.2.2.2.2.2.2.1) (y.2.2.2.2.2.2.2.2.2.2.2.2.2.2.2.2.2.2.2.2.2.1) (y.2.2.2.2.2.2.2.2.2.2.2.2.2.2.2.2.2.2.2.2.2.2.1) (y.2.2.2.2.2.2.2.2.2.2.2.2.2.2.2.2.2.2.2.2.2.2.2.1) (y.2.2.2.2.2.2.2.2.2.2.2.2.2.2.2.2.2.2.2.2.2.2.2.2.1) (y.2.2.2.2.2.2.2.2.2.2.2.2.2.2.2.2.2.2.2.2.2.2.2.2.2))) N rfl (by omega) (fun k hk b => by
    have := size_mem hk
    exact w66_eq n k b (by omega) (by omega) (by omega)) (by omega)
   show w66z (N, w66gY N n) o a ks (b 0) (b 1) (b 2) (b 3) (b 4) (b 5) (b 6) (b 7) (b 8) (b 9) (b 10) (b 11) (b 12) (b 13) (b 14) (b 15) (b 16) (b 17) (b 18) (b 19) (b 20) (b 21) (b 22) (b 23) (b 24) (b 25) = _
   unfold w66z w66 w66G w66n0 w66l0 w66F0
   simp only []
   by_cases hc : o = 1 ∧ 0 ≤ a ∧ a < 26 ∧ (ks.length : Int) = 0
   ·obtain ⟨h1, h2, h3, h4⟩ := hc
    rw [decide_eq_true h1, decide_eq_true h2, decide_eq_true h3, decide_eq_true h4]
    simp only [Bool.and_true, br_t]
    rw [ck_of (by simp; omega), ck_of (by simp; omega)]
    simp only [sel_or]
    refine (congrArg (fun z : O => z.bind w66un) (loop (fun i => b i || Nat.beq a.toNat i))).trans ?_
    show some (T26 fun i => (b i || Nat.beq a.toNat i) || usesL ks i) = _
    congr 1
    have : ∀ i, Nat.beq a.toNat i = decide (a = (i : Int)) := fun i => by
     cases hb : Nat.beq a.toNat i with
     | true => have := Nat.eq_of_beq_eq_true hb; exact (decide_eq_true (by omega)).symm
     | false => have := Nat.ne_of_beq_eq_false hb; exact (decide_eq_false (by omega)).symm
    simp only [usesE, this, decide_eq_true h1, decide_eq_true h4, Bool.true_and, Bool.and_true, Bool.or_assoc]
   ·rw [show (decide (o = 1) && decide (0 ≤ a) && decide (a < 26) && decide ((ks.length : Int) = 0)) = false by
     rw [← Bool.not_eq_true]; simp only [Bool.and_eq_true, decide_eq_true_eq]; intro h; exact hc ⟨h.1.1.1, h.1.1.2, h.1.2, h.2⟩, br_f]
    refine (congrArg (fun z : O => z.bind w66un) (loop b)).trans ?_
    show some (T26 fun i => b i || usesL ks i) = _
    congr 1
    have : ∀ i : Nat, i < 26 → usesE (.mk o a ks) i = usesL ks i := fun i hi => by
     have hf : (decide (o = 1) && decide (a = (i : Int)) && decide ((ks.length : Int) = 0)) = false := by
      rw [← Bool.not_eq_true]; simp only [Bool.and_eq_true, decide_eq_true_eq]; intro h; exact hc ⟨h.1.1, by omega, by omega, h.2⟩
     simp only [usesE]
     rw [hf, Bool.false_or]
    simp only [T26, this 0 (by decide), this 1 (by decide), this 2 (by decide), this 3 (by decide), this 4 (by decide), this 5 (by decide), this 6 (by decide), this 7 (by decide), this 8 (by decide), this 9 (by decide), this 10 (by decide), this 11 (by decide), this 12 (by decide), this 13 (by decide), this 14 (by decide), this 15 (by decide), this 16 (by decide), this 17 (by decide), this 18 (by decide), this 19 (by decide), this 20 (by decide), this 21 (by decide), this 22 (by decide), this 23 (by decide), this 24 (by decide), this 25 (by decide)]
/-- The numbers below 26 for which it holds. -/
def vz (b : Nat → Bool) : Nat → Nat → List Int
 | 0, _ => []
 | m + 1, i => if b i then (i : Int) :: vz b m (i + 1) else vz b m (i + 1)
theorem vz_len (b : Nat → Bool) : ∀ m i, (vz b m i).length ≤ m
 | 0, _ => Nat.le_refl _
 | m + 1, i => by unfold vz; have := vz_len b m (i + 1); split <;> simp <;> omega
theorem w30_loop {N : Nat} {b : Nat → Bool} {K : List Int → O} {k1 k2 : Unit → O} : ∀ (r i : Nat) (acc : List Int) (m : Nat), i + r = 26 → r < m → acc.length ≤ i →
    w30l0 N m (b 0, b 1, b 2, b 3, b 4, b 5, b 6, b 7, b 8, b 9, b 10, b 11, b 12, b 13, b 14, b 15, b 16, b 17, b 18, b 19, b 20, b 21, b 22, b 23, b 24, b 25, (i : Int), acc) K k1 k2 = K (acc ++ vz b r i)
 | _, _, _, 0, _, h, _ => by omega
 | 0, i, acc, m + 1, hi, _, _ => by
   show w30F0 _ _ _ _ _ _ _ _ _ _ _ _ _ _ _ _ _ _ _ _ _ _ _ _ _ _ _ _ _ _ _ = _
   unfold w30F0
   simp only []
   rw [decide_eq_false (by omega), br_f]
   simp [vz]
 | r + 1, i, acc, m + 1, hi, hm, hl => by
   show w30F0 _ _ _ _ _ _ _ _ _ _ _ _ _ _ _ _ _ _ _ _ _ _ _ _ _ _ _ _ _ _ _ = _
   unfold w30F0
   simp only []
   have hg : ([b 0, b 1, b 2, b 3, b 4, b 5, b 6, b 7, b 8, b 9, b 10, b 11, b 12, b 13, b 14, b 15, b 16, b 17, b 18, b 19, b 20, b 21, b 22, b 23, b 24, b 25] : List Bool)[i]? = some (b i) := by
    have : ([b 0, b 1, b 2, b 3, b 4, b 5, b 6, b 7, b 8, b 9, b 10, b 11, b 12, b 13, b 14, b 15, b 16, b 17, b 18, b 19, b 20, b 21, b 22, b 23, b 24, b 25] : List Bool) = (List.range 26).map b := rfl
    rw [this, List.getElem?_map, List.getElem?_range (by omega)]
    rfl
   rw [decide_eq_true (by omega), br_t, gx_at hg, wr (x := (i : Int) + 1) (by omega) (by omega)]
   rw [show (i : Int) + 1 = ((i + 1 : Nat) : Int) by omega]
   have hlim : lim (acc ++ [(i : Int)]).length 8 = true := by unfold lim; simp; omega
   cases hb : b i with
   | true =>
     rw [br_t, ck_of hlim]
     simp only [vz, hb, if_true]
     refine (w30_loop r (i + 1) (acc ++ [(i : Int)]) m (by omega) (by omega) (by simp; omega)).trans ?_
     simp
   | false =>
     rw [br_f]
     simp only [vz, hb]
     exact w30_loop r (i + 1) acc m (by omega) (by omega) (by omega)
/-- The variables of a tree, in increasing order. -/
def varsZ (e : Ex) : List Int := vz (usesE e) 26 0
theorem w30_z {N : Nat} {e : Ex} (h : sizeE e < N) (h26 : 26 < N) (hB : sizeE e < 2 ^ 60) : w30z N e.op e.num e.kids = some (varsZ e) := by
 have e1 := w66_eq (N := N) N e (fun _ => false) (by omega) h hB
 simp only [Bool.false_or] at e1
 unfold w30z w30 w30G
 unfold w66p w66y0 w66y1 w66y2 w66y3 w66y4 w66y5 w66y6 w66y7 w66y8 w66y9 w66y10 w66y11 w66y12 w66y13 w66y14 w66y15 w66y16 w66y17 w66y18 w66y19 w66y20 w66y21 w66y22 w66y23 w66y24 w66y25
 simp only [e1]
 simp only [Option.isSome_some, ck_t, Option.getD_some]
 unfold w30n0
 refine (congrArg (fun z : O => z.bind w30un) (w30_loop (N := N) (b := usesE e) (K := fun y => (fun z5 => some (w30r0 z5)) y) (k1 := fun _ => none) (k2 := fun _ => none) 26 0 [] N rfl h26 (by simp))).trans ?_
 rfl
theorem w68_loop {N : Nat} {rc : _} {o a : Int} {v : Nat} {K : Bool → O} {k1 k2 : Unit → O} : ∀ (l pre ks : List Ex) (m : Nat), ks = pre ++ l → l.length < m → (∀ k ∈ l, rc k.op k.num k.kids (v : Int) = some (usesE k v)) → ks.length < 2 ^ 62 →
    w68l0 (N, rc) m ((v : Int), (pre.length : Int), o, a, ks) K k1 k2 = br (usesL l v) (K true) (k1 ())
 | _, _, _, 0, _, h, _, _ => by omega
 | [], pre, ks, m + 1, hk, _, _, _ => by
   show w68F0 _ _ _ _ _ _ _ _ _ = _
   unfold w68F0
   simp only []
   subst hk
   rw [decide_eq_false (by simp), br_f]
   rfl
 | k :: l, pre, ks, m + 1, hk, hm, hr, h2 => by
   have hl : ks.length = pre.length + (l.length + 1) := by rw [hk]; simp
   have ih := w68_loop (N := N) (rc := rc) (o := o) (a := a) (v := v) (K := K) (k1 := k1) (k2 := k2) l (pre ++ [k]) ks m (by rw [hk]; simp) (by simp at hm; omega) (fun x hx => hr x (List.mem_cons_of_mem _ hx)) h2
   rw [show ((pre ++ [k]).length : Int) = (pre.length : Int) + 1 by simp] at ih
   show w68F0 _ _ _ _ _ _ _ _ _ = _
   unfold w68F0
   simp only []
   rw [decide_eq_true (by omega), br_t, gx_at (y := k) (by rw [hk]; exact drop_get)]
   simp only [hr k (List.mem_cons_self ..)]
   simp only [Option.isSome_some, ck_t, Option.getD_some]
   rw [wr (x := (pre.length : Int) + 1) (by omega) (by omega)]
   cases hb : usesE k v with
   | true => simp only [usesL, hb, Bool.true_or, br_t]
   | false =>
     simp only [usesL, hb, Bool.false_or, br_f]
     exact ih
theorem w68_eq {N : Nat} {v : Nat} : ∀ (n : Nat) (e : Ex), sizeE e ≤ n → sizeE e < N → sizeE e < 2 ^ 60 → w68Y N n e.op e.num e.kids (v : Int) = some (usesE e v)
 | 0, e, h, _, _ => by have := size_pos e; omega
 | n + 1, .mk o a ks, h, hN, hB => by
   simp only [sizeE] at h hN hB
   have hlen := len_le ks
   show w68z (N, w68Y N n) o a ks (v : Int) = _
   unfold w68z w68 w68G
   simp only [usesE]
   cases hb : decide (o = 1) && decide (a = (v : Int)) && decide ((ks.length : Int) = 0) with
   | true => rw [br_t]; rfl
   | false =>
     rw [br_f]
     unfold w68n0
     refine (congrArg (fun z : O => z.bind w68un) (w68_loop (o := o) (a := a) (v := v) ks [] ks N rfl (by omega) (fun k hk => ?_) (by omega))).trans ?_
     ·have := size_mem hk
      exact w68_eq n k (by omega) (by omega) (by omega)
     ·rw [Bool.false_or]
      cases usesL ks v <;> rfl
theorem w37_loop {N : Nat} {e : Ex} (h : sizeE e < N) (hB : sizeE e < 2 ^ 60) {K : List Int → O} {k1 k2 : Unit → O} : ∀ (r i : Nat) (acc : List Int) (m : Nat), i + r = 26 → r < m → acc.length ≤ i →
    w37l0 N m ((i : Int), e.op, e.num, e.kids, acc) K k1 k2 = K (acc ++ vz (usesE e) r i)
 | _, _, _, 0, _, h, _ => by omega
 | 0, i, acc, m + 1, hi, _, _ => by
   show w37F0 _ _ _ _ _ _ _ _ = _
   unfold w37F0
   simp only []
   rw [decide_eq_false (by omega), br_f]
   simp [vz]
 | r + 1, i, acc, m + 1, hi, hm, hl => by
   show w37F0 _ _ _ _ _ _ _ _ = _
   unfold w37F0
   simp only []
   have e1 := w68_eq (N := N) (v := i) N e (by omega) h hB
   have p : w68p N e.op e.num e.kids (i : Int) = true := by unfold w68p; rw [e1]; rfl
   have y : w68y0 N e.op e.num e.kids (i : Int) = usesE e i := by unfold w68y0; rw [e1]; rfl
   rw [decide_eq_true (by omega), br_t, ck_of p, y, wr (x := (i : Int) + 1) (by omega) (by omega), show (i : Int) + 1 = ((i + 1 : Nat) : Int) by omega]
   have hlim : lim (acc ++ [(i : Int)]).length 8 = true := by unfold lim; simp; omega
   cases hb : usesE e i with
   | true =>
     rw [br_t, ck_of hlim]
     simp only [vz, hb, if_true]
     refine (w37_loop h hB r (i + 1) (acc ++ [(i : Int)]) m (by omega) (by omega) (by simp; omega)).trans ?_
     simp
   | false =>
     rw [br_f]
     simp only [vz, hb]
     exact w37_loop h hB r (i + 1) acc m (by omega) (by omega) (by omega)
theorem w37_z {N : Nat} {e : Ex} (h : sizeE e < N) (h26 : 26 < N) (hB : sizeE e < 2 ^ 60) : w37z N e.op e.num e.kids = some (varsZ e) := by
 unfold w37z w37 w37G w37n0
 refine (congrArg (fun z : O => z.bind w37un) (w37_loop (N := N) (e := e) h hB (K := fun y => (fun z1 => some (w37r0 z1)) y) (k1 := fun _ => none) (k2 := fun _ => none) 26 0 [] N rfl h26 (by simp))).trans ?_
 rfl
theorem w36_loop {N : Nat} {K : Bool → O} {k1 k2 : Unit → O} : ∀ (l pre ks : List Int) (m : Nat), ks = pre ++ l → l.length < m → ks.length < 2 ^ 62 → w36l0 N m (ks, ks, (pre.length : Int)) K k1 k2 = k1 ()
 | _, _, _, 0, _, h, _ => by omega
 | [], pre, ks, m + 1, hk, _, _ => by
   show w36F0 _ _ _ _ _ _ _ = _
   unfold w36F0
   simp only []
   subst hk
   rw [decide_eq_false (by simp), br_f]
 | k :: l, pre, ks, m + 1, hk, hm, h2 => by
   have hl : ks.length = pre.length + (l.length + 1) := by rw [hk]; simp
   have ih := w36_loop (N := N) (K := K) (k1 := k1) (k2 := k2) l (pre ++ [k]) ks m (by rw [hk]; simp) (by simp at hm; omega) h2
   rw [show ((pre ++ [k]).length : Int) = (pre.length : Int) + 1 by simp] at ih
   show w36F0 _ _ _ _ _ _ _ = _
   unfold w36F0
   simp only []
   have hg : ks[pre.length]? = some k := by rw [hk]; exact drop_get
   rw [decide_eq_true (by omega), br_t, gx_at hg, gx_at hg, decide_eq_false (by simp), br_f, wr (x := (pre.length : Int) + 1) (by omega) (by omega)]
   exact ih
theorem w36_refl {N : Nat} {l : List Int} (h : l.length < N) (hB : l.length < 2 ^ 60) : w36z N l l = some true := by
 unfold w36z w36 w36G
 rw [decide_eq_false (by simp), br_f]
 unfold w36n0
 refine (congrArg (fun z : O => z.bind w36un) (w36_loop (N := N) l [] l N rfl (by omega) (by omega))).trans ?_
 rfl
section
variable {N : Nat} {e : Ex} (h : sizeE e < N) (h26 : 26 < N) (hB : sizeE e < 2 ^ 60)
include h h26 hB
theorem w30_p : w30p N e.op e.num e.kids = true := by unfold w30p; rw [w30_z h h26 hB]; rfl
theorem w30_y0 : w30y0 N e.op e.num e.kids = varsZ e := by unfold w30y0; rw [w30_z h h26 hB]; rfl
theorem w37_p : w37p N e.op e.num e.kids = true := by unfold w37p; rw [w37_z h h26 hB]; rfl
theorem w37_y0 : w37y0 N e.op e.num e.kids = varsZ e := by unfold w37y0; rw [w37_z h h26 hB]; rfl
end
theorem w36_p {N : Nat} {l : List Int} (h : l.length < N) (hB : l.length < 2 ^ 60) : w36p N l l = true := by unfold w36p; rw [w36_refl h hB]; rfl
theorem w36_y0 {N : Nat} {l : List Int} (h : l.length < N) (hB : l.length < 2 ^ 60) : w36y0 N l l = true := by unfold w36y0; rw [w36_refl h hB]; rfl
end Go.Proofs
/- The law on validity. -/
namespace Go.Proofs
open Go Go.Ax Go.Ax.Alg
theorem w9_inner {N : Nat} (hN : 1000 ≤ N) {c0 c1 c2 c4 c6 c7 c9 c10 o a : Int} {c3 c8 c11 ks : List Ex} {K0 : Bool → O} {K1 : _ → O} {k2 : Unit → O} (hx : sizeE (.mk o a ks) ≤ 100) : ∀ (l pre L : List Ex) (m : Nat), L = pre ++ l → l.length < m → (∀ k ∈ l, sizeE k ≤ 100) → L.length < 2 ^ 60 →
    w9l0 N m (c0, c1, c2, c3, c4, (pre.length : Int), c6, c7, c8, c9, c10, c11, L, o, a, ks) K0 K1 k2 = K1 (c0, c1, c2, c3, c4, c6, c7, c8, c9, c10, c11, L)
 | _, _, _, 0, _, h, _, _ => by omega
 | [], pre, L, m + 1, hk, _, _, _ => by
   show w9F0 _ _ _ _ _ _ _ _ _ _ _ _ _ _ _ _ _ _ _ _ = _
   unfold w9F0
   simp only []
   subst hk
   rw [decide_eq_false (by simp), br_f]
 | k :: l, pre, L, m + 1, hk, hm, hr, h2 => by
   have hl : L.length = pre.length + (l.length + 1) := by rw [hk]; simp
   have ih := w9_inner hN (c0 := c0) (c1 := c1) (c2 := c2) (c3 := c3) (c4 := c4) (c6 := c6) (c7 := c7) (c8 := c8) (c9 := c9) (c10 := c10) (c11 := c11) (K0 := K0) (K1 := K1) (k2 := k2) hx l (pre ++ [k]) L m (by rw [hk]; simp) (by simp at hm; omega) (fun x hx => hr x (List.mem_cons_of_mem _ hx)) h2
   rw [show ((pre ++ [k]).length : Int) = (pre.length : Int) + 1 by simp] at ih
   have hs := hr k (List.mem_cons_self ..)
   have p1 := w38_p (N := N) (e := .mk o a ks) (f := k) (by omega) (by omega) (by omega)
   have y1 := w38_y0 (N := N) (e := .mk o a ks) (f := k) (by omega) (by omega) (by omega)
   have p2 := w18_p (N := N) (e := .mk o a ks) (f := k) (by omega) (by omega) (by omega)
   have y2 := w18_y0 (N := N) (e := .mk o a ks) (f := k) (by omega) (by omega) (by omega)
   simp only [Ex.op, Ex.num, Ex.kids] at p1 y1 p2 y2
   have hg : L[pre.length]? = some k := by rw [hk]; exact drop_get
   show w9F0 _ _ _ _ _ _ _ _ _ _ _ _ _ _ _ _ _ _ _ _ = _
   unfold w9F0
   simp only []
   have p1' : w38p N o a ks k.op k.num k.kids = true := p1
   have y1' : w38y0 N o a ks k.op k.num k.kids = sameE (.mk o a ks) k := y1
   have p2' : w18p N o a ks k.op k.num k.kids = true := p2
   have y2' : w18y0 N o a ks k.op k.num k.kids = sameE (.mk o a ks) k := y2
   rw [decide_eq_true (by omega), br_t, gx_at hg, ck_of p1', gx_at hg, ck_of p2', y1', y2', wr (x := (pre.length : Int) + 1) (by omega) (by omega)]
   rw [show (!sameE (.mk o a ks) k == sameE (.mk o a ks) k) = false by cases sameE (.mk o a ks) k <;> rfl, br_f]
   exact ih
theorem w9_outer {N : Nat} (hN : 1000 ≤ N) {c0 c1 c2 c5 c6 c8 c9 : Int} {c3 c7 c10 : List Ex} {K0 : Bool → O} {K1 : _ → O} {k2 : Unit → O} {L : List Ex} (hL : ∀ k ∈ L, sizeE k ≤ 100) (hLn : L.length ≤ 100) : ∀ (l pre : List Ex) (m : Nat), L = pre ++ l → l.length < m →
    w9l1 N m (c0, c1, c2, c3, (pre.length : Int), c5, c6, c7, c8, c9, c10, L) K0 K1 k2 = K1 (c0, c5, c6, c7)
 | _, _, 0, _, h => by omega
 | [], pre, m + 1, hk, _ => by
   show w9F1 _ _ _ _ _ _ _ _ _ _ _ _ _ _ _ _ _ = _
   unfold w9F1
   simp only []
   rw [decide_eq_false (by rw [hk]; simp), br_f]
 | k :: l, pre, m + 1, hk, hm => by
   have hl : L.length = pre.length + (l.length + 1) := by rw [hk]; simp
   have ih := w9_outer hN (c0 := c0) (c1 := c1) (c2 := c2) (c3 := c3) (c5 := c5) (c6 := c6) (c7 := c7) (c8 := c8) (c9 := c9) (c10 := c10) (K0 := K0) (K1 := K1) (k2 := k2) hL hLn l (pre ++ [k]) m (by rw [hk]; simp) (by simp at hm; omega)
   rw [show ((pre ++ [k]).length : Int) = (pre.length : Int) + 1 by simp] at ih
   have hs : sizeE k ≤ 100 := hL k (by rw [hk]; simp)
   have hg : L[pre.length]? = some k := by rw [hk]; exact drop_get
   have a1 := w17_p (N := N) (e := k) (by omega) (by omega)
   have a2 := w17_y0 (N := N) (e := k) (by omega) (by omega)
   have a3 := w31_p (N := N) (e := k) (by omega) (by omega)
   have a4 := w31_y0 (N := N) (e := k) (by omega) (by omega)
   have b1 := w32_p (N := N) (e := k) (by omega) (by omega)
   have b2 := w32_y0 (N := N) (e := k) (by omega) (by omega)
   have b3 := w33_p (N := N) (e := k) (by omega) (by omega)
   have b4 := w33_y0 (N := N) (e := k) (by omega) (by omega)
   have d1 := w34_p (N := N) (e := k) (by omega) (by omega)
   have d2 := w34_y0 (N := N) (e := k) (by omega) (by omega)
   have d3 := w35_p (N := N) (e := k) (by omega) (by omega)
   have d4 := w35_y0 (N := N) (e := k) (by omega) (by omega)
   have v1 := w30_p (N := N) (e := k) (by omega) (by omega) (by omega)
   have v2 := w30_y0 (N := N) (e := k) (by omega) (by omega) (by omega)
   have v3 := w37_p (N := N) (e := k) (by omega) (by omega) (by omega)
   have v4 := w37_y0 (N := N) (e := k) (by omega) (by omega) (by omega)
   have hvl : (varsZ k).length ≤ 26 := vz_len _ _ _
   have s1 := w36_p (N := N) (l := varsZ k) (by omega) (by omega)
   have s2 := w36_y0 (N := N) (l := varsZ k) (by omega) (by omega)
   have hin := w9_inner hN (c0 := c0) (c1 := c1) (c2 := c2) (c3 := c3) (c4 := (pre.length : Int)) (c6 := c5) (c7 := c6) (c8 := c7) (c9 := c8) (c10 := c9) (c11 := c10) (o := k.op) (a := k.num) (ks := k.kids) (k2 := fun _ => none) (K0 := fun y => K0 y)
    (K1 := fun y => w9l1 N m (y.1, y.2.1, y.2.2.1, y.2.2.2.1, IntKind.i64.wrap (y.2.2.2.2.1 + 1), y.2.2.2.2.2.1, y.2.2.2.2.2.2.1, y.2.2.2.2.2.2.2.1, y.2.2.2.2.2.2.2.2.1, y.2.2.2.2.2.2.2.2.2.1, y.2.2.2.2.2.2.2.2.2.2.1, y.2.2.2.2.2.2.2.2.2.2.2) K0 K1 k2) (by rw [Ex.eta]; exact hs) L [] L N rfl (by omega) hL (by omega)
   show w9F1 _ _ _ _ _ _ _ _ _ _ _ _ _ _ _ _ _ = _
   unfold w9F1
   simp only []
   rw [decide_eq_true (by omega), br_t, gx_at hg]
   simp only [a1, a2, a3, a4, b1, b2, b3, b4, d1, d2, d3, d4, v1, v2, v3, v4, s1, s2, ck_t, Bool.or_true, ne_eq, not_true_eq_false, decide_false, Bool.or_false, Bool.not_true, br_f]
   refine hin.trans ?_
   show w9l1 N m (c0, c1, c2, c3, IntKind.i64.wrap ((pre.length : Int) + 1), c5, c6, c7, c8, c9, c10, L) K0 K1 k2 = _
   rw [wr (x := (pre.length : Int) + 1) (by omega) (by omega)]
   exact ih
theorem law9 {N : Nat} (hN : 1000 ≤ N) {l : List Int} {depth at1 how by4 : Int} (hl : ∀ x ∈ l, J64 x) (hlen : l.length < 2 ^ 60) (ha : J64 at1) (hh : J64 how) (hb : J64 by4) : w9z N l depth at1 how by4 = some true := by
 obtain ⟨e, p1, q1, q2, q3, ok, hs, hd, _⟩ := w12_py (N := N) (by omega) hl hlen depth
 obtain ⟨f, p2, r1, r2, r3, hf⟩ := w13_py (N := N) (e := e) ha hh hb (by omega) (by omega)
 have h4 : J64 (IntKind.i64.wrap (how.tdiv 4)) := by
  have := tdiv_in (m := 4) hh (by decide)
  rw [wr (x := how.tdiv 4) this.1 (by have := this.2; omega)]
  exact this
 obtain ⟨g, p3, s1, s2, s3, hg⟩ := w13_py (N := N) (e := f) hb h4 ha (by omega) (by omega)
 have v1 := w17_p (N := N) (e := e) (by omega) (by omega)
 have v2 := w17_y0 (N := N) (e := e) (by omega) (by omega)
 have hv : validE e = 0 := by unfold validE; rw [if_neg (by omega), if_pos ok]
 unfold w9z w9 w9G
 simp only [q1, q2, q3, r1, r2, r3, s1, s2, s3, p1, p2, p3, ck_t, Ex.eta]
 unfold w9n1
 have := w9_outer hN (c0 := how) (c1 := e.op) (c2 := e.num) (c3 := e.kids) (c5 := e.op) (c6 := e.num) (c7 := e.kids) (c8 := f.op) (c9 := f.num) (c10 := f.kids) (K0 := fun y => (fun z64 => some (w9r0 z64)) y) (k2 := fun _ => none)
  (K1 := fun y => ck (w17p N y.2.1 y.2.2.1 y.2.2.2) (ck (!decide (w17y0 N y.2.1 y.2.2.1 y.2.2.2 = 0) || true) (some (w9r0 (decide (w17y0 N y.2.1 y.2.2.1 y.2.2.2 = 0) && true))))) (L := [e, f, g, .mk 0 0 []]) (fun k hk => by
   simp only [List.mem_cons, List.not_mem_nil, or_false] at hk
   rcases hk with rfl | rfl | rfl | rfl
   ·omega
   ·omega
   ·omega
   ·decide) (by simp) [e, f, g, .mk 0 0 []] [] N rfl (by simp; omega)
 refine (congrArg (fun z : O => z.bind w9un) this).trans ?_
 simp only [v1, v2, hv]
 rfl
end Go.Proofs
/- Numbers that came in. -/
namespace Go.Proofs
open Go Go.Ax
theorem j64_w {z : Int} (h : OkV (.i .i64) z) : J64 z := by
 have h : (Lit.int .i64 z).wf = true := h
 simp [Lit.wf] at h
 have h1 : IntKind.i64.min = -9223372036854775808 := by decide
 rw [h1] at h
 unfold J64
 omega
theorem jl_w {l : List Int} (h : OkV (.sl (.i .i64)) l) : ∀ x ∈ l, J64 x := fun x hx => j64_w (h x hx)
theorem len_s {l : List Int} (h : SzV (.sl (.i .i64)) l) : l.length < 2 ^ 60 := by
 have h1 := h.1
 have h2 : l.length * 8 ≤ reachBytes := h1
 have h3 : reachBytes = 0x7ffffffff000 := rfl
 omega
end Go.Proofs
