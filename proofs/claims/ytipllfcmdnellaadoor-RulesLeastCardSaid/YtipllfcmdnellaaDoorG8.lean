/- What Bent makes of rules. Conditions are in the theorems. -/
import Derived.Test.YtipllfcmdnellaaDoorG7
/- What Bent makes of rules: some rules, not many more and not much longer. -/
namespace Go.Proofs
open Go Go.Ax Go.Ax.Alg
def Rough (m : Nat) (l : List Rl) : Prop := l.length ≤ 40 ∧ ∀ r ∈ l, r.1.length ≤ m
theorem Rough.up {m m' : Nat} {l : List Rl} (h : Rough m l) (hm : m ≤ m') : Rough m' l := ⟨h.1, fun r hr => Nat.le_trans (h.2 r hr) hm⟩
theorem Rough.set {m : Nat} {l : List Rl} (h : Rough m l) (i : Nat) {x : Rl} (hx : x.1.length ≤ m) : Rough m (l.set i x) :=
 ⟨by rw [List.length_set]; exact h.1, fun r hr => by
  rcases List.mem_or_eq_of_mem_set hr with hr | rfl
  ·exact h.2 r hr
  ·exact hx⟩
theorem w10_loop0 {m : Nat} {l : List Rl} (hl : Rough m l) (hm : m ≤ 100) (a b c : Int) (k0 : Int × Int × Int × List Rl → O) (k1 k2 : Unit → O) : ∀ (n i : Nat), l.length - i < n → i ≤ l.length → w10l0 200 n (l, a, b, c, i, l.take i) k0 k1 k2 = k0 (a, b, c, l)
 | 0, i, h, _ => by omega
 | n + 1, i, h, hi => by
   show w10F0 200 _ _ l a b c i (l.take i) = _
   unfold w10F0
   have h40 := hl.1
   by_cases hlt : i < l.length
   ·have hg : l[i]? = some l[i] := List.getElem?_eq_getElem hlt
    have hr := hl.2 _ (List.mem_of_getElem? hg)
    rw [decide_eq_true (show (i : Int) < (l.length : Int) by omega), br_t, gx_at hg]
    have e : l.take i ++ [([] ++ l[i].1, l[i].2.1, l[i].2.2)] = l.take (i + 1) := by
     rw [List.take_add_one, hg]; rfl
    rw [e, ck_of (lim_of (by rw [List.nil_append]; omega) (by rw [List.nil_append]; omega)), ck_of (lim_of (by simp only [List.length_take, List.length_cons, List.length_nil]; omega) (by simp only [List.length_take, List.length_cons, List.length_nil]; omega)), nxt (by omega)]
    exact w10_loop0 hl hm a b c k0 k1 k2 n (i + 1) (by omega) (by omega)
   ·rw [decide_eq_false (show ¬ (i : Int) < (l.length : Int) by omega), br_f, List.take_of_length_le (by omega)]
theorem w10_loop1 {c : Int} (hc : I64 c) {k : Int} {z : List Rl} (h0 : 0 ≤ k) (hk : k < z.length) (m : Nat) (hm : 10 ≤ m) (hm2 : m ≤ 100) (k0 : List Rl × Int × List Int → O) (k1 k2 : Unit → O) : ∀ (n : Nat) (t : List Int), 12 - t.length < n → t.length ≤ m → ∃ t', t'.length ≤ m ∧ w10l1 200 n (c, k, z, k, t) k0 k1 k2 = k0 (z, k, t')
 | 0, t, h, _ => by omega
 | n + 1, t, h, ht => by
   have hg : z[k.toNat]? = some z[k.toNat] := List.getElem?_eq_getElem (by omega)
   obtain ⟨v, v0, v1, ev⟩ := w18_ex hc (show (1 : Int) ≤ 4 by omega) (by omega)
   have e : w10l1 200 (n + 1) (c, k, z, k, t) k0 k1 k2 = w10F1 200 (fun v0 => w10l1 200 n (c, k, z, k, v0) k0 k1 k2) (fun y0 y1 y2 => k0 (y0, y1, y2)) c k z k t := rfl
   rw [e]
   unfold w10F1
   have ck1 : ∀ x : O, ck (decide (0 ≤ k ∧ k < (z.length : Int))) x = x := fun x => ck_of (decide_eq_true ⟨h0, hk⟩) x
   simp only [ck1, gn_of hg, ck_of (w18_p ev), w18_y0 ev, wr (x := 7 + v) (by omega) (by omega), wr (x := (t.length : Int) + 1) (by omega) (by omega)]
   by_cases hlt : (t.length : Int) < 7 + v
   ·rw [decide_eq_true hlt, br_t]
    rw [ck_of (lim_of (by simp; omega) (by simp; omega))]
    exact w10_loop1 hc h0 hk m hm hm2 k0 k1 k2 n _ (by simp; omega) (by simp; omega)
   ·rw [decide_eq_false hlt, br_f]
    exact ⟨t, ht, rfl⟩
theorem w10_loop2 {c : Int} (hc : I64 c) {k : Int} (h0 : 0 ≤ k) (m : Nat) (k0 : List Rl → O) (k1 k2 : Unit → O) : ∀ (n : Nat) (z : List Rl), 40 - z.length < n → k < z.length → Rough m z → ∃ r, Rough m r ∧ w10l2 200 n (c, k, z) k0 k1 k2 = k0 r
 | 0, z, h, _, _ => by omega
 | n + 1, z, h, hk, hz => by
   have hg : z[k.toNat]? = some z[k.toNat] := List.getElem?_eq_getElem (by omega)
   obtain ⟨v, v0, v1, ev⟩ := w18_ex hc (show (1 : Int) ≤ 4 by omega) (by omega)
   have e : w10l2 200 (n + 1) (c, k, z) k0 k1 k2 = w10F2 200 (fun v0 => w10l2 200 n (c, k, v0) k0 k1 k2) (fun y0 => k0 y0) c k z := rfl
   rw [e]
   unfold w10F2
   rw [ck_of (w18_p ev), w18_y0 ev, wr (x := 31 + v) (by omega) (by omega)]
   by_cases hlt : (z.length : Int) < 31 + v
   ·have hy := hz.2 _ (List.mem_of_getElem? hg)
    rw [decide_eq_true hlt, br_t, gx_of h0 hg, ck_of (lim_of (by simp; omega) (by simp; omega))]
    refine w10_loop2 hc h0 m k0 k1 k2 n _ (by simp; omega) (by simp; omega) ⟨by simp; omega, fun r hr => ?_⟩
    rcases List.mem_append.1 hr with hr | hr
    ·exact hz.2 r hr
    ·rw [List.mem_singleton.1 hr]; exact hy
   ·rw [decide_eq_false hlt, br_f]
    exact ⟨z, hz, rfl⟩
theorem w10n0_eq {m : Nat} {l : List Rl} (hl : Rough m l) (hm : m ≤ 100) (a b c : Int) (K : Int → Int → Int → List Rl → O) : w10n0 200 l a b c 0 [] K = K a b c l := by
 unfold w10n0
 exact w10_loop0 hl hm a b c (fun y => K y.1 y.2.1 y.2.2.1 y.2.2.2) (fun _ => none) (fun _ => none) 200 0 (by have := hl.1; omega) (by omega)
theorem w10_ur (r : List Rl) : (some (w10r0 r) : O).bind w10un = some r := rfl
theorem w10_ex {m : Nat} {l : List Rl} (hl : Rough m l) (hm : 10 ≤ m) (hm2 : m ≤ 99) {a b c : Int} (ha : I64 a) (hb : I64 b) (hc : I64 c) : ∃ r, Rough (m + 1) r ∧ w10z 200 l a b c = some r := by
 unfold w10z w10 w10G
 rw [w10n0_eq hl (by omega)]
 have h40 := hl.1
 have hup := hl.up (Nat.le_succ m)
 obtain ⟨v5, p5, q5, e5⟩ := w18_ex hc (show (1 : Int) ≤ 5 by omega) (by omega)
 obtain ⟨v6, p6, q6, e6⟩ := w18_ex hc (show (1 : Int) ≤ 6 by omega) (by omega)
 obtain ⟨v7, p7, q7, e7⟩ := w18_ex hc (show (1 : Int) ≤ 7 by omega) (by omega)
 obtain ⟨h, ph, qh, eh⟩ := w18_ex hb (show (1 : Int) ≤ 6 by omega) (by omega)
 by_cases hn : (l.length : Int) = 0
 ·rw [decide_eq_true hn, br_t, ck_of (w18_p e5)]
  exact ⟨_, ⟨by simp, fun r hr => by rw [List.mem_singleton.1 hr]; exact Nat.zero_le _⟩, w10_ur _⟩
 rw [decide_eq_false hn, br_f]
 obtain ⟨k, k0, k1, ek⟩ := w18_ex ha (show (1 : Int) ≤ (l.length : Int) by omega) (by omega)
 obtain ⟨y, hg⟩ : ∃ y, l[k.toNat]? = some y := ⟨_, List.getElem?_eq_getElem (by omega)⟩
 have hy := hl.2 _ (List.mem_of_getElem? hg)
 have hk : k.toNat < l.length := by omega
 have ck1 : ∀ (z : List Rl), z.length = l.length → ∀ x : O, ck (decide (0 ≤ k ∧ k < (z.length : Int))) x = x := fun z hz x => ck_of (decide_eq_true ⟨k0, by omega⟩) x
 have ck2 : ∀ x : O, ck (decide (k.toNat = k.toNat)) x = x := fun x => ck_of (decide_eq_true rfl) x
 have hg1 : ∀ x : Rl, (l.set k.toNat x)[k.toNat]? = some x := fun x => List.getElem?_set_self hk
 rw [w18_p ek, w18_y0 ek, w18_p eh, w18_y0 eh, w18_p e5, w18_y0 e5, w18_p e6, w18_y0 e6, w18_p e7, w18_y0 e7]
 rw [ck_t, ck_t]
 by_cases c0 : h = 0
 ·rw [decide_eq_true c0, br_t, ck_t, ck1 l rfl, gn_of hg]
  exact ⟨_, hup.set _ (by show y.1.length ≤ m + 1; omega), w10_ur _⟩
 rw [decide_eq_false c0, br_f]
 by_cases c1 : h = 1
 ·obtain ⟨u, hu⟩ : ∃ u, ([-10001, -10000, 9999, 10000, 0, -1] : List Int)[v6.toNat]? = some u := ⟨_, List.getElem?_eq_getElem (by show v6.toNat < 6; omega)⟩
  rw [decide_eq_true c1, br_t, ck_t, ck_of (decide_eq_true ⟨p6, q6⟩), gn_of hu, ck1 l rfl, gn_of hg]
  exact ⟨_, hup.set _ (by show y.1.length ≤ m + 1; omega), w10_ur _⟩
 rw [decide_eq_false c1, br_f]
 by_cases c2 : h = 2
 ·obtain ⟨u, hu⟩ : ∃ u, ([0, 16, -16, 17, -17, 1, -9223372036854775808] : List Int)[v7.toNat]? = some u := ⟨_, List.getElem?_eq_getElem (by show v7.toNat < 7; omega)⟩
  rw [decide_eq_true c2, br_t, gx_of k0 hg, ck1 l rfl, ck2, gn_of hg, ck_t, ck_of (decide_eq_true ⟨p7, q7⟩), gn_of hu, ck_of (lim_of (by simp; omega) (by simp; omega)), ck1 l rfl, ck2, gn_of hg, gx_of k0 hg]
  exact ⟨_, hup.set _ (by simp; omega), w10_ur _⟩
 rw [decide_eq_false c2, br_f, gx_of k0 hg]
 by_cases c3 : h = 3
 ·rw [decide_eq_true c3, br_t]
  obtain ⟨t', ht', e⟩ := w10_loop1 hc k0 k1 (m + 1) (by omega) (by omega) (fun y => gx y.1 y.2.1 fun y34 => some (w10r0 (y.1.set y.2.1.toNat (y.2.2, y34.2)))) (fun _ => none) (fun _ => none) 200 y.1 (by omega) (by omega)
  refine ⟨l.set k.toNat (t', y.2), hup.set _ ht', (congrArg (fun z : O => z.bind w10un) e).trans ?_⟩
  simp only []
  rw [gx_of k0 hg]
  exact w10_ur _
 rw [decide_eq_false c3, br_f, gx_of k0 hg]
 have hset : l.set k.toNat (y.1, y.2) = l := by
  apply List.ext_getElem?
  intro i
  rw [List.getElem?_set]
  split
  ·rename_i hi
   subst hi
   exact hg.symm
  ·rfl
 rw [hset]
 by_cases c4 : h = 4
 ·rw [decide_eq_true c4, br_t]
  obtain ⟨r, hr, e⟩ := w10_loop2 hc k0 (m + 1) (fun y => some (w10r0 y)) (fun _ => none) (fun _ => none) 200 l (by omega) k1 hup
  exact ⟨r, hr, (congrArg (fun z : O => z.bind w10un) e).trans (w10_ur _)⟩
 rw [decide_eq_false c4, br_f, gx_of k0 hg, ck1 l rfl, ck2, gn_of hg]
 by_cases c5 : (0 : Int) < (y.1.length : Int)
 ·obtain ⟨u, hu⟩ : ∃ u, y.1[0]? = some u := ⟨_, List.getElem?_eq_getElem (by omega)⟩
  rw [decide_eq_true c5, br_t, ck1 l rfl, ck2, gn_of hg, ck1 l rfl, ck2, gn_of hg, ck_of (decide_eq_true ⟨by omega, c5⟩), gn_of hu, ck_of (decide_eq_true ⟨by omega, c5⟩), gn_of hu, gx_of k0 hg]
  exact ⟨_, hup.set _ (by simp; omega), w10_ur _⟩
 ·rw [decide_eq_false c5, br_f, gx_of k0 hg]
  exact ⟨_, hup.set _ (by show y.1.length ≤ m + 1; omega), w10_ur _⟩
end Go.Proofs
