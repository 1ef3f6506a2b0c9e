/- RulesMore in plain words. Conditions are in the theorems. -/
import Derived.Test.YtipllfcmdnellaaDoorG2
/- More rules demand no less, and their order does not matter. -/
namespace Go.Proofs
open Go Go.Ax Go.Ax.Alg
theorem upL_max (H : List Bool) (d a b : Int) (r : Rl) : upL H d (max a b) r = max a (upL H d b r) := by unfold upL; split <;> omega
theorem upM_min (H : List Bool) (d a b : Int) (r : Rl) : upM H d (min a b) r = min a (upM H d b r) := by unfold upM; split <;> omega
theorem foldL_max (H : List Bool) (d : Int) : ∀ (l : List Rl) (a b : Int), l.foldl (upL H d) (max a b) = max a (l.foldl (upL H d) b)
  | [], _, _ => rfl
  | r :: l, a, b => by rw [List.foldl_cons, List.foldl_cons, upL_max, foldL_max H d l]
theorem foldM_min (H : List Bool) (d : Int) : ∀ (l : List Rl) (a b : Int), l.foldl (upM H d) (min a b) = min a (l.foldl (upM H d) b)
  | [], _, _ => rfl
  | r :: l, a, b => by rw [List.foldl_cons, List.foldl_cons, upM_min, foldM_min H d l]
theorem lz_pos (l : List Rl) (H : List Bool) (d : Int) : 0 ≤ lz l H d := by
  have h := foldL_max H d l 0 0
  rw [show max (0 : Int) 0 = 0 from rfl] at h
  unfold lz; omega
theorem mz_le (l : List Rl) (H : List Bool) (d : Int) : mz l H d ≤ 9999 := by
  have h := foldM_min H d l 9999 9999
  rw [show min (9999 : Int) 9999 = 9999 from rfl] at h
  unfold mz; omega
theorem lz_app (l m : List Rl) (H : List Bool) (d : Int) : lz (l ++ m) H d = max (lz l H d) (lz m H d) := by
  show (l ++ m).foldl (upL H d) 0 = _
  have h := foldL_max H d m (lz l H d) 0
  rw [show max (lz l H d) 0 = lz l H d by have := lz_pos l H d; omega] at h
  rw [List.foldl_append]
  exact h
theorem mz_app (l m : List Rl) (H : List Bool) (d : Int) : mz (l ++ m) H d = min (mz l H d) (mz m H d) := by
  show (l ++ m).foldl (upM H d) 9999 = _
  have h := foldM_min H d m (mz l H d) 9999
  rw [show min (mz l H d) 9999 = mz l H d by have := mz_le l H d; omega] at h
  rw [List.foldl_append]
  exact h
theorem lz_rev (H : List Bool) (d : Int) : ∀ l : List Rl, lz l.reverse H d = lz l H d
  | [] => rfl
  | r :: l => by
    rw [List.reverse_cons, lz_app, lz_rev H d l, show r :: l = [r] ++ l from rfl, lz_app]
    omega
theorem mz_rev (H : List Bool) (d : Int) : ∀ l : List Rl, mz l.reverse H d = mz l H d
  | [] => rfl
  | r :: l => by
    rw [List.reverse_cons, mz_app, mz_rev H d l, show r :: l = [r] ++ l from rfl, mz_app]
    omega
theorem least_comm (a b : List Rl) (H : List Bool) : leastZ (b.reverse ++ a) H = leastZ (a ++ b) H := by
  have e : ∀ d, lz (b.reverse ++ a) H d = lz (a ++ b) H d := fun d => by rw [lz_app, lz_app, lz_rev]; omega
  have f : ∀ d, mz (b.reverse ++ a) H d = mz (a ++ b) H d := fun d => by rw [mz_app, mz_app, mz_rev]; omega
  unfold leastZ badZ
  simp only [e, f]
theorem bad_app {a b : List Rl} {H : List Bool} (h : badZ a H) : badZ (a ++ b) H := by
  unfold badZ at *
  simp only [lz_app, mz_app]
  omega
theorem least_err {l : List Rl} {H : List Bool} : (leastZ l H).2.2.2 = 0 ↔ ¬ badZ l H := by
  unfold leastZ
  by_cases h : badZ l H
  · rw [if_pos h]; exact ⟨fun e => absurd e (by decide), fun e => absurd h e⟩
  · rw [if_neg h]; exact ⟨fun _ => h, fun _ => rfl⟩
theorem w6_loop (x : Int) (c : Bool) (a b : List Rl) (hb : b.length < 100) (k0 : Int × Bool × List Rl × List Rl × List Rl → O) (k1 k2 : Unit → O) : ∀ (n i : Nat) (o : List Rl), i < n → i ≤ b.length → o.length + i < 150 → w6l0 200 n (x, c, a, b, (i : Int) - 1, o) k0 k1 k2 = k0 (x, c, a, b, o ++ (b.take i).reverse)
  | 0, i, _, h, _, _ => by omega
  | n + 1, 0, o, _, _, _ => by
    show w6F0 200 _ _ x c a b (((0 : Nat) : Int) - 1) o = _
    unfold w6F0
    rw [decide_eq_false (show ¬ (0 : Int) ≤ ((0 : Nat) : Int) - 1 by omega), br_f, List.take_zero, List.reverse_nil, List.append_nil]
  | n + 1, i + 1, o, h, hi, ho => by
    show w6F0 200 _ _ x c a b (((i + 1 : Nat) : Int) - 1) o = _
    unfold w6F0
    have hg : b[i]? = some b[i] := List.getElem?_eq_getElem (by omega)
    have e : ((i + 1 : Nat) : Int) - 1 = (i : Int) := by omega
    have e2 : IntKind.i64.wrap ((i : Int) - 1) = (i : Int) - 1 := wr (by omega) (by omega)
    rw [e, decide_eq_true (show (0 : Int) ≤ (i : Int) by omega), br_t, gx_at hg, e2, ck_of (lim_of (by rw [List.length_append]; show (_ + 1) * _ ≤ _; omega) (by rw [List.length_append]; show _ + 1 ≤ _; omega))]
    refine (w6_loop x c a b hb k0 k1 k2 n i _ (by omega) (by omega) (by rw [List.length_append]; show _ + 1 + _ < _; omega)).trans ?_
    rw [List.take_add_one, hg, List.reverse_append, List.append_assoc]
    rfl
theorem good_app {n m : Nat} {a b : List Rl} (ha : Good n a) (hb : Good m b) : Good (n + m) (a ++ b) := by
  refine ⟨by have := ha.1; have := hb.1; rw [List.length_append]; omega, fun r h => ?_⟩
  rcases List.mem_append.1 h with h | h
  · exact ha.2 r h
  · exact hb.2 r h
theorem good_rev {n : Nat} {a : List Rl} (ha : Good n a) : Good n a.reverse := ⟨by have := ha.1; rw [List.length_reverse]; omega, fun r h => ha.2 r (List.mem_reverse.1 h)⟩
theorem w16_good {n : Nat} {l : List Rl} (h : Good n l) (hn : n ≤ 32) {H : List Bool} (hH : H.length = 16) : w16z 200 l H = some (leastZ l H) := w16_eq (by have := h.1; omega) h.2 hH
theorem w12_good {n : Nat} {l : List Rl} (h : Good n l) (hn : n ≤ 32) : w12z 200 l = some l := w12_eq (by have := h.1; omega)
theorem lim_good {n : Nat} {l : List Rl} (h : Good n l) (hn : n ≤ 32) : lim l.length 40 = true := lim_of (by have := h.1; omega) (by have := h.1; omega)
theorem w6_ur (x : Bool) : (some (w6r0 x) : O).bind w6un = some x := rfl
theorem law6 {l m : List Int} (hl : ∀ x ∈ l, I64 x) (hm : ∀ x ∈ m, I64 x) (n : Int) : w6z 200 l m n = some true := by
  unfold w6z w6 w6G
  obtain ⟨a, ha, ea⟩ := w9_ex hl
  obtain ⟨b, hb, eb⟩ := w9_ex hm
  obtain ⟨H, hH, eH⟩ := w17_ex n
  have hab := good_app ha hb
  have hba := good_app (good_rev hb) ha
  have hb1 := hb.1
  have e1 : IntKind.i64.wrap ((b.length : Int) - 1) = (b.length : Int) - 1 := wr (by omega) (by omega)
  rw [ck_of (w9_p ea), ck_of (w9_p eb), w9_y0 ea, w9_y0 eb, e1]
  refine (congrArg (fun z : O => z.bind w6un) (w6_loop n false a b (by omega) _ _ _ 200 b.length [] (by omega) (by omega) (by show 0 + _ < _; omega))).trans ?_
  simp only []
  rw [List.take_length, List.nil_append, List.nil_append]
  have a12 := w12_good ha (by omega)
  have ab12 := w12_good hab (by omega)
  have ba12 := w12_good hba (by omega)
  have a16 := w16_good ha (by omega) hH
  have ab16 := w16_good hab (by omega) hH
  have ba16 := w16_good hba (by omega) hH
  rw [least_comm] at ba16
  have hE : (decide ((leastZ a H).2.2.2 ≠ 0) && decide ((leastZ (a ++ b) H).2.2.2 = 0)) = false := by
    by_cases h : badZ a H
    · rw [decide_eq_false (show ¬ (leastZ (a ++ b) H).2.2.2 = 0 from fun e => least_err.1 e (bad_app h)), Bool.and_false]
    · rw [decide_eq_false (show ¬ (leastZ a H).2.2.2 ≠ 0 from fun e => e (least_err.2 h))]; rfl
  have hW := w20_eq (leastZ (a ++ b) H).1 (leastZ (a ++ b) H).2.1 (leastZ (a ++ b) H).2.2.1 (leastZ a H).1 (leastZ a H).2.1 (leastZ a H).2.2.1
  have hF : (decide ((leastZ (a ++ b) H).2.2.2 ≠ 0) || !worseZ (leastZ (a ++ b) H).1 (leastZ (a ++ b) H).2.1 (leastZ (a ++ b) H).2.2.1 (leastZ a H).1 (leastZ a H).2.1 (leastZ a H).2.2.1) = true := by
    by_cases h : badZ (a ++ b) H
    · rw [decide_eq_true (show (leastZ (a ++ b) H).2.2.2 ≠ 0 from fun e => least_err.1 e h), Bool.true_or]
    · have h2 : ¬ badZ a H := fun e => h (bad_app e)
      have hw : worseZ (leastZ (a ++ b) H).1 (leastZ (a ++ b) H).2.1 (leastZ (a ++ b) H).2.2.1 (leastZ a H).1 (leastZ a H).2.1 (leastZ a H).2.2.1 = false := by
        unfold leastZ worseZ
        rw [if_neg h, if_neg h2]
        refine decide_eq_false ?_
        show ¬ (lz (a ++ b) H 0 < lz a H 0 ∨ lz (a ++ b) H 1 < lz a H 1 ∨ lz (a ++ b) H 2 < lz a H 2)
        simp only [lz_app]
        omega
      rw [hw, show (!false) = true from rfl, Bool.or_true]
  rw [ck_of (w12_p a12), ck_of (w17_p eH), w12_y0 a12, w17_y0 eH, ck_of (w16_p a16), ck_of (lim_good ha (by omega)), ck_of (lim_good hab (by omega)), ck_of (w12_p ab12), w12_y0 ab12, ck_of (w16_p ab16), ck_of (lim_good hba (by omega)), ck_of (w12_p ba12), w12_y0 ba12, ck_of (w16_p ba16)]
  rw [w16_y3 ab16, w16_y3 ba16, w16_y0 ab16, w16_y0 ba16, w16_y1 ab16, w16_y1 ba16, w16_y2 ab16, w16_y2 ba16, w16_y3 a16, hE]
  rw [decide_eq_false (show ¬ ((leastZ (a ++ b) H).2.2.2 ≠ (leastZ (a ++ b) H).2.2.2) from fun h => h rfl), decide_eq_true (rfl : (leastZ (a ++ b) H).1 = (leastZ (a ++ b) H).1), decide_eq_true (rfl : (leastZ (a ++ b) H).2.1 = (leastZ (a ++ b) H).2.1), decide_eq_true (rfl : (leastZ (a ++ b) H).2.2.1 = (leastZ (a ++ b) H).2.2.1)]
  have hc0 : (false || !(true && (true && true)) || false) = false := rfl
  rw [hc0]
  rw [br_f]
  rw [w16_y0 a16]
  rw [w16_y1 a16]
  rw [w16_y2 a16]
  rw [w20_p hW]
  rw [w20_y0 hW]
  rw [ck_of (Bool.or_true _)]
  rw [ck_of (Bool.or_true _)]
  rw [hF, Bool.true_and, ck_of (w17_p eH)]
  rw [ck_of (w17_p eH)]
  exact w6_ur true
end Go.Proofs
