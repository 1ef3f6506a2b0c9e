/- The reference's Shaped and Valid; rows of shapes. -/
import Derived.Test.YtokdclbfjlnnjaaR1
import Derived.Laws.StructEq
namespace Go.Proofs.Ytokdclbfjlnnjaa
open Go.RowKit Go.BigFrame

/-- A row of shapes: a kind and a slice of points each. -/
def shCells (R : List (Int × Value)) : List Value := R.flatMap fun r => [.int .i64 r.1, r.2]
theorem shCells_length (R : List (Int × Value)) : (shCells R).length = R.length * 2 := by
  induction R with
  | nil => rfl
  | cons a l ih => simp only [shCells, List.flatMap_cons, List.length_append, List.length_cons] at *; simp at *; omega
theorem shCells_append (R S : List (Int × Value)) : shCells (R ++ S) = shCells R ++ shCells S := by simp [shCells]
theorem shCells_get {R : List (Int × Value)} : ∀ {k : Nat} {r : Int × Value}, R[k]? = some r → (shCells R)[k * 2]? = some (.int .i64 r.1) ∧ (shCells R)[k * 2 + 1]? = some r.2 := by
  induction R with
  | nil => intro k p h; simp at h
  | cons a l ih =>
    intro k p h
    cases k with
    | zero => simp at h; subst h; simp [shCells]
    | succ k =>
      have := ih (k := k) (r := p) (by simpa using h)
      have e : (k + 1) * 2 = k * 2 + 2 := by omega
      rw [e]
      simp only [shCells, List.flatMap_cons, List.cons_append, List.nil_append] at *
      exact this
abbrev Sh := Int × List Pt
structure ShsAt (w : World) (a : Option Addr) (n c : Nat) (R : List (Int × Value)) (L : List Sh) : Prop where
  len : n = L.length
  lenR : R.length = L.length
  rd : Rd w a (shCells R)
  el : ∀ (i : Nat) (r : Int × Value) (s : Sh), R[i]? = some r → L[i]? = some s → r.1 = s.1 ∧ Prs w r.2 s.2
  cap : n ≤ c
  nil : a = none → c = 0
  size : n * 32 ≤ 140737488351232
def Shs (w : World) (v : Value) (L : List Sh) : Prop := ∃ a c R, v = .slice a L.length c ∧ ShsAt w a L.length c R L
theorem ShsAt.aft {w w' : World} {a : Option Addr} {n c : Nat} {R : List (Int × Value)} {L : List Sh} (h : ShsAt w a n c R L) (hw : Aft w w') : ShsAt w' a n c R L :=
  { h with rd := h.rd.aft hw, el := fun i r s h1 h2 => ⟨(h.el i r s h1 h2).1, (h.el i r s h1 h2).2.aft hw⟩ }
theorem Shs.aft {w w' : World} {v : Value} {L : List Sh} (h : Shs w v L) (hw : Aft w w') : Shs w' v L := let ⟨a, c, R, e, h⟩ := h; ⟨a, c, R, e, h.aft hw⟩
theorem ShsAt.le {w : World} {a : Option Addr} {n c : Nat} {R : List (Int × Value)} {L : List Sh} (h : ShsAt w a n c R L) : n ≤ 4398046510976 := by have := h.size; omega
theorem ShsAt.get {w : World} {a : Option Addr} {n c : Nat} {R : List (Int × Value)} {L : List Sh} (h : ShsAt w a n c R L) {i : Nat} (hi : i < L.length) :
    ∃ b off k ps ap cp, a = some ⟨b, off, none⟩ ∧ w.cell? ⟨b, off + i * 2, none⟩ = some (.int .i64 k) ∧ w.cell? ⟨b, off + i * 2 + 1, none⟩ = some (.slice ap (List.length ps) cp) ∧ b < w.heap.size ∧ Hid (L[i]? = some (k, ps)) ∧ PrsAt w ap ps.length cp ps := by
  have hr : R[i]? = some (R[i]'(by rw [h.lenR]; exact hi)) := List.getElem?_eq_getElem (by rw [h.lenR]; exact hi)
  have hs : L[i]? = some L[i] := List.getElem?_eq_getElem hi
  obtain ⟨e1, ap, cp, e2, hp⟩ := h.el i _ _ hr hs
  obtain ⟨h1, h2⟩ := shCells_get hr
  obtain ⟨b, off, e, hc, hb⟩ := h.rd.get h1
  obtain ⟨b', off', e', hc', hb'⟩ := h.rd.get h2
  rw [e] at e'
  simp only [Option.some.injEq, Addr.mk.injEq, and_true] at e'
  obtain ⟨rfl, rfl⟩ := e'
  refine ⟨b, off, L[i].1, L[i].2, ap, cp, e, by rw [hc, e1], by rw [Nat.add_assoc, hc', e2], hb, hid hs, hp⟩
theorem Rd.at0 {w : World} {g off : Nat} {cs : List Value} (h : Rd w (some ⟨g, off, none⟩) cs) {j : Nat} {v : Value} (hj : cs[j]? = some v) : w.cell? ⟨g, off + j, none⟩ = some v := by
  obtain ⟨ad, e, hc⟩ := h j v hj
  cases e
  by_cases h0 : j = 0
  · subst h0; simpa [Addr.add] using hc
  · simpa [Addr.add, h0] using hc

def shapedZ (k : Int) (l : List Pt) : Bool :=
  if k = 0 then decide (l.length = 1)
  else if (k = 1 ∧ l.length < 2) ∨ (k = 2 ∧ l.length < 3) ∨ (k ≠ 1 ∧ k ≠ 2) then false
  else !((List.range (nSeg k l)).any fun i => decide ((sgZ l i).1 = (sgZ l i).2))

set_option maxRecDepth 100000 in
set_option maxHeartbeats 8000000 in
theorem rshaped_any (k : Int) (vp : Value) (l : List Pt) (w : World) (hl : Prs w vp l) (hsm : l.length ≤ 1000) (hsc : ScL l) :
    Calls Try.prog 99 #[.agg #[.int .i64 k, vp]] w fun e w' => e = .returned (.bool (shapedZ k l)) ∧ Aft w w' := by
  have hP := hl
  obtain ⟨a, c, rfl, hl⟩ := hl
  obtain ⟨W0, eW0, hw0, hlt, hbox⟩ := one_box w #[.int .i64 k, .slice a l.length c] 51
  go_enter Try.func99, Try.ntmps99
  go_upto_region 1 with fail
  clear eW0
  have p1 := hbox.out W0 (Aft.refl _) 0 (.int .i64 k) rfl
  have p2 := hbox.out W0 (Aft.refl _) 1 (.slice a l.length c) rfl
  clear hbox
  generalize hn0 : w.heap.size = n0 at *
  have HD := hid (show shapedZ k l = if k = 0 then decide (l.length = 1)
    else if (k = 1 ∧ l.length < 2) ∨ (k = 2 ∧ l.length < 3) ∨ (k ≠ 1 ∧ k ≠ 2) then false
    else !((List.range (nSeg k l)).any fun i => decide ((sgZ l i).1 = (sgZ l i).2)) from rfl)
  by_cases hk0 : k = 0
  · subst hk0
    by_cases h1 : l.length = 1
    · have h1' : ((l.length : Int) == 1) = true := by simp; omega
      have HQ := hid (show shapedZ 0 l = true by rw [HD.out, if_pos rfl]; simpa using h1)
      go_wp2
      go_ret
      exact ⟨by rw [HQ.out]; rfl, hw0⟩
    · have h1' : ((l.length : Int) == 1) = false := by rw [beq_eq_false_iff_ne]; omega
      have HQ := hid (show shapedZ 0 l = false by rw [HD.out, if_pos rfl]; simpa using h1)
      go_wp2
      go_ret
      exact ⟨by rw [HQ.out]; rfl, hw0⟩
  have hk0' : (k == 0) = false := by rw [beq_eq_false_iff_ne]; exact hk0
  by_cases hbad : (k = 1 ∧ l.length < 2) ∨ (k = 2 ∧ l.length < 3) ∨ (k ≠ 1 ∧ k ≠ 2)
  · have HQ := hid (show shapedZ k l = false by rw [HD.out, if_neg hk0, if_pos hbad])
    rcases hbad with ⟨rfl, h⟩ | ⟨rfl, h⟩ | ⟨h1, h2⟩
    · have hi : (l.length : Int) < 2 := by omega
      go_wp2
      go_ret
      exact ⟨by rw [HQ.out]; rfl, hw0⟩
    · have hi : (l.length : Int) < 3 := by omega
      go_wp2
      go_ret
      exact ⟨by rw [HQ.out]; rfl, hw0⟩
    · have e1 : (k == 1) = false := by rw [beq_eq_false_iff_ne]; exact h1
      have e2 : (k == 2) = false := by rw [beq_eq_false_iff_ne]; exact h2
      have e3 : (k != 1) = true := by rw [bne_iff_ne]; exact h1
      have e4 : (k != 2) = true := by rw [bne_iff_ne]; exact h2
      go_wp2
      go_ret
      exact ⟨by rw [HQ.out]; rfl, hw0⟩
  · have HD2 := hid (show shapedZ k l = !((List.range (nSeg k l)).any fun i => decide ((sgZ l i).1 = (sgZ l i).2)) by rw [HD.out, if_neg hk0, if_neg hbad])
    have hnle := nSeg_le k l
    have KEY : Calls Try.prog 78 #[.agg #[.int .i64 k, .slice a l.length c]] W0 fun e w' => ∃ v, e = .returned v ∧ w'.ownsRow W0.heap.size 59 6 v (nSeg k l) (endsC l (nSeg k l)) ∧ Aft W0 w' := segments_any k _ l W0 (hP.aft hw0) hsm
    have hkk : k = 1 ∨ k = 2 := by omega
    have hi2 : ¬ ((l.length : Int) < 2) := by omega
    have fwd : ∀ {Q : Prop}, (k = 1 → True → Q) → (k = 2 → ¬ ((l.length : Int) < 3) → Q) → Q := fun h1 h2 => by
      rcases hkk with h | h
      · exact h1 h trivial
      · exact h2 h (by omega)
    obtain ⟨m, hm⟩ : ∃ m, nSeg k l = m := ⟨_, rfl⟩
    rw [hm] at HD2 KEY hnle
    clear hm hbad
    refine fwd ?_ ?_
    all_goals
      intro hkk'
      intro hl3
      subst hkk'
      go_wp2_with fail
      refine KEY.mono ?_
      rintro e W1 ⟨v1, rfl, hown, hw1⟩
      have hw01 := hw0.trans hw1
      obtain ⟨a1, c1, rfl, _⟩ := ownsRow_at hown
      clear p1 p2 KEY
      go_wp2
      go_loopw [5] (fun i wr => ∃ r : Nat, r ≤ m ∧ i = .int .i64 r ∧ Hid (∀ i, i < r → decide ((sgZ l i).1 = (sgZ l i).2) = false) ∧ Aft W1 wr) (fun i _ => m - (intOf i).toNat)
      case atStart => exact ⟨0, by omega, rfl, hid fun j hj => by omega, Aft.refl _⟩
      case round =>
        obtain ⟨r, hr, rfl, hno, hwr⟩ := hrel
        rcases Nat.lt_or_ge r m with hlt' | hge
        · have hri : (r : Int) < m := by omega
          have hownr := ownsRow_aft hown hwr
          obtain ⟨g, cap, he, q1, q2, q3, q4, q5, q6⟩ := ends_cells hownr hlt'
          simp only [Value.slice.injEq, true_and] at he
          obtain ⟨rfl, rfl⟩ := he
          obtain ⟨⟨⟨ax, ay⟩, bx, by_⟩, hs⟩ : ∃ s, sgZ l r = s := ⟨_, rfl⟩
          rw [hs] at q1 q2 q3 q4
          simp only at q1 q2 q3 q4
          have HS := hid hs
          clear hs
          have hgl := World.block_lt_of_cell? _ _ q1
          obtain ⟨W2, hW2⟩ : ∃ W2, W2 = wr := ⟨_, rfl⟩
          subst hW2
          rcases Classical.em (ax = bx ∧ ay = by_) with ⟨he1, he2⟩ | hne
          · have HQ := hid (show shapedZ _ l = false by
              rw [HD2.out, List.any_eq_true.2 ⟨r, List.mem_range.2 hlt', by rw [HS.out]; simp [he1, he2]⟩]; rfl)
            have h1 : (ax == bx) = true := by simpa using he1
            have h2 : (ay == by_) = true := by simpa using he2
            clear he1 he2
            go_upto_region 10 with fail
            refine wp_region_lat W2 (Aft.refl _) (by kernel_rfl) (by kernel_rfl) ?_
            repeat (go_big_quiet_step (fail))
            refine wpQuiet_nil ?_
            intro _ hw'; obtain ⟨z, rfl⟩ := hw'
            have hwz := hwr.trans z.aft
            go_wp2
            go_ret
            exact ⟨by rw [HQ.out]; rfl, hw01.trans hwz⟩
          by_cases he1 : ax = bx
          · have h1 : (ax == bx) = true := by simpa using he1
            have h2 : (ay == by_) = false := by rw [beq_eq_false_iff_ne]; exact fun h => hne ⟨he1, h⟩
            go_upto_region 10 with fail
            refine wp_region_lat W2 (Aft.refl _) (by kernel_rfl) (by kernel_rfl) ?_
            repeat (go_big_quiet_step (fail))
            refine wpQuiet_nil ?_
            intro _ hw'; obtain ⟨z, rfl⟩ := hw'
            have hwz := hwr.trans z.aft
            have HN := hid (show ∀ j, j < r + 1 → decide ((sgZ l j).1 = (sgZ l j).2) = false from fun j hj => by
              rcases Nat.lt_or_ge j r with h | h
              · exact hno.out j h
              · obtain rfl : j = r := by omega
                rw [HS.out]; simp; omega)
            go_wp2
            go_roundw
            case rel => exact ⟨r + 1, by omega, by go_num, HN, hwz⟩
            case measure => simp only [intOf]; omega
          · have h1 : (ax == bx) = false := by rw [beq_eq_false_iff_ne]; exact he1
            go_upto_region 10 with fail
            refine wp_region_lat W2 (Aft.refl _) (by kernel_rfl) (by kernel_rfl) ?_
            repeat (go_big_quiet_step (fail))
            refine wpQuiet_nil ?_
            intro _ hw'; obtain ⟨z, rfl⟩ := hw'
            have hwz := hwr.trans z.aft
            have HN := hid (show ∀ j, j < r + 1 → decide ((sgZ l j).1 = (sgZ l j).2) = false from fun j hj => by
              rcases Nat.lt_or_ge j r with h | h
              · exact hno.out j h
              · obtain rfl : j = r := by omega
                rw [HS.out]; simp; omega)
            go_wp2
            go_roundw
            case rel => exact ⟨r + 1, by omega, by go_num, HN, hwz⟩
            case measure => simp only [intOf]; omega
        · obtain rfl : r = m := by omega
          have HQ := hid (show shapedZ _ l = true by
            rw [HD2.out, List.any_eq_false.2 (fun i hi => by rw [hno.out i (List.mem_range.1 hi)]; simp)]; rfl)
          go_wp2
          go_ret
          exact ⟨by rw [HQ.out]; rfl, hw01.trans hwr⟩
end Go.Proofs.Ytokdclbfjlnnjaa
