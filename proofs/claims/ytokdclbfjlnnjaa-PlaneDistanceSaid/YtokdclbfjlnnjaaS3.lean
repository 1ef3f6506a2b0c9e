/- Contracts of the program's fits, and of slices.ContainsFunc over pairs. -/
import Derived.Test.YtokdclbfjlnnjaaS2
namespace Go.Proofs.Ytokdclbfjlnnjaa
open Go.RowKit Go.BigFrame

set_option maxHeartbeats 400000 in
theorem bad_any (p : Int × Int) (w : World) :
    Calls Try.prog 108 #[pr p] w fun e w' => e = .returned (.bool (badP p)) ∧ Aft w w' := by
  obtain ⟨x, y⟩ := p
  unfold pr
  rcases (show (decide (x < 0) = true) ∨ (decide (x < 0) = false ∧ decide (y < x) = true) ∨ (decide (x < 0) = false ∧ decide (y < x) = false ∧ decide (1000 < y) = true) ∨ (decide (x < 0) = false ∧ decide (y < x) = false ∧ decide (1000 < y) = false) by
        cases decide (x < 0) <;> cases decide (y < x) <;> cases decide (1000 < y) <;> simp) with e1 | ⟨e1, e2⟩ | ⟨e1, e2, e3⟩ | ⟨e1, e2, e3⟩
  all_goals
    go_enter Try.func108, Try.ntmps108
    go_wp2
    go_ret
  · exact ⟨ret_bool (by simp only [badP, e1]; rfl), (Aft.refl w).alloc _⟩
  · exact ⟨ret_bool (by simp only [badP, e1, e2]; rfl), (Aft.refl w).alloc _⟩
  · exact ⟨ret_bool (by simp only [badP, e1, e2, e3]; rfl), (Aft.refl w).alloc _⟩
  · exact ⟨ret_bool (by simp only [badP, e1, e2, e3]; rfl), (Aft.refl w).alloc _⟩

set_option maxHeartbeats 400000 in
theorem wide_any (p : Int × Int) (b : Nat) (wd : Int) (w : World) (hc : w.cell? ⟨b, 0, none⟩ = some (.int .i64 wd)) (hp : badP p = false) :
    Calls Try.prog 109 #[pr p, .pointer (some ⟨b, 0, none⟩)] w fun e w' => e = .returned (.bool (wideP wd p)) ∧ Aft w w' := by
  obtain ⟨x, y⟩ := p
  have hb := World.block_lt_of_cell? w _ hc
  simp only [] at hb
  have hp' : 0 ≤ x ∧ x ≤ y ∧ y ≤ 1000 := by simp [badP] at hp; omega
  obtain ⟨p1, p2, p3⟩ := hp'
  clear hp
  unfold pr
  go_enter Try.func109, Try.ntmps109
  go_wp2
  go_ret
  exact ⟨ret_bool (by simp only [wideP]), (Aft.refl w).alloc _⟩

theorem findIdx_hit {α : Type} {l : List α} {g : α → Bool} {k : Nat} {x : α} (hx : l[k]? = some x) (hg : g x = true) (h : ∀ j, j < k → ∀ z, l[j]? = some z → g z = false) : l.findIdx? g = some k := by
  obtain ⟨hk, rfl⟩ := List.getElem?_eq_some_iff.1 hx
  rw [List.findIdx?_eq_some_iff_getElem]
  refine ⟨hk, hg, fun j hj => ?_⟩
  have := h j hj _ (List.getElem?_eq_getElem (by omega))
  simp [this]
theorem findIdx_miss {α : Type} {l : List α} {g : α → Bool} (h : ∀ j, j < l.length → ∀ z, l[j]? = some z → g z = false) : l.findIdx? g = none := by
  rw [List.findIdx?_eq_none_iff]
  intro x hx
  obtain ⟨j, hj, rfl⟩ := List.getElem_of_mem hx
  exact h j hj _ (List.getElem?_eq_getElem hj)
def idxI (n : Option Nat) : Int := match n with | some k => k | none => -1
theorem idx_ge (n : Option Nat) : -1 ≤ idxI n := by cases n <;> simp [idxI] <;> omega
theorem idx_any {α : Type} (l : List α) (g : α → Bool) : decide ((0 : Int) ≤ idxI (l.findIdx? g)) = l.any g := by
  cases h : l.findIdx? g with
  | none =>
    rw [List.findIdx?_eq_none_iff] at h
    have : l.any g = false := List.any_eq_false.2 fun x hx => by simp [h x hx]
    rw [this]; rfl
  | some k =>
    obtain ⟨hk, hg, _⟩ := List.findIdx?_eq_some_iff_getElem.1 h
    have : l.any g = true := List.any_eq_true.2 ⟨_, List.getElem_mem hk, hg⟩
    rw [this]; simp [idxI]
/-- What a function value of one bool answers for the elements of a list, in whatever later world. -/
def Asks (P : Program) (F : Nat) (caps : Array Value) {α : Type} (l : List α) (enc : α → Value) (g : α → Bool) (w : World) : Prop :=
  ∀ p ∈ l, ∀ w', Aft w w' → Calls P F (#[enc p] ++ caps) w' fun e w'' => e = .returned (.bool (g p)) ∧ Aft w' w''

set_option maxHeartbeats 400000 in
theorem index_any (v : Value) (l : List (Int × Int)) (F : Nat) (caps : Array Value) (g : Int × Int → Bool) (w : World) (hl : Prs w v l)
    (hF : ∀ args w, (callFunc F args).run Try.prog w = .ok (.enter F args) w) (hg : Asks Try.prog F caps l pr g w) :
    Calls Try.prog 121 #[v, .func (.func F) #[] caps] w fun e w' => e = .returned (.int .i64 (idxI (l.findIdx? g))) ∧ Aft w w' := by
  obtain ⟨a, c, rfl, hl⟩ := hl
  have hn := hl.le
  have Hg := hid hg; clear hg
  go_enter Try.func121, Try.ntmps121
  go_wp2
  go_loopw [8, 5] (fun i _ wr => ∃ k : Nat, k ≤ l.length ∧ i = .int .i64 k ∧ Hid (∀ j, j < k → ∀ x, l[j]? = some x → g x = false) ∧ Aft w wr) (fun i _ _ => l.length - (intOf i).toNat)
  case atStart => exact ⟨0, by omega, rfl, fun j hj => by omega, Aft.refl _⟩
  case round =>
    obtain ⟨k, hk, rfl, ht, hw⟩ := hrel
    by_cases hlt : k < l.length
    · obtain ⟨b, off, x, y, rfl, hc1, hc2, hb, hx, _, _, _, _⟩ := (hl.aft hw).rd.pair hl.ok hlt
      go_wp2_with fail
      refine (Hg.out (x, y) (List.mem_of_getElem? hx.out) wr hw).mono ?_
      rintro e w' ⟨rfl, hw'⟩
      have hwf := hw.trans hw'
      cases hgx : g (x, y)
      all_goals go_wp2_with fail
      · go_roundw
        case rel =>
          refine ⟨k + 1, by omega, by go_num, hid fun j hj z hz => ?_, hwf⟩
          rcases Nat.lt_or_ge j k with h | h
          · exact ht.out j h z hz
          · obtain rfl : j = k := by omega
            rw [hx.out] at hz
            cases hz
            exact hgx
        case measure => simp [intOf] <;> omega
      · go_ret
        refine ⟨ret_int ?_, hwf⟩
        rw [findIdx_hit hx.out hgx ht.out]
        rfl
    · go_wp2
      go_ret
      refine ⟨ret_int ?_, hw⟩
      rw [findIdx_miss (fun j hj z hz => ht.out j (by omega) z hz)]
      rfl

/-- ContainsFunc over pairs. -/
theorem contains_any (v : Value) (l : List (Int × Int)) (F : Nat) (caps : Array Value) (g : Int × Int → Bool) (w : World) (hl : Prs w v l)
    (hF : ∀ args w, (callFunc F args).run Try.prog w = .ok (.enter F args) w) (hg : Asks Try.prog F caps l pr g w) :
    Calls Try.prog 107 #[v, .func (.func F) #[] caps] w fun e w' => e = .returned (.bool (l.any g)) ∧ Aft w w' := by
  have hb := idx_ge (l.findIdx? g)
  have he : decide ((0 : Int) ≤ idxI (l.findIdx? g)) = l.any g := idx_any l g
  go_enter Try.func107, Try.ntmps107
  go_wp2_with fail
  refine (index_any v l F caps g w hl hF hg).mono ?_
  rintro e w' ⟨rfl, hw⟩
  go_wp2_with fail
  go_ret
  exact ⟨rfl, hw⟩

set_option maxHeartbeats 1000000 in
theorem fits_any (v : Value) (l : List (Int × Int)) (wd : Int) (w : World) (hl : Prs w v l) :
    Calls Try.prog 64 #[v, .int .i64 wd] w fun e w' => e = .returned (.int .i64 (fitsE l wd)) ∧ Aft w w' := by
  have hl0 := hl
  obtain ⟨a, c, rfl, hl⟩ := hl
  have hn := hl.le
  by_cases h64 : 64 < l.length
  · go_enter Try.func64, Try.ntmps64
    go_wp2
    go_ret
    exact ⟨ret_int (by simp [fitsE, h64]), (Aft.refl w).alloc _⟩
  by_cases hw1 : wd < 1
  · go_enter Try.func64, Try.ntmps64
    go_wp2
    go_ret
    exact ⟨ret_int (by simp [fitsE, h64, hw1]), (Aft.refl w).alloc _⟩
  have d1 : decide (wd < 1) = false := by simpa using hw1
  by_cases hw2 : 1000 < wd
  · have d2 : decide (1000 < wd) = true := by simpa using hw2
    go_enter Try.func64, Try.ntmps64
    go_wp2
    go_ret
    exact ⟨ret_int (by simp [fitsE, h64, hw2]), (Aft.refl w).alloc _⟩
  have d2 : decide (1000 < wd) = false := by simpa using hw2
  go_enter Try.func64, Try.ntmps64
  go_wp2_with fail
  refine (contains_any _ l 108 #[] badP _ (hl0.aft ((Aft.refl w).alloc _)) (fun args w => by kernel_rfl) (fun p _ w' _ => bad_any p w')).mono ?_
  rintro e w1 ⟨rfl, hw3⟩
  cases hbad : l.any badP
  · have HB := hid hbad; clear hbad
    have hb1 : w.heap.size < w1.heap.size := by have := hw3.size; simp at this; omega
    have hcell : w1.cell? ⟨w.heap.size, 0, none⟩ = some (.int .i64 wd) := by rw [hw3.cell (by simp)]; simp
    have haf : Aft w w1 := ((Aft.refl w).alloc _).trans hw3
    go_wp2_with fail
    refine (contains_any _ l 109 #[.pointer (some ⟨w.heap.size, 0, none⟩)] (wideP wd) _ (hl0.aft haf) (fun args w => by kernel_rfl) (fun p hp w' hw' => wide_any p _ wd w' (by rw [hw'.cell hb1]; exact hcell) (by simpa using List.any_eq_false.1 HB.out p hp))).mono ?_
    rintro e w2 ⟨rfl, hw4⟩
    cases hwide : l.any (wideP wd)
    · go_wp2
      go_ret
      exact ⟨ret_int (by simp only [fitsE]; rw [if_neg h64, if_neg (by omega), HB.out, hwide]; rfl), haf.trans hw4⟩
    · go_wp2
      go_ret
      exact ⟨ret_int (by simp only [fitsE]; rw [if_neg h64, if_neg (by omega), HB.out, hwide]; rfl), haf.trans hw4⟩
  · go_wp2
    go_ret
    exact ⟨ret_int (by simp only [fitsE]; rw [if_neg h64, if_neg (by omega), hbad]; rfl), ((Aft.refl w).alloc _).trans hw3⟩
end Go.Proofs.Ytokdclbfjlnnjaa
