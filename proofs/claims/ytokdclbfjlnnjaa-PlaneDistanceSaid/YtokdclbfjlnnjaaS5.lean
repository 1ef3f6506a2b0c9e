/- Contracts of both Checks, for whatever windows: the sum of a window's beginning and the width may wrap. -/
import Derived.Test.YtokdclbfjlnnjaaS3
namespace Go.Proofs.Ytokdclbfjlnnjaa
open Go.RowKit Go.BigFrame

def inW (s : Int × Int) (x wd : Int) : Bool := decide (x ≤ s.1) && decide (s.2 ≤ wrap64 (x + wd))
def covW (s : Int × Int) (l : List Int) (wd : Int) : Bool := l.any fun x => inW s x wd

set_option maxHeartbeats 400000 in
theorem inw_any (s : Int × Int) (x wd : Int) (w : World) :
    Calls Try.prog 71 #[pr s, .int .i64 x, .int .i64 wd] w fun e w' => e = .returned (.bool (inW s x wd)) ∧ Aft w w' := by
  unfold pr
  by_cases hx : x ≤ s.1
  · have hd : decide (x ≤ s.1) = true := by simpa using hx
    go_enter Try.func71, Try.ntmps71
    go_wp2
    go_ret
    exact ⟨ret_bool (by simp [inW, hx]), (Aft.refl w).alloc _⟩
  · have hd : decide (x ≤ s.1) = false := by simpa using hx
    go_enter Try.func71, Try.ntmps71
    go_wp2
    go_ret
    exact ⟨ret_bool (by simp only [inW, hd, Bool.false_and]), (Aft.refl w).alloc _⟩

set_option maxHeartbeats 400000 in
theorem sinw_any (s : Int × Int) (x wd : Int) (w : World) :
    Calls Try.prog 65 #[pr s, .int .i64 x, .int .i64 wd] w fun e w' => e = .returned (.bool (inW s x wd)) ∧ Aft w w' := by
  unfold pr
  by_cases hx : x ≤ s.1
  · have hd : decide (x ≤ s.1) = true := by simpa using hx
    go_enter Try.func65, Try.ntmps65
    go_wp2
    go_ret
    exact ⟨ret_bool (by simp [inW, hx]), (Aft.refl w).alloc _⟩
  · have hd : decide (x ≤ s.1) = false := by simpa using hx
    go_enter Try.func65, Try.ntmps65
    go_wp2
    go_ret
    exact ⟨ret_bool (by simp only [inW, hd, Bool.false_and]), (Aft.refl w).alloc _⟩

set_option maxHeartbeats 400000 in
theorem covw_any (s : Int × Int) (v : Value) (l : List Int) (wd : Int) (w : World) (hl : Ints w v l) :
    Calls Try.prog 67 #[pr s, v, .int .i64 wd] w fun e w' => e = .returned (.bool (covW s l wd)) ∧ Aft w w' := by
  unfold pr
  obtain ⟨a, c, rfl, hl⟩ := hl
  have hn := hl.le
  go_enter Try.func67, Try.ntmps67
  go_wp2
  go_loopw [7] (fun i wr => ∃ k : Nat, k ≤ l.length ∧ i = .int .i64 k ∧ Hid (covW s l wd = covW s (l.drop k) wd) ∧ Aft (w.alloc (.cells #[.int .i64 s.1, .int .i64 s.2] 41)) wr) (fun i _ => l.length - (intOf i).toNat)
  case atStart => exact ⟨0, by omega, rfl, rfl, Aft.refl _⟩
  case round =>
    obtain ⟨k, hk, rfl, ht, hw⟩ := hrel
    by_cases hlt : k < l.length
    · obtain ⟨b, off, x, rfl, hc, hb, hx, hx1, hx2⟩ := hl.rd.int hl.ok hlt
      go_wp2
      refine wp_region_lat (w.alloc (.cells #[.int .i64 s.1, .int .i64 s.2] 41)) hw (by kernel_rfl) (by kernel_rfl) ?_
      repeat (go_big_quiet_step ((go_at_call 71; exact Calls.lat (inw_any s _ _ _))))
      refine wpQuiet_nil ?_
      intro _ hw'; obtain ⟨y, rfl⟩ := hw'
      go_wp2
      · have hi : inW s x wd = true := by assumption
        go_ret
        exact ⟨ret_bool (by rw [ht.out, drop_cons hx.out]; simp [covW, hi]), ((Aft.refl _).alloc _).trans y.aft⟩
      · have hi : inW s x wd = false := by assumption
        go_roundw
        case rel =>
          refine ⟨k + 1, by omega, by go_num, hid ?_, y.aft⟩
          rw [ht.out, drop_cons hx.out]; simp [covW, hi]
        case measure => simp [intOf] <;> omega
    · go_wp2
      go_ret
      exact ⟨ret_bool (by rw [ht.out, List.drop_eq_nil_of_le (by omega)]; rfl), ((Aft.refl _).alloc _).trans hw⟩

/-! slices.IndexFunc and ContainsFunc over numbers. -/
set_option maxHeartbeats 400000 in
theorem indexi_any (v : Value) (l : List Int) (F : Nat) (caps : Array Value) (g : Int → Bool) (w : World) (hl : Ints w v l)
    (hF : ∀ args w, (callFunc F args).run Try.prog w = .ok (.enter F args) w) (hg : Asks Try.prog F caps l (Value.int .i64) g w) :
    Calls Try.prog 122 #[v, .func (.func F) #[] caps] w fun e w' => e = .returned (.int .i64 (idxI (l.findIdx? g))) ∧ Aft w w' := by
  obtain ⟨a, c, rfl, hl⟩ := hl
  have hn := hl.le
  have Hg := hid hg; clear hg
  go_enter Try.func122, Try.ntmps122
  go_wp2
  go_loopw [8, 5] (fun i _ wr => ∃ k : Nat, k ≤ l.length ∧ i = .int .i64 k ∧ Hid (∀ j, j < k → ∀ x, l[j]? = some x → g x = false) ∧ Aft w wr) (fun i _ _ => l.length - (intOf i).toNat)
  case atStart => exact ⟨0, by omega, rfl, fun j hj => by omega, Aft.refl _⟩
  case round =>
    obtain ⟨k, hk, rfl, ht, hw⟩ := hrel
    by_cases hlt : k < l.length
    · obtain ⟨b, off, x, rfl, hc1, hb, hx, _, _⟩ := (hl.aft hw).rd.int hl.ok hlt
      go_wp2_with fail
      refine (Hg.out x (List.mem_of_getElem? hx.out) wr hw).mono ?_
      rintro e w' ⟨rfl, hw'⟩
      have hwf := hw.trans hw'
      cases hgx : g x
      all_goals go_wp2_with fail
      · go_roundw
        case rel =>
          refine ⟨k + 1, by omega, by go_num, hid fun j hj z hz => ?_, hwf⟩
          rcases Nat.lt_or_ge j k with h | h
          · exact ht.out j h z hz
          · obtain rfl : j = k := by omega
            rw [hx.out] at hz
            cases hz
            exact hgx
        case measure => simp [intOf] <;> omega
      · go_ret
        refine ⟨ret_int ?_, hwf⟩
        rw [findIdx_hit hx.out hgx ht.out]
        rfl
    · go_wp2
      go_ret
      refine ⟨ret_int ?_, hw⟩
      rw [findIdx_miss (fun j hj z hz => ht.out j (by omega) z hz)]
      rfl
theorem containsi_any (v : Value) (l : List Int) (F : Nat) (caps : Array Value) (g : Int → Bool) (w : World) (hl : Ints w v l)
    (hF : ∀ args w, (callFunc F args).run Try.prog w = .ok (.enter F args) w) (hg : Asks Try.prog F caps l (Value.int .i64) g w) :
    Calls Try.prog 111 #[v, .func (.func F) #[] caps] w fun e w' => e = .returned (.bool (l.any g)) ∧ Aft w w' := by
  have hb := idx_ge (l.findIdx? g)
  have he : decide ((0 : Int) ≤ idxI (l.findIdx? g)) = l.any g := idx_any l g
  go_enter Try.func111, Try.ntmps111
  go_wp2_with fail
  refine (indexi_any v l F caps g w hl hF hg).mono ?_
  rintro e w' ⟨rfl, hw⟩
  go_wp2_with fail
  go_ret
  exact ⟨rfl, hw⟩

/-! sheets.covered and its closures. -/
set_option maxHeartbeats 400000 in
theorem cov11_any (x : Int) (s : Int × Int) (wd : Int) (b1 b2 : Nat) (w : World) (h1 : w.cell? ⟨b1, 0, none⟩ = some (.int .i64 s.1)) (h2 : w.cell? ⟨b1, 1, none⟩ = some (.int .i64 s.2)) (h3 : w.cell? ⟨b2, 0, none⟩ = some (.int .i64 wd)) :
    Calls Try.prog 112 #[.int .i64 x, .pointer (some ⟨b1, 0, none⟩), .pointer (some ⟨b2, 0, none⟩)] w fun e w' => e = .returned (.bool (inW s x wd)) ∧ Aft w w' := by
  go_enter Try.func112, Try.ntmps112
  go_wp2_with fail
  refine (sinw_any s x wd w).mono ?_
  rintro e w' ⟨rfl, hw⟩
  go_wp2_with fail
  go_ret
  exact ⟨rfl, hw⟩

set_option maxHeartbeats 400000 in
theorem cov1_any (s : Int × Int) (v : Value) (l : List Int) (wd : Int) (b1 b2 : Nat) (w : World) (h1 : w.cell? ⟨b1, 0, none⟩ = some v) (h3 : w.cell? ⟨b2, 0, none⟩ = some (.int .i64 wd)) (hl : Ints w v l) :
    Calls Try.prog 110 #[pr s, .pointer (some ⟨b1, 0, none⟩), .pointer (some ⟨b2, 0, none⟩)] w fun e w' => e = .returned (.bool (!covW s l wd)) ∧ Aft w w' := by
  have hb1 := World.block_lt_of_cell? w _ h1
  have hb2 := World.block_lt_of_cell? w _ h3
  simp only [] at hb1 hb2
  unfold pr
  have hl0 := hl
  obtain ⟨a, c, rfl, hl⟩ := hl
  go_enter Try.func110, Try.ntmps110
  go_wp2_with fail
  refine (containsi_any _ l 112 #[.pointer (some ⟨w.heap.size, 0, none⟩), .pointer (some ⟨b2, 0, none⟩)] (fun x => inW s x wd) _ (hl0.aft ((Aft.refl w).alloc _)) (fun args w => by kernel_rfl) (fun x _ w' hw' => cov11_any x s wd _ _ w' ?_ ?_ ?_)).mono ?_
  · rw [hw'.cell (by simp)]; simp
  · rw [hw'.cell (by simp)]; simp
  · rw [hw'.cell (by simp; omega), ((Aft.refl w).alloc _).cell hb2]; exact h3
  rintro e w' ⟨rfl, hw⟩
  go_wp2_with fail
  go_ret
  exact ⟨rfl, ((Aft.refl w).alloc _).trans hw⟩

set_option maxHeartbeats 400000 in
theorem covered_any (v v' : Value) (l : List (Int × Int)) (at_ : List Int) (wd : Int) (w : World) (hl : Prs w v l) (hat : Ints w v' at_) :
    Calls Try.prog 68 #[v, .int .i64 wd, v'] w fun e w' => e = .returned (.bool (l.all fun s => covW s at_ wd)) ∧ Aft w w' := by
  have hl0 := hl
  have hat0 := hat
  obtain ⟨a, c, rfl, hl⟩ := hl
  obtain ⟨a', c', rfl, hat⟩ := hat
  have hq : (!(l.any fun s => !covW s at_ wd)) = l.all fun s => covW s at_ wd := by rw [List.not_any_eq_all_not]; simp
  have Hq := hid hq; clear hq
  have haf : Aft w ((w.alloc (.cells #[.int .i64 wd] 3)).alloc (.cells #[.slice a' at_.length c'] 22)) := ((Aft.refl w).alloc _).alloc _
  go_enter Try.func68, Try.ntmps68
  go_wp2_with fail
  refine (contains_any _ l 110 #[.pointer (some ⟨w.heap.size + 1, 0, none⟩), .pointer (some ⟨w.heap.size, 0, none⟩)] (fun s => !covW s at_ wd) _ (hl0.aft haf) (fun args w => by kernel_rfl) (fun s _ w' hw' => cov1_any s _ at_ wd _ _ w' ?_ ?_ (hat0.aft (haf.trans hw')))).mono ?_
  · rw [hw'.cell (by simp)]; simp
  · rw [hw'.cell (by simp; omega)]; simp
  rintro e w' ⟨rfl, hw⟩
  go_wp2_with fail
  go_ret
  exact ⟨ret_bool (Hq.out), haf.trans hw⟩
end Go.Proofs.Ytokdclbfjlnnjaa
