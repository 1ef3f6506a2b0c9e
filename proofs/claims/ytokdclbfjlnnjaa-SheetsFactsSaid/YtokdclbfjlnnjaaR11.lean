/- IndexFunc and ContainsFunc over shapes. -/
import Derived.Test.YtokdclbfjlnnjaaLa
namespace Go.Proofs.Ytokdclbfjlnnjaa
open Go.RowKit Go.BigFrame

/-- A function value tells of each shape what g tells. -/
def AsksS (F : Nat) (caps : Array Value) (L : List Sh) (g : Sh → Bool) (w : World) : Prop :=
  ∀ (k : Int) (ps : List Pt) (ap : Option Addr) (cp : Nat) (w' : World), (k, ps) ∈ L → Aft w w' → Prs w' (.slice ap ps.length cp) ps →
    Calls Try.prog F (#[.agg #[.int .i64 k, .slice ap ps.length cp]] ++ caps) w' fun e w'' => e = .returned (.bool (g (k, ps))) ∧ Aft w' w''

set_option maxHeartbeats 1000000 in
theorem sindex_any (v : Value) (L : List Sh) (F : Nat) (caps : Array Value) (g : Sh → Bool) (w : World) (hl : Shs w v L)
    (hF : ∀ args w, (callFunc F args).run Try.prog w = .ok (.enter F args) w) (hg : AsksS F caps L g w) :
    Calls Try.prog 118 #[v, .func (.func F) #[] caps] w fun e w' => e = .returned (.int .i64 (idxI (L.findIdx? g))) ∧ Aft w w' := by
  obtain ⟨a, c, R, rfl, hl⟩ := hl
  have hn := hl.le
  have Hg := hid hg; clear hg
  go_enter Try.func118, Try.ntmps118
  go_wp2
  go_loopw [8, 5] (fun i _ wr => ∃ k : Nat, k ≤ L.length ∧ i = .int .i64 k ∧ Hid (∀ j, j < k → ∀ x, L[j]? = some x → g x = false) ∧ Aft w wr) (fun i _ _ => L.length - (intOf i).toNat)
  case atStart => exact ⟨0, by omega, rfl, fun j hj => by omega, Aft.refl _⟩
  case round =>
    obtain ⟨k, hk, rfl, ht, hw⟩ := hrel
    by_cases hlt : k < L.length
    · obtain ⟨b, off, kk, ps, ap, cp, rfl, hc1, hc2, hb, hx, hp⟩ := (hl.aft hw).get hlt
      go_wp2_with fail
      refine (Hg.out kk ps ap cp wr (List.mem_of_getElem? hx.out) hw ⟨_, _, rfl, hp⟩).mono ?_
      rintro e w' ⟨rfl, hw'⟩
      have hwf := hw.trans hw'
      cases hgx : g (kk, ps)
      all_goals go_wp2_with fail
      · go_roundw
        case rel =>
          refine ⟨k + 1, by omega, by go_num, hid fun j hj z hz => ?_, hwf⟩
          rcases Nat.lt_or_ge j k with h | h
          · exact ht.out j h z hz
          · obtain rfl : j = k := by omega
            rw [hx.out] at hz
            cases hz
            exact hgx
        case measure => simp [intOf] <;> omega
      · go_ret
        refine ⟨ret_int ?_, hwf⟩
        rw [findIdx_hit hx.out hgx ht.out]
        rfl
    · go_wp2
      go_ret
      refine ⟨ret_int ?_, hw⟩
      rw [findIdx_miss (fun j hj z hz => ht.out j (by omega) z hz)]
      rfl

theorem scontains_any (v : Value) (L : List Sh) (F : Nat) (caps : Array Value) (g : Sh → Bool) (w : World) (hl : Shs w v L)
    (hF : ∀ args w, (callFunc F args).run Try.prog w = .ok (.enter F args) w) (hg : AsksS F caps L g w) :
    Calls Try.prog 92 #[v, .func (.func F) #[] caps] w fun e w' => e = .returned (.bool (L.any g)) ∧ Aft w w' := by
  have hb := idx_ge (L.findIdx? g)
  have he : decide ((0 : Int) ≤ idxI (L.findIdx? g)) = L.any g := idx_any L g
  go_enter Try.func92, Try.ntmps92
  go_wp2_with fail
  refine (sindex_any v L F caps g w hl hF hg).mono ?_
  rintro e w' ⟨rfl, hw⟩
  go_wp2_with fail
  go_ret
  exact ⟨rfl, hw⟩
end Go.Proofs.Ytokdclbfjlnnjaa
