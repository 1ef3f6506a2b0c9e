/- The program's Valid: the closures that call closures. -/
import Derived.Test.YtokdclbfjlnnjaaR13
import Derived.Test.YtokdclbfjlnnjaaA2
namespace Go.Proofs.Ytokdclbfjlnnjaa
open Go.RowKit Go.BigFrame

theorem vout_asks (W H : Int) (b : Nat) (v : Value) (l : List Pt) (w : World) (hf : FBox w b W H v) : Asks Try.prog 93 #[.pointer (some ⟨b, 0, none⟩)] l pr (outZ W H) w :=
  fun p _ w' hw' => vout_any W H p.1 p.2 b v w' (hf.aft hw')

set_option maxHeartbeats 1000000 in
theorem vrange_any (k : Int) (vp : Value) (l : List Pt) (W H : Int) (b bo : Nat) (v : Value) (w : World) (hl : Prs w vp l) (hf : FBox w b W H v)
    (ho : w.cell? ⟨bo, 0, none⟩ = some (.func (.func 93) #[] #[.pointer (some ⟨b, 0, none⟩)])) :
    Calls Try.prog 97 #[.agg #[.int .i64 k, vp], .pointer (some ⟨bo, 0, none⟩)] w fun e w' => e = .returned (.bool (l.any (outZ W H))) ∧ Aft w w' := by
  have hP := hl
  obtain ⟨a, c, rfl, hl⟩ := hl
  obtain ⟨W0, eW0, hw0, hlt, hbox⟩ := one_box w #[.int .i64 k, .slice a l.length c] 51
  go_enter Try.func97, Try.ntmps97
  go_upto_region 1 with fail
  clear eW0
  have p2 := hbox.out W0 (Aft.refl _) 1 (.slice a l.length c) rfl
  clear hbox
  have ho' := (hw0.cell (World.block_lt_of_cell? _ _ ho)).trans ho
  go_wp2_with fail
  refine (pcontains_any _ l 93 _ (outZ W H) W0 (hP.aft hw0) (Go.Proofs.enters_of Try.func93 (by kernel_rfl) rfl) (vout_asks W H b v l W0 (hf.aft hw0))).mono ?_
  rintro e w1 ⟨rfl, hw1⟩
  go_wp2_with fail
  go_ret
  exact ⟨rfl, hw0.trans hw1⟩

set_option maxHeartbeats 1000000 in
theorem vsome_any (F : Nat) (caps : Array Value) (W H : Int) (b : Nat) (v : Value) (L : List Sh) (g : Sh → Bool) (w : World) (hf : FBox w b W H v) (hv : Shs w v L)
    (hF : ∀ args w, (callFunc F args).run Try.prog w = .ok (.enter F args) w) (hg : AsksS F caps L g w) :
    Calls Try.prog 91 #[.func (.func F) #[] caps, .pointer (some ⟨b, 0, none⟩)] w fun e w' => e = .returned (.bool (L.any g)) ∧ Aft w w' := by
  have hv0 := hv
  obtain ⟨a, c, R, rfl, hv⟩ := hv
  obtain ⟨q1, q2, q3⟩ := hf
  go_enter Try.func91, Try.ntmps91
  go_wp2_with fail
  refine (scontains_any _ L F caps g w hv0 hF hg).mono ?_
  rintro e w1 ⟨rfl, hw1⟩
  go_wp2_with fail
  go_ret
  exact ⟨rfl, hw1⟩
end Go.Proofs.Ytokdclbfjlnnjaa
