/- The program's Valid. -/
import Derived.Test.YtokdclbfjlnnjaaR14
namespace Go.Proofs.Ytokdclbfjlnnjaa
open Go.RowKit Go.BigFrame

theorem run_store_func {P : Program} {w : World} {a : Addr} (f : Fn) (s c : Array Value) {m : Mode} : (store a (.func f s c) m).run P w = stored P w a (.func f s c) m := run_store P w a _ m rfl
attribute [local go_sem] run_store_func

theorem asks94 (L : List Sh) (w : World) : AsksS 94 #[] L (fun s => decide (12 < s.2.length)) w := fun k ps _ _ w' _ _ hp => vlong_any k _ ps w' hp
theorem asks95 (L : List Sh) (w : World) (hsc : ShSc L) (hk : ∀ s ∈ L, -9223372036854775808 ≤ s.1 ∧ s.1 ≤ 9223372036854775807) : AsksS 95 #[] L (fun s => !shapedZ s.1 s.2) w :=
  fun k ps _ _ w' hm _ hp => vunshaped_any k _ ps w' hp (hsc _ hm).1 (hk _ hm)
theorem asks98 (L : List Sh) (w : World) (hsc : ShSc L) : AsksS 98 #[] L (fun s => !simpleZ s.1 s.2) w :=
  fun k ps _ _ w' hm _ hp => vbent_any k _ ps w' hp (hsc _ hm).1 (hsc _ hm).2
theorem asks97 (L : List Sh) (W H : Int) (b bo : Nat) (v : Value) (w : World) (hf : FBox w b W H v) (ho : w.cell? ⟨bo, 0, none⟩ = some (.func (.func 93) #[] #[.pointer (some ⟨b, 0, none⟩)])) :
    AsksS 97 #[.pointer (some ⟨bo, 0, none⟩)] L (fun s => s.2.any (outZ W H)) w :=
  fun k ps _ _ w' _ hw hp => vrange_any k _ ps W H b bo v w' hp (hf.aft hw) ((hw.cell (World.block_lt_of_cell? _ _ ho)).trans ho)

set_option maxRecDepth 100000 in
set_option maxHeartbeats 8000000 in
theorem valid_any (W H : Int) (v : Value) (L : List Sh) (w : World) (hv : Shs w v L) (hsc : ShSc L) (hk : ∀ s ∈ L, -9223372036854775808 ≤ s.1 ∧ s.1 ≤ 9223372036854775807) :
    Calls Try.prog 49 #[.agg #[.int .i64 W, .int .i64 H, v]] w fun e w' => e = .returned (.int .i64 (validZ W H L)) ∧ Aft w w' := by
  have hv0 := hv
  obtain ⟨a, c, R, rfl, hv⟩ := hv
  have hle := hv.le
  obtain ⟨W0, eW0, hw0, hlt, hbox⟩ := one_box w #[.int .i64 W, .int .i64 H, .slice a L.length c] 45
  go_enter Try.func49, Try.ntmps49
  go_upto_region 1 with fail
  clear eW0
  have hf : FBox W0 w.heap.size W H (.slice a L.length c) := ⟨hbox.out W0 (Aft.refl _) 0 _ rfl, hbox.out W0 (Aft.refl _) 1 _ rfl, hbox.out W0 (Aft.refl _) 2 _ rfl⟩
  clear hbox
  have hc0 : (W0.alloc (.cells #[.nilFunc] 125)).cell? ⟨W0.heap.size, 0, none⟩ = some .nilFunc := cell_new W0 #[.nilFunc] 125 0 _ rfl
  have hf0 := frozen_new W0 #[.nilFunc] 125 0
  have hs1 := size_new W0 (.cells #[.nilFunc] 125)
  have hw1 := (Aft.refl W0).alloc (.cells #[.nilFunc] 125)
  generalize hW1 : W0.alloc (.cells #[.nilFunc] 125) = W1 at *
  go_upto_region 3 with fail
  have hn0 : w.heap.size < W0.heap.size := hlt
  obtain ⟨W2, eW2, hw2, ho⟩ : ∃ W2, W1.setCell ⟨W0.heap.size, 0, none⟩ (.func (.func 93) #[] #[.pointer (some ⟨w.heap.size, 0, none⟩)]) = W2 ∧ Aft W0 W2 ∧ W2.cell? ⟨W0.heap.size, 0, none⟩ = some (.func (.func 93) #[] #[.pointer (some ⟨w.heap.size, 0, none⟩)]) :=
    ⟨_, rfl, hw1.setCell (by simp) _, World.cell?_setCell_same' _ _ _ (by rw [hc0]; rfl)⟩
  rw [eW2]
  clear eW2 hW1 hc0 hf0 hs1 hw1
  have hf2 := hf.aft hw2
  have hv2 := (hv0.aft hw0).aft hw2
  have hw02 := hw0.trans hw2
  clear hf hw2
  generalize hn1 : w.heap.size = n1 at *
  generalize hn2 : W0.heap.size = n2 at *
  obtain ⟨q1, q2, q3⟩ := hf2
  have hf2 : FBox W2 n1 W H (.slice a L.length c) := ⟨q1, q2, q3⟩
  have HD := hid (show validZ W H L = if limitZ W H L = true then 4
    else if (L.any fun s => decide (12 < s.2.length)) = true then 4
    else if (L.any fun s => !shapedZ s.1 s.2) = true then 1
    else if (L.any fun s => s.2.any (outZ W H)) = true then 5
    else if (L.any fun s => !simpleZ s.1 s.2) = true then 2
    else 0 from rfl)
  have fwd : ∀ {Q : Prop}, (H < W → ¬ W < H → Q) → (¬ H < W → W < H → Q) → (¬ H < W → ¬ W < H → Q) → Q := fun h1 h2 h3 => by
    by_cases h : H < W
    · exact h1 h (by omega)
    · by_cases h' : W < H
      · exact h2 h h'
      · exact h3 h h'
  refine fwd ?_ ?_ ?_
  all_goals
    intro o1 o2
    clear fwd
    by_cases hlim : W < 0 ∨ 1000 < W ∨ H < 0 ∨ 1000 < H
    · have HQ := hid (show validZ W H L = 4 by rw [HD.out, if_pos (by unfold limitZ; simp; omega)])
      by_cases l1 : (if H < W then H else W) < 0
      · first | rw [if_pos o1] at l1 | rw [if_neg o1] at l1
        clear hlim
        go_wp2
        go_ret
        exact ⟨by rw [HQ.out]; rfl, hw02⟩
      · have l2 : 1000 < (if W < H then H else W) := by
          split at l1 <;> split <;> omega
        first | rw [if_pos o1] at l1 | rw [if_neg o1] at l1
        first | rw [if_pos o2] at l2 | rw [if_neg o2] at l2
        clear hlim
        go_wp2
        go_ret
        exact ⟨by rw [HQ.out]; rfl, hw02⟩
    · have l1 : ¬ (if H < W then H else W) < 0 := by split <;> omega
      have l2 : ¬ 1000 < (if W < H then H else W) := by split <;> omega
      first | rw [if_pos o1] at l1 | rw [if_neg o1] at l1
      first | rw [if_pos o2] at l2 | rw [if_neg o2] at l2
      by_cases h8 : 8 < L.length
      · have h8' : (8 : Int) < L.length := by omega
        have HQ := hid (show validZ W H L = 4 by rw [HD.out, if_pos (by unfold limitZ; simp; omega)])
        clear hlim h8
        go_wp2
        go_ret
        exact ⟨by rw [HQ.out]; rfl, hw02⟩
      · have h8' : ¬ (8 : Int) < L.length := by omega
        have HD1 := hid (show validZ W H L = if (L.any fun s => decide (12 < s.2.length)) = true then 4
          else if (L.any fun s => !shapedZ s.1 s.2) = true then 1
          else if (L.any fun s => s.2.any (outZ W H)) = true then 5
          else if (L.any fun s => !simpleZ s.1 s.2) = true then 2
          else 0 by rw [HD.out, if_neg (by unfold limitZ; simp; omega)])
        clear hlim h8
        go_wp2_with fail
        refine (vsome_any 94 #[] W H n1 _ L _ W2 hf2 hv2 (Go.Proofs.enters_of Try.func94 (by kernel_rfl) rfl) (asks94 L W2)).mono ?_
        rintro e w3 ⟨rfl, hw3⟩
        obtain ⟨b1, hb1⟩ : ∃ x, (L.any fun s => decide (12 < s.2.length)) = x := ⟨_, rfl⟩
        rw [hb1] at HD1 ⊢
        clear hb1
        have ho3 := (hw3.cell (World.block_lt_of_cell? _ _ ho)).trans ho
        have hw03 := hw02.trans hw3
        cases b1
        case true =>
          go_wp2_with fail
          go_ret
          exact ⟨by rw [HD1.out]; rfl, hw03⟩
        case false =>
          have hf3 := hf2.aft hw3
          have hv3 := hv2.aft hw3
          go_wp2_with fail
          refine (vsome_any 95 #[] W H n1 _ L _ w3 hf3 hv3 (Go.Proofs.enters_of Try.func95 (by kernel_rfl) rfl) (asks95 L w3 hsc hk)).mono ?_
          rintro e w4 ⟨rfl, hw4⟩
          obtain ⟨b2, hb2⟩ : ∃ x, (L.any fun s => !shapedZ s.1 s.2) = x := ⟨_, rfl⟩
          rw [hb2] at HD1 ⊢
          clear hb2
          have ho4 := (hw4.cell (World.block_lt_of_cell? _ _ ho3)).trans ho3
          have hw04 := hw03.trans hw4
          cases b2
          case true =>
            go_wp2_with fail
            go_ret
            exact ⟨by rw [HD1.out]; rfl, hw04⟩
          case false =>
            have hf4 := hf3.aft hw4
            have hv4 := hv3.aft hw4
            go_wp2_with fail
            refine (vsome_any 97 _ W H n1 _ L _ w4 hf4 hv4 (Go.Proofs.enters_of Try.func97 (by kernel_rfl) rfl) (asks97 L W H n1 n2 _ w4 hf4 ho4)).mono ?_
            rintro e w5 ⟨rfl, hw5⟩
            obtain ⟨b3, hb3⟩ : ∃ x, (L.any fun s => s.2.any (outZ W H)) = x := ⟨_, rfl⟩
            rw [hb3] at HD1 ⊢
            clear hb3
            have hw05 := hw04.trans hw5
            cases b3
            case true =>
              go_wp2_with fail
              go_ret
              exact ⟨by rw [HD1.out]; rfl, hw05⟩
            case false =>
              have hf5 := hf4.aft hw5
              have hv5 := hv4.aft hw5
              go_wp2_with fail
              refine (vsome_any 98 #[] W H n1 _ L _ w5 hf5 hv5 (Go.Proofs.enters_of Try.func98 (by kernel_rfl) rfl) (asks98 L w5 hsc)).mono ?_
              rintro e w6 ⟨rfl, hw6⟩
              obtain ⟨b4, hb4⟩ : ∃ x, (L.any fun s => !simpleZ s.1 s.2) = x := ⟨_, rfl⟩
              rw [hb4] at HD1 ⊢
              clear hb4
              have hw06 := hw05.trans hw6
              cases b4
              all_goals
                go_wp2_with fail
                go_ret
                exact ⟨by rw [HD1.out]; rfl, hw06⟩
end Go.Proofs.Ytokdclbfjlnnjaa
