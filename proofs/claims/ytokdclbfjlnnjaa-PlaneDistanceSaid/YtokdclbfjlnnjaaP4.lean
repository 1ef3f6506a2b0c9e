/- The program's iterator over the segments of a shape. -/
import Derived.RangeFuncNested
import Derived.RangeFuncBound
import Derived.RangeFuncCalls
import Derived.RangeFuncLeaves
import Derived.OwnWalkIn
import Derived.TacticsInMore
import Derived.Test.YtokdclbfjlnnjaaFlowIn
import Derived.Test.YtokdclbfjlnnjaaP3
namespace Go.Proofs.Ytokdclbfjlnnjaa
open Go.RowKit Go.BigFrame
attribute [local go_sem] Oper.semAt_some

def segV (s : Pt × Pt) : Value := .agg #[.int .i64 s.1.1, .int .i64 s.1.2, .int .i64 s.2.1, .int .i64 s.2.2]
/-- A shape in a box. -/
structure ShBox (W : World) (Bs : Nat) (k : Int) (vp : Value) (l : List Pt) : Prop where
  kind : W.cell? ⟨Bs, 0, none⟩ = some (.int .i64 k)
  pts : W.cell? ⟨Bs, 1, none⟩ = some vp
  prs : Prs W vp l
theorem ShBox.aft {W W' : World} {Bs : Nat} {k : Int} {vp : Value} {l : List Pt} (h : ShBox W Bs k vp l) (hw : Aft W W') : ShBox W' Bs k vp l :=
  ⟨(hw.cell (World.block_lt_of_cell? _ _ h.kind)).trans h.kind, (hw.cell (World.block_lt_of_cell? _ _ h.pts)).trans h.pts, h.prs.aft hw⟩

set_option maxHeartbeats 400000 in
theorem segments_fn (k : Int) (vp : Value) (w : World) :
    Calls Try.prog 83 #[.agg #[.int .i64 k, vp]] w fun e w' => e = .returned (.func (.func 116) #[] #[.pointer (some ⟨w.heap.size, 0, none⟩)]) ∧ w.alloc (.cells #[.int .i64 k, vp] 51) = w' := by
  go_enter Try.func83, Try.ntmps83
  go_wp2
  go_ret
  exact ⟨rfl, rfl⟩

set_option maxRecDepth 100000 in
set_option maxHeartbeats 2000000 in
theorem segs1_any (n : Nat) (h1n : 1 ≤ n) (k : Int) (l : List Pt) (vp : Value) (Bs : Nat) (Kp : World → World → Prop) (w : World) (hG : ShBox w Bs k vp l) (hsm : l.length ≤ 1000)
    (hKp : ∀ A B, Kp A B → ShBox A Bs k vp l → ShBox B Bs k vp l) :
    SeqStopsK Fence.wide n Try.prog 116 #[.pointer (some ⟨Bs, 0, none⟩)] (fun i : Nat => #[segV (sgZ l i)]) Kp (fun xs => xs = List.range (nSeg k l)) (fun pre => ∃ j, j ≤ nSeg k l ∧ pre = List.range j) (nSeg k l) w := by
  intro y J Jx W hW hJ hJx hY h0
  refine callsIn_wide.2 ?_
  have hG0 := hG.aft hW
  clear hG
  have hY := hid hY
  have hJ := hid hJ
  have hKp := hid hKp
  have hG1 := hG0
  obtain ⟨p1, p2, ⟨a, c, rfl, hl⟩⟩ := hG0
  have hn := hl.le
  go_enter Try.func116, Try.ntmps116
  by_cases hk : k = 0
  · have e0 : nSeg k l = 0 := by unfold nSeg; rw [if_pos (.inl hk)]
    subst hk
    have E0 := hid e0; clear e0
    have H0 := hid h0
    go_wp2
    refine bodyPost_ret (results_none rfl _ _ _) rfl ?_
    exact ⟨⟨_, rfl⟩, .inl (by rw [E0.out]; exact H0.out)⟩
  have ek : (k == 0) = false := by simpa using hk
  by_cases h2 : l.length < 2
  · have e0 : nSeg k l = 0 := by unfold nSeg; rw [if_pos (.inr h2)]
    have E0 := hid e0; clear e0
    have H0 := hid h0
    go_wp2
    refine bodyPost_ret (results_none rfl _ _ _) rfl ?_
    exact ⟨⟨_, rfl⟩, .inl (by rw [E0.out]; exact H0.out)⟩
  have h2' : 2 ≤ l.length := by omega
  obtain ⟨m, hm⟩ : ∃ m, nSeg k l = m := ⟨_, rfl⟩
  have hmk : (k = 2 ∧ m = l.length) ∨ (k ≠ 2 ∧ m + 1 = l.length) := by
    unfold nSeg at hm
    rw [if_neg (by omega)] at hm
    split at hm <;> omega
  have HM := hid hm
  rw [hm] at hY
  clear hm
  have hne : l ≠ [] := by rintro rfl; simp at h2'
  go_wp2
  clear p1 p2
  go_loopw [16] (fun i wr => ∃ r : Nat, r ≤ m ∧ i = .int .i64 r ∧ Hid (J (List.range r) wr) ∧ ShBox wr Bs k (.slice a l.length c) l) (fun i _ => l.length - (intOf i).toNat)
  case atStart => exact ⟨0, by omega, rfl, h0, hG1⟩
  case round =>
    obtain ⟨r, hr, rfl, hJr, hS⟩ := hrel
    have hS0 := hS
    obtain ⟨p1, p2, ⟨a', c', he, hlr⟩⟩ := hS
    simp only [Value.slice.injEq, true_and] at he
    obtain ⟨rfl, rfl⟩ := he
    rcases Nat.lt_or_ge r m with hlt | hge
    · have hrl : r < l.length := by omega
      have hlt3 : (r : Int) < l.length := by omega
      obtain ⟨b, off, px, py, rfl, c1, c2, hb, hx, _⟩ := hlr.rd.pair hlr.ok hrl
      have hq : (r + 1) % l.length < l.length := Nat.mod_lt _ (by omega)
      obtain ⟨q, hqe⟩ : ∃ q, (r + 1) % l.length = q := ⟨_, rfl⟩
      rw [hqe] at hq
      obtain ⟨qx, qy, c3, c4, hx', _⟩ := Rd.pair_at hlr.rd hlr.ok hq
      have hqi : (q : Int) < l.length := by omega
      have hsg : sgZ l r = ((px, py), (qx, qy)) := by
        have h1 := hx'.out
        unfold sgZ
        rw [ptZ_get hx.out]
        unfold ptZ
        rw [hqe]
        simp [List.getD, h1]
      have hmod : ((r : Int) + 1).tmod l.length = q := by
        rw [Int.tmod_eq_emod_of_nonneg (by omega), ← hqe]
        simp
      have hmod2 : ((r : Int) + 1) % l.length = q := by
        rw [← hqe]
        simp
      have SG := hid hsg; clear hsg hqe
      have hnl : ¬ ((l.length : Int) = 0) := by omega
      have hgo : ((r : Int) == (l.length : Int) - 1) = false ∨ (((r : Int) == (l.length : Int) - 1) = true ∧ k = 2) := by
        by_cases hh : (r : Int) = (l.length : Int) - 1
        · exact .inr ⟨by simp; omega, by omega⟩
        · exact .inl (by simp; omega)
      have HMK := hid hmk
      clear hmk hnl
      have hgo' : ((r : Int) == (l.length : Int) - 1) = false ∨ (((r : Int) == (l.length : Int) - 1) = true ∧ (k != 2) = false) := hgo.imp id fun ⟨h1, h2⟩ => ⟨h1, by simp [h2]⟩
      clear hgo
      rcases hgo' with hgo | ⟨hgo, hb2⟩
      all_goals
        go_upto_region 6 with fail
        refine (wpIn_wide (n := n)).1 ?_
        refine wpIn_region_flow Fence.free_wide _ (Aft.refl _) [FV.is (.func (.yield y) #[] #[]), FV.is (.pointer (some ⟨Bs, 1, none⟩)), FV.is (.slice (some ⟨b, off, none⟩) l.length c), FV.is (.int .i64 r), FV.is (.pointer (some ⟨b, off + r * 2, none⟩)), FV.is (.agg #[.int .i64 px, .int .i64 py]), FV.is (.pointer (some ⟨Bs, 1, none⟩)), FV.is (.slice (some ⟨b, off, none⟩) l.length c), FV.is (.int .i64 r), FV.is (.int .i64 ((r : Int) + 1)), FV.is (.int .i64 l.length), FV.is (.int .i64 q), FV.is (.pointer (some ⟨b, off + q * 2, none⟩)), FV.is (.agg #[.int .i64 qx, .int .i64 qy]), FV.is (.agg #[.int .i64 px, .int .i64 py, .int .i64 qx, .int .i64 qy])]
          [(0, 28), (1, 29), (2, 30), (3, 31), (4, 32), (5, 33), (6, 34), (7, 35), (8, 36), (9, 37), (10, 38), (11, 39), (12, 40), (13, 41), (14, 42)]
          [[], [], [(1, 29)], [], [(2, 30), (3, 31)], [(4, 32)], [], [(6, 34)], [], [(8, 36)], [], [(9, 37), (10, 38)], [(7, 35), (11, 39)], [(12, 40)], [(5, 33), (13, 41)]] (by kernel_rfl) (by kernel_rfl) (by kernel_rfl) ?_ ?_
        · refine flowObs_cons (fun W hW => flowOb_nil ?_) ?_
          · go_wp2
            exact ⟨rfl, Aft.refl W⟩
          refine flowObs_cons (fun W hW => flowOb_nil ?_) ?_
          · go_wp2
            exact ⟨rfl, Aft.refl W⟩
          refine flowObs_cons (fun W hW => flowOb_cons fun v0 h0 => flowOb_nil ?_) ?_
          · obtain rfl := h0
            have p2W := (hW.cell (World.block_lt_of_cell? _ _ p2)).trans p2
            have c1W := (hW.cell (World.block_lt_of_cell? _ _ c1)).trans c1
            have c2W := (hW.cell (World.block_lt_of_cell? _ _ c2)).trans c2
            have c3W := (hW.cell (World.block_lt_of_cell? _ _ c3)).trans c3
            have c4W := (hW.cell (World.block_lt_of_cell? _ _ c4)).trans c4
            go_wp2
            exact ⟨rfl, Aft.refl W⟩
          refine flowObs_cons (fun W hW => flowOb_nil ?_) ?_
          · go_wp2
            exact ⟨rfl, Aft.refl W⟩
          refine flowObs_cons (fun W hW => flowOb_cons fun v0 h0 => flowOb_cons fun v1 h1 => flowOb_nil ?_) ?_
          · obtain rfl := h0
            obtain rfl := h1
            go_wp2
            exact ⟨rfl, Aft.refl W⟩
          refine flowObs_cons (fun W hW => flowOb_cons fun v0 h0 => flowOb_nil ?_) ?_
          · obtain rfl := h0
            have p2W := (hW.cell (World.block_lt_of_cell? _ _ p2)).trans p2
            have c1W := (hW.cell (World.block_lt_of_cell? _ _ c1)).trans c1
            have c2W := (hW.cell (World.block_lt_of_cell? _ _ c2)).trans c2
            have c3W := (hW.cell (World.block_lt_of_cell? _ _ c3)).trans c3
            have c4W := (hW.cell (World.block_lt_of_cell? _ _ c4)).trans c4
            go_wp2
            exact ⟨rfl, Aft.refl W⟩
          refine flowObs_cons (fun W hW => flowOb_nil ?_) ?_
          · go_wp2
            exact ⟨rfl, Aft.refl W⟩
          refine flowObs_cons (fun W hW => flowOb_cons fun v0 h0 => flowOb_nil ?_) ?_
          · obtain rfl := h0
            have p2W := (hW.cell (World.block_lt_of_cell? _ _ p2)).trans p2
            have c1W := (hW.cell (World.block_lt_of_cell? _ _ c1)).trans c1
            have c2W := (hW.cell (World.block_lt_of_cell? _ _ c2)).trans c2
            have c3W := (hW.cell (World.block_lt_of_cell? _ _ c3)).trans c3
            have c4W := (hW.cell (World.block_lt_of_cell? _ _ c4)).trans c4
            go_wp2
            exact ⟨rfl, Aft.refl W⟩
          refine flowObs_cons (fun W hW => flowOb_nil ?_) ?_
          · go_wp2
            exact ⟨rfl, Aft.refl W⟩
          refine flowObs_cons (fun W hW => flowOb_cons fun v0 h0 => flowOb_nil ?_) ?_
          · obtain rfl := h0
            go_wp2
            exact ⟨rfl, Aft.refl W⟩
          refine flowObs_cons (fun W hW => flowOb_nil ?_) ?_
          · go_wp2
            exact ⟨rfl, Aft.refl W⟩
          refine flowObs_cons (fun W hW => flowOb_cons fun v0 h0 => flowOb_cons fun v1 h1 => flowOb_nil ?_) ?_
          · obtain rfl := h0
            obtain rfl := h1
            go_wp2
            exact ⟨rfl, Aft.refl W⟩
          refine flowObs_cons (fun W hW => flowOb_cons fun v0 h0 => flowOb_cons fun v1 h1 => flowOb_nil ?_) ?_
          · obtain rfl := h0
            obtain rfl := h1
            go_wp2
            exact ⟨rfl, Aft.refl W⟩
          refine flowObs_cons (fun W hW => flowOb_cons fun v0 h0 => flowOb_nil ?_) ?_
          · obtain rfl := h0
            have p2W := (hW.cell (World.block_lt_of_cell? _ _ p2)).trans p2
            have c1W := (hW.cell (World.block_lt_of_cell? _ _ c1)).trans c1
            have c2W := (hW.cell (World.block_lt_of_cell? _ _ c2)).trans c2
            have c3W := (hW.cell (World.block_lt_of_cell? _ _ c3)).trans c3
            have c4W := (hW.cell (World.block_lt_of_cell? _ _ c4)).trans c4
            go_wp2
            exact ⟨rfl, Aft.refl W⟩
          refine flowObs_cons (fun W hW => flowOb_cons fun v0 h0 => flowOb_cons fun v1 h1 => flowOb_nil ?_) flowObs_nil
          · obtain rfl := h0
            obtain rfl := h1
            go_wp2
            exact ⟨rfl, Aft.refl W⟩
        · intro W' hW'
          refine flowEndIn_cons fun v0 h0 => ?_
          obtain rfl := h0
          iterate 13 refine flowEndIn_cons fun _ _ => ?_
          refine flowEndIn_cons fun v h => flowEndIn_nil ?_
          obtain rfl := h
          simp only [Act.put, List.setIfInBounds_toArray, List.set_cons_succ, List.set_cons_zero]
          have hJW := hJ.out _ _ _ none hJr.out (hW'.grows none) (by simp)
          have hSW := hS0.aft hW'
          obtain ⟨fn, tmps, assign, body, hy, hR⟩ := hY.out _ r W' hJW (by rw [List.length_range]; exact hlt)
          rw [SG.out] at hy
          dsimp only [segV] at hy
          gi_wp2
          refine hR.mono ?_
          rintro e W3 (⟨rfl, hJ3, hk3⟩ | ⟨rfl, hJx3⟩)
          · have hS3 := hKp.out _ _ hk3 hSW
            have HJ3 := hid hJ3
            clear hJ3 hk3
            gi_wp2
            go_wp2
            go_roundw
            case rel => exact ⟨r + 1, by omega, by go_num, hid (by rw [List.range_succ]; exact HJ3.out), hS3⟩
            case measure => simp only [intOf]; omega
          · have HJ3 := hid hJx3
            clear hJx3
            gi_wp2
            go_wp2
            refine bodyPost_ret (results_none rfl _ _ _) rfl ?_
            exact ⟨⟨_, rfl⟩, .inr ⟨_, ⟨r + 1, by rw [HM.out]; omega, rfl⟩, by rw [List.range_succ]; exact HJ3.out⟩⟩
    · obtain rfl : m = r := by omega
      have hnl : ¬ ((l.length : Int) = 0) := by omega
      have hcc : (k = 2 ∧ (m : Int) = (l.length : Int)) ∨ (((m : Int) == (l.length : Int) - 1) = true ∧ (k != 2) = true ∧ (m : Int) < l.length) := by
        rcases hmk with ⟨h1, h2⟩ | ⟨h1, h2⟩
        · exact .inl ⟨h1, by omega⟩
        · exact .inr ⟨by simp; omega, by simpa using h1, by omega⟩
      have HMK := hid hmk
      clear hmk
      rcases hcc with ⟨hk2, hc⟩ | ⟨hc1, hc2, hc3⟩
      · have hc' : ¬ ((m : Int) < (l.length : Int)) := by omega
        clear hc
        have HM2 : Hid (nSeg 2 l = m) := hid (by rw [← hk2]; exact HM.out)
        go_wp2
        go_end0
        exact ⟨⟨_, rfl⟩, .inl (by rw [HM2.out]; exact hJr.out)⟩
      · go_wp2
        refine bodyPost_ret (results_none rfl _ _ _) rfl ?_
        exact ⟨⟨_, rfl⟩, .inl ⟨_, rfl, by rw [HM.out]; exact hJr.out⟩⟩
end Go.Proofs.Ytokdclbfjlnnjaa
