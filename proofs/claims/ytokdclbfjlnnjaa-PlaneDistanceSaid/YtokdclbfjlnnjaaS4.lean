/- The contract of the program's Split: it returns what the reference's does. -/
import Derived.Test.YtokdclbfjlnnjaaMap
import Derived.Test.YtokdclbfjlnnjaaPin
namespace Go.Proofs.Ytokdclbfjlnnjaa
open Go.RowKit Go.BigFrame

/-- What the map holds when k elements have been laid into it. -/
def laid (l : List (Int × Int)) (k : Nat) (i : Int) : Option (Int × Int) := if i < k then liI l i else none

theorem laid_zero (l : List (Int × Int)) : laid l 0 = fun _ => none := by
  funext i
  unfold laid liI
  split
  · rw [if_neg (by omega)]
  · rfl
theorem laid_succ {l : List (Int × Int)} {k : Nat} {p : Int × Int} (h : l[k]? = some p) : (fun j : Int => if j = k then some p else laid l k j) = laid l (k + 1) := by
  funext j
  unfold laid liI
  by_cases hj : j = k
  · subst hj
    rw [if_pos rfl, if_pos (by omega), if_pos (by omega), Int.toNat_natCast, h]
  · rw [if_neg hj]
    by_cases h2 : j < k
    · rw [if_pos h2, if_pos (show j < ((k + 1 : Nat) : Int) by omega)]
    · rw [if_neg h2, if_neg (by omega)]
theorem laid_all (l : List (Int × Int)) (wd : Int) : laid l l.length = unc l [] wd := by
  funext i
  unfold laid unc liI
  by_cases h0 : 0 ≤ i
  · rw [if_pos h0]
    by_cases h1 : i < l.length
    · rw [if_pos h1]
      cases hq : l[i.toNat]? <;> simp [covB, Option.filter]
    · rw [if_neg h1, List.getElem?_eq_none (by omega)]; rfl
  · rw [if_neg h0]; simp

/-- What is in the new map while some keys are still to come. -/
def restF (l : List (Int × Int)) (at_ : List Int) (wd x : Int) (left : Int → Bool) (i : Int) : Option (Int × Int) := if left i then none else (unc l at_ wd i).filter fun p => !inB p x wd
theorem restF_start (l : List (Int × Int)) (at_ : List Int) (wd x : Int) : (fun _ => none) = restF l at_ wd x fun i => (unc l at_ wd i).isSome := by
  funext i
  unfold restF
  cases h : unc l at_ wd i with
  | none => simp only [h]; rfl
  | some p => simp only [h]; rfl
theorem restF_skip {l : List (Int × Int)} {at_ : List Int} {wd x i : Int} {p : Int × Int} {left : Int → Bool} (hi : unc l at_ wd i = some p) (hl : left i = true) (hin : inB p x wd = true) : restF l at_ wd x left = restF l at_ wd x fun j => left j && !decide (j = i) := by
  funext j
  unfold restF
  by_cases hj : j = i
  · subst hj; simp [hl, hi, hin, Option.filter]
  · simp [hj]
theorem restF_put {l : List (Int × Int)} {at_ : List Int} {wd x i : Int} {p : Int × Int} {left : Int → Bool} (hi : unc l at_ wd i = some p) (hin : inB p x wd = false) : (fun j => if j = i then some p else restF l at_ wd x left j) = restF l at_ wd x fun j => left j && !decide (j = i) := by
  funext j
  unfold restF
  by_cases hj : j = i
  · subst hj; simp [hi, hin, Option.filter]
  · simp [hj]
theorem restF_end {l : List (Int × Int)} {at_ : List Int} {wd x : Int} {left : Int → Bool} (h : ∀ i, left i = false) : restF l at_ wd x left = unc l (at_ ++ [x]) wd := by
  funext i
  unfold restF unc
  simp only [h i, covB_snoc, Option.filter_filter]
  simp

theorem see_step {left : Int → Bool} {i j : Int} : (!(left j && !decide (j = i))) = true ↔ (!left j) = true ∨ j = i := by
  by_cases h : j = i
  · subst h; simp
  · simp [h]
theorem least_first {f : Int → Option (Int × Int)} {left : Int → Bool} {i : Int} {p : Int × Int} (h : Least f (fun j => !left j) (-1)) (hi : f i = some p) (h0 : 0 ≤ i := by omega) : Least f (fun j => !(left j && !decide (j = i))) i := by
  refine .inr ⟨h0, p, hi, see_step.2 (.inr rfl), fun j q hq hs => ?_⟩
  rcases see_step.1 hs with h1 | h1
  · rcases h with ⟨_, h⟩ | ⟨h, _⟩
    · have := h j q hq; simp only [] at this; rw [h1] at this; cases this
    · omega
  · subst h1; rw [hi] at hq; cases hq; omega
theorem least_new {l : List (Int × Int)} {at_ : List Int} {wd : Int} {left : Int → Bool} {i : Int} {p x : Int × Int} {q : Nat} (h : Least (unc l at_ wd) (fun j => !left j) q) (hi : unc l at_ wd i = some p) (hx : l[q]? = some x) (hlt : p.1 < x.1 ∨ p.1 = x.1 ∧ i < q) :
    Least (unc l at_ wd) (fun j => !(left j && !decide (j = i))) i := by
  refine .inr ⟨(unc_some hi).1, p, hi, see_step.2 (.inr rfl), fun j r hr hs => ?_⟩
  rcases see_step.1 hs with h1 | h1
  · rcases h with ⟨h, _⟩ | ⟨_, s, hs1, _, hs2⟩
    · omega
    · have e := (unc_some hs1).2.2.1
      simp only [Int.toNat_natCast] at e
      rw [hx] at e
      cases e
      have := hs2 j r hr h1
      omega
  · subst h1; rw [hi] at hr; cases hr; omega
theorem least_old {l : List (Int × Int)} {at_ : List Int} {wd : Int} {left : Int → Bool} {i : Int} {p x : Int × Int} {q : Nat} (h : Least (unc l at_ wd) (fun j => !left j) q) (hi : unc l at_ wd i = some p) (hx : l[q]? = some x) (hlt : x.1 < p.1 ∨ p.1 = x.1 ∧ (q : Int) ≤ i) :
    Least (unc l at_ wd) (fun j => !(left j && !decide (j = i))) q := by
  rcases h with ⟨h, _⟩ | ⟨h0, s, hs1, hs3, hs2⟩
  · omega
  · have e := (unc_some hs1).2.2.1
    simp only [Int.toNat_natCast] at e
    rw [hx] at e
    cases e
    refine .inr ⟨h0, _, hs1, see_step.2 (.inl hs3), fun j r hr hs => ?_⟩
    rcases see_step.1 hs with h1 | h1
    · exact hs2 j r hr h1
    · subst h1; rw [hi] at hr; cases hr; omega

set_option maxRecDepth 100000 in
set_option maxHeartbeats 4000000 in
theorem split_any (v : Value) (l : List (Int × Int)) (wd : Int) (w : World) (hl : Prs w v l) :
    Calls Try.prog 19 #[v, .int .i64 wd] w (SplitPost w (rSplit l wd)) := by
  by_cases hf : fitsE l wd = 0
  · obtain ⟨f1, f2, f3, f4, f5⟩ := fits_ok hf
    have F4 := hid f4; clear f4
    have F5 := hid f5; clear f5
    have hf0 : (fitsE l wd != 0) = false := by simp [hf]
    have Hf := hid hf; clear hf
    have hl0 := hl
    obtain ⟨a, c, rfl, hl⟩ := hl
    have hn := hl.le
    have hmm := @run_makeMap Try.prog
    go_enter Try.func19, Try.ntmps19
    go_wp2_with (go_at_call 64; refine (fits_any _ l wd _ hl0).mono ?_; rintro e w1 ⟨rfl, hw1⟩)
    have hs1 := hw1.size
    go_loopw [29, 11] (fun i _ wr => ∃ k : Nat, k ≤ l.length ∧ i = .int .i64 k ∧ IM Try.prog 3 wr w1.heap.size k (laid l k) ∧ Aft w wr) (fun i _ _ => l.length - (intOf i).toNat)
    case atStart => exact ⟨0, by omega, rfl, by rw [laid_zero]; exact IM.made w1, hw1.alloc _⟩
    case round =>
      obtain ⟨k, hk, rfl, him, hw⟩ := hrel
      by_cases hlt : k < l.length
      · obtain ⟨b, off, x, y, rfl, hc1, hc2, hb, hx, _, _, _, _⟩ := (hl.aft hw).rd.pair hl.ok hlt
        go_wp2_with (at_mapUpdate; refine wpList_im_store Try.underlying3 rfl _ _ _ 99 rfl 100 Try.underlying99 w1.heap.size k _ rfl (him.aft ((Aft.refl _).alloc _)) (by unfold maxLen; omega) k (x, y) rfl rfl (by omega) ?_; intro w2 him2 hg2)
        rw [laid_succ hx.out] at him2
        have hw2 := (hw.alloc (.cells #[.int .i64 x, .int .i64 y] 41)).grown hg2 (fun j hj => by cases hj; omega)
        go_wp2
        go_roundw
        case rel => exact ⟨k + 1, by omega, by go_num, him2, hw2⟩
        case measure => simp [intOf] <;> omega
      · obtain rfl : k = l.length := by omega
        rw [laid_all l wd] at him
        clear hlt hk
        have hsr := hw.size
        go_wp2
        go_loopw [8, 9, 10, 13, 14, 16, 17, 18] (fun v v' m _ _ _ _ _ wx => ∃ (at_ pins : List Int) (bm N : Nat), m = .map (some bm) ∧ w.heap.size ≤ bm ∧ N ≤ 64 ∧ IM Try.prog 3 wx bm N (unc l at_ wd) ∧ wx.ownsRow w.heap.size 3 1 v at_.length (i64s at_) ∧ wx.ownsRow w.heap.size 3 1 v' pins.length (i64s pins) ∧
          Sep v v' ∧ Hid (rRounds l wd l.length ([], []) = rRounds l wd (l.length - at_.length) (at_, pins)) ∧ Hid (∀ x ∈ at_, 0 ≤ x ∧ x ≤ 1000) ∧ Hid (∀ x ∈ pins, 0 ≤ x ∧ x ≤ 1000) ∧ Hid (pins.length = at_.length) ∧ at_.length + uncN l at_ wd ≤ l.length ∧ Aft w wx) (fun v _ _ _ _ _ _ _ _ => l.length - lenOf v)
        case atStart => exact ⟨[], [], w1.heap.size, l.length, rfl, hs1, f1, him, World.ownsRow_nil _ _ _ _, World.ownsRow_nil _ _ _ _, Sep.nil _, rfl, by simp [Hid], by simp [Hid], rfl, by rw [uncN_nil]; simp, hw⟩
        case round =>
          clear him
          obtain ⟨at_, pins, bm, N, rfl, hbm, hN, him, own1, own2, hsep, hrr, hat, hpin, hpl, hun, hw⟩ := hrel
          obtain ⟨wo, hwo⟩ : ∃ wo : World, wo = wr := ⟨_, rfl⟩
          subst hwo
          have hso := hw.size
          by_cases hne : ∃ i, (unc l at_ wd i).isSome = true
          · obtain ⟨i0, hi0⟩ := hne
            have Hne := hid hi0; clear hi0
            go_wp2_with (first
              | (at_len; refine wpList_im_len Try.underlying3 rfl _ 99 rfl 100 Try.underlying99 bm N _ rfl him ?_; intro s hs1 hs2; have hs3 : 0 < s := hs2.2 ⟨_, Hne.out⟩; clear hs2)
              | (at_range; refine wpList_im_range Try.underlying3 rfl _ 99 rfl 100 Try.underlying99 bm N _ rfl him ?_; intro w2 cnt himr hcN hw2 hsz2))
            go_frame
            have Hsz2 := hid hsz2; clear hsz2
            go_loopw [13] (fun pv w3 => ∃ (left : Int → Bool) (cnt : Nat) (p : Int), pv = .int .i64 p ∧ Hid (Least (unc l at_ wd) (fun i => !left i) p) ∧ -1 ≤ p ∧ p < l.length ∧ IMr Try.prog 3 w3 bm wo.heap.size N (unc l at_ wd) left cnt ∧ Aft wo w3) (fun _ w3 => w3.rangeLeft bm wo.heap.size)
            case atStart => exact ⟨_, cnt, -1, rfl, .inl ⟨rfl, fun i p hp => by simp [hp]⟩, by omega, by omega, himr, hw2⟩
            case round =>
              clear himr hw2
              obtain ⟨left, cnt, p, rfl, hleast, hp1, hp2, himr, hw3⟩ := hrel
              have hl3 := hl.aft (hw.trans hw3)
              go_wp2_with (at_next; refine wpList_im_next Try.underlying3 rfl _ rfl bm wo.heap.size N _ left cnt rfl himr ?_ ?_)
              · intro hdone
                have hl1 : Least (unc l at_ wd) (fun _ => true) p := by
                  have e : (fun i => !left i) = fun _ => true := by funext i; simp [hdone i]
                  rw [← e]; exact hleast.out
                have hpin0 : 0 ≤ p := by
                  rcases hl1 with ⟨_, h⟩ | ⟨h, _⟩
                  · obtain ⟨y, hy⟩ := Option.isSome_iff_exists.1 Hne.out
                    have := h _ y hy; cases this
                  · exact h
                obtain ⟨q, rfl⟩ := Int.eq_ofNat_of_zero_le hpin0
                have hq : q < l.length := by omega
                have Hpl := hid (pinLoop_eq hl1)
                have Hl1 := hid hl1; clear hl1
                clear hdone
                obtain ⟨b, off, x, y, rfl, hc1, hc2, hb, hx, _, _, _, _⟩ := hl3.rd.pair hl3.ok hq
                have hg := bad_of F4.out hx.out
                have ow1 := ownsRow_aft own1 hw3
                have ow2 := ownsRow_aft own2 hw3
                have hmr := himr.im
                have hne1 : some bm ≠ u8.ownBlock := fun e => own_ne_map ow1 hmr bm e.symm rfl
                have hne2 : some bm ≠ u9.ownBlock := fun e => own_ne_map ow2 hmr bm e.symm rfl
                have hs4 := hw3.size
                have hpl' : pins.length ≤ 64 := by have := hpl.out; omega
                have hwr := hw.trans hw3
                go_wp2_with (first
                  | (at_builtin; refine wpList_app _ rfl (.tmp 81) (.tmp 83) 22 rfl w.heap.size 3 (.int .i64 0) 1 8 Try.underlying22 Try.info3 rfl (by decide) _ _ _ rfl (ow1.alloc _) (some ⟨wr.heap.size, 0, none⟩) 1 1 (i64s [x]) rfl (fun h => by cases h) rfl Rd.new (i64s_one _) (by unfold maxLen; omega) (by omega) (by simp; omega) ?_; intro v1 wa howna hga hloc; have hownb := hsep.symm.kept (ow2.alloc _) hga; have hsa := hga.size; simp at hsa; have hsp1 := hsep.moved (ow2.alloc _) hloc; have hwa := (hwr.alloc _).grown hga (fun j hj => (ow1.lt j hj).1); have hma := (hmr.aft ((Aft.refl _).alloc _)).kept hga hne1)
                  | (at_builtin; refine wpList_app _ rfl (.tmp 85) (.tmp 87) 22 rfl w.heap.size 3 (.int .i64 0) 1 8 Try.underlying22 Try.info3 rfl (by decide) _ _ _ rfl (hownb.alloc _) (some ⟨wa.heap.size, 0, none⟩) 1 1 (i64s [q]) rfl (fun h => by cases h) rfl Rd.new (i64s_one _) (by unfold maxLen; omega) (by omega) (by simp; omega) ?_; intro v2 wb hownc hgb hlocb; have hsp2 := hsp1.symm.moved (howna.alloc _) hlocb; have hownd := hsp1.kept (howna.alloc _) hgb; have hwf := (hwa.alloc _).grown hgb (fun j hj => (hownb.lt j hj).1); have hmb := (hma.aft ((Aft.refl _).alloc _)).kept hgb hne2; have hsb := hwf.size)
                  | (at_range; refine wpList_im_range Try.underlying3 rfl _ 99 rfl 100 Try.underlying99 bm N _ rfl (hmb.aft ((Aft.refl _).alloc _)) ?_; intro w5 cnt5 himr5 hcN5 hw5 hsz5))
                go_frame
                have hr2 : (wb.alloc (.map #[] 0)).heap.size = wb.heap.size + 1 := by simp
                rw [hr2] at himr5
                clear hsz5
                rw [hr2]
                have him5 : IM Try.prog 3 w5 wb.heap.size 0 _ := (IM.made wb).aft hw5
                rw [restF_start l at_ wd x] at him5
                have hbmb : bm < wb.heap.size := hmb.lt
                clear himr
                go_loopw [18] (fun _ w6 => ∃ (left : Int → Bool) (cnt N2 : Nat), N2 + cnt ≤ N ∧ IMr Try.prog 3 w6 bm (wb.heap.size + 1) N (unc l at_ wd) left cnt ∧ IM Try.prog 3 w6 wb.heap.size N2 (restF l at_ wd x left) ∧ Aft wb w6 ∧ wb.heap.size + 1 < w6.heap.size) (fun _ w6 => w6.rangeLeft bm (wb.heap.size + 1))
                case atStart => exact ⟨_, cnt5, 0, by omega, himr5, him5, ((Aft.refl _).alloc _).trans hw5, himr5.lt2⟩
                case round =>
                  clear himr5 him5 hw5 hcN5
                  obtain ⟨left2, cnt6, N2, hN2, himr6, him6, hw6, hsz6⟩ := hrel
                  go_wp2_with (at_next; refine wpList_im_next Try.underlying3 rfl _ rfl bm (wb.heap.size + 1) N _ left2 cnt6 rfl himr6 ?_ ?_)
                  · intro hdone2
                    rw [restF_end hdone2] at him6
                    clear hdone2
                    have him6b := himr6.im
                    go_wp2_with (with_reducible refine wpList_im_clear rfl (.tmp 105) 99 rfl 100 Try.underlying99 bm N _ rfl him6b ?_; intro w8 hg8)
                    have how1 := own_kept_map (ownsRow_aft hownd hw6) him6b hg8
                    have how2 := own_kept_map (ownsRow_aft hownc hw6) him6b hg8
                    have him8 := him6.kept hg8 (fun e => by cases e; omega)
                    have hw8 := (hwf.trans hw6).grown hg8 (fun k hk => by cases hk; exact hbm)
                    have hl8 := lenOf_own how1
                    have hl0 := lenOf_own own1
                    obtain ⟨u, hu, _⟩ : ∃ u, unc l at_ wd q = some u ∧ True := by
                      rcases Hl1.out with ⟨h, _⟩ | ⟨_, u, hu, _⟩
                      · omega
                      · exact ⟨u, hu, trivial⟩
                    have hxu : u = (x, y) := by
                      have := (unc_some hu).2.2.1
                      rw [Int.toNat_natCast, hx.out] at this
                      cases this; rfl
                    subst hxu
                    have hin : inB (x, y) x wd = true := by
                      have := List.any_eq_false.1 F5.out _ (List.mem_of_getElem? hx.out)
                      simp [wideP] at this
                      simp [inB]; omega
                    have hup := uncN_pos hu
                    have hul := uncN_lt (List.mem_of_getElem? hx.out) (unc_some hu).2.2.2 hin
                    clear hu hin
                    go_roundw
                    case rel =>
                      refine ⟨at_ ++ [x], pins ++ [(q : Int)], wb.heap.size, N2, rfl, by omega, by omega, him8, ?_, ?_, hsp2.symm, ?_, ?_, ?_, ?_, ?_, hw8⟩
                      · rw [i64s_append, List.length_append]; exact how1
                      · rw [i64s_append, List.length_append]; exact how2
                      · refine hid ?_
                        rw [hrr.out, show l.length - at_.length = (l.length - (at_.length + 1)) + 1 by omega, List.length_append]
                        simp only [rRounds, rStep, Hpl.out, List.length_singleton]
                        rw [if_pos (by omega), Int.toNat_natCast, getD_of hx.out]
                      · refine hid fun z hz => ?_
                        rcases List.mem_append.1 hz with h | h
                        · exact hat.out z h
                        · obtain rfl : z = x := by simpa using h
                          omega
                      · refine hid fun z hz => ?_
                        rcases List.mem_append.1 hz with h | h
                        · exact hpin.out z h
                        · obtain rfl : z = q := by simpa using h
                          omega
                      · refine hid ?_
                        rw [List.length_append, List.length_append, hpl.out]; rfl
                      · rw [List.length_append]
                        simp only [List.length_singleton]
                        omega
                    case measure => rw [hl8, hl0]; omega
                  · intro i px py w7 cnt7 hi1 hi2 hleft hfi himr7 hlt7 hg7 hsz7 hen
                    clear hsz7
                    have hw7 := hw6.grown hg7 (fun k hk => by have := Option.some.inj hk; omega)
                    have him7 := him6.kept hg7 (fun e => by have := Option.some.inj e; omega)
                    have hs7 := hg7.size
                    have HF := hid hfi; clear hfi
                    have Hleft := hid hleft; clear hleft
                    have hxw : -9223372036854775808 ≤ x + wd ∧ x + wd ≤ 9223372036854775807 := by omega
                    cases hin : inB (px, py) x wd
                    · go_wp2_with (first
                        | (go_at_call 65; refine (sin_any (px, py) x wd _ hxw.1 hxw.2).mono ?_; rintro e w8 ⟨rfl, hw78⟩; have c0 := hw78.cell (b := w7.heap.size) (o := 0) (by simp); have c1 := hw78.cell (b := w7.heap.size) (o := 1) (by simp); simp at c0 c1; have hw8 := (hw7.alloc (.cells #[.int .i64 px, .int .i64 py] 100)).trans hw78; have him8 := him7.aft (((Aft.refl _).alloc (.cells #[.int .i64 px, .int .i64 py] 100)).trans hw78); have himr8 := himr7.aft (((Aft.refl _).alloc (.cells #[.int .i64 px, .int .i64 py] 100)).trans hw78))
                        | (at_mapUpdate; refine wpList_im_store Try.underlying3 rfl _ _ _ 99 rfl 100 Try.underlying99 wb.heap.size N2 _ rfl him8 (by unfold maxLen; omega) i (px, py) rfl rfl (by omega) ?_; intro w9 him9 hg9; go_frame))
                      rw [restF_put HF.out hin] at him9
                      have himr9 := himr8.kept hg9 (fun e => by have := Option.some.inj e; omega) (fun e => by have := Option.some.inj e; omega)
                      have hw9 := hw8.grown hg9 (fun k hk => by have := Option.some.inj hk; omega)
                      have hsz9 : wb.heap.size + 1 < w9.heap.size := himr9.lt2
                      go_roundw
                      case rel => exact ⟨_, cnt7, N2 + 1, by omega, himr9, him9, hw9, hsz9⟩
                      case measure => rw [himr9.cnt_eq, himr6.cnt_eq]; exact hlt7
                    · go_wp2_with (go_at_call 65; refine (sin_any (px, py) x wd _ hxw.1 hxw.2).mono ?_; rintro e w8 ⟨rfl, hw78⟩; have hw8 := (hw7.alloc (.cells #[.int .i64 px, .int .i64 py] 100)).trans hw78; have him8 := him7.aft (((Aft.refl _).alloc (.cells #[.int .i64 px, .int .i64 py] 100)).trans hw78); have himr8 := himr7.aft (((Aft.refl _).alloc (.cells #[.int .i64 px, .int .i64 py] 100)).trans hw78))
                      rw [restF_skip HF.out Hleft.out hin] at him8
                      have hsz9 : wb.heap.size + 1 < w8.heap.size := himr8.lt2
                      go_roundw
                      case rel => exact ⟨_, cnt7, N2, by omega, himr8, him8, hw8, hsz9⟩
                      case measure => rw [himr8.cnt_eq, himr6.cnt_eq]; exact hlt7
              · intro i px py w4 cnt4 hi1 hi2 hleft hfi himr4 hlt4 hg4 hsz4 hen
                have hw4 := hw3.grown hg4 (fun k hk => by cases hk; exact Nat.le_refl _)
                have hl4 := hl.aft (hw.trans hw4)
                obtain ⟨i1, i2, i3, i4⟩ := unc_some hfi
                clear hsz4
                have HF := hid hfi; clear hfi
                have I3 := hid i3; clear i3
                clear i4 hleft
                rcases Int.lt_or_le p 0 with hneg | hnn
                · obtain rfl : p = -1 := by omega
                  go_wp2
                  refine wp_region_lat (w4.alloc (.cells #[.int .i64 px, .int .i64 py] 100)) (Aft.refl _) (by kernel_rfl) (by kernel_rfl) ?_
                  repeat (go_big_quiet_step (fail))
                  refine wpQuiet_nil ?_
                  intro _ hw'; obtain ⟨z, rfl⟩ := hw'
                  go_wp2
                  go_roundw
                  case rel => exact ⟨_, cnt4, i, rfl, hid (least_first hleast.out HF.out), by omega, by omega, (himr4.aft ((Aft.refl _).alloc _)).aft z.aft, (hw4.alloc _).trans z.aft⟩
                  case measure => rw [((himr4.aft ((Aft.refl _).alloc _)).aft z.aft).cnt_eq, himr.cnt_eq]; exact hlt4

                · obtain ⟨q, rfl⟩ := Int.eq_ofNat_of_zero_le hnn
                  have hq : q < l.length := by omega
                  have hd : decide ((q : Int) < 0) = false := by simp
                  obtain ⟨b, off, x2, y2, rfl, hc3, hc4, hb4, hx2, _, _, _, _⟩ := hl4.rd.pair hl4.ok hq
                  rcases (show (decide (px < x2) = true) ∨ (decide (px < x2) = false ∧ (px == x2) = true ∧ decide (i < (q : Int)) = true) ∨ (decide (px < x2) = false ∧ (px == x2) = true ∧ decide (i < (q : Int)) = false) ∨ (decide (px < x2) = false ∧ (px == x2) = false) by
                    cases decide (px < x2) <;> cases (px == x2) <;> cases decide (i < (q : Int)) <;> simp) with e1 | ⟨e1, e2, e3⟩ | ⟨e1, e2, e3⟩ | ⟨e1, e2⟩
                  · go_wp2
                    refine wp_region_lat (w4.alloc (.cells #[.int .i64 px, .int .i64 py] 100)) (Aft.refl _) (by kernel_rfl) (by kernel_rfl) ?_
                    repeat (go_big_quiet_step (fail))
                    refine wpQuiet_nil ?_
                    intro _ hw'; obtain ⟨z, rfl⟩ := hw'
                    go_wp2
                    go_roundw
                    case rel => exact ⟨_, cnt4, i, rfl, hid (least_new hleast.out HF.out hx2.out (by simp at e1; omega)), by omega, by omega, (himr4.aft ((Aft.refl _).alloc _)).aft z.aft, (hw4.alloc _).trans z.aft⟩
                    case measure => rw [((himr4.aft ((Aft.refl _).alloc _)).aft z.aft).cnt_eq, himr.cnt_eq]; exact hlt4

                  · go_wp2
                    refine wp_region_lat (w4.alloc (.cells #[.int .i64 px, .int .i64 py] 100)) (Aft.refl _) (by kernel_rfl) (by kernel_rfl) ?_
                    repeat (go_big_quiet_step (fail))
                    refine wpQuiet_nil ?_
                    intro _ hw'; obtain ⟨z, rfl⟩ := hw'
                    go_wp2
                    go_roundw
                    case rel => exact ⟨_, cnt4, i, rfl, hid (least_new hleast.out HF.out hx2.out (by simp at e1 e2 e3; omega)), by omega, by omega, (himr4.aft ((Aft.refl _).alloc _)).aft z.aft, (hw4.alloc _).trans z.aft⟩
                    case measure => rw [((himr4.aft ((Aft.refl _).alloc _)).aft z.aft).cnt_eq, himr.cnt_eq]; exact hlt4

                  · go_wp2
                    refine wp_region_lat (w4.alloc (.cells #[.int .i64 px, .int .i64 py] 100)) (Aft.refl _) (by kernel_rfl) (by kernel_rfl) ?_
                    repeat (go_big_quiet_step (fail))
                    refine wpQuiet_nil ?_
                    intro _ hw'; obtain ⟨z, rfl⟩ := hw'
                    go_wp2
                    go_roundw
                    case rel => exact ⟨_, cnt4, q, rfl, hid (least_old hleast.out HF.out hx2.out (by simp at e1 e2 e3; omega)), by omega, by omega, (himr4.aft ((Aft.refl _).alloc _)).aft z.aft, (hw4.alloc _).trans z.aft⟩
                    case measure => rw [((himr4.aft ((Aft.refl _).alloc _)).aft z.aft).cnt_eq, himr.cnt_eq]; exact hlt4

                  · go_wp2
                    refine wp_region_lat (w4.alloc (.cells #[.int .i64 px, .int .i64 py] 100)) (Aft.refl _) (by kernel_rfl) (by kernel_rfl) ?_
                    repeat (go_big_quiet_step (fail))
                    refine wpQuiet_nil ?_
                    intro _ hw'; obtain ⟨z, rfl⟩ := hw'
                    go_wp2
                    go_roundw
                    case rel => exact ⟨_, cnt4, q, rfl, hid (least_old hleast.out HF.out hx2.out (by simp at e1 e2; omega)), by omega, by omega, (himr4.aft ((Aft.refl _).alloc _)).aft z.aft, (hw4.alloc _).trans z.aft⟩
                    case measure => rw [((himr4.aft ((Aft.refl _).alloc _)).aft z.aft).cnt_eq, himr.cnt_eq]; exact hlt4

          · have hno : ∀ i, unc l at_ wd i = none := fun i => by
              cases h : unc l at_ wd i with
              | none => rfl
              | some p => exact absurd ⟨i, by rw [h]; rfl⟩ hne
            have Hno := hid hno; clear hno hne
            go_wp2_with (at_len; refine wpList_im_len Try.underlying3 rfl _ 99 rfl 100 Try.underlying99 bm N _ rfl him ?_; intro s hs1 hs2; have hs3 : s ≤ 0 := Nat.le_of_not_lt (fun h => (by obtain ⟨i, hi⟩ := hs2.1 h; rw [Hno.out i] at hi; cases hi)); clear hs2)
            go_ret3
            have e1 : rSplit l wd = (at_, pins, 0) := by
              unfold rSplit
              rw [if_pos Hf.out, hrr.out, rRounds_stuck Hno.out]
            rw [e1]
            exact ⟨_, _, rfl, ownsRow_ints own1 (fun x hx => by have := hat.out x hx; omega) (by show at_.length * 8 ≤ _; omega), ownsRow_ints own2 (fun x hx => by have := hpin.out x hx; omega) (by show pins.length * 8 ≤ _; rw [hpl.out]; omega), hw⟩
  · have hf0 : (fitsE l wd != 0) = true := by simp [hf]
    have e1 : rSplit l wd = ([], [], fitsE l wd) := by unfold rSplit; rw [if_neg hf]
    rw [e1]
    clear e1 hf
    go_enter Try.func19, Try.ntmps19
    go_wp2_with (go_at_call 64; refine (fits_any _ l wd _ hl).mono ?_; rintro e w1 ⟨rfl, hw1⟩)
    go_ret3
    exact ⟨_, _, rfl, Ints.empty _, Ints.empty _, hw1⟩
end Go.Proofs.Ytokdclbfjlnnjaa
