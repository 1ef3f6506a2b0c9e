/- The reference's Bent: another figure of few shapes with few small points. -/
import Derived.Test.YtokdclbfjlnnjaaR19
import Derived.Lib.MinMax
namespace Go.Proofs.Ytokdclbfjlnnjaa
open Go.RowKit Go.BigFrame

set_option maxRecDepth 100000 in
set_option maxHeartbeats 32000000 in
theorem bent_any (W H at_ how by_ : Int) (v : Value) (L : List Sh) (B : Nat) (w : World) (hv : Shs w v L) (hL : L.length ≤ 900) (hgl : GoodL B L) (hB : B ≤ 900) (hat : kOk at_) (hhow : kOk how) (hby : kOk by_) :
    Calls Try.prog 47 #[.agg #[.int .i64 W, .int .i64 H, v], .int .i64 at_, .int .i64 how, .int .i64 by_] w fun e w' => ∃ W' H' v' L', e = .returned (.agg #[.int .i64 W', .int .i64 H', v']) ∧ Shs w' v' L' ∧ L'.length ≤ L.length + 7 ∧ GoodL (B + 12) L' ∧ Aft w w' := by
  obtain ⟨a, c, R0, rfl, hv⟩ := hv
  unfold kOk at hat hhow hby
  obtain ⟨ha1, ha2⟩ := hat
  obtain ⟨hh1, hh2⟩ := hhow
  obtain ⟨hb1, hb2⟩ := hby
  have hle := hv.le
  go_enter Try.func47, Try.ntmps47
  go_upto_region 1 with fail
  obtain ⟨W0, eW0, hw0, hlt, hbox⟩ := two_boxes w #[.int .i64 W, .int .i64 H, .slice a L.length c] #[.int .i64 0, .int .i64 0, .slice none 0 0] 45 45
  have fz4 : F3 W0 w.heap.size := by
    have f1 : ∀ o, ((w.alloc (.cells #[.int .i64 W, .int .i64 H, .slice a L.length c] 45)).alloc (.cells #[.int .i64 0, .int .i64 0, .slice none 0 0] 45)).frozen? ⟨w.heap.size, o, none⟩ = false := fun o => by
      rw [((Aft.refl _).alloc _).frozen (by simp)]
      exact frozen_new _ _ _ _
    rw [← eW0]
    exact ⟨f1 0, f1 1, f1 2⟩
  have fz8 : F3 W0 (w.heap.size + 1) := by
    rw [← eW0]
    exact ⟨by simp, by simp, by simp⟩
  rw [eW0]
  clear eW0
  have BX0 : Hid (Boxes W0 w.heap.size (w.heap.size + 1) W H (.slice a L.length c)) := hid ⟨by omega,
    ⟨(hbox.out W0 (Aft.refl _)).1 0 _ rfl, (hbox.out W0 (Aft.refl _)).1 1 _ rfl, (hbox.out W0 (Aft.refl _)).1 2 _ rfl⟩, fz4,
    ⟨(hbox.out W0 (Aft.refl _)).2 0 _ rfl, (hbox.out W0 (Aft.refl _)).2 1 _ rfl, (hbox.out W0 (Aft.refl _)).2 2 _ rfl⟩, fz8⟩
  clear hbox fz4 fz8
  obtain ⟨n4, hn4⟩ : ∃ n, w.heap.size = n := ⟨_, rfl⟩
  have hge4 : w.heap.size ≤ n4 := by omega
  rw [hn4] at BX0 hlt ⊢
  obtain ⟨n8, hn8⟩ : ∃ n, n4 + 1 = n := ⟨_, rfl⟩
  rw [hn8] at BX0 hlt ⊢
  have hge8 : w.heap.size ≤ n8 := by omega
  clear hn4 hn8
  have HG0 := hid (GS.nil (n8 + 1) B W0)
  have HA0 := hid Alone.nil
  go_wp2
  go_loopw [9, 10] (fun v9 i wr => ∃ r : Nat, r ≤ L.length ∧ i = .int .i64 r ∧ ∃ a' c' R, v9 = .slice a' r c' ∧ Hid (Boxes wr n4 n8 W H (.slice a L.length c)) ∧ Hid (GS (n8 + 1) B wr a' r c' R) ∧ Hid (Alone R) ∧ Aft w wr) (fun _ i _ => L.length - (intOf i).toNat)
  case atStart => exact ⟨0, by omega, rfl, none, 0, [], rfl, BX0, HG0, HA0, hw0⟩
  case round =>
    clear BX0 HG0 HA0
    obtain ⟨r, hr, rfl, a', c', R, rfl, BX, HG, HA, hwr⟩ := hrel
    rcases Nat.lt_or_ge r L.length with hltr | hger
    · have hri : (r : Int) < L.length := by omega
      obtain ⟨b, off, kd, ps, ap, cp, rfl, s0, s1, hb, hx, hps⟩ := (hv.aft hwr).get hltr
      have hgood := hgl _ (List.mem_of_getElem? hx.out)
      obtain ⟨g1, g2, g3⟩ := hgood
      simp only at g1 g2 g3
      obtain ⟨x0, x1, x2⟩ := BX.out.b4
      go_wp2_with fail
      refine (moved_any kd 0 0 _ ps wr ⟨_, _, rfl, hps⟩ (by omega) g2 (by omega) (by omega)).mono ?_
      rintro e w1 ⟨v1, rfl, hown1, hw1⟩
      clear s0 s1 x0 x1 x2
      have hn8r := BX.out.hi
      have hsz1 := hw1.size
      have HP1 : Hid (PRow (n8 + 1) B w1 v1) := hid ⟨ps.map (trP 0 0), by rw [List.length_map]; exact ownsRow_mono hown1 (by omega), by rw [List.length_map]; exact g1, fun p hp => by
        obtain ⟨q, hq, rfl⟩ := List.mem_map.1 hp
        have := g2 q hq
        unfold Sc trP at *
        simp only at *
        omega⟩
      have HU1 := hid hown1.lt
      have HG1 := hid (HG.out.aft hw1)
      have hgo1 := HG1.out.own
      have BX1 := hid (BX.out.aft hw1)
      have hw01 := hwr.trans hw1
      obtain ⟨a1, c1, rfl, -⟩ := ownsRow_at hown1
      clear hown1
      go_wp2_with (at_builtin; refine wpList_app _ rfl (.tmp 24) (.tmp 31) 43 rfl (n8 + 1) 51 (.agg #[.int .i64 0, .slice none 0 0]) 2 32 Try.underlying43 Try.info51 rfl (by decide) _ r _ rfl (hgo1.alloc _) (some ⟨w1.heap.size, 0, none⟩) 1 1 [.int .i64 kd, .slice a1 ps.length c1] rfl (fun h => by cases h) rfl Rd.new (by intro u hu; simp at hu; rcases hu with rfl | rfl <;> rfl) (by unfold maxLen; omega) (by omega) (by simp; omega) ?_; intro v' w' hown' hgrow hloc; rw [show shCells R ++ [.int .i64 kd, .slice a1 ps.length c1] = shCells (R ++ [(kd, .slice a1 ps.length c1)]) by rw [shCells_append]; rfl] at hown'; obtain ⟨g', cap', rfl⟩ := ownsRow_some' hown' (by omega))
      have hal := (Aft.refl w1).alloc (.cells #[.int .i64 kd, .slice a1 ps.length c1] 51)
      have hrow : ∀ k, (Value.slice a' r c').ownBlock = some k → n8 < k := fun k hk => by have := (hgo1.lt k hk).1; omega
      have hkx := grown_kx hgrow n8 hrow
      have BX' := hid ((BX1.out.aft hal).kx hkx (fun j h => h))
      have HG' := hid (GS.snoc (HG1.out.aft hal) g3 (HP1.out.aft hal) hgrow hown')
      have HA' := hid (Alone.snoc (k := kd) (u := .slice a1 ps.length c1) HG.out HA.out (fun g hg => (HU1.out g hg).1))
      have hfin := (hw01.alloc (.cells #[.int .i64 kd, .slice a1 ps.length c1] 51)).grown hgrow (fun k hk => by have := hrow k hk; omega)
      go_roundw
      case rel => exact ⟨r + 1, by omega, by go_num, _, _, _, rfl, BX', HG', HA', hfin⟩
      case measure => simp only [intOf]; omega
    · obtain rfl : r = L.length := by omega
      clear hger
      obtain ⟨x0, x1, x2⟩ := BX.out.b4
      obtain ⟨z0, z1, z2⟩ := BX.out.f4
      go_upto_region 7 with fail
      obtain ⟨V, eV, hbV, hkV⟩ : ∃ V, wr.setCell ⟨n4, 2, none⟩ (.slice a' L.length c') = V ∧ Boxes V n4 n8 W H (.slice a' L.length c') ∧ Kx (fun j => j = n4) wr V := ⟨_, rfl, (BX.out.put2 _).1, (BX.out.put2 _).2⟩
      have h48 := hbV.lt
      have hwV : Aft w V := by rw [← eV]; exact hwr.setCell (p := ⟨n4, 2, none⟩) hge4 _
      rw [eV]
      clear eV x0 x1 x2 z0 z1 z2 BX
      have HG1 := hid (HG.out.kx hkV (fun j h => by subst h; omega))
      clear HG hkV hwr
      have BX := hid hbV
      clear hbV
      by_cases hn0 : L.length = 0
      · have hn0' : ((L.length : Int) == 0) = true := by rw [hn0]; rfl
        have HE := bent_end BX.out.b8 HG1.out hwV hge8 (by omega) (by omega) W H
        obtain ⟨x0, x1, x2⟩ := BX.out.b4
        obtain ⟨y0, y1, y2⟩ := BX.out.b8
        obtain ⟨z0, z1, z2⟩ := BX.out.f8
        clear hn0
        go_wp2
        refine bodyPost_ret (results_fig rfl _ _ n8 W H _ rfl HE.out.1) rfl ?_
        obtain ⟨_, L', e1, e2, e3, e4⟩ := HE.out
        exact ⟨W, H, _, L', rfl, e2, by omega, e3.mono (by omega), e4⟩
      have hn0' : ((L.length : Int) == 0) = false := by rw [beq_eq_false_iff_ne]; omega
      obtain ⟨g, gc, e⟩ := ownsRow_some' HG1.out.own (by omega)
      simp only [Value.slice.injEq] at e
      obtain ⟨rfl, -, rfl⟩ := e
      obtain ⟨k, hk, hkL⟩ : ∃ k : Nat, aroundI at_ L.length = (k : Int) ∧ k < L.length := by
        have := aroundI_lt at_ L.length (by omega)
        exact ⟨(aroundI at_ L.length).toNat, by omega, by omega⟩
      obtain ⟨g0, kd, u, e, hRk, hgn, hgV, c0, c1, hfz, hkd, hu⟩ := HG1.out.row_at hkL
      simp only [Option.some.injEq, Addr.mk.injEq, and_true] at e
      obtain rfl := e
      have HRk := hid hRk
      have HU := hid hu
      have HFz := hid hfz
      clear hRk hfz
      obtain ⟨au, m, cu, rfl, hm⟩ : ∃ au m cu, u = .slice au m cu ∧ m ≤ B := by
        obtain ⟨l, h1, h2, _⟩ := hu
        obtain ⟨au, cu, rfl, _⟩ := ownsRow_at h1
        exact ⟨au, _, cu, rfl, h2⟩
      clear hu
      have hkL' : (k : Int) < L.length := by omega
      obtain ⟨j, hj, hjm⟩ : ∃ j : Nat, aroundI (at_.tdiv 8) (max (m : Int) 1) = (j : Int) ∧ (j < m ∨ m = 0 ∧ j = 0) := by
        have hge : (1 : Int) ≤ max (m : Int) 1 := by omega
        have := aroundI_lt (at_.tdiv 8) _ hge
        refine ⟨(aroundI (at_.tdiv 8) (max (m : Int) 1)).toNat, by omega, by omega⟩
      obtain ⟨h, hh, hh9⟩ : ∃ h : Int, aroundI how 9 = h ∧ 0 ≤ h ∧ h < 9 := ⟨_, rfl, aroundI_lt how 9 (by omega)⟩
      have hd8 := tdiv_small ha1 ha2 8 (by omega)
      go_wp2_with fail
      refine (around_any at_ _ V ha1 ha2).mono ?_
      rintro e w' ⟨rfl, rfl⟩
      rw [hk]
      go_wp2_with fail
      refine (around_any _ _ V hd8.1 hd8.2).mono ?_
      rintro e w' ⟨rfl, rfl⟩
      rw [hj]
      go_wp2_with fail
      refine (around_any how _ V hh1 hh2).mono ?_
      rintro e w' ⟨rfl, rfl⟩
      rw [hh]
      clear hk hj hh hd8
      obtain rfl | rfl | rfl | rfl | rfl | rfl | rfl | rfl | rfl : h = 0 ∨ h = 1 ∨ h = 2 ∨ h = 3 ∨ h = 4 ∨ h = 5 ∨ h = 6 ∨ h = 7 ∨ h = 8 := by omega
      · clear hh9
        obtain ⟨k5, hk5, hk5'⟩ := around_5 by_
        have hk5i : (k5 : Int) < 5 := by omega
        obtain ⟨x, hx⟩ := fig_at hk5'
        go_upto_region 42 with (go_at_call 18; refine (around_any by_ 5 _ hb1 hb2).mono ?_; rintro e w' ⟨rfl, rfl⟩; rw [hk5]; obtain ⟨V1, eV1, hV1, -, hbx1⟩ := one_box V #[.int .i64 (-1), .int .i64 1000, .int .i64 1001, .int .i64 40, .int .i64 0] 3; rw [eV1]; clear eV1; have hcx := hbx1.out V1 (Aft.refl _) k5 _ hx; clear hbx1; have BX1 := hid (BX.out.aft hV1); obtain ⟨x0, x1, x2⟩ := BX1.out.b4; obtain ⟨z0, z1, z2⟩ := BX1.out.f4)
        clear c0 c1 x0 x1 x2 z0 z1 z2
        have PP := BX1.out.put0 x
        obtain ⟨X, eX, hBX, hGX, hwX⟩ : ∃ X, V1.setCell ⟨n4, 0, none⟩ (.int .i64 x) = X ∧ Boxes X n4 n8 (x) (H) (.slice (some ⟨g, 0, none⟩) L.length c') ∧ GS (n8 + 1) B X (some ⟨g, 0, none⟩) L.length c' R ∧ Aft w X :=
          ⟨_, rfl, PP.1, (HG1.out.aft hV1).kx PP.2 (fun j h => by subst h; omega), (hwV.trans hV1).setCell (p := ⟨n4, 0, none⟩) hge4 _⟩
        rw [eX]
        clear eX
        have BXX := hid hBX
        have HGX := hid hGX
        clear hBX hGX
        have HE := bent_end BXX.out.b8 HGX.out hwX hge8 (by omega) (by omega) (x) (H)
        obtain ⟨x0, x1, x2⟩ := BXX.out.b4
        obtain ⟨y0, y1, y2⟩ := BXX.out.b8
        obtain ⟨z0, z1, z2⟩ := BXX.out.f8
        go_wp2
        refine bodyPost_ret (results_fig rfl _ _ n8 (x) (H) _ rfl HE.out.1) rfl ?_
        obtain ⟨_, L', e1, e2, e3, e4⟩ := HE.out
        first | exact ⟨(x), (H), _, L', rfl, e2, by omega, e3.mono (by omega), e4⟩ | exact ⟨(x), (H), _, rfl, L', e2, by omega, e3.mono (by omega), e4⟩
      · clear hh9
        obtain ⟨k5, hk5, hk5'⟩ := around_5 by_
        have hk5i : (k5 : Int) < 5 := by omega
        obtain ⟨x, hx⟩ := fig_at hk5'
        go_upto_region 42 with (go_at_call 18; refine (around_any by_ 5 _ hb1 hb2).mono ?_; rintro e w' ⟨rfl, rfl⟩; rw [hk5]; obtain ⟨V1, eV1, hV1, -, hbx1⟩ := one_box V #[.int .i64 (-1), .int .i64 1000, .int .i64 1001, .int .i64 40, .int .i64 0] 3; rw [eV1]; clear eV1; have hcx := hbx1.out V1 (Aft.refl _) k5 _ hx; clear hbx1; have BX1 := hid (BX.out.aft hV1); obtain ⟨x0, x1, x2⟩ := BX1.out.b4; obtain ⟨z0, z1, z2⟩ := BX1.out.f4)
        clear c0 c1 x0 x1 x2 z0 z1 z2
        have PP := BX1.out.put1 x
        obtain ⟨X, eX, hBX, hGX, hwX⟩ : ∃ X, V1.setCell ⟨n4, 1, none⟩ (.int .i64 x) = X ∧ Boxes X n4 n8 (W) (x) (.slice (some ⟨g, 0, none⟩) L.length c') ∧ GS (n8 + 1) B X (some ⟨g, 0, none⟩) L.length c' R ∧ Aft w X :=
          ⟨_, rfl, PP.1, (HG1.out.aft hV1).kx PP.2 (fun j h => by subst h; omega), (hwV.trans hV1).setCell (p := ⟨n4, 1, none⟩) hge4 _⟩
        rw [eX]
        clear eX
        have BXX := hid hBX
        have HGX := hid hGX
        clear hBX hGX
        have HE := bent_end BXX.out.b8 HGX.out hwX hge8 (by omega) (by omega) (W) (x)
        obtain ⟨x0, x1, x2⟩ := BXX.out.b4
        obtain ⟨y0, y1, y2⟩ := BXX.out.b8
        obtain ⟨z0, z1, z2⟩ := BXX.out.f8
        go_wp2
        refine bodyPost_ret (results_fig rfl _ _ n8 (W) (x) _ rfl HE.out.1) rfl ?_
        obtain ⟨_, L', e1, e2, e3, e4⟩ := HE.out
        first | exact ⟨(W), (x), _, L', rfl, e2, by omega, e3.mono (by omega), e4⟩ | exact ⟨(W), (x), _, rfl, L', e2, by omega, e3.mono (by omega), e4⟩
      · clear hh9
        obtain ⟨k5, hk5, hk5'⟩ := around_5 by_
        have z0 := HFz.out (k * 2)
        go_upto_region 42 with (go_at_call 18; refine (around_any by_ 5 _ hb1 hb2).mono ?_; rintro e w' ⟨rfl, rfl⟩; rw [hk5])
        clear c0 c1 z0
        obtain ⟨X, eX, hBX, hGX, hwX⟩ : ∃ X, V.setCell ⟨g, k * 2, none⟩ (.int .i64 ((k5 : Int) - 1)) = X ∧ Boxes X n4 n8 (W) (H) (.slice (some ⟨g, 0, none⟩) L.length c') ∧ GS (n8 + 1) B X (some ⟨g, 0, none⟩) L.length c' (R.set k ((k5 : Int) - 1, .slice au m cu)) ∧ Aft w X :=
          ⟨_, rfl, BX.out.kx (X := fun j => j = g) (Kx.setCell (p := ⟨g, k * 2, none⟩) _ rfl) (by omega), HG1.out.setKind HRk.out _ (by unfold kOk; omega), hwV.setCell (p := ⟨g, k * 2, none⟩) (by show w.heap.size ≤ g; omega) _⟩
        rw [eX]
        clear eX
        have BXX := hid hBX
        have HGX := hid hGX
        clear hBX hGX
        have HE := bent_end BXX.out.b8 HGX.out hwX hge8 (by omega) (by omega) (W) (H)
        obtain ⟨x0, x1, x2⟩ := BXX.out.b4
        obtain ⟨y0, y1, y2⟩ := BXX.out.b8
        obtain ⟨z0, z1, z2⟩ := BXX.out.f8
        go_wp2
        refine bodyPost_ret (results_fig rfl _ _ n8 (W) (H) _ rfl HE.out.1) rfl ?_
        obtain ⟨_, L', e1, e2, e3, e4⟩ := HE.out
        first | exact ⟨(W), (H), _, L', rfl, e2, by omega, e3.mono (by omega), e4⟩ | exact ⟨(W), (H), _, rfl, L', e2, by omega, e3.mono (by omega), e4⟩
      · clear hh9
        have z1 := HFz.out (k * 2 + 1)
        have hcap : m ≤ cu := by rcases HU.out.addr with h | ⟨_, _, _, _, h, _⟩ <;> omega
        have hjc : j ≤ m := by omega
        have hjm' : (j : Int) ≤ cu := by omega
        rcases HU.out.addr with ⟨rfl, rfl, rfl⟩ | ⟨hp, rfl, hp1, hp2, hp3, hp4⟩
        · obtain rfl : j = 0 := by omega
          go_upto_region 42 with fail
          clear c0 c1 z1
          obtain ⟨X, eX, hBX, hGX, hwX⟩ : ∃ X, V.setCell ⟨g, k * 2 + 1, none⟩ (.slice none 0 0) = X ∧ Boxes X n4 n8 (W) (H) (.slice (some ⟨g, 0, none⟩) L.length c') ∧ GS (n8 + 1) B X (some ⟨g, 0, none⟩) L.length c' (R.set k (kd, .slice none 0 0)) ∧ Aft w X :=
            ⟨_, rfl, BX.out.kx (X := fun j => j = g) (Kx.setCell (p := ⟨g, k * 2 + 1, none⟩) _ rfl) (by omega), HG1.out.setPoints HRk.out _ (HU.out.front hjc) (Nat.le_refl _), hwV.setCell (p := ⟨g, k * 2 + 1, none⟩) (by show w.heap.size ≤ g; omega) _⟩
          rw [eX]
          clear eX
          have BXX := hid hBX
          have HGX := hid hGX
          clear hBX hGX
          have HE := bent_end BXX.out.b8 HGX.out hwX hge8 (by omega) (by omega) (W) (H)
          obtain ⟨x0, x1, x2⟩ := BXX.out.b4
          obtain ⟨y0, y1, y2⟩ := BXX.out.b8
          obtain ⟨z0, z1, z2⟩ := BXX.out.f8
          go_wp2
          refine bodyPost_ret (results_fig rfl _ _ n8 (W) (H) _ rfl HE.out.1) rfl ?_
          obtain ⟨_, L', e1, e2, e3, e4⟩ := HE.out
          first | exact ⟨(W), (H), _, L', rfl, e2, by omega, e3.mono (by omega), e4⟩ | exact ⟨(W), (H), _, rfl, L', e2, by omega, e3.mono (by omega), e4⟩
        · go_upto_region 42 with fail
          clear c0 c1 z1
          obtain ⟨X, eX, hBX, hGX, hwX⟩ : ∃ X, V.setCell ⟨g, k * 2 + 1, none⟩ (.slice (some ⟨hp, 0, none⟩) j cu) = X ∧ Boxes X n4 n8 (W) (H) (.slice (some ⟨g, 0, none⟩) L.length c') ∧ GS (n8 + 1) B X (some ⟨g, 0, none⟩) L.length c' (R.set k (kd, .slice (some ⟨hp, 0, none⟩) j cu)) ∧ Aft w X :=
            ⟨_, rfl, BX.out.kx (X := fun j => j = g) (Kx.setCell (p := ⟨g, k * 2 + 1, none⟩) _ rfl) (by omega), HG1.out.setPoints HRk.out _ (HU.out.front hjc) (Nat.le_refl _), hwV.setCell (p := ⟨g, k * 2 + 1, none⟩) (by show w.heap.size ≤ g; omega) _⟩
          rw [eX]
          clear eX
          have BXX := hid hBX
          have HGX := hid hGX
          clear hBX hGX
          have HE := bent_end BXX.out.b8 HGX.out hwX hge8 (by omega) (by omega) (W) (H)
          obtain ⟨x0, x1, x2⟩ := BXX.out.b4
          obtain ⟨y0, y1, y2⟩ := BXX.out.b8
          obtain ⟨z0, z1, z2⟩ := BXX.out.f8
          go_wp2
          refine bodyPost_ret (results_fig rfl _ _ n8 (W) (H) _ rfl HE.out.1) rfl ?_
          obtain ⟨_, L', e1, e2, e3, e4⟩ := HE.out
          first | exact ⟨(W), (H), _, L', rfl, e2, by omega, e3.mono (by omega), e4⟩ | exact ⟨(W), (H), _, rfl, L', e2, by omega, e3.mono (by omega), e4⟩
      · clear hh9
        have HL0 := hid (HA.out k _ HRk.out)
        clear c0 c1 HU
        go_wp2
        go_loopw [14] (fun i wr => ∃ r : Nat, r ≤ 12 ∧ i = .int .i64 r ∧ ∃ a1 m1 d1 R1, Hid (Boxes wr n4 n8 W H (.slice (some ⟨g, 0, none⟩) L.length c')) ∧ Hid (GS (n8 + 1) (B + r) wr (some ⟨g, 0, none⟩) L.length c' R1) ∧ Hid (R1[k]? = some (kd, .slice a1 m1 d1)) ∧ Hid (Lone R1 k (.slice a1 m1 d1)) ∧ Aft w wr) (fun i _ => 12 - (intOf i).toNat)
        case atStart => exact ⟨0, by omega, rfl, _, _, _, R, BX, HG1, HRk, HL0, hwV⟩
        case round =>
          clear BX HG1 HRk HL0
          obtain ⟨r, hr, rfl, a1, m1, d1, R1, BX, HG, HRk, HLo, hwr⟩ := hrel
          have hgo : ∀ {Q : Prop}, ((r : Int) < 12 → (0 : Int) < m → Q) → ((r : Int) < 12 → ¬ (0 : Int) < m → Q) → (¬ (r : Int) < 12 → True → Q) → Q := fun h1 h2 h3 => by
            by_cases h : (r : Int) < 12
            · by_cases h' : (0 : Int) < m
              · exact h1 h h'
              · exact h2 h h'
            · exact h3 h trivial
          refine hgo ?_ ?_ ?_
          · intro o1 o2
            clear hgo
            obtain ⟨c0, c1, hfz, hpr⟩ := HG.out.at_ HRk.out
            obtain ⟨l, hown, hlB, hls⟩ := hpr
            have hlm : m1 = l.length := by
              rcases hown.2 with ⟨e, h0⟩ | ⟨g', cap', cur, e, _⟩
              · cases e; omega
              · cases e; rfl
            subst hlm
            have HOW := hid hown
            have HLS := hid hls
            have hrr1 : (0 : Int) ≤ r * r := Int.mul_nonneg (by omega) (by omega)
            have hrr2 : (r : Int) * r ≤ 11 * 11 := Int.mul_le_mul (by omega) (by omega) (by omega) (by omega)
            have hrm1 := Int.emod_nonneg ((r : Int) * r) (show (7 : Int) ≠ 0 by omega)
            have hrm2 := Int.emod_lt_of_pos ((r : Int) * r) (show (0 : Int) < 7 by omega)
            have hgn0 : n8 + 1 ≤ g := hgn
            have hsz := BX.out.hi
            obtain ⟨y, hy⟩ : ∃ y : Int, 61 - (r : Int) * r % 7 = y := ⟨_, rfl⟩
            have hyb : 54 ≤ y ∧ y ≤ 61 := by omega
            have HRow : ∀ j, (Value.slice a1 l.length d1).ownBlock = some j → n8 < j := fun j hj => by have := (hown.lt j hj).1; omega
            clear hfz
            go_wp2_with (at_builtin; refine wpList_app _ rfl (.tmp 158) (.tmp 166) 49 rfl (n8 + 1) 57 (.agg #[.int .i64 0, .int .i64 0]) 2 16 Try.underlying49 Try.info57 rfl (by decide) _ l.length _ rfl (hown.alloc _) (some ⟨wr.heap.size, 0, none⟩) 1 1 (prs [(↑r, y)]) rfl (fun h => by cases h) rfl (by first | exact Rd.new | (rw [← hy]; exact Rd.new)) (prs_one _) (by unfold maxLen; omega) (by omega) (by simp; omega) ?_; intro v' w' hown' hgrow hloc; rw [← prs_append] at hown'; obtain ⟨gv, gw, rfl⟩ := ownsRow_some' hown' (by omega); obtain ⟨e1, e2, e3⟩ := (HG.out.aft ((Aft.refl wr).alloc (.cells #[.int .i64 r, .int .i64 y] 57))).cellsApp (k := k) (r := (kd, .slice a1 l.length d1)) HRk.out hgrow; have e3' := e3 (k * 2 + 1))
            have hal := (Aft.refl wr).alloc (.cells #[.int .i64 r, .int .i64 y] 57)
            have hkx := Kx.trans (aft_kx hal) (grown_kx hgrow n8 HRow)
            have BX' := BX.out.kx hkx (fun j h => h)
            have HP' : PRow (n8 + 1) (B + (r + 1)) w' (.slice (some ⟨gv, 0, none⟩) (l.length + 1) gw) := ⟨l ++ [((r : Int), y)], by rw [List.length_append]; exact hown', by rw [List.length_append]; show l.length + 1 ≤ _; omega, fun p hp => by
              rcases List.mem_append.1 hp with hp | hp
              · exact HLS.out p hp
              · simp at hp; subst hp; unfold Sc; simp only; omega⟩
            have HG' := (HG.out.aft hal).app HRk.out HLo.out hgrow _ HP' (by omega)
            have HL' := Lone.moved (y := kd) (HG.out.aft hal) HLo.out hloc
            have hfin := ((hwr.alloc (.cells #[.int .i64 r, .int .i64 y] 57)).grown hgrow (fun j hj => by have := HRow j hj; omega)).setCell (p := ⟨g, k * 2 + 1, none⟩) (show w.heap.size ≤ g by omega) (.slice (some ⟨gv, 0, none⟩) (l.length + 1) gw)
            have hkk : k < R1.length := (List.getElem?_eq_some_iff.1 HRk.out).1
            go_roundw
            case rel => exact ⟨r + 1, by omega, by go_num, _, _, _, R1.set k (kd, .slice (some ⟨gv, 0, none⟩) (l.length + 1) gw), hid (BX'.kx (X := fun j => j = g) (Kx.setCell (p := ⟨g, k * 2 + 1, none⟩) _ rfl) (by omega)), hid HG', hid (by simp [hkk]), hid HL', hfin⟩
            case measure => simp only [intOf]; omega
          all_goals
            intro o1 o2
            clear hgo
            have HE := bent_end BX.out.b8 HG.out hwr hge8 (by omega) (by omega) (W) (H)
            obtain ⟨x0, x1, x2⟩ := BX.out.b4
            obtain ⟨y0, y1, y2⟩ := BX.out.b8
            obtain ⟨z0, z1, z2⟩ := BX.out.f8
            go_wp2
            refine bodyPost_ret (results_fig rfl _ _ n8 (W) (H) _ rfl HE.out.1) rfl ?_
            obtain ⟨_, L', e1, e2, e3, e4⟩ := HE.out
            first | exact ⟨(W), (H), _, L', rfl, e2, by omega, e3.mono (by omega), e4⟩ | exact ⟨(W), (H), _, rfl, L', e2, by omega, e3.mono (by omega), e4⟩
      · clear hh9
        rcases Nat.eq_zero_or_pos m with hm0 | hmp
        · have hm0' : ¬ (0 : Int) < m := by omega
          clear hm0
          go_upto_region 42 with fail
          have HE := bent_end BX.out.b8 HG1.out hwV hge8 (by omega) (by omega) (W) (H)
          obtain ⟨x0, x1, x2⟩ := BX.out.b4
          obtain ⟨y0, y1, y2⟩ := BX.out.b8
          obtain ⟨z0, z1, z2⟩ := BX.out.f8
          go_wp2
          refine bodyPost_ret (results_fig rfl _ _ n8 (W) (H) _ rfl HE.out.1) rfl ?_
          obtain ⟨_, L', e1, e2, e3, e4⟩ := HE.out
          first | exact ⟨(W), (H), _, L', rfl, e2, by omega, e3.mono (by omega), e4⟩ | exact ⟨(W), (H), _, rfl, L', e2, by omega, e3.mono (by omega), e4⟩
        · obtain ⟨hp, rfl, hp1, hp2, hp3, hp4⟩ : ∃ hp, au = some ⟨hp, 0, none⟩ ∧ n8 + 1 ≤ hp ∧ hp < V.heap.size ∧ m ≤ cu ∧ cu ≤ maxLen := by
            rcases HU.out.addr with h | h
            · omega
            · exact h
          have hjl : j < m := by omega
          have hjl' : (j : Int) < m := by omega
          have hmp' : (0 : Int) < m := by omega
          obtain ⟨l, hown, hlB, hls⟩ := HU.out
          have hlm : m = l.length := by
            rcases hown.2 with ⟨e, _⟩ | ⟨g', cap', cur, e, _⟩
            · cases e
            · cases e; rfl
          rw [← hlm] at hown
          obtain ⟨⟨x, y⟩, hlj⟩ : ∃ p, l[j]? = some p := ⟨l[j]'(by omega), List.getElem?_eq_getElem (by omega)⟩
          have hsc := hls _ (List.mem_of_getElem? hlj)
          obtain ⟨hsx, hsy⟩ := hsc
          have HOW := hid hown
          have HLj := hid hlj
          have HXL : Hid ((prs l).length = m * 2) := hid (by rw [prs_length, hlm])
          have HLM := hid hlm
          have hghp : ¬ g = hp := fun e => sep_types HG1.out.own hown g rfl (by rw [e]; rfl)
          clear hown hlj hlm
          go_upto_region 33 with fail
          refine ByRel.wp_region_flow (ρ := (rowRel hp (n8 + 1) 57 2 m cu (prs l) (prs [(x, y)]))) _ ((rowRel hp (n8 + 1) 57 2 m cu (prs l) (prs [(x, y)])).refl _) [ByRel.FR.is (.slice (some ⟨g, 0, none⟩) L.length c'), ByRel.FR.is (.int .i64 k), ByRel.FR.is (.slice (some ⟨g, 0, none⟩) L.length c'), ByRel.FR.is (.int .i64 k), ByRel.FR.is (.pointer (some ⟨g, k * 2, none⟩)), ByRel.FR.is (.pointer (some ⟨g, k * 2 + 1, none⟩)), ByRel.FR.is (.slice (some ⟨hp, 0, none⟩) m cu), ByRel.FR.is (.slice (some ⟨g, 0, none⟩) L.length c'), ByRel.FR.is (.int .i64 k), ByRel.FR.is (.pointer (some ⟨g, k * 2, none⟩)), ByRel.FR.is (.pointer (some ⟨g, k * 2 + 1, none⟩)), ByRel.FR.is (.slice (some ⟨hp, 0, none⟩) m cu), ByRel.FR.is (.int .i64 j), ByRel.FR.is (.pointer (some ⟨hp, j * 2, none⟩)), ByRel.FR.is (.agg #[.int .i64 x, .int .i64 y]), frNew hp (n8 + 1) 57 2 m cu (prs l) (prs [(x, y)]), frApp 0 hp (n8 + 1) 57 2 m cu (prs l) (prs [(x, y)]), ByRel.FR.is (.pointer (some ⟨g, k * 2, none⟩)), ByRel.FR.is (.pointer (some ⟨g, k * 2 + 1, none⟩))]
            [(0, 174), (1, 175), (2, 176), (3, 177), (4, 178), (5, 179), (6, 180), (7, 181), (8, 182), (9, 183), (10, 184), (11, 185), (12, 186), (13, 187), (14, 188), (15, 189), (16, 190), (17, 191), (18, 192)]
            [[], [], [], [], [(2, 176), (3, 177)], [(4, 178)], [(5, 179)], [], [], [(7, 181), (8, 182)], [(9, 183)], [(10, 184)], [], [(11, 185), (12, 186)], [(13, 187)], [(14, 188)], [(6, 180), (15, 189)], [(0, 174), (1, 175)], [(17, 191)]] (by kernel_rfl) (by kernel_rfl) ?_ ?_
          · refine ByRel.flowObs_cons (fun W hW => ByRel.flowOb_nil ?_) ?_
            · go_wp2
              exact ⟨rfl, Rel.refl _ W⟩
            refine ByRel.flowObs_cons (fun W hW => ByRel.flowOb_nil ?_) ?_
            · go_wp2
              exact ⟨rfl, Rel.refl _ W⟩
            refine ByRel.flowObs_cons (fun W hW => ByRel.flowOb_nil ?_) ?_
            · go_wp2
              exact ⟨rfl, Rel.refl _ W⟩
            refine ByRel.flowObs_cons (fun W hW => ByRel.flowOb_nil ?_) ?_
            · go_wp2
              exact ⟨rfl, Rel.refl _ W⟩
            refine ByRel.flowObs_cons (fun W hW => ByRel.flowOb_cons fun v0 h0 => ByRel.flowOb_cons fun v1 h1 => ByRel.flowOb_nil ?_) ?_
            · obtain rfl := h0
              obtain rfl := h1
              go_wp2
              exact ⟨rfl, Rel.refl _ W⟩
            refine ByRel.flowObs_cons (fun W hW => ByRel.flowOb_cons fun v0 h0 => ByRel.flowOb_nil ?_) ?_
            · obtain rfl := h0
              go_wp2
              exact ⟨rfl, Rel.refl _ W⟩
            refine ByRel.flowObs_cons (fun W hW => ByRel.flowOb_cons fun v0 h0 => ByRel.flowOb_nil ?_) ?_
            · obtain rfl := h0
              have c0W := rowRel_cell hW c0 hghp
              have c1W := rowRel_cell hW c1 hghp
              have q0W := rowRel_in hW HOW.out (prs_get HLj.out).1
              have q1W := rowRel_in hW HOW.out (prs_get HLj.out).2
              go_wp2
              exact ⟨rfl, Rel.refl _ W⟩
            refine ByRel.flowObs_cons (fun W hW => ByRel.flowOb_nil ?_) ?_
            · go_wp2
              exact ⟨rfl, Rel.refl _ W⟩
            refine ByRel.flowObs_cons (fun W hW => ByRel.flowOb_nil ?_) ?_
            · go_wp2
              exact ⟨rfl, Rel.refl _ W⟩
            refine ByRel.flowObs_cons (fun W hW => ByRel.flowOb_cons fun v0 h0 => ByRel.flowOb_cons fun v1 h1 => ByRel.flowOb_nil ?_) ?_
            · obtain rfl := h0
              obtain rfl := h1
              go_wp2
              exact ⟨rfl, Rel.refl _ W⟩
            refine ByRel.flowObs_cons (fun W hW => ByRel.flowOb_cons fun v0 h0 => ByRel.flowOb_nil ?_) ?_
            · obtain rfl := h0
              go_wp2
              exact ⟨rfl, Rel.refl _ W⟩
            refine ByRel.flowObs_cons (fun W hW => ByRel.flowOb_cons fun v0 h0 => ByRel.flowOb_nil ?_) ?_
            · obtain rfl := h0
              have c0W := rowRel_cell hW c0 hghp
              have c1W := rowRel_cell hW c1 hghp
              have q0W := rowRel_in hW HOW.out (prs_get HLj.out).1
              have q1W := rowRel_in hW HOW.out (prs_get HLj.out).2
              go_wp2
              exact ⟨rfl, Rel.refl _ W⟩
            refine ByRel.flowObs_cons (fun W hW => ByRel.flowOb_nil ?_) ?_
            · go_wp2
              exact ⟨rfl, Rel.refl _ W⟩
            refine ByRel.flowObs_cons (fun W hW => ByRel.flowOb_cons fun v0 h0 => ByRel.flowOb_cons fun v1 h1 => ByRel.flowOb_nil ?_) ?_
            · obtain rfl := h0
              obtain rfl := h1
              go_wp2
              exact ⟨rfl, Rel.refl _ W⟩
            refine ByRel.flowObs_cons (fun W hW => ByRel.flowOb_cons fun v0 h0 => ByRel.flowOb_nil ?_) ?_
            · obtain rfl := h0
              have c0W := rowRel_cell hW c0 hghp
              have c1W := rowRel_cell hW c1 hghp
              have q0W := rowRel_in hW HOW.out (prs_get HLj.out).1
              have q1W := rowRel_in hW HOW.out (prs_get HLj.out).2
              go_wp2
              exact ⟨rfl, Rel.refl _ W⟩
            refine ByRel.flowObs_cons (fun W hW => ByRel.flowOb_cons fun v0 h0 => ByRel.flowOb_nil ?_) ?_
            · obtain rfl := h0
              have hpW := hW.1.size
              go_wp2
              exact ⟨⟨_, rfl, by simp, by omega, Rd.new⟩, rowRel_aft ((Aft.refl W).alloc _)⟩
            refine ByRel.flowObs_cons (fun W hW => ByRel.flowOb_cons fun v0 h0 => ByRel.flowOb_cons fun v1 h1 => ByRel.flowOb_nil ?_) ?_
            · obtain rfl := h0
              obtain ⟨gn, rfl, hg1, hg2, hrd⟩ := h1
              have hownW := rowRel_own hW HOW.out
              have hsW := hW.1.size
              refine wpList_app_keep _ rfl (.tmp 180) (.tmp 189) 49 rfl (n8 + 1) 57 (.agg #[.int .i64 0, .int .i64 0]) 2 16 Try.underlying49 Try.info57 rfl (by decide) hp m cu _ rfl hownW ⟨gn, 0, none⟩ 1 1 (prs [(x, y)]) rfl rfl hrd (prs_one _) (by unfold maxLen; omega) (by omega) (by omega) ?_
              intro v' w' ho' hg' alt
              have hrel := rowRel_app (N := 0) (Nat.zero_le _) HXL.out hownW ho' hg' alt
              go_wp2
              first | exact hrel | exact hrel.1
            refine ByRel.flowObs_cons (fun W hW => ByRel.flowOb_cons fun v0 h0 => ByRel.flowOb_cons fun v1 h1 => ByRel.flowOb_nil ?_) ?_
            · obtain rfl := h0
              obtain rfl := h1
              go_wp2
              exact ⟨rfl, Rel.refl _ W⟩
            refine ByRel.flowObs_cons (fun W hW => ByRel.flowOb_cons fun v0 h0 => ByRel.flowOb_nil ?_) ByRel.flowObs_nil
            · obtain rfl := h0
              go_wp2
              exact ⟨rfl, Rel.refl _ W⟩
          intro U hU
          iterate 15 refine ByRel.flowEnd_cons fun _ h => ?_; obtain rfl := h
          refine ByRel.flowEnd_cons fun v1 h1 => ?_
          refine ByRel.flowEnd_cons fun v2 h2 => ?_
          refine ByRel.flowEnd_cons fun _ h => ?_; obtain rfl := h
          refine ByRel.flowEnd_cons fun _ h => ?_; obtain rfl := h
          refine ByRel.flowEnd_nil ?_
          obtain ⟨gv, cw, rfl, hown', -⟩ := h2
          clear h1
          have hgr := rowRel_grown hU
          have hkx := grown_kx hgr n8 (fun k hk => by cases hk; omega)
          rw [← prs_append] at hown'
          have HP' : Hid (PRow (n8 + 1) (B + 1) U (.slice (some ⟨gv, 0, none⟩) (m + 1) cw)) := hid ⟨l ++ [(x, y)], by rw [List.length_append, ← HLM.out]; exact hown', by have := HLM.out; simp; omega, fun p hp => by
            rcases List.mem_append.1 hp with hp | hp
            · exact hls p hp
            · simp at hp; subst hp; exact ⟨hsx, hsy⟩⟩
          have BXW := hid (BX.out.kx hkx (fun j h => h))
          have HGW := hid (HG1.out.app HRk.out (HA.out k _ HRk.out) hgr _ HP'.out (by omega))
          have hfw := hwV.grown hgr (fun k hk => by cases hk; omega)
          obtain ⟨e1, e2, e3⟩ := HG1.out.cellsApp (k := k) (r := (kd, .slice (some ⟨hp, 0, none⟩) m cu)) HRk.out hgr
          have e3' := e3 (k * 2 + 1)
          clear e3 c0 c1 hown'
          go_upto_region 42 with fail
          clear e1 e2 e3'
          obtain ⟨X, eX, hBX, hGX, hwX⟩ : ∃ X, U.setCell ⟨g, k * 2 + 1, none⟩ (.slice (some ⟨gv, 0, none⟩) (m + 1) cw) = X ∧ Boxes X n4 n8 (W) (H) (.slice (some ⟨g, 0, none⟩) L.length c') ∧ GS (n8 + 1) (B + 1) X (some ⟨g, 0, none⟩) L.length c' (R.set k (kd, .slice (some ⟨gv, 0, none⟩) (m + 1) cw)) ∧ Aft w X :=
            ⟨_, rfl, BXW.out.kx (X := fun j => j = g) (Kx.setCell (p := ⟨g, k * 2 + 1, none⟩) _ rfl) (by omega), HGW.out, hfw.setCell (p := ⟨g, k * 2 + 1, none⟩) (by show w.heap.size ≤ g; omega) _⟩
          rw [eX]
          clear eX
          have BXX := hid hBX
          have HGX := hid hGX
          clear hBX hGX
          have HE := bent_end BXX.out.b8 HGX.out hwX hge8 (by omega) (by omega) (W) (H)
          obtain ⟨x0, x1, x2⟩ := BXX.out.b4
          obtain ⟨y0, y1, y2⟩ := BXX.out.b8
          obtain ⟨z0, z1, z2⟩ := BXX.out.f8
          go_wp2
          refine bodyPost_ret (results_fig rfl _ _ n8 (W) (H) _ rfl HE.out.1) rfl ?_
          obtain ⟨_, L', e1, e2, e3, e4⟩ := HE.out
          first | exact ⟨(W), (H), _, L', rfl, e2, by omega, e3.mono (by omega), e4⟩ | exact ⟨(W), (H), _, rfl, L', e2, by omega, e3.mono (by omega), e4⟩
      · clear hh9
        have hL0 : (0 : Int) < L.length := by omega
        obtain ⟨gz, k0, u0, e, hR0, -, -, t0, t1, -, hk0, hu0⟩ := HG1.out.row_at (show 0 < L.length by omega)
        simp only [Option.some.injEq, Addr.mk.injEq, and_true] at e
        obtain rfl := e
        simp only [Nat.zero_mul, Nat.zero_add] at t0 t1
        obtain ⟨a0, m0, d0, rfl⟩ : ∃ a0 m0 d0, u0 = .slice a0 m0 d0 := by
          obtain ⟨l, h1, _⟩ := hu0
          obtain ⟨a0, d0, rfl, _⟩ := ownsRow_at h1
          exact ⟨a0, _, d0, rfl⟩
        have HT := hid (And.intro t0 t1)
        have HU0 := hid hu0
        have HR0 : Hid (∀ b, some (⟨g, 0, none⟩ : Addr) = some ⟨b, 0, none⟩ → b = g → R[0]? = some (k0, .slice a0 m0 d0)) := hid fun _ _ _ => hR0
        clear t0 t1 hu0 hR0 c0 c1
        go_wp2
        go_loopw [15] (fun i wr => ∃ r : Nat, r ≤ 7 ∧ i = .int .i64 r ∧ ∃ N a1 cv R1, N = L.length + r ∧ Hid (Boxes wr n4 n8 W H (.slice a1 N cv)) ∧ Hid (GS (n8 + 1) B wr a1 N cv R1) ∧ Hid (wr.cell? ⟨g, 0, none⟩ = some (.int .i64 k0) ∧ wr.cell? ⟨g, 1, none⟩ = some (.slice a0 m0 d0)) ∧ Hid (PRow (n8 + 1) B wr (.slice a0 m0 d0)) ∧ Hid (∀ b, a1 = some ⟨b, 0, none⟩ → b = g → R1[0]? = some (k0, .slice a0 m0 d0)) ∧ Aft w wr) (fun i _ => 7 - (intOf i).toNat)
        case atStart => exact ⟨0, by omega, rfl, L.length, _, _, R, rfl, BX, HG1, HT, HU0, HR0, hwV⟩
        case round =>
          clear BX HG1 HT HU0 HR0 HU
          obtain ⟨r, hr, rfl, N, a1, cv, R1, hN, BX, HG, HT, HU0, HR0, hwr⟩ := hrel
          rcases Nat.lt_or_ge r 7 with hlt7 | hge7
          · have hri : (r : Int) < 7 := by omega
            obtain ⟨ga, gc, e⟩ := ownsRow_some' HG.out.own (by omega)
            simp only [Value.slice.injEq, true_and] at e
            obtain ⟨rfl, rfl⟩ := e
            have hga := HG.out.own.lt ga rfl
            have hgg : g < wr.heap.size := World.block_lt_of_cell? _ _ HT.out.1
            have h4a : ¬ n4 = ga := by omega
            have hNl : N ≤ 1000 := by omega
            have HXL : Hid ((shCells R1).length = N * 2) := hid (by rw [shCells_length, ← HG.out.len])
            have HOW := hid HG.out.own
            have hcell : Hid (∀ W', (rowRel ga (n8 + 1) 51 2 N cv (shCells R1) [.int .i64 k0, .slice a0 m0 d0]).r wr W' → W'.cell? ⟨g, 0, none⟩ = some (.int .i64 k0) ∧ W'.cell? ⟨g, 1, none⟩ = some (.slice a0 m0 d0)) := hid fun W' hW' => by
              by_cases hgg : ga = g
              · subst hgg
                obtain ⟨s0, s1⟩ := shCells_get (HR0.out ga rfl rfl)
                exact ⟨rowRel_in hW' HOW.out s0, rowRel_in hW' HOW.out s1⟩
              · exact ⟨rowRel_cell hW' HT.out.1 (by omega), rowRel_cell hW' HT.out.2 (by omega)⟩
            have HNN := hid hN
            clear hN
            obtain ⟨x0, x1, x2⟩ := BX.out.b4
            go_upto_region 38 with fail
            refine ByRel.wp_region_flow (ρ := (rowRel ga (n8 + 1) 51 2 N cv (shCells R1) [.int .i64 k0, .slice a0 m0 d0])) _ ((rowRel ga (n8 + 1) 51 2 N cv (shCells R1) [.int .i64 k0, .slice a0 m0 d0]).refl _) [ByRel.FR.is (.pointer (some ⟨n4, 2, none⟩)), ByRel.FR.is (.slice (some ⟨ga, 0, none⟩) N cv), ByRel.FR.is (.slice (some ⟨g, 0, none⟩) L.length c'), ByRel.FR.is (.pointer (some ⟨g, 0, none⟩)), ByRel.FR.is (.agg #[.int .i64 k0, .slice a0 m0 d0]), frNew ga (n8 + 1) 51 2 N cv (shCells R1) [.int .i64 k0, .slice a0 m0 d0], frApp (g + 1) ga (n8 + 1) 51 2 N cv (shCells R1) [.int .i64 k0, .slice a0 m0 d0], ByRel.FR.is (.pointer (some ⟨n4, 2, none⟩))]
              [(0, 199), (1, 200), (2, 201), (3, 202), (4, 203), (5, 204), (6, 205), (7, 206)]
              [[], [(0, 199)], [], [(2, 201)], [(3, 202)], [(4, 203)], [(1, 200), (5, 204)], []] (by kernel_rfl) (by kernel_rfl) ?_ ?_
            · refine ByRel.flowObs_cons (fun W hW => ByRel.flowOb_nil ?_) ?_
              · go_wp2
                exact ⟨rfl, Rel.refl _ W⟩
              refine ByRel.flowObs_cons (fun W hW => ByRel.flowOb_cons fun v0 h0 => ByRel.flowOb_nil ?_) ?_
              · obtain rfl := h0
                have x0W := rowRel_cell hW x0 h4a
                have x1W := rowRel_cell hW x1 h4a
                have x2W := rowRel_cell hW x2 h4a
                go_wp2
                exact ⟨rfl, Rel.refl _ W⟩
              refine ByRel.flowObs_cons (fun W hW => ByRel.flowOb_nil ?_) ?_
              · go_wp2
                exact ⟨rfl, Rel.refl _ W⟩
              refine ByRel.flowObs_cons (fun W hW => ByRel.flowOb_cons fun v0 h0 => ByRel.flowOb_nil ?_) ?_
              · obtain rfl := h0
                go_wp2
                exact ⟨rfl, Rel.refl _ W⟩
              refine ByRel.flowObs_cons (fun W hW => ByRel.flowOb_cons fun v0 h0 => ByRel.flowOb_nil ?_) ?_
              · obtain rfl := h0
                obtain ⟨t0W, t1W⟩ := hcell.out W hW
                go_wp2
                exact ⟨rfl, Rel.refl _ W⟩
              refine ByRel.flowObs_cons (fun W hW => ByRel.flowOb_cons fun v0 h0 => ByRel.flowOb_nil ?_) ?_
              · obtain rfl := h0
                have hpW := hW.1.size
                go_wp2
                exact ⟨⟨_, rfl, by simp, by omega, Rd.new⟩, rowRel_aft ((Aft.refl W).alloc _)⟩
              refine ByRel.flowObs_cons (fun W hW => ByRel.flowOb_cons fun v0 h0 => ByRel.flowOb_cons fun v1 h1 => ByRel.flowOb_nil ?_) ?_
              · obtain rfl := h0
                obtain ⟨gn, rfl, hg1, hg2, hrd⟩ := h1
                have hownW := rowRel_own hW HOW.out
                have hsW := hW.1.size
                refine wpList_app_keep _ rfl (.tmp 200) (.tmp 204) 43 rfl (n8 + 1) 51 (.agg #[.int .i64 0, .slice none 0 0]) 2 32 Try.underlying43 Try.info51 rfl (by decide) ga N cv _ rfl hownW ⟨gn, 0, none⟩ 1 1 [.int .i64 k0, .slice a0 m0 d0] rfl rfl hrd (by intro u hu; simp at hu; rcases hu with rfl | rfl <;> rfl) (by unfold maxLen; omega) (by omega) (by omega) ?_
                intro v' w' ho' hg' alt
                have hrel := rowRel_app (N := g + 1) (by omega) HXL.out hownW ho' hg' alt
                go_wp2
                first | exact hrel | exact hrel.1
              refine ByRel.flowObs_cons (fun W hW => ByRel.flowOb_nil ?_) ByRel.flowObs_nil
              · go_wp2
                exact ⟨rfl, Rel.refl _ W⟩
            intro U hU
            iterate 5 refine ByRel.flowEnd_cons fun _ h => ?_; obtain rfl := h
            refine ByRel.flowEnd_cons fun v1 h1 => ?_
            refine ByRel.flowEnd_cons fun v2 h2 => ?_
            refine ByRel.flowEnd_cons fun _ h => ?_; obtain rfl := h
            refine ByRel.flowEnd_nil ?_
            obtain ⟨gv, cw, rfl, hown', halt⟩ := h2
            clear h1 x0 x1 x2
            have hgr := rowRel_grown hU
            have hkx := grown_kx hgr n8 (fun k hk => by cases hk; omega)
            rw [show shCells R1 ++ [.int .i64 k0, .slice a0 m0 d0] = shCells (R1 ++ [(k0, .slice a0 m0 d0)]) by rw [shCells_append]; rfl] at hown'
            have BXU := hid (BX.out.kx hkx (fun j h => h))
            have HGU := hid (HG.out.snoc (hk0 : kOk k0) HU0.out hgr hown')
            have HUU := hid (HU0.out.grown HOW.out hgr)
            have HTU := hid (hcell.out U hU)
            have hwU := hwr.grown hgr (fun k hk => by cases hk; omega)
            have HRU : Hid (∀ b, some (⟨gv, 0, none⟩ : Addr) = some ⟨b, 0, none⟩ → b = g → (R1 ++ [(k0, .slice a0 m0 d0)])[0]? = some (k0, .slice a0 m0 d0)) := hid fun b hb hbg => by
              cases hb
              subst hbg
              rcases halt with ⟨e, _⟩ | ⟨_, h⟩
              · subst e
                have h0 := HR0.out gv rfl rfl
                rw [List.getElem?_append_left (List.getElem?_eq_some_iff.1 h0).1]
                exact h0
              · omega
            have hwS := hwU.setCell (p := ⟨n4, 2, none⟩) hge4 (.slice (some ⟨gv, 0, none⟩) (N + 1) cw)
            have PB := BXU.out.put2 (.slice (some ⟨gv, 0, none⟩) (N + 1) cw)
            have HPB := hid PB.1
            have HGS := hid (HGU.out.kx PB.2 (fun j h => by subst h; omega))
            have HUS := hid (HUU.out.kx PB.2 (fun g hg h => by have := (prow_lt HUU.out g hg).1; omega))
            have HTS : Hid ((U.setCell ⟨n4, 2, none⟩ (.slice (some ⟨gv, 0, none⟩) (N + 1) cw)).cell? ⟨g, 0, none⟩ = some (.int .i64 k0) ∧ (U.setCell ⟨n4, 2, none⟩ (.slice (some ⟨gv, 0, none⟩) (N + 1) cw)).cell? ⟨g, 1, none⟩ = some (.slice a0 m0 d0)) := hid (And.intro ((PB.2.cell (World.block_lt_of_cell? _ _ HTU.out.1) (show ¬ g = n4 by omega)).trans HTU.out.1) ((PB.2.cell (World.block_lt_of_cell? _ _ HTU.out.2) (show ¬ g = n4 by omega)).trans HTU.out.2))
            clear PB halt hown'
            obtain ⟨x0, x1, x2⟩ := BXU.out.b4
            obtain ⟨z0, z1, z2⟩ := BXU.out.f4
            go_wp2
            go_roundw
            case rel => exact ⟨r + 1, by omega, by go_num, N + 1, _, _, _, by have := HNN.out; omega, HPB, HGS, HTS, HUS, HRU, hwS⟩
            case measure => simp only [intOf]; omega
          · obtain rfl : r = 7 := by omega
            clear hge7
            have HNN := hid hN
            clear hN
            have HE := bent_end BX.out.b8 HG.out hwr hge8 (by omega) (by have := HNN.out; omega) (W) (H)
            obtain ⟨x0, x1, x2⟩ := BX.out.b4
            obtain ⟨y0, y1, y2⟩ := BX.out.b8
            obtain ⟨z0, z1, z2⟩ := BX.out.f8
            go_wp2
            refine bodyPost_ret (results_fig rfl _ _ n8 (W) (H) _ rfl HE.out.1) rfl ?_
            obtain ⟨_, L', e1, e2, e3, e4⟩ := HE.out
            first | exact ⟨(W), (H), _, L', rfl, e2, by have := HNN.out; omega, e3.mono (by omega), e4⟩ | exact ⟨(W), (H), _, rfl, L', e2, by have := HNN.out; omega, e3.mono (by omega), e4⟩
      · clear hh9
        rcases Nat.eq_zero_or_pos m with hm0 | hmp
        · have hm0' : ¬ (0 : Int) < m := by omega
          clear hm0
          go_upto_region 42 with fail
          have HE := bent_end BX.out.b8 HG1.out hwV hge8 (by omega) (by omega) (W) (H)
          obtain ⟨x0, x1, x2⟩ := BX.out.b4
          obtain ⟨y0, y1, y2⟩ := BX.out.b8
          obtain ⟨z0, z1, z2⟩ := BX.out.f8
          go_wp2
          refine bodyPost_ret (results_fig rfl _ _ n8 (W) (H) _ rfl HE.out.1) rfl ?_
          obtain ⟨_, L', e1, e2, e3, e4⟩ := HE.out
          first | exact ⟨(W), (H), _, L', rfl, e2, by omega, e3.mono (by omega), e4⟩ | exact ⟨(W), (H), _, rfl, L', e2, by omega, e3.mono (by omega), e4⟩
        · obtain ⟨hp, rfl, hp1, hp2, hp3, hp4⟩ : ∃ hp, au = some ⟨hp, 0, none⟩ ∧ n8 + 1 ≤ hp ∧ hp < V.heap.size ∧ m ≤ cu ∧ cu ≤ maxLen := by
            rcases HU.out.addr with h | h
            · omega
            · exact h
          have hjl : j < m := by omega
          have hjl' : (j : Int) < m := by omega
          have hmp' : (0 : Int) < m := by omega
          obtain ⟨x, y, q0, q1, hsx, hsy⟩ := HU.out.at_ hjl
          unfold Sc at hsx hsy
          obtain ⟨p70, hp70, hp70'⟩ : ∃ k : Nat, aroundI by_ 70 = (k : Int) ∧ k < 70 := around_n by_ 70 (by omega)
          obtain ⟨q70, hq70, hq70'⟩ : ∃ k : Nat, aroundI (by_.tdiv 70) 70 = (k : Int) ∧ k < 70 := around_n (by_.tdiv 70) 70 (by omega)
          have hd70 := tdiv_small hb1 hb2 70 (by omega)
          go_upto_region 41 with fail
          refine wp_region_flow _ (Aft.refl _) [FV.is (.slice (some ⟨g, 0, none⟩) L.length c'), FV.is (.int .i64 k), FV.is (.pointer (some ⟨g, k * 2, none⟩)), FV.is (.pointer (some ⟨g, k * 2 + 1, none⟩)), FV.is (.slice (some ⟨hp, 0, none⟩) m cu), FV.is (.int .i64 j), FV.is (.int .i64 by_), FV.is (.int .i64 p70), FV.is (.int .i64 ((p70 : Int) - 3)), FV.is (.int .i64 by_), FV.is (.int .i64 (by_.tdiv 70)), FV.is (.int .i64 q70), FV.is (.int .i64 ((q70 : Int) - 3)), FV.is (.agg #[.int .i64 ((p70 : Int) - 3), .int .i64 ((q70 : Int) - 3)]), FV.is (.pointer (some ⟨hp, j * 2, none⟩))]
            [(0, 211), (1, 212), (2, 213), (3, 214), (4, 215), (5, 216), (6, 217), (7, 218), (8, 219), (9, 220), (10, 221), (11, 222), (12, 223), (13, 224), (14, 225)]
            [[], [], [(0, 211), (1, 212)], [(2, 213)], [(3, 214)], [], [], [(6, 217)], [(7, 218)], [], [(9, 220)], [(10, 221)], [(11, 222)], [(8, 219), (12, 223)], [(4, 215), (5, 216)]] (by kernel_rfl) (by kernel_rfl) ?_ ?_
          · refine flowObs_cons (fun W hW => flowOb_nil ?_) ?_
            · go_wp2
              exact ⟨rfl, Aft.refl W⟩
            refine flowObs_cons (fun W hW => flowOb_nil ?_) ?_
            · go_wp2
              exact ⟨rfl, Aft.refl W⟩
            refine flowObs_cons (fun W hW => flowOb_cons fun v0 h0 => flowOb_cons fun v1 h1 => flowOb_nil ?_) ?_
            · obtain rfl := h0
              obtain rfl := h1
              go_wp2
              exact ⟨rfl, Aft.refl W⟩
            refine flowObs_cons (fun W hW => flowOb_cons fun v0 h0 => flowOb_nil ?_) ?_
            · obtain rfl := h0
              go_wp2
              exact ⟨rfl, Aft.refl W⟩
            refine flowObs_cons (fun W hW => flowOb_cons fun v0 h0 => flowOb_nil ?_) ?_
            · obtain rfl := h0
              have c0W := (hW.cell (World.block_lt_of_cell? _ _ c0)).trans c0
              have c1W := (hW.cell (World.block_lt_of_cell? _ _ c1)).trans c1
              go_wp2
              exact ⟨rfl, Aft.refl W⟩
            refine flowObs_cons (fun W hW => flowOb_nil ?_) ?_
            · go_wp2
              exact ⟨rfl, Aft.refl W⟩
            refine flowObs_cons (fun W hW => flowOb_nil ?_) ?_
            · go_wp2
              exact ⟨rfl, Aft.refl W⟩
            refine flowObs_cons (fun W hW => flowOb_cons fun v0 h0 => flowOb_nil ?_) ?_
            · obtain rfl := h0
              go_wp2_with (go_at_call 18; refine (around_any by_ 70 _ hb1 hb2).mono ?_; rintro e w' ⟨rfl, rfl⟩; rw [hp70])
              exact ⟨rfl, Aft.refl W⟩
            refine flowObs_cons (fun W hW => flowOb_cons fun v0 h0 => flowOb_nil ?_) ?_
            · obtain rfl := h0
              go_wp2
              exact ⟨rfl, Aft.refl W⟩
            refine flowObs_cons (fun W hW => flowOb_nil ?_) ?_
            · go_wp2
              exact ⟨rfl, Aft.refl W⟩
            refine flowObs_cons (fun W hW => flowOb_cons fun v0 h0 => flowOb_nil ?_) ?_
            · obtain rfl := h0
              go_wp2
              exact ⟨rfl, Aft.refl W⟩
            refine flowObs_cons (fun W hW => flowOb_cons fun v0 h0 => flowOb_nil ?_) ?_
            · obtain rfl := h0
              go_wp2_with (go_at_call 18; refine (around_any _ 70 _ hd70.1 hd70.2).mono ?_; rintro e w' ⟨rfl, rfl⟩; rw [hq70])
              exact ⟨rfl, Aft.refl W⟩
            refine flowObs_cons (fun W hW => flowOb_cons fun v0 h0 => flowOb_nil ?_) ?_
            · obtain rfl := h0
              go_wp2
              exact ⟨rfl, Aft.refl W⟩
            refine flowObs_cons (fun W hW => flowOb_cons fun v0 h0 => flowOb_cons fun v1 h1 => flowOb_nil ?_) ?_
            · obtain rfl := h0
              obtain rfl := h1
              go_wp2
              exact ⟨rfl, Aft.refl W⟩
            refine flowObs_cons (fun W hW => flowOb_cons fun v0 h0 => flowOb_cons fun v1 h1 => flowOb_nil ?_) flowObs_nil
            · obtain rfl := h0
              obtain rfl := h1
              go_wp2
              exact ⟨rfl, Aft.refl W⟩
          intro U hU
          iterate 14 refine flowEnd_cons fun _ h => ?_; obtain rfl := h
          refine flowEnd_cons fun v1 h1 => flowEnd_nil ?_
          obtain rfl := h1
          have HGU := hid (HG1.out.aft hU)
          have BXU := hid (BX.out.aft hU)
          have HUU := hid (HU.out.aft hU)
          have hwU := hwV.trans hU
          obtain ⟨x', y', s0, s1, -, -⟩ := HUU.out.at_ hjl
          have f0 := HUU.out.free (j * 2)
          have f1 := HUU.out.free (j * 2 + 1)
          clear q0 q1 c0 c1 hsx hsy
          go_upto_region 42 with fail
          clear s0 s1 f0 f1
          obtain ⟨X, eX, hBX, hGX, hwX⟩ : ∃ X, (U.setCell ⟨hp, j * 2, none⟩ (.int .i64 ((p70 : Int) - 3))).setCell ⟨hp, j * 2 + 1, none⟩ (.int .i64 ((q70 : Int) - 3)) = X ∧ Boxes X n4 n8 (W) (H) (.slice (some ⟨g, 0, none⟩) L.length c') ∧ GS (n8 + 1) B X (some ⟨g, 0, none⟩) L.length c' R ∧ Aft w X :=
            ⟨_, rfl, BXU.out.kx (setPoint_kx U hp j _ _) (by omega), HGU.out.setPoint HUU.out j (by unfold Sc; omega) (by unfold Sc; omega), (hwU.setCell (p := ⟨hp, j * 2, none⟩) (by show w.heap.size ≤ hp; omega) _).setCell (p := ⟨hp, j * 2 + 1, none⟩) (by show w.heap.size ≤ hp; omega) _⟩
          rw [eX]
          clear eX
          have BXX := hid hBX
          have HGX := hid hGX
          clear hBX hGX
          have HE := bent_end BXX.out.b8 HGX.out hwX hge8 (by omega) (by omega) (W) (H)
          obtain ⟨x0, x1, x2⟩ := BXX.out.b4
          obtain ⟨y0, y1, y2⟩ := BXX.out.b8
          obtain ⟨z0, z1, z2⟩ := BXX.out.f8
          go_wp2
          refine bodyPost_ret (results_fig rfl _ _ n8 (W) (H) _ rfl HE.out.1) rfl ?_
          obtain ⟨_, L', e1, e2, e3, e4⟩ := HE.out
          first | exact ⟨(W), (H), _, L', rfl, e2, by omega, e3.mono (by omega), e4⟩ | exact ⟨(W), (H), _, rfl, L', e2, by omega, e3.mono (by omega), e4⟩
      · clear hh9
        rcases Nat.eq_zero_or_pos m with hm0 | hmp
        · have hm0' : ¬ (0 : Int) < m := by omega
          clear hm0
          go_upto_region 42 with fail
          have HE := bent_end BX.out.b8 HG1.out hwV hge8 (by omega) (by omega) (W) (H)
          obtain ⟨x0, x1, x2⟩ := BX.out.b4
          obtain ⟨y0, y1, y2⟩ := BX.out.b8
          obtain ⟨z0, z1, z2⟩ := BX.out.f8
          go_wp2
          refine bodyPost_ret (results_fig rfl _ _ n8 (W) (H) _ rfl HE.out.1) rfl ?_
          obtain ⟨_, L', e1, e2, e3, e4⟩ := HE.out
          first | exact ⟨(W), (H), _, L', rfl, e2, by omega, e3.mono (by omega), e4⟩ | exact ⟨(W), (H), _, rfl, L', e2, by omega, e3.mono (by omega), e4⟩
        · obtain ⟨hp, rfl, hp1, hp2, hp3, hp4⟩ : ∃ hp, au = some ⟨hp, 0, none⟩ ∧ n8 + 1 ≤ hp ∧ hp < V.heap.size ∧ m ≤ cu ∧ cu ≤ maxLen := by
            rcases HU.out.addr with h | h
            · omega
            · exact h
          have hjl : j < m := by omega
          have hjl' : (j : Int) < m := by omega
          have hmp' : (0 : Int) < m := by omega
          obtain ⟨q, hq⟩ : ∃ q : Nat, (m : Int) - 1 = q := ⟨m - 1, by omega⟩
          have hql : q < m := by omega
          have hql' : (q : Int) < m := by omega
          obtain ⟨x0, y0, q0, q1, hsx0, hsy0⟩ := HU.out.at_ hmp
          simp only [Nat.zero_mul, Nat.zero_add] at q0 q1
          go_upto_region 15 with fail
          clear q0 q1 c0 c1
          obtain ⟨Xa, eXa, haV, -, hbx⟩ := one_box V #[.int .i64 x0, .int .i64 y0] 57
          rw [eXa]
          clear eXa
          have hba : Hid (Xa.cell? ⟨V.heap.size, 0, none⟩ = some (.int .i64 x0) ∧ Xa.cell? ⟨V.heap.size, 1, none⟩ = some (.int .i64 y0)) := hid ⟨hbx.out Xa (Aft.refl _) 0 _ rfl, hbx.out Xa (Aft.refl _) 1 _ rfl⟩
          clear hbx
          have HGa := hid (HG1.out.aft haV)
          have BXa := hid (BX.out.aft haV)
          have HUa := hid (HU.out.aft haV)
          have hwa := hwV.trans haV
          obtain ⟨nb, hnb⟩ : ∃ n, V.heap.size = n := ⟨_, rfl⟩
          rw [hnb] at hba hp2 ⊢
          obtain ⟨c0, c1, -, -⟩ := HGa.out.at_ HRk.out
          obtain ⟨x1, y1, q0, q1, hsx1, hsy1⟩ := HUa.out.at_ hql
          go_upto_region 15 with fail
          refine wp_region_flow _ (Aft.refl _) [FV.is (.slice (some ⟨g, 0, none⟩) L.length c'), FV.is (.int .i64 k), FV.is (.pointer (some ⟨g, k * 2, none⟩)), FV.is (.pointer (some ⟨g, k * 2 + 1, none⟩)), FV.is (.slice (some ⟨hp, 0, none⟩) m cu), FV.is (.slice (some ⟨g, 0, none⟩) L.length c'), FV.is (.int .i64 k), FV.is (.pointer (some ⟨g, k * 2, none⟩)), FV.is (.pointer (some ⟨g, k * 2 + 1, none⟩)), FV.is (.slice (some ⟨hp, 0, none⟩) m cu), FV.is (.int .i64 m), FV.is (.int .i64 q), FV.is (.pointer (some ⟨hp, q * 2, none⟩)), FV.is (.agg #[.int .i64 x1, .int .i64 y1]), FV.is (.pointer (some ⟨hp, 0, none⟩))]
            [(0, 65), (1, 66), (2, 67), (3, 68), (4, 69), (5, 70), (6, 71), (7, 72), (8, 73), (9, 74), (10, 75), (11, 76), (12, 77), (13, 78), (14, 79)]
            [[], [], [(0, 65), (1, 66)], [(2, 67)], [(3, 68)], [], [], [(5, 70), (6, 71)], [(7, 72)], [(8, 73)], [], [(10, 75)], [(9, 74), (11, 76)], [(12, 77)], [(4, 69)]] (by kernel_rfl) (by kernel_rfl) ?_ ?_
          · refine flowObs_cons (fun W hW => flowOb_nil ?_) ?_
            · go_wp2
              exact ⟨rfl, Aft.refl W⟩
            refine flowObs_cons (fun W hW => flowOb_nil ?_) ?_
            · go_wp2
              exact ⟨rfl, Aft.refl W⟩
            refine flowObs_cons (fun W hW => flowOb_cons fun v0 h0 => flowOb_cons fun v1 h1 => flowOb_nil ?_) ?_
            · obtain rfl := h0
              obtain rfl := h1
              go_wp2
              exact ⟨rfl, Aft.refl W⟩
            refine flowObs_cons (fun W hW => flowOb_cons fun v0 h0 => flowOb_nil ?_) ?_
            · obtain rfl := h0
              go_wp2
              exact ⟨rfl, Aft.refl W⟩
            refine flowObs_cons (fun W hW => flowOb_cons fun v0 h0 => flowOb_nil ?_) ?_
            · obtain rfl := h0
              have c0W := (hW.cell (World.block_lt_of_cell? _ _ c0)).trans c0
              have c1W := (hW.cell (World.block_lt_of_cell? _ _ c1)).trans c1
              have q0W := (hW.cell (World.block_lt_of_cell? _ _ q0)).trans q0
              have q1W := (hW.cell (World.block_lt_of_cell? _ _ q1)).trans q1
              go_wp2
              exact ⟨rfl, Aft.refl W⟩
            refine flowObs_cons (fun W hW => flowOb_nil ?_) ?_
            · go_wp2
              exact ⟨rfl, Aft.refl W⟩
            refine flowObs_cons (fun W hW => flowOb_nil ?_) ?_
            · go_wp2
              exact ⟨rfl, Aft.refl W⟩
            refine flowObs_cons (fun W hW => flowOb_cons fun v0 h0 => flowOb_cons fun v1 h1 => flowOb_nil ?_) ?_
            · obtain rfl := h0
              obtain rfl := h1
              go_wp2
              exact ⟨rfl, Aft.refl W⟩
            refine flowObs_cons (fun W hW => flowOb_cons fun v0 h0 => flowOb_nil ?_) ?_
            · obtain rfl := h0
              go_wp2
              exact ⟨rfl, Aft.refl W⟩
            refine flowObs_cons (fun W hW => flowOb_cons fun v0 h0 => flowOb_nil ?_) ?_
            · obtain rfl := h0
              have c0W := (hW.cell (World.block_lt_of_cell? _ _ c0)).trans c0
              have c1W := (hW.cell (World.block_lt_of_cell? _ _ c1)).trans c1
              have q0W := (hW.cell (World.block_lt_of_cell? _ _ q0)).trans q0
              have q1W := (hW.cell (World.block_lt_of_cell? _ _ q1)).trans q1
              go_wp2
              exact ⟨rfl, Aft.refl W⟩
            refine flowObs_cons (fun W hW => flowOb_nil ?_) ?_
            · go_wp2
              exact ⟨rfl, Aft.refl W⟩
            refine flowObs_cons (fun W hW => flowOb_cons fun v0 h0 => flowOb_nil ?_) ?_
            · obtain rfl := h0
              go_wp2
              exact ⟨rfl, Aft.refl W⟩
            refine flowObs_cons (fun W hW => flowOb_cons fun v0 h0 => flowOb_cons fun v1 h1 => flowOb_nil ?_) ?_
            · obtain rfl := h0
              obtain rfl := h1
              go_wp2
              exact ⟨rfl, Aft.refl W⟩
            refine flowObs_cons (fun W hW => flowOb_cons fun v0 h0 => flowOb_nil ?_) ?_
            · obtain rfl := h0
              have c0W := (hW.cell (World.block_lt_of_cell? _ _ c0)).trans c0
              have c1W := (hW.cell (World.block_lt_of_cell? _ _ c1)).trans c1
              have q0W := (hW.cell (World.block_lt_of_cell? _ _ q0)).trans q0
              have q1W := (hW.cell (World.block_lt_of_cell? _ _ q1)).trans q1
              go_wp2
              exact ⟨rfl, Aft.refl W⟩
            refine flowObs_cons (fun W hW => flowOb_cons fun v0 h0 => flowOb_nil ?_) flowObs_nil
            · obtain rfl := h0
              go_wp2
              exact ⟨rfl, Aft.refl W⟩
          intro Ub hUb
          iterate 14 refine flowEnd_cons fun _ h => ?_; obtain rfl := h
          refine flowEnd_cons fun _ h => flowEnd_nil ?_
          obtain rfl := h
          have HGu := hid (HGa.out.aft hUb)
          have BXu := hid (BXa.out.aft hUb)
          have HUu := hid (HUa.out.aft hUb)
          have hwu := hwa.trans hUb
          have hbu : Hid (Ub.cell? ⟨nb, 0, none⟩ = some (.int .i64 x0) ∧ Ub.cell? ⟨nb, 1, none⟩ = some (.int .i64 y0)) := hid (And.intro ((hUb.cell (World.block_lt_of_cell? _ _ hba.out.1)).trans hba.out.1) ((hUb.cell (World.block_lt_of_cell? _ _ hba.out.2)).trans hba.out.2))
          obtain ⟨x', y', s0, s1, -, -⟩ := HUu.out.at_ hmp
          have f0 := HUu.out.free (0)
          have f1 := HUu.out.free (1)
          simp only [Nat.zero_mul, Nat.zero_add] at s0 s1
          clear c0 c1 q0 q1
          go_upto_region 16 with fail
          clear s0 s1 f0 f1
          obtain ⟨Xb, eX, hkX, hBX, hGX, hUX, hwb⟩ : ∃ X, (Ub.setCell ⟨hp, 0, none⟩ (.int .i64 x1)).setCell ⟨hp, 1, none⟩ (.int .i64 y1) = X ∧ Kx (fun i => i = hp) Ub X ∧ Boxes X n4 n8 W H (.slice (some ⟨g, 0, none⟩) L.length c') ∧ GS (n8 + 1) B X (some ⟨g, 0, none⟩) L.length c' R ∧ PRow (n8 + 1) B X (.slice (some ⟨hp, 0, none⟩) m cu) ∧ Aft w X :=
            ⟨_, rfl, setPoint_kx Ub hp 0 _ _, BXu.out.kx (setPoint_kx Ub hp 0 _ _) (by omega), HGu.out.setPoint HUu.out 0 hsx1 hsy1, HUu.out.setPoint hp 0 hsx1 hsy1, (hwu.setCell (p := ⟨hp, 0 * 2, none⟩) (by show w.heap.size ≤ hp; omega) _).setCell (p := ⟨hp, 0 * 2 + 1, none⟩) (by show w.heap.size ≤ hp; omega) _⟩
          rw [eX]
          clear eX
          have BXb := hid hBX
          have HGb := hid hGX
          have HUb := hid hUX
          have hbb : Hid (Xb.cell? ⟨nb, 0, none⟩ = some (.int .i64 x0) ∧ Xb.cell? ⟨nb, 1, none⟩ = some (.int .i64 y0)) := hid (And.intro ((hkX.cell (World.block_lt_of_cell? _ _ hbu.out.1) (show ¬ nb = hp by omega)).trans hbu.out.1) ((hkX.cell (World.block_lt_of_cell? _ _ hbu.out.2) (show ¬ nb = hp by omega)).trans hbu.out.2))
          clear hBX hGX hUX hkX hbu HGu BXu HUu hwu
          obtain ⟨c0, c1, -, -⟩ := HGb.out.at_ HRk.out
          obtain ⟨x2, y2, q0, q1, hsx2, hsy2⟩ := HUb.out.at_ hjl
          go_upto_region 16 with fail
          refine wp_region_flow _ (Aft.refl _) [FV.is (.slice (some ⟨g, 0, none⟩) L.length c'), FV.is (.int .i64 k), FV.is (.pointer (some ⟨g, k * 2, none⟩)), FV.is (.pointer (some ⟨g, k * 2 + 1, none⟩)), FV.is (.slice (some ⟨hp, 0, none⟩) m cu), FV.is (.int .i64 m), FV.is (.int .i64 q), FV.is (.slice (some ⟨g, 0, none⟩) L.length c'), FV.is (.int .i64 k), FV.is (.pointer (some ⟨g, k * 2, none⟩)), FV.is (.pointer (some ⟨g, k * 2 + 1, none⟩)), FV.is (.slice (some ⟨hp, 0, none⟩) m cu), FV.is (.int .i64 j), FV.is (.pointer (some ⟨hp, j * 2, none⟩)), FV.is (.agg #[.int .i64 x2, .int .i64 y2]), FV.is (.pointer (some ⟨hp, q * 2, none⟩))]
            [(0, 80), (1, 81), (2, 82), (3, 83), (4, 84), (5, 85), (6, 86), (7, 87), (8, 88), (9, 89), (10, 90), (11, 91), (12, 92), (13, 93), (14, 94), (15, 95)]
            [[], [], [(0, 80), (1, 81)], [(2, 82)], [(3, 83)], [], [(5, 85)], [], [], [(7, 87), (8, 88)], [(9, 89)], [(10, 90)], [], [(11, 91), (12, 92)], [(13, 93)], [(4, 84), (6, 86)]] (by kernel_rfl) (by kernel_rfl) ?_ ?_
          · refine flowObs_cons (fun W hW => flowOb_nil ?_) ?_
            · go_wp2
              exact ⟨rfl, Aft.refl W⟩
            refine flowObs_cons (fun W hW => flowOb_nil ?_) ?_
            · go_wp2
              exact ⟨rfl, Aft.refl W⟩
            refine flowObs_cons (fun W hW => flowOb_cons fun v0 h0 => flowOb_cons fun v1 h1 => flowOb_nil ?_) ?_
            · obtain rfl := h0
              obtain rfl := h1
              go_wp2
              exact ⟨rfl, Aft.refl W⟩
            refine flowObs_cons (fun W hW => flowOb_cons fun v0 h0 => flowOb_nil ?_) ?_
            · obtain rfl := h0
              go_wp2
              exact ⟨rfl, Aft.refl W⟩
            refine flowObs_cons (fun W hW => flowOb_cons fun v0 h0 => flowOb_nil ?_) ?_
            · obtain rfl := h0
              have c0W := (hW.cell (World.block_lt_of_cell? _ _ c0)).trans c0
              have c1W := (hW.cell (World.block_lt_of_cell? _ _ c1)).trans c1
              have q0W := (hW.cell (World.block_lt_of_cell? _ _ q0)).trans q0
              have q1W := (hW.cell (World.block_lt_of_cell? _ _ q1)).trans q1
              go_wp2
              exact ⟨rfl, Aft.refl W⟩
            refine flowObs_cons (fun W hW => flowOb_nil ?_) ?_
            · go_wp2
              exact ⟨rfl, Aft.refl W⟩
            refine flowObs_cons (fun W hW => flowOb_cons fun v0 h0 => flowOb_nil ?_) ?_
            · obtain rfl := h0
              go_wp2
              exact ⟨rfl, Aft.refl W⟩
            refine flowObs_cons (fun W hW => flowOb_nil ?_) ?_
            · go_wp2
              exact ⟨rfl, Aft.refl W⟩
            refine flowObs_cons (fun W hW => flowOb_nil ?_) ?_
            · go_wp2
              exact ⟨rfl, Aft.refl W⟩
            refine flowObs_cons (fun W hW => flowOb_cons fun v0 h0 => flowOb_cons fun v1 h1 => flowOb_nil ?_) ?_
            · obtain rfl := h0
              obtain rfl := h1
              go_wp2
              exact ⟨rfl, Aft.refl W⟩
            refine flowObs_cons (fun W hW => flowOb_cons fun v0 h0 => flowOb_nil ?_) ?_
            · obtain rfl := h0
              go_wp2
              exact ⟨rfl, Aft.refl W⟩
            refine flowObs_cons (fun W hW => flowOb_cons fun v0 h0 => flowOb_nil ?_) ?_
            · obtain rfl := h0
              have c0W := (hW.cell (World.block_lt_of_cell? _ _ c0)).trans c0
              have c1W := (hW.cell (World.block_lt_of_cell? _ _ c1)).trans c1
              have q0W := (hW.cell (World.block_lt_of_cell? _ _ q0)).trans q0
              have q1W := (hW.cell (World.block_lt_of_cell? _ _ q1)).trans q1
              go_wp2
              exact ⟨rfl, Aft.refl W⟩
            refine flowObs_cons (fun W hW => flowOb_nil ?_) ?_
            · go_wp2
              exact ⟨rfl, Aft.refl W⟩
            refine flowObs_cons (fun W hW => flowOb_cons fun v0 h0 => flowOb_cons fun v1 h1 => flowOb_nil ?_) ?_
            · obtain rfl := h0
              obtain rfl := h1
              go_wp2
              exact ⟨rfl, Aft.refl W⟩
            refine flowObs_cons (fun W hW => flowOb_cons fun v0 h0 => flowOb_nil ?_) ?_
            · obtain rfl := h0
              have c0W := (hW.cell (World.block_lt_of_cell? _ _ c0)).trans c0
              have c1W := (hW.cell (World.block_lt_of_cell? _ _ c1)).trans c1
              have q0W := (hW.cell (World.block_lt_of_cell? _ _ q0)).trans q0
              have q1W := (hW.cell (World.block_lt_of_cell? _ _ q1)).trans q1
              go_wp2
              exact ⟨rfl, Aft.refl W⟩
            refine flowObs_cons (fun W hW => flowOb_cons fun v0 h0 => flowOb_cons fun v1 h1 => flowOb_nil ?_) flowObs_nil
            · obtain rfl := h0
              obtain rfl := h1
              go_wp2
              exact ⟨rfl, Aft.refl W⟩
          intro Uc hUc
          iterate 15 refine flowEnd_cons fun _ h => ?_; obtain rfl := h
          refine flowEnd_cons fun _ h => flowEnd_nil ?_
          obtain rfl := h
          have HGu := hid (HGb.out.aft hUc)
          have BXu := hid (BXb.out.aft hUc)
          have HUu := hid (HUb.out.aft hUc)
          have hwu := hwb.trans hUc
          have hbu : Hid (Uc.cell? ⟨nb, 0, none⟩ = some (.int .i64 x0) ∧ Uc.cell? ⟨nb, 1, none⟩ = some (.int .i64 y0)) := hid (And.intro ((hUc.cell (World.block_lt_of_cell? _ _ hbb.out.1)).trans hbb.out.1) ((hUc.cell (World.block_lt_of_cell? _ _ hbb.out.2)).trans hbb.out.2))
          obtain ⟨x', y', s0, s1, -, -⟩ := HUu.out.at_ hql
          have f0 := HUu.out.free (q * 2)
          have f1 := HUu.out.free (q * 2 + 1)
          skip
          clear c0 c1 q0 q1
          go_upto_region 17 with fail
          clear s0 s1 f0 f1
          obtain ⟨Xc, eX, hkX, hBX, hGX, hUX, hwc⟩ : ∃ X, (Uc.setCell ⟨hp, q * 2, none⟩ (.int .i64 x2)).setCell ⟨hp, q * 2 + 1, none⟩ (.int .i64 y2) = X ∧ Kx (fun i => i = hp) Uc X ∧ Boxes X n4 n8 W H (.slice (some ⟨g, 0, none⟩) L.length c') ∧ GS (n8 + 1) B X (some ⟨g, 0, none⟩) L.length c' R ∧ PRow (n8 + 1) B X (.slice (some ⟨hp, 0, none⟩) m cu) ∧ Aft w X :=
            ⟨_, rfl, setPoint_kx Uc hp q _ _, BXu.out.kx (setPoint_kx Uc hp q _ _) (by omega), HGu.out.setPoint HUu.out q hsx2 hsy2, HUu.out.setPoint hp q hsx2 hsy2, (hwu.setCell (p := ⟨hp, q * 2, none⟩) (by show w.heap.size ≤ hp; omega) _).setCell (p := ⟨hp, q * 2 + 1, none⟩) (by show w.heap.size ≤ hp; omega) _⟩
          rw [eX]
          clear eX
          have BXc := hid hBX
          have HGc := hid hGX
          have HUc := hid hUX
          have hbc : Hid (Xc.cell? ⟨nb, 0, none⟩ = some (.int .i64 x0) ∧ Xc.cell? ⟨nb, 1, none⟩ = some (.int .i64 y0)) := hid (And.intro ((hkX.cell (World.block_lt_of_cell? _ _ hbu.out.1) (show ¬ nb = hp by omega)).trans hbu.out.1) ((hkX.cell (World.block_lt_of_cell? _ _ hbu.out.2) (show ¬ nb = hp by omega)).trans hbu.out.2))
          clear hBX hGX hUX hkX hbu HGu BXu HUu hwu
          obtain ⟨c0, c1, -, -⟩ := HGc.out.at_ HRk.out
          obtain ⟨q0, q1⟩ := hbc.out
          go_upto_region 17 with fail
          refine wp_region_flow _ (Aft.refl _) [FV.is (.slice (some ⟨g, 0, none⟩) L.length c'), FV.is (.int .i64 k), FV.is (.pointer (some ⟨g, k * 2, none⟩)), FV.is (.pointer (some ⟨g, k * 2 + 1, none⟩)), FV.is (.slice (some ⟨hp, 0, none⟩) m cu), FV.is (.int .i64 j), FV.is (.agg #[.int .i64 x0, .int .i64 y0]), FV.is (.pointer (some ⟨hp, j * 2, none⟩))]
            [(0, 96), (1, 97), (2, 98), (3, 99), (4, 100), (5, 101), (6, 102), (7, 103)]
            [[], [], [(0, 96), (1, 97)], [(2, 98)], [(3, 99)], [], [], [(4, 100), (5, 101)]] (by kernel_rfl) (by kernel_rfl) ?_ ?_
          · refine flowObs_cons (fun W hW => flowOb_nil ?_) ?_
            · go_wp2
              exact ⟨rfl, Aft.refl W⟩
            refine flowObs_cons (fun W hW => flowOb_nil ?_) ?_
            · go_wp2
              exact ⟨rfl, Aft.refl W⟩
            refine flowObs_cons (fun W hW => flowOb_cons fun v0 h0 => flowOb_cons fun v1 h1 => flowOb_nil ?_) ?_
            · obtain rfl := h0
              obtain rfl := h1
              go_wp2
              exact ⟨rfl, Aft.refl W⟩
            refine flowObs_cons (fun W hW => flowOb_cons fun v0 h0 => flowOb_nil ?_) ?_
            · obtain rfl := h0
              go_wp2
              exact ⟨rfl, Aft.refl W⟩
            refine flowObs_cons (fun W hW => flowOb_cons fun v0 h0 => flowOb_nil ?_) ?_
            · obtain rfl := h0
              have c0W := (hW.cell (World.block_lt_of_cell? _ _ c0)).trans c0
              have c1W := (hW.cell (World.block_lt_of_cell? _ _ c1)).trans c1
              have q0W := (hW.cell (World.block_lt_of_cell? _ _ q0)).trans q0
              have q1W := (hW.cell (World.block_lt_of_cell? _ _ q1)).trans q1
              go_wp2
              exact ⟨rfl, Aft.refl W⟩
            refine flowObs_cons (fun W hW => flowOb_nil ?_) ?_
            · go_wp2
              exact ⟨rfl, Aft.refl W⟩
            refine flowObs_cons (fun W hW => flowOb_nil ?_) ?_
            · have c0W := (hW.cell (World.block_lt_of_cell? _ _ c0)).trans c0
              have c1W := (hW.cell (World.block_lt_of_cell? _ _ c1)).trans c1
              have q0W := (hW.cell (World.block_lt_of_cell? _ _ q0)).trans q0
              have q1W := (hW.cell (World.block_lt_of_cell? _ _ q1)).trans q1
              go_wp2
              exact ⟨rfl, Aft.refl W⟩
            refine flowObs_cons (fun W hW => flowOb_cons fun v0 h0 => flowOb_cons fun v1 h1 => flowOb_nil ?_) flowObs_nil
            · obtain rfl := h0
              obtain rfl := h1
              go_wp2
              exact ⟨rfl, Aft.refl W⟩
          intro Ud hUd
          iterate 7 refine flowEnd_cons fun _ h => ?_; obtain rfl := h
          refine flowEnd_cons fun _ h => flowEnd_nil ?_
          obtain rfl := h
          have HGu := hid (HGc.out.aft hUd)
          have BXu := hid (BXc.out.aft hUd)
          have HUu := hid (HUc.out.aft hUd)
          have hwu := hwc.trans hUd
          have hbu : Hid (Ud.cell? ⟨nb, 0, none⟩ = some (.int .i64 x0) ∧ Ud.cell? ⟨nb, 1, none⟩ = some (.int .i64 y0)) := hid (And.intro ((hUd.cell (World.block_lt_of_cell? _ _ hbc.out.1)).trans hbc.out.1) ((hUd.cell (World.block_lt_of_cell? _ _ hbc.out.2)).trans hbc.out.2))
          obtain ⟨x', y', s0, s1, -, -⟩ := HUu.out.at_ hjl
          have f0 := HUu.out.free (j * 2)
          have f1 := HUu.out.free (j * 2 + 1)
          skip
          clear c0 c1 q0 q1
          go_upto_region 42 with fail
          clear s0 s1 f0 f1
          obtain ⟨Xd, eX, hkX, hBX, hGX, hUX, hwd⟩ : ∃ X, (Ud.setCell ⟨hp, j * 2, none⟩ (.int .i64 x0)).setCell ⟨hp, j * 2 + 1, none⟩ (.int .i64 y0) = X ∧ Kx (fun i => i = hp) Ud X ∧ Boxes X n4 n8 W H (.slice (some ⟨g, 0, none⟩) L.length c') ∧ GS (n8 + 1) B X (some ⟨g, 0, none⟩) L.length c' R ∧ PRow (n8 + 1) B X (.slice (some ⟨hp, 0, none⟩) m cu) ∧ Aft w X :=
            ⟨_, rfl, setPoint_kx Ud hp j _ _, BXu.out.kx (setPoint_kx Ud hp j _ _) (by omega), HGu.out.setPoint HUu.out j hsx0 hsy0, HUu.out.setPoint hp j hsx0 hsy0, (hwu.setCell (p := ⟨hp, j * 2, none⟩) (by show w.heap.size ≤ hp; omega) _).setCell (p := ⟨hp, j * 2 + 1, none⟩) (by show w.heap.size ≤ hp; omega) _⟩
          rw [eX]
          clear eX
          have BXd := hid hBX
          have HGd := hid hGX
          have HUd := hid hUX
          have hbd : Hid (Xd.cell? ⟨nb, 0, none⟩ = some (.int .i64 x0) ∧ Xd.cell? ⟨nb, 1, none⟩ = some (.int .i64 y0)) := hid (And.intro ((hkX.cell (World.block_lt_of_cell? _ _ hbu.out.1) (show ¬ nb = hp by omega)).trans hbu.out.1) ((hkX.cell (World.block_lt_of_cell? _ _ hbu.out.2) (show ¬ nb = hp by omega)).trans hbu.out.2))
          clear hBX hGX hUX hkX hbu HGu BXu HUu hwu
          have HE := bent_end BXd.out.b8 HGd.out hwd hge8 (by omega) (by omega) (W) (H)
          obtain ⟨x0, x1, x2⟩ := BXd.out.b4
          obtain ⟨y0, y1, y2⟩ := BXd.out.b8
          obtain ⟨z0, z1, z2⟩ := BXd.out.f8
          go_wp2
          refine bodyPost_ret (results_fig rfl _ _ n8 (W) (H) _ rfl HE.out.1) rfl ?_
          obtain ⟨_, L', e1, e2, e3, e4⟩ := HE.out
          first | exact ⟨(W), (H), _, L', rfl, e2, by omega, e3.mono (by omega), e4⟩ | exact ⟨(W), (H), _, rfl, L', e2, by omega, e3.mono (by omega), e4⟩
end Go.Proofs.Ytokdclbfjlnnjaa
