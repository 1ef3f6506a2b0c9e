/- The walk of PlaneOrders. -/
import Derived.Test.YtokdclbfjlnnjaaK9
namespace Go.Proofs.Ytokdclbfjlnnjaa
open Go.RowKit Go.BigFrame

/-- Contracts in a later world, the results by what is known. -/
theorem inside_lat {w : World} {x : Lat w} {ka kb ox oy ox' oy' : Int} {va vb : Value} {la lb : List Pt} {o : Bool} (hla : Prs w va la) (hlb : Prs w vb lb) (h : insideZ ka la kb lb = o) (ha : Sm ox oy ka la) (hb : Sm ox' oy' kb lb) :
    Calls Try.prog 40 #[.agg #[.int .i64 ka, va], .agg #[.int .i64 kb, vb]] x.W fun e w' => e = .returned (.bool o) ∧ ∃ y : Lat w, w' = y.W := Calls.lat (inside_sm h _ (hla.aft x.aft) (hlb.aft x.aft) ha hb)
theorem left_lat {w : World} {x : Lat w} {ka kb : Int} {va vb : Value} {la lb : List Pt} {o : Bool} (hla : Prs w va la) (hlb : Prs w vb lb) (h : leftZ la lb = o) :
    Calls Try.prog 34 #[.agg #[.int .i64 ka, va], .agg #[.int .i64 kb, vb]] x.W fun e w' => e = .returned (.bool o) ∧ ∃ y : Lat w, w' = y.W := Calls.lat (left_sm h _ (hla.aft x.aft) (hlb.aft x.aft))
theorem longer_lat {w : World} {x : Lat w} {ka kb ox oy ox' oy' : Int} {va vb : Value} {la lb : List Pt} {o : Bool} (hla : Prs w va la) (hlb : Prs w vb lb) (h : longerZ ka la kb lb = o) (ha : Sm ox oy ka la) (hb : Sm ox' oy' kb lb) :
    Calls Try.prog 43 #[.agg #[.int .i64 ka, va], .agg #[.int .i64 kb, vb]] x.W fun e w' => e = .returned (.bool o) ∧ ∃ y : Lat w, w' = y.W := Calls.lat (longer_sm h _ (hla.aft x.aft) (hlb.aft x.aft) ha hb)

set_option maxRecDepth 100000 in
set_option maxHeartbeats 16000000 in
theorem orders_any (v1 : Value) (l1 : List Int) (w : World) (hl1 : Ints w v1 l1) :
    Calls Try.prog 9 #[v1] w fun e w' => e = .returned (.bool true) ∧ Aft w w' := by
  have hI1 := hl1
  obtain ⟨aa, ca0, rfl, hl1⟩ := hl1
  go_enter Try.func9, Try.ntmps9
  go_wp2_with fail
  refine (figure_any _ l1 w hI1).mono ?_
  rintro e W4 ⟨a, c, R, L, rfl, hB1, hGL, hn, -, hw34⟩
  have hSA := hB1.sh
  have hfld := field_fig 62 62 a L.length c W4
  clear hB1
  go_wp2
  clear hfld
  go_loopw [4] (fun i wr => ∃ r : Nat, r ≤ L.length ∧ i = .int .i64 r ∧ Aft W4 wr) (fun i _ => L.length - (intOf i).toNat)
  case atStart => exact ⟨0, by omega, rfl, Aft.refl _⟩
  case round =>
    obtain ⟨i, hi, rfl, hwi⟩ := hrel
    rcases Nat.lt_or_ge i L.length with hlti | hgei
    · have hii : (i : Int) < L.length := by omega
      obtain ⟨b, off, ka, la, apa, cpa, rfl, hga, HA⟩ := shs_fix hSA hlti
      have ga : Gen ka la := hGL _ (List.mem_of_getElem? hga.out)
      have sa := gen_sm ga
      have hAn := sa.ne
      have o1 := inside_self ga
      have o2 := left_self sa.ne
      have o3 := longer_self ka la
      obtain ⟨W5, hW5⟩ : ∃ W5, W5 = wr := ⟨_, rfl⟩
      subst hW5
      obtain ⟨x1, x2, hb, hpA⟩ := HA.out W5 hwi
      go_upto_region 5 with fail
      refine wp_region_lat W5 (Aft.refl _) (by kernel_rfl) (by kernel_rfl) ?_
      repeat (go_big_quiet_step (first | (go_at_call 40; exact inside_lat (by assumption) (by assumption) (by assumption) (by assumption) (by assumption)) | (go_at_call 34; exact left_lat (by assumption) (by assumption) (by assumption)) | (go_at_call 43; exact longer_lat (by assumption) (by assumption) (by assumption) (by assumption) (by assumption))))
      refine wpQuiet_nil ?_
      intro _ hw'; obtain ⟨z, rfl⟩ := hw'
      have hwz := z.aft
      obtain ⟨W6, hWn⟩ : ∃ W, W = z.W := ⟨_, rfl⟩
      rw [← hWn] at hwz ⊢
      clear hWn z
      replace hwi := hwi.trans hwz
      clear hwz
      clear o1 o2 o3 x1 x2 hb hpA
      go_wp2
      go_loopw [5] (fun j wr => ∃ q : Nat, q ≤ L.length ∧ j = .int .i64 q ∧ Aft W4 wr) (fun j _ => L.length - (intOf j).toNat)
      case atStart => exact ⟨0, by omega, rfl, hwi⟩
      case round =>
        obtain ⟨q, hq, rfl, hwq⟩ := hrel
        rcases Nat.lt_or_ge q L.length with hltq | hgeq
        · have hqi : (q : Int) < L.length := by omega
          obtain ⟨b', off', kb, lb, apb, cpb, e, hgb, HB⟩ := shs_fix hSA hltq
          simp only [Option.some.injEq, Addr.mk.injEq, and_true] at e
          obtain ⟨rfl, rfl⟩ := e
          have gb : Gen kb lb := hGL _ (List.mem_of_getElem? hgb.out)
          have sb := gen_sm gb
          have hBn := sb.ne
          have HBX := hid (@inside_box ka kb la lb gb)
          obtain ⟨o, ho⟩ : ∃ o, insideZ ka la kb lb = o := ⟨_, rfl⟩
          obtain ⟨W7, hW7⟩ : ∃ W7, W7 = wr := ⟨_, rfl⟩
          subst hW7
          obtain ⟨x1, x2, hb, hpA⟩ := HA.out W7 hwq
          obtain ⟨y1, y2, -, hpB⟩ := HB.out W7 hwq
          go_upto_region 10 with fail
          refine wp_region_lat W7 (Aft.refl _) (by kernel_rfl) (by kernel_rfl) ?_
          repeat (go_big_quiet_step (first | (go_at_call 40; exact inside_lat (by assumption) (by assumption) (by assumption) (by assumption) (by assumption))))
          refine wpQuiet_nil ?_
          intro _ hw'; obtain ⟨z, rfl⟩ := hw'
          have hwz := z.aft
          obtain ⟨W8, hWn⟩ : ∃ W, W = z.W := ⟨_, rfl⟩
          rw [← hWn] at hwz ⊢
          clear hWn z
          replace hwq := hwq.trans hwz
          clear hwz
          clear x1 x2 y1 y2 hb hpA hpB
          cases o with
          | false =>
            go_wp2
            refine kLoop9 hSA hGL hn ga gb HA HB hlti hltq _ _ _ _ _ _ _ _ _ _ _ _ _ _ _ _ _ _ _ _ _ _ _ _ _ _ _ _ _ _ _ _ _ _ _ _ _ _ _ _ _ _ _ _ _ _ _ _ _ _ _ _ _ _ _ _ _ _ _ _ _ _ _ _ _ _ _ _ _ _ _ _ _ _ _ _ _ _ _ _ _ _ _ _ _ _ _ _ _ _ _ _ _ _ _ _ _ _ _ _ _ _ _ _ _ _ _ _ _ _ _ _ _ _ _ _ _ _ _ _ _ _ _ _ _ _ _ _ _ _ _ _ _ _ _ _ _ _ _ _ _ _ _ _ _ _ _ _ _ _ _ _ _ _ _ _ _ _ _ _ _ _ _ _ _ _ _ _ _ _ _ _ _ _ _ _ _ _ _ _ _ _ _ _ _ _ _ _ _ _ _ _ _ _ _ _ _ _ _ _ _ _ _ _ _ _ _ _ _ _ _ _ _ _ _ _ _ _ _ _ _ _ _ _ _ _ _ _ _ _ _ _ W8 hwq ?_
            intro u2 u10 u130 u131 u132 u133 u134 u135 u136 u137 u138 u139 u140 u141 u142 u143 u144 u145 u146 u147 u148 u149 u150 u151 u152 u153 u154 u155 u156 u157 u158 u159 u160 u161 u162 u163 u164 u165 u166 u167 u168 u169 u170 u171 u172 u173 u174 u175 u176 u177 u178 u179 u180 u181 u182 u183 u184 u185 u186 u187 u188 u189 u190 u191 u192 u193 u194 u195 u196 u197 u198 u199 u200 u201 u202 u203 u204 u205 u206 u207 u208 u209 u210 u211 u212 u213 u214 u215 u216 u217 u218 u219 u220 u221 u222 u223 u224 u225 u226 u227 u228 u229 u230 u231 u232 u233 WX hwX
            go_wp2
            go_roundw
            case rel => exact ⟨q + 1, by omega, by go_num, hwX⟩
            case measure => simp only [intOf]; omega
          | true =>
            obtain ⟨hl1, hl2', b1, b2, b3, b4⟩ := HBX.out ho
            obtain ⟨⟨⟨lx, ly⟩, hx, hy⟩, hbE⟩ : ∃ x, boxZ la = x := ⟨_, rfl⟩
            obtain ⟨⟨⟨lx', ly'⟩, hx', hy'⟩, hbE'⟩ : ∃ x, boxZ lb = x := ⟨_, rfl⟩
            rw [hbE, hbE'] at b1 b2 b3 b4
            simp only at b1 b2 b3 b4
            obtain ⟨x1, x2, hb, hpA⟩ := HA.out W8 hwq
            go_wp2_with fail
            refine (box_sm hbE W8 hpA).mono ?_
            rintro e W9 ⟨rfl, hw9⟩
            replace hwq := hwq.trans hw9
            clear x1 x2 hb hpA hw9
            obtain ⟨y1, y2, -, hpB⟩ := HB.out W9 hwq
            go_upto_region 12 with fail
            obtain ⟨W10, e10, hw10, hlt10, hbox10⟩ := two_boxes W9 #[.int .i64 lx, .int .i64 ly] #[.int .i64 hx, .int .i64 hy] 57 57
            rw [e10]
            clear e10
            replace hwq := hwq.trans hw10
            have h6 := (hbox10.out W10 (Aft.refl _)).1 0 (.int .i64 lx) rfl
            have h6' := (hbox10.out W10 (Aft.refl _)).1 1 (.int .i64 ly) rfl
            have h7 := (hbox10.out W10 (Aft.refl _)).2 0 (.int .i64 hx) rfl
            have h7' := (hbox10.out W10 (Aft.refl _)).2 1 (.int .i64 hy) rfl
            clear hbox10
            obtain ⟨n7, hn7⟩ : ∃ n, W9.heap.size + 1 = n := ⟨_, rfl⟩
            rw [hn7] at h7 h7' ⊢
            obtain ⟨n6, hn6⟩ : ∃ n, W9.heap.size = n := ⟨_, rfl⟩
            rw [hn6] at h6 h6' ⊢
            clear hn7 hn6 hlt10 y1 y2 hpB hw10
            obtain ⟨y1, y2, hb, hpB⟩ := HB.out W10 hwq
            go_wp2_with fail
            refine (box_sm hbE' W10 hpB).mono ?_
            rintro e W11 ⟨rfl, hw11⟩
            replace hwq := hwq.trans hw11
            replace h6 := (hw11.cell (World.block_lt_of_cell? _ _ h6)).trans h6
            replace h6' := (hw11.cell (World.block_lt_of_cell? _ _ h6')).trans h6'
            replace h7 := (hw11.cell (World.block_lt_of_cell? _ _ h7)).trans h7
            replace h7' := (hw11.cell (World.block_lt_of_cell? _ _ h7')).trans h7'
            clear y1 y2 hpB hw11 hb
            go_upto_region 13 with fail
            obtain ⟨W12, e12, hw12, hlt12, hbox12⟩ := two_boxes W11 #[.int .i64 lx', .int .i64 ly'] #[.int .i64 hx', .int .i64 hy'] 57 57
            rw [e12]
            clear e12
            replace hwq := hwq.trans hw12
            replace h6 := (hw12.cell (World.block_lt_of_cell? _ _ h6)).trans h6
            replace h6' := (hw12.cell (World.block_lt_of_cell? _ _ h6')).trans h6'
            replace h7 := (hw12.cell (World.block_lt_of_cell? _ _ h7)).trans h7
            replace h7' := (hw12.cell (World.block_lt_of_cell? _ _ h7')).trans h7'
            have h8 := (hbox12.out W12 (Aft.refl _)).1 0 (.int .i64 lx') rfl
            have h8' := (hbox12.out W12 (Aft.refl _)).1 1 (.int .i64 ly') rfl
            have h9 := (hbox12.out W12 (Aft.refl _)).2 0 (.int .i64 hx') rfl
            have h9' := (hbox12.out W12 (Aft.refl _)).2 1 (.int .i64 hy') rfl
            clear hbox12
            obtain ⟨n9, hn9⟩ : ∃ n, W11.heap.size + 1 = n := ⟨_, rfl⟩
            rw [hn9] at h9 h9' ⊢
            obtain ⟨n8, hn8⟩ : ∃ n, W11.heap.size = n := ⟨_, rfl⟩
            rw [hn8] at h8 h8' ⊢
            clear hn8 hn9 hlt12 hw12 hbE hbE'
            obtain ⟨x1, x2, hb, hpA⟩ := HA.out W12 hwq
            obtain ⟨y1, y2, -, hpB⟩ := HB.out W12 hwq
            have k6 : n6 < W12.heap.size := World.block_lt_of_cell? _ _ h6
            have k7 : n7 < W12.heap.size := World.block_lt_of_cell? _ _ h7
            have k8 : n8 < W12.heap.size := World.block_lt_of_cell? _ _ h8
            have k9 : n9 < W12.heap.size := World.block_lt_of_cell? _ _ h9
            have c1 : ¬ lx ≤ lx' := by omega
            have c2 : ¬ ly ≤ ly' := by omega
            have c3 : ¬ hx ≥ hx' := by omega
            have c4 : ¬ hy ≥ hy' := by omega
            have c5 : ¬ hx' ≤ hx := by omega
            have c6 : ¬ hy' ≤ hy := by omega
            go_upto_region 13 with fail
            refine wp_region_lat W12 (Aft.refl _) (by kernel_rfl) (by kernel_rfl) ?_
            repeat (go_big_quiet_step (first | (go_at_call 34; exact left_lat (by assumption) (by assumption) (by assumption))))
            refine wpQuiet_nil ?_
            intro _ hw'; obtain ⟨z, rfl⟩ := hw'
            have hwz := z.aft
            obtain ⟨W13, hWn⟩ : ∃ W, W = z.W := ⟨_, rfl⟩
            rw [← hWn] at hwz ⊢
            clear hWn z
            replace hwq := hwq.trans hwz
            clear hwz
            clear x1 x2 y1 y2 hb hpA hpB h6 h6' h7 h7' h8 h8' h9 h9' k6 k7 k8 k9 c1 c2 c3 c4 c5 c6 b1 b2 b3 b4 hl2'
            go_wp2
            refine kLoop9 hSA hGL hn ga gb HA HB hlti hltq _ _ _ _ _ _ _ _ _ _ _ _ _ _ _ _ _ _ _ _ _ _ _ _ _ _ _ _ _ _ _ _ _ _ _ _ _ _ _ _ _ _ _ _ _ _ _ _ _ _ _ _ _ _ _ _ _ _ _ _ _ _ _ _ _ _ _ _ _ _ _ _ _ _ _ _ _ _ _ _ _ _ _ _ _ _ _ _ _ _ _ _ _ _ _ _ _ _ _ _ _ _ _ _ _ _ _ _ _ _ _ _ _ _ _ _ _ _ _ _ _ _ _ _ _ _ _ _ _ _ _ _ _ _ _ _ _ _ _ _ _ _ _ _ _ _ _ _ _ _ _ _ _ _ _ _ _ _ _ _ _ _ _ _ _ _ _ _ _ _ _ _ _ _ _ _ _ _ _ _ _ _ _ _ _ _ _ _ _ _ _ _ _ _ _ _ _ _ _ _ _ _ _ _ _ _ _ _ _ _ _ _ _ _ _ _ _ _ _ _ _ _ _ _ _ _ _ _ _ _ _ _ W13 hwq ?_
            intro u2 u10 u130 u131 u132 u133 u134 u135 u136 u137 u138 u139 u140 u141 u142 u143 u144 u145 u146 u147 u148 u149 u150 u151 u152 u153 u154 u155 u156 u157 u158 u159 u160 u161 u162 u163 u164 u165 u166 u167 u168 u169 u170 u171 u172 u173 u174 u175 u176 u177 u178 u179 u180 u181 u182 u183 u184 u185 u186 u187 u188 u189 u190 u191 u192 u193 u194 u195 u196 u197 u198 u199 u200 u201 u202 u203 u204 u205 u206 u207 u208 u209 u210 u211 u212 u213 u214 u215 u216 u217 u218 u219 u220 u221 u222 u223 u224 u225 u226 u227 u228 u229 u230 u231 u232 u233 WX hwX
            go_wp2
            go_roundw
            case rel => exact ⟨q + 1, by omega, by go_num, hwX⟩
            case measure => simp only [intOf]; omega
        · obtain rfl : q = L.length := by omega
          go_wp2
          go_roundw
          case rel => exact ⟨i + 1, by omega, by go_num, hwq⟩
          case measure => simp only [intOf]; omega
    · obtain rfl : i = L.length := by omega
      go_wp2_with fail
      refine (lives18 wr).mono ?_
      rintro e W5 ⟨rfl, hw5⟩
      have HE := hid ((hw34.trans hwi).trans hw5)
      go_wp2
      go_ret
      exact ⟨rfl, HE.out⟩
end Go.Proofs.Ytokdclbfjlnnjaa
