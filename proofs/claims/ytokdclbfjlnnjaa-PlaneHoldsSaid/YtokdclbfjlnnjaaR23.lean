/- Holds, and the reference's. -/
import Derived.Test.YtokdclbfjlnnjaaR15
import Derived.Test.YtokdclbfjlnnjaaR16
import Derived.Test.YtokdclbfjlnnjaaLa
import Derived.Test.YtokdclbfjlnnjaaJ6
import Derived.Lib.MinMax
namespace Go
open Go.RowKit Go.Maps
section
variable {P : Program} {K E : Nat} (hK : P.underlying K = some (.int .i64))
/-- Block b is a map of at most n entries that holds just what f says, whatever the values. -/
def IV (P : Program) (K : Nat) (w : World) (b n : Nat) (f : Int → Option Value) : Prop :=
  ∃ D : DataW Value, w.ownsMap P K (fun v => some (.held v, [])) b n D ∧ ∀ i z, D.atKey (.int .i64 i) (.held z) = .held ((f i).getD z)
theorem IV.made (w : World) : IV P K (w.alloc (.map #[] 0)) w.heap.size 0 (fun _ => none) :=
  ⟨.map [], World.ownsMap_made _ _ _ _, fun _ _ => rfl⟩
include hK in
theorem IV.put {w : World} {b n : Nat} {f : Int → Option Value} {t : TypeId} (h : IV P K w b n f) (ht : P.underlying t = some (.map K E)) (hn : n < maxLen) (i : Int) (v : Value)
    (hi : -9223372036854775808 ≤ i ∧ i ≤ 9223372036854775807) :
    ∃ w', (Instr.mapUpdate t (.map (some b)) (.int .i64 i) v).run P w = .ok () w' ∧ IV P K w' b (n + 1) (fun j => if j = i then some v else f j) ∧ w.grownBy w' (some b) := by
  obtain ⟨D, h1, h2⟩ := h
  obtain ⟨w', r1, r2, r3⟩ := h1.update (int_keyed hK) ht hn (keyOf_int_mk hK (okKey hi)) (val := v) rfl
  refine ⟨w', r1, ⟨_, r2, fun j z => ?_⟩, r3⟩
  by_cases hj : j = i
  · subst hj
    rw [atKey_put_same h1.isMap (by simp [WideAt.IsKeyLit])]; simp
  · rw [atKey_put_other (by simp [hj]), h2]; simp [hj]
include hK in
theorem IV.look {w : World} {b n : Nat} {f : Int → Option Value} {t : TypeId} {z : Value} (h : IV P K w b n f) (ht : P.underlying t = some (.map K E)) (hz : (zeroValue E).run P w = .ok z w) (i : Int)
    (hi : -9223372036854775808 ≤ i ∧ i ≤ 9223372036854775807) : (Instr.lookup t (.map (some b)) (.int .i64 i) false).run P w = .ok ((f i).getD z) w := by
  obtain ⟨D, h1, h2⟩ := h
  obtain ⟨v, ps, hrun, hat⟩ := h1.lookup (int_keyed hK) ht hz (zd := .held z) (zp := []) rfl (keyOf_int_mk hK (okKey hi))
  rw [h2] at hat
  injection hat with hat
  injection hat with hat
  injection hat with hat
  rw [hrun, hat]
end
end Go
namespace Go.Proofs.Ytokdclbfjlnnjaa
open Go.RowKit Go.BigFrame

def shAt (L : List Sh) (i : Int) : Sh := L.getD i.toNat (0, [])
def holdsZ (W H : Int) (L : List Sh) (kd a b : Int) : Bool × Int :=
  if validZ W H L ≠ 0 then (false, validZ W H L)
  else if ¬ (kd = 2 ∨ kd = 3 ∨ kd = 4) then (false, 1)
  else if a < 0 ∨ b < 0 ∨ (L.length : Int) ≤ a ∨ (L.length : Int) ≤ b then (false, 6)
  else (if kd = 2 then insideZ (shAt L a).1 (shAt L a).2 (shAt L b).1 (shAt L b).2 else if kd = 3 then leftZ (shAt L a).2 (shAt L b).2 else longerZ (shAt L a).1 (shAt L a).2 (shAt L b).1 (shAt L b).2, 0)
theorem shAt_get {L : List Sh} {i : Nat} {s : Sh} (h : L[i]? = some s) : shAt L (i : Int) = s := by
  unfold shAt
  rw [List.getD_eq_getElem?_getD, Int.toNat_natCast, h]
  rfl
theorem eql_nil (w : World) : (binOp .eql 63 .nilFunc .nilFunc).run Try.prog w = .ok (.bool true) w := by kernel_rfl
theorem eql_func (f : Fn) (w : World) : (binOp .eql 63 (.func f #[] #[]) .nilFunc).run Try.prog w = .ok (.bool false) w := by kernel_rfl
attribute [local go_sem] eql_nil eql_func
/-- In valid figures, inside is what the reference says. -/
theorem valid_inside {W H : Int} {L : List Sh} (hv : validZ W H L = 0) (hsc : ShSc L) {s t : Sh} (ht : t ∈ L) : insideZ s.1 s.2 t.1 t.2 = rinsideZ s.1 s.2 t.1 t.2 := by
  refine inside_eq fun hk p _ => ?_
  unfold validZ at hv
  split at hv
  · cases hv
  split at hv
  · cases hv
  split at hv
  · cases hv
  rename_i hsh
  split at hv
  · cases hv
  split at hv
  · cases hv
  rename_i hsi
  have h1 : shapedZ t.1 t.2 = true := by
    rw [Bool.not_eq_true] at hsh
    have := List.any_eq_false.1 hsh t ht
    simpa using this
  have h2 : simpleZ t.1 t.2 = true := by
    rw [Bool.not_eq_true] at hsi
    have := List.any_eq_false.1 hsi t ht
    simpa using this
  rw [hk] at h1 h2 ⊢
  have h3 : 3 ≤ t.2.length := by
    unfold shapedZ at h1
    rw [if_neg (by omega)] at h1
    split at h1
    · cases h1
    · omega
  refine area_within h3 h2 (fun i hi => ?_) (hsc t ht).2 p
  have hn : nSeg 2 t.2 = t.2.length := by unfold nSeg; rw [if_neg (by omega)]; rfl
  unfold shapedZ at h1
  rw [if_neg (by omega), if_neg (by omega), hn] at h1
  simp only [Bool.not_eq_true', List.any_eq_false, List.mem_range, decide_eq_true_eq] at h1
  exact h1 i hi
set_option maxRecDepth 100000 in
set_option maxHeartbeats 8000000 in
theorem holds_any (W H kd bk a b : Int) (v : Value) (L : List Sh) (w : World) (hv : Shs w v L) (hg : GoodL 900 L) (hkd : kOk kd) :
    Calls Try.prog 53 #[.agg #[.int .i64 W, .int .i64 H, v], .agg #[.int .i64 kd, .int .i64 bk, .int .i64 a, .int .i64 b]] w fun e w' => e = .returned (.tuple #[.bool (holdsZ W H L kd a b).1, .int .i64 (holdsZ W H L kd a b).2]) ∧ Aft w w' := by
  have hv0 := hid hv
  obtain ⟨av, cv, R, rfl, hv⟩ := hv
  have hle := hv.le
  clear hv
  have hmm := @run_makeMap Try.prog
  go_enter Try.func53, Try.ntmps53
  go_upto_region 1 with fail
  obtain ⟨W0, eW0, hw0, hlt, hbox⟩ := two_boxes w #[.int .i64 W, .int .i64 H, .slice av L.length cv] #[.int .i64 kd, .int .i64 bk, .int .i64 a, .int .i64 b] 45 76
  rw [eW0]
  clear eW0
  have HB : Hid (∀ X, Aft W0 X → B3 X w.heap.size W H (.slice av L.length cv) ∧ X.cell? ⟨w.heap.size + 1, 0, none⟩ = some (.int .i64 kd) ∧ X.cell? ⟨w.heap.size + 1, 2, none⟩ = some (.int .i64 a) ∧ X.cell? ⟨w.heap.size + 1, 3, none⟩ = some (.int .i64 b)) :=
    hid fun X hX => ⟨⟨(hbox.out X hX).1 0 _ rfl, (hbox.out X hX).1 1 _ rfl, (hbox.out X hX).1 2 _ rfl⟩, (hbox.out X hX).2 0 _ rfl, (hbox.out X hX).2 2 _ rfl, (hbox.out X hX).2 3 _ rfl⟩
  clear hbox
  obtain ⟨n3, hn3⟩ : ∃ n, w.heap.size + 1 = n := ⟨_, rfl⟩
  rw [hn3] at HB ⊢
  obtain ⟨n2, hn2⟩ : ∃ n, w.heap.size = n := ⟨_, rfl⟩
  rw [hn2] at HB ⊢
  have hlt2 : n3 < W0.heap.size := by omega
  clear hn2 hn3 hlt
  have HV := hid (hv0.out.aft hw0)
  obtain ⟨⟨x0, x1, x2⟩, p0, p2, p3⟩ := HB.out W0 (Aft.refl _)
  go_wp2_with fail
  refine (valid_any W H _ L W0 HV.out (hg.sc (by omega)) (fun s hs => (hg s hs).2.2)).mono ?_
  rintro e w1 ⟨rfl, hw1⟩
  clear x0 x1 x2 p0 p2 p3
  have HD := hid (show holdsZ W H L kd a b = if validZ W H L ≠ 0 then (false, validZ W H L)
    else if ¬ (kd = 2 ∨ kd = 3 ∨ kd = 4) then (false, 1)
    else if a < 0 ∨ b < 0 ∨ (L.length : Int) ≤ a ∨ (L.length : Int) ≤ b then (false, 6)
    else (if kd = 2 then insideZ (shAt L a).1 (shAt L a).2 (shAt L b).1 (shAt L b).2 else if kd = 3 then leftZ (shAt L a).2 (shAt L b).2 else longerZ (shAt L a).1 (shAt L a).2 (shAt L b).1 (shAt L b).2, 0) from rfl)
  obtain ⟨o, ho⟩ : ∃ o, validZ W H L = o := ⟨_, rfl⟩
  rw [ho] at HD ⊢
  clear ho
  by_cases ho : o = 0
  case neg =>
    have ho' : (o == 0) = false := by rw [beq_eq_false_iff_ne]; exact ho
    have HQ := hid (show holdsZ W H L kd a b = (false, o) by rw [HD.out, if_pos ho])
    go_wp2
    go_ret2
    exact ⟨by rw [HQ.out]; rfl, hw0.trans hw1⟩
  subst ho
  replace HD := hid (HD.out.trans (if_neg (by simp)))
  obtain ⟨W1, hr1, hi1, hg1⟩ := (IV.made (P := Try.prog) (K := 3) w1).put (t := 130) (E := 63) Try.underlying3 Try.underlying130 (by unfold maxLen; omega) 2 (.func (.func 40) #[] #[]) (by omega)
  obtain ⟨W2, hr2, hi2, hg2⟩ := hi1.put (t := 130) (E := 63) Try.underlying3 Try.underlying130 (by unfold maxLen; omega) 3 (.func (.func 34) #[] #[]) (by omega)
  obtain ⟨W3, hr3, hi3, hg3⟩ := hi2.put (t := 130) (E := 63) Try.underlying3 Try.underlying130 (by unfold maxLen; omega) 4 (.func (.func 43) #[] #[]) (by omega)
  have hr4 := hi3.look (t := 130) (E := 63) (z := .nilFunc) Try.underlying3 Try.underlying130 (by kernel_rfl) kd hkd
  have hs1 := w1.heap.size
  have hwm := (Aft.refl w1).alloc (.map #[] 0)
  have hwa : Aft w1 W3 := ((hwm.grown hg1 (fun j hj => by cases hj; omega)).grown hg2 (fun j hj => by cases hj; omega)).grown hg3 (fun j hj => by cases hj; omega)
  have hw3 := (hw1.trans hwa)
  have hw03 := hw0.trans hw3
  obtain ⟨⟨x0, x1, x2⟩, p0, p2, p3⟩ := HB.out W3 hw3
  clear hwm hwa hg1 hg2 hg3 hi1 hi2 hi3 hs1
  by_cases hk : kd = 2 ∨ kd = 3 ∨ kd = 4
  case neg =>
    have HQ := hid (show holdsZ W H L kd a b = (false, 1) by rw [HD.out, if_pos hk])
    rw [show ((if kd = 4 then some (.func (.func 43) #[] #[]) else if kd = 3 then some (.func (.func 34) #[] #[]) else if kd = 2 then some (.func (.func 40) #[] #[]) else none : Option Value).getD .nilFunc) = .nilFunc by
      rw [if_neg (by omega), if_neg (by omega), if_neg (by omega)]; rfl] at hr4
    clear hk
    go_wp2
    go_ret2
    exact ⟨by rw [HQ.out]; rfl, hw03⟩
  replace HD := hid (HD.out.trans (if_neg (by omega)))
  obtain ⟨mn, hmn⟩ : ∃ m, min a b = m := ⟨_, rfl⟩
  obtain ⟨mx, hmx⟩ : ∃ m, max a b = m := ⟨_, rfl⟩
  by_cases hrg : mn < 0 ∨ (L.length : Int) ≤ mx
  · have HQ := hid (show holdsZ W H L kd a b = (false, 6) by rw [HD.out, if_pos (by omega)])
    rcases hk with rfl | rfl | rfl
    all_goals
      simp only [if_true, if_false, Int.reduceEq, Option.getD_some] at hr4
      by_cases h1 : mn < 0
      · clear hrg
        go_wp2
        go_ret2
        exact ⟨by rw [HQ.out]; rfl, hw03⟩
      · have h2 := hrg.resolve_left h1
        clear hrg
        go_wp2
        go_ret2
        exact ⟨by rw [HQ.out]; rfl, hw03⟩
  · have h1 : ¬ mn < 0 := fun h => hrg (.inl h)
    have h2 : ¬ (L.length : Int) ≤ mx := fun h => hrg (.inr h)
    clear hrg
    obtain ⟨i, rfl⟩ : ∃ i : Nat, a = i := ⟨a.toNat, by omega⟩
    obtain ⟨j, rfl⟩ : ∃ j : Nat, b = j := ⟨b.toNat, by omega⟩
    replace HD := hid (HD.out.trans (if_neg (by omega)))
    have hiL : i < L.length := by omega
    have hjL : j < L.length := by omega
    have hiL' : (i : Int) < L.length := by omega
    have hjL' : (j : Int) < L.length := by omega
    obtain ⟨a1, c1, R1, e1, hat⟩ := (HV.out.aft hw3)
    simp only [Value.slice.injEq, true_and] at e1
    obtain ⟨rfl, rfl⟩ := e1
    obtain ⟨bb, off, ka, pa, aa, ca, rfl, s0, s1, hbb, hxa, hpa⟩ := hat.get hiL
    obtain ⟨b2, off2, kb, pb, ab, cb, e2, t0, t1, -, hxb, hpb⟩ := hat.get hjL
    simp only [Option.some.injEq, Addr.mk.injEq, and_true] at e2
    obtain ⟨rfl, rfl⟩ := e2
    have HPa := hid hpa
    have HPb := hid hpb
    have ga := hid (hg _ (List.mem_of_getElem? hxa.out))
    have gb := hid (hg _ (List.mem_of_getElem? hxb.out))
    have la : pa.length ≤ 1000 := by have := ga.out.1; simp only at this; omega
    have lb : pb.length ≤ 1000 := by have := gb.out.1; simp only at this; omega
    rw [shAt_get hxa.out, shAt_get hxb.out] at HD
    clear hat hpa hpb hle hlt2 hv0
    rcases hk with rfl | rfl | rfl
    all_goals simp only [if_true, if_false, Int.reduceEq, Option.getD_some] at hr4
    · go_upto_region 9 with fail
      refine wp_region_flow _ (Aft.refl _) [FV.is (.func (.func 40) #[] #[]), FV.is (.pointer (some ⟨n2, 2, none⟩)), FV.is (.slice (some ⟨bb, off, none⟩) L.length cv), FV.is (.pointer (some ⟨n3, 2, none⟩)), FV.is (.int .i64 i), FV.is (.pointer (some ⟨bb, off + i * 2, none⟩)), FV.is (.agg #[.int .i64 ka, .slice aa pa.length ca]), FV.is (.pointer (some ⟨n2, 2, none⟩)), FV.is (.slice (some ⟨bb, off, none⟩) L.length cv), FV.is (.pointer (some ⟨n3, 3, none⟩)), FV.is (.int .i64 j), FV.is (.pointer (some ⟨bb, off + j * 2, none⟩)), FV.is (.agg #[.int .i64 kb, .slice ab pb.length cb]), FV.is (.bool (insideZ ka pa kb pb)), FV.is (.bool (insideZ ka pa kb pb)), FV.is (.int .i64 0)]
        [(0, 37), (1, 38), (2, 39), (3, 40), (4, 41), (5, 42), (6, 43), (7, 44), (8, 45), (9, 46), (10, 47), (11, 48), (12, 49), (13, 50), (14, 4), (15, 5)]
        [[], [], [(1, 38)], [], [(3, 40)], [(2, 39), (4, 41)], [(5, 42)], [], [(7, 44)], [], [(9, 46)], [(8, 45), (10, 47)], [(11, 48)], [(0, 37), (6, 43), (12, 49)], [(13, 50)], []] (by kernel_rfl) (by kernel_rfl) ?_ ?_
      · refine flowObs_cons (fun W hW => flowOb_nil ?_) ?_
        · go_wp2
          exact ⟨rfl, Aft.refl W⟩
        refine flowObs_cons (fun W hW => flowOb_nil ?_) ?_
        · go_wp2
          exact ⟨rfl, Aft.refl W⟩
        refine flowObs_cons (fun W hW => flowOb_cons fun v0 h0 => flowOb_nil ?_) ?_
        · obtain rfl := h0
          have x2W := (hW.cell (World.block_lt_of_cell? _ _ x2)).trans x2
          have p2W := (hW.cell (World.block_lt_of_cell? _ _ p2)).trans p2
          have p3W := (hW.cell (World.block_lt_of_cell? _ _ p3)).trans p3
          have s0W := (hW.cell (World.block_lt_of_cell? _ _ s0)).trans s0
          have s1W := (hW.cell (World.block_lt_of_cell? _ _ s1)).trans s1
          have t0W := (hW.cell (World.block_lt_of_cell? _ _ t0)).trans t0
          have t1W := (hW.cell (World.block_lt_of_cell? _ _ t1)).trans t1
          go_wp2
          exact ⟨rfl, Aft.refl W⟩
        refine flowObs_cons (fun W hW => flowOb_nil ?_) ?_
        · go_wp2
          exact ⟨rfl, Aft.refl W⟩
        refine flowObs_cons (fun W hW => flowOb_cons fun v0 h0 => flowOb_nil ?_) ?_
        · obtain rfl := h0
          have x2W := (hW.cell (World.block_lt_of_cell? _ _ x2)).trans x2
          have p2W := (hW.cell (World.block_lt_of_cell? _ _ p2)).trans p2
          have p3W := (hW.cell (World.block_lt_of_cell? _ _ p3)).trans p3
          have s0W := (hW.cell (World.block_lt_of_cell? _ _ s0)).trans s0
          have s1W := (hW.cell (World.block_lt_of_cell? _ _ s1)).trans s1
          have t0W := (hW.cell (World.block_lt_of_cell? _ _ t0)).trans t0
          have t1W := (hW.cell (World.block_lt_of_cell? _ _ t1)).trans t1
          go_wp2
          exact ⟨rfl, Aft.refl W⟩
        refine flowObs_cons (fun W hW => flowOb_cons fun v0 h0 => flowOb_cons fun v1 h1 => flowOb_nil ?_) ?_
        · obtain rfl := h0
          obtain rfl := h1
          go_wp2
          exact ⟨rfl, Aft.refl W⟩
        refine flowObs_cons (fun W hW => flowOb_cons fun v0 h0 => flowOb_nil ?_) ?_
        · obtain rfl := h0
          have x2W := (hW.cell (World.block_lt_of_cell? _ _ x2)).trans x2
          have p2W := (hW.cell (World.block_lt_of_cell? _ _ p2)).trans p2
          have p3W := (hW.cell (World.block_lt_of_cell? _ _ p3)).trans p3
          have s0W := (hW.cell (World.block_lt_of_cell? _ _ s0)).trans s0
          have s1W := (hW.cell (World.block_lt_of_cell? _ _ s1)).trans s1
          have t0W := (hW.cell (World.block_lt_of_cell? _ _ t0)).trans t0
          have t1W := (hW.cell (World.block_lt_of_cell? _ _ t1)).trans t1
          go_wp2
          exact ⟨rfl, Aft.refl W⟩
        refine flowObs_cons (fun W hW => flowOb_nil ?_) ?_
        · go_wp2
          exact ⟨rfl, Aft.refl W⟩
        refine flowObs_cons (fun W hW => flowOb_cons fun v0 h0 => flowOb_nil ?_) ?_
        · obtain rfl := h0
          have x2W := (hW.cell (World.block_lt_of_cell? _ _ x2)).trans x2
          have p2W := (hW.cell (World.block_lt_of_cell? _ _ p2)).trans p2
          have p3W := (hW.cell (World.block_lt_of_cell? _ _ p3)).trans p3
          have s0W := (hW.cell (World.block_lt_of_cell? _ _ s0)).trans s0
          have s1W := (hW.cell (World.block_lt_of_cell? _ _ s1)).trans s1
          have t0W := (hW.cell (World.block_lt_of_cell? _ _ t0)).trans t0
          have t1W := (hW.cell (World.block_lt_of_cell? _ _ t1)).trans t1
          go_wp2
          exact ⟨rfl, Aft.refl W⟩
        refine flowObs_cons (fun W hW => flowOb_nil ?_) ?_
        · go_wp2
          exact ⟨rfl, Aft.refl W⟩
        refine flowObs_cons (fun W hW => flowOb_cons fun v0 h0 => flowOb_nil ?_) ?_
        · obtain rfl := h0
          have x2W := (hW.cell (World.block_lt_of_cell? _ _ x2)).trans x2
          have p2W := (hW.cell (World.block_lt_of_cell? _ _ p2)).trans p2
          have p3W := (hW.cell (World.block_lt_of_cell? _ _ p3)).trans p3
          have s0W := (hW.cell (World.block_lt_of_cell? _ _ s0)).trans s0
          have s1W := (hW.cell (World.block_lt_of_cell? _ _ s1)).trans s1
          have t0W := (hW.cell (World.block_lt_of_cell? _ _ t0)).trans t0
          have t1W := (hW.cell (World.block_lt_of_cell? _ _ t1)).trans t1
          go_wp2
          exact ⟨rfl, Aft.refl W⟩
        refine flowObs_cons (fun W hW => flowOb_cons fun v0 h0 => flowOb_cons fun v1 h1 => flowOb_nil ?_) ?_
        · obtain rfl := h0
          obtain rfl := h1
          go_wp2
          exact ⟨rfl, Aft.refl W⟩
        refine flowObs_cons (fun W hW => flowOb_cons fun v0 h0 => flowOb_nil ?_) ?_
        · obtain rfl := h0
          have x2W := (hW.cell (World.block_lt_of_cell? _ _ x2)).trans x2
          have p2W := (hW.cell (World.block_lt_of_cell? _ _ p2)).trans p2
          have p3W := (hW.cell (World.block_lt_of_cell? _ _ p3)).trans p3
          have s0W := (hW.cell (World.block_lt_of_cell? _ _ s0)).trans s0
          have s1W := (hW.cell (World.block_lt_of_cell? _ _ s1)).trans s1
          have t0W := (hW.cell (World.block_lt_of_cell? _ _ t0)).trans t0
          have t1W := (hW.cell (World.block_lt_of_cell? _ _ t1)).trans t1
          go_wp2
          exact ⟨rfl, Aft.refl W⟩
        refine flowObs_cons (fun W hW => flowOb_cons fun v0 h0 => flowOb_cons fun v1 h1 => flowOb_cons fun v2 h2 => flowOb_nil ?_) ?_
        · obtain rfl := h0
          obtain rfl := h1
          obtain rfl := h2
          go_wp2_with fail
          refine (inside_any ka kb _ _ pa pb W ⟨_, _, rfl, HPa.out.aft hW⟩ ⟨_, _, rfl, HPb.out.aft hW⟩ la lb ga.out.2.1 gb.out.2.1).mono ?_
          rintro e W' ⟨rfl, hw'⟩
          go_wp2
          exact rfl
        refine flowObs_cons (fun W hW => flowOb_cons fun v0 h0 => flowOb_nil ?_) ?_
        · obtain rfl := h0
          go_wp2
          exact ⟨rfl, Aft.refl W⟩
        refine flowObs_cons (fun W hW => flowOb_nil ?_) flowObs_nil
        · go_wp2
          exact ⟨rfl, Aft.refl W⟩
      intro U hU
      iterate 16 refine flowEnd_cons fun _ h => ?_; obtain rfl := h
      refine flowEnd_nil ?_
      go_wp2
      go_ret2
      exact ⟨by rw [HD.out]; rfl, hw03.trans hU⟩
    · go_upto_region 9 with fail
      refine wp_region_flow _ (Aft.refl _) [FV.is (.func (.func 34) #[] #[]), FV.is (.pointer (some ⟨n2, 2, none⟩)), FV.is (.slice (some ⟨bb, off, none⟩) L.length cv), FV.is (.pointer (some ⟨n3, 2, none⟩)), FV.is (.int .i64 i), FV.is (.pointer (some ⟨bb, off + i * 2, none⟩)), FV.is (.agg #[.int .i64 ka, .slice aa pa.length ca]), FV.is (.pointer (some ⟨n2, 2, none⟩)), FV.is (.slice (some ⟨bb, off, none⟩) L.length cv), FV.is (.pointer (some ⟨n3, 3, none⟩)), FV.is (.int .i64 j), FV.is (.pointer (some ⟨bb, off + j * 2, none⟩)), FV.is (.agg #[.int .i64 kb, .slice ab pb.length cb]), FV.is (.bool (leftZ pa pb)), FV.is (.bool (leftZ pa pb)), FV.is (.int .i64 0)]
        [(0, 37), (1, 38), (2, 39), (3, 40), (4, 41), (5, 42), (6, 43), (7, 44), (8, 45), (9, 46), (10, 47), (11, 48), (12, 49), (13, 50), (14, 4), (15, 5)]
        [[], [], [(1, 38)], [], [(3, 40)], [(2, 39), (4, 41)], [(5, 42)], [], [(7, 44)], [], [(9, 46)], [(8, 45), (10, 47)], [(11, 48)], [(0, 37), (6, 43), (12, 49)], [(13, 50)], []] (by kernel_rfl) (by kernel_rfl) ?_ ?_
      · refine flowObs_cons (fun W hW => flowOb_nil ?_) ?_
        · go_wp2
          exact ⟨rfl, Aft.refl W⟩
        refine flowObs_cons (fun W hW => flowOb_nil ?_) ?_
        · go_wp2
          exact ⟨rfl, Aft.refl W⟩
        refine flowObs_cons (fun W hW => flowOb_cons fun v0 h0 => flowOb_nil ?_) ?_
        · obtain rfl := h0
          have x2W := (hW.cell (World.block_lt_of_cell? _ _ x2)).trans x2
          have p2W := (hW.cell (World.block_lt_of_cell? _ _ p2)).trans p2
          have p3W := (hW.cell (World.block_lt_of_cell? _ _ p3)).trans p3
          have s0W := (hW.cell (World.block_lt_of_cell? _ _ s0)).trans s0
          have s1W := (hW.cell (World.block_lt_of_cell? _ _ s1)).trans s1
          have t0W := (hW.cell (World.block_lt_of_cell? _ _ t0)).trans t0
          have t1W := (hW.cell (World.block_lt_of_cell? _ _ t1)).trans t1
          go_wp2
          exact ⟨rfl, Aft.refl W⟩
        refine flowObs_cons (fun W hW => flowOb_nil ?_) ?_
        · go_wp2
          exact ⟨rfl, Aft.refl W⟩
        refine flowObs_cons (fun W hW => flowOb_cons fun v0 h0 => flowOb_nil ?_) ?_
        · obtain rfl := h0
          have x2W := (hW.cell (World.block_lt_of_cell? _ _ x2)).trans x2
          have p2W := (hW.cell (World.block_lt_of_cell? _ _ p2)).trans p2
          have p3W := (hW.cell (World.block_lt_of_cell? _ _ p3)).trans p3
          have s0W := (hW.cell (World.block_lt_of_cell? _ _ s0)).trans s0
          have s1W := (hW.cell (World.block_lt_of_cell? _ _ s1)).trans s1
          have t0W := (hW.cell (World.block_lt_of_cell? _ _ t0)).trans t0
          have t1W := (hW.cell (World.block_lt_of_cell? _ _ t1)).trans t1
          go_wp2
          exact ⟨rfl, Aft.refl W⟩
        refine flowObs_cons (fun W hW => flowOb_cons fun v0 h0 => flowOb_cons fun v1 h1 => flowOb_nil ?_) ?_
        · obtain rfl := h0
          obtain rfl := h1
          go_wp2
          exact ⟨rfl, Aft.refl W⟩
        refine flowObs_cons (fun W hW => flowOb_cons fun v0 h0 => flowOb_nil ?_) ?_
        · obtain rfl := h0
          have x2W := (hW.cell (World.block_lt_of_cell? _ _ x2)).trans x2
          have p2W := (hW.cell (World.block_lt_of_cell? _ _ p2)).trans p2
          have p3W := (hW.cell (World.block_lt_of_cell? _ _ p3)).trans p3
          have s0W := (hW.cell (World.block_lt_of_cell? _ _ s0)).trans s0
          have s1W := (hW.cell (World.block_lt_of_cell? _ _ s1)).trans s1
          have t0W := (hW.cell (World.block_lt_of_cell? _ _ t0)).trans t0
          have t1W := (hW.cell (World.block_lt_of_cell? _ _ t1)).trans t1
          go_wp2
          exact ⟨rfl, Aft.refl W⟩
        refine flowObs_cons (fun W hW => flowOb_nil ?_) ?_
        · go_wp2
          exact ⟨rfl, Aft.refl W⟩
        refine flowObs_cons (fun W hW => flowOb_cons fun v0 h0 => flowOb_nil ?_) ?_
        · obtain rfl := h0
          have x2W := (hW.cell (World.block_lt_of_cell? _ _ x2)).trans x2
          have p2W := (hW.cell (World.block_lt_of_cell? _ _ p2)).trans p2
          have p3W := (hW.cell (World.block_lt_of_cell? _ _ p3)).trans p3
          have s0W := (hW.cell (World.block_lt_of_cell? _ _ s0)).trans s0
          have s1W := (hW.cell (World.block_lt_of_cell? _ _ s1)).trans s1
          have t0W := (hW.cell (World.block_lt_of_cell? _ _ t0)).trans t0
          have t1W := (hW.cell (World.block_lt_of_cell? _ _ t1)).trans t1
          go_wp2
          exact ⟨rfl, Aft.refl W⟩
        refine flowObs_cons (fun W hW => flowOb_nil ?_) ?_
        · go_wp2
          exact ⟨rfl, Aft.refl W⟩
        refine flowObs_cons (fun W hW => flowOb_cons fun v0 h0 => flowOb_nil ?_) ?_
        · obtain rfl := h0
          have x2W := (hW.cell (World.block_lt_of_cell? _ _ x2)).trans x2
          have p2W := (hW.cell (World.block_lt_of_cell? _ _ p2)).trans p2
          have p3W := (hW.cell (World.block_lt_of_cell? _ _ p3)).trans p3
          have s0W := (hW.cell (World.block_lt_of_cell? _ _ s0)).trans s0
          have s1W := (hW.cell (World.block_lt_of_cell? _ _ s1)).trans s1
          have t0W := (hW.cell (World.block_lt_of_cell? _ _ t0)).trans t0
          have t1W := (hW.cell (World.block_lt_of_cell? _ _ t1)).trans t1
          go_wp2
          exact ⟨rfl, Aft.refl W⟩
        refine flowObs_cons (fun W hW => flowOb_cons fun v0 h0 => flowOb_cons fun v1 h1 => flowOb_nil ?_) ?_
        · obtain rfl := h0
          obtain rfl := h1
          go_wp2
          exact ⟨rfl, Aft.refl W⟩
        refine flowObs_cons (fun W hW => flowOb_cons fun v0 h0 => flowOb_nil ?_) ?_
        · obtain rfl := h0
          have x2W := (hW.cell (World.block_lt_of_cell? _ _ x2)).trans x2
          have p2W := (hW.cell (World.block_lt_of_cell? _ _ p2)).trans p2
          have p3W := (hW.cell (World.block_lt_of_cell? _ _ p3)).trans p3
          have s0W := (hW.cell (World.block_lt_of_cell? _ _ s0)).trans s0
          have s1W := (hW.cell (World.block_lt_of_cell? _ _ s1)).trans s1
          have t0W := (hW.cell (World.block_lt_of_cell? _ _ t0)).trans t0
          have t1W := (hW.cell (World.block_lt_of_cell? _ _ t1)).trans t1
          go_wp2
          exact ⟨rfl, Aft.refl W⟩
        refine flowObs_cons (fun W hW => flowOb_cons fun v0 h0 => flowOb_cons fun v1 h1 => flowOb_cons fun v2 h2 => flowOb_nil ?_) ?_
        · obtain rfl := h0
          obtain rfl := h1
          obtain rfl := h2
          go_wp2_with fail
          refine (left_any ka kb _ _ pa pb W ⟨_, _, rfl, HPa.out.aft hW⟩ ⟨_, _, rfl, HPb.out.aft hW⟩).mono ?_
          rintro e W' ⟨rfl, hw'⟩
          go_wp2
          exact rfl
        refine flowObs_cons (fun W hW => flowOb_cons fun v0 h0 => flowOb_nil ?_) ?_
        · obtain rfl := h0
          go_wp2
          exact ⟨rfl, Aft.refl W⟩
        refine flowObs_cons (fun W hW => flowOb_nil ?_) flowObs_nil
        · go_wp2
          exact ⟨rfl, Aft.refl W⟩
      intro U hU
      iterate 16 refine flowEnd_cons fun _ h => ?_; obtain rfl := h
      refine flowEnd_nil ?_
      go_wp2
      go_ret2
      exact ⟨by rw [HD.out]; rfl, hw03.trans hU⟩
    · go_upto_region 9 with fail
      refine wp_region_flow _ (Aft.refl _) [FV.is (.func (.func 43) #[] #[]), FV.is (.pointer (some ⟨n2, 2, none⟩)), FV.is (.slice (some ⟨bb, off, none⟩) L.length cv), FV.is (.pointer (some ⟨n3, 2, none⟩)), FV.is (.int .i64 i), FV.is (.pointer (some ⟨bb, off + i * 2, none⟩)), FV.is (.agg #[.int .i64 ka, .slice aa pa.length ca]), FV.is (.pointer (some ⟨n2, 2, none⟩)), FV.is (.slice (some ⟨bb, off, none⟩) L.length cv), FV.is (.pointer (some ⟨n3, 3, none⟩)), FV.is (.int .i64 j), FV.is (.pointer (some ⟨bb, off + j * 2, none⟩)), FV.is (.agg #[.int .i64 kb, .slice ab pb.length cb]), FV.is (.bool (longerZ ka pa kb pb)), FV.is (.bool (longerZ ka pa kb pb)), FV.is (.int .i64 0)]
        [(0, 37), (1, 38), (2, 39), (3, 40), (4, 41), (5, 42), (6, 43), (7, 44), (8, 45), (9, 46), (10, 47), (11, 48), (12, 49), (13, 50), (14, 4), (15, 5)]
        [[], [], [(1, 38)], [], [(3, 40)], [(2, 39), (4, 41)], [(5, 42)], [], [(7, 44)], [], [(9, 46)], [(8, 45), (10, 47)], [(11, 48)], [(0, 37), (6, 43), (12, 49)], [(13, 50)], []] (by kernel_rfl) (by kernel_rfl) ?_ ?_
      · refine flowObs_cons (fun W hW => flowOb_nil ?_) ?_
        · go_wp2
          exact ⟨rfl, Aft.refl W⟩
        refine flowObs_cons (fun W hW => flowOb_nil ?_) ?_
        · go_wp2
          exact ⟨rfl, Aft.refl W⟩
        refine flowObs_cons (fun W hW => flowOb_cons fun v0 h0 => flowOb_nil ?_) ?_
        · obtain rfl := h0
          have x2W := (hW.cell (World.block_lt_of_cell? _ _ x2)).trans x2
          have p2W := (hW.cell (World.block_lt_of_cell? _ _ p2)).trans p2
          have p3W := (hW.cell (World.block_lt_of_cell? _ _ p3)).trans p3
          have s0W := (hW.cell (World.block_lt_of_cell? _ _ s0)).trans s0
          have s1W := (hW.cell (World.block_lt_of_cell? _ _ s1)).trans s1
          have t0W := (hW.cell (World.block_lt_of_cell? _ _ t0)).trans t0
          have t1W := (hW.cell (World.block_lt_of_cell? _ _ t1)).trans t1
          go_wp2
          exact ⟨rfl, Aft.refl W⟩
        refine flowObs_cons (fun W hW => flowOb_nil ?_) ?_
        · go_wp2
          exact ⟨rfl, Aft.refl W⟩
        refine flowObs_cons (fun W hW => flowOb_cons fun v0 h0 => flowOb_nil ?_) ?_
        · obtain rfl := h0
          have x2W := (hW.cell (World.block_lt_of_cell? _ _ x2)).trans x2
          have p2W := (hW.cell (World.block_lt_of_cell? _ _ p2)).trans p2
          have p3W := (hW.cell (World.block_lt_of_cell? _ _ p3)).trans p3
          have s0W := (hW.cell (World.block_lt_of_cell? _ _ s0)).trans s0
          have s1W := (hW.cell (World.block_lt_of_cell? _ _ s1)).trans s1
          have t0W := (hW.cell (World.block_lt_of_cell? _ _ t0)).trans t0
          have t1W := (hW.cell (World.block_lt_of_cell? _ _ t1)).trans t1
          go_wp2
          exact ⟨rfl, Aft.refl W⟩
        refine flowObs_cons (fun W hW => flowOb_cons fun v0 h0 => flowOb_cons fun v1 h1 => flowOb_nil ?_) ?_
        · obtain rfl := h0
          obtain rfl := h1
          go_wp2
          exact ⟨rfl, Aft.refl W⟩
        refine flowObs_cons (fun W hW => flowOb_cons fun v0 h0 => flowOb_nil ?_) ?_
        · obtain rfl := h0
          have x2W := (hW.cell (World.block_lt_of_cell? _ _ x2)).trans x2
          have p2W := (hW.cell (World.block_lt_of_cell? _ _ p2)).trans p2
          have p3W := (hW.cell (World.block_lt_of_cell? _ _ p3)).trans p3
          have s0W := (hW.cell (World.block_lt_of_cell? _ _ s0)).trans s0
          have s1W := (hW.cell (World.block_lt_of_cell? _ _ s1)).trans s1
          have t0W := (hW.cell (World.block_lt_of_cell? _ _ t0)).trans t0
          have t1W := (hW.cell (World.block_lt_of_cell? _ _ t1)).trans t1
          go_wp2
          exact ⟨rfl, Aft.refl W⟩
        refine flowObs_cons (fun W hW => flowOb_nil ?_) ?_
        · go_wp2
          exact ⟨rfl, Aft.refl W⟩
        refine flowObs_cons (fun W hW => flowOb_cons fun v0 h0 => flowOb_nil ?_) ?_
        · obtain rfl := h0
          have x2W := (hW.cell (World.block_lt_of_cell? _ _ x2)).trans x2
          have p2W := (hW.cell (World.block_lt_of_cell? _ _ p2)).trans p2
          have p3W := (hW.cell (World.block_lt_of_cell? _ _ p3)).trans p3
          have s0W := (hW.cell (World.block_lt_of_cell? _ _ s0)).trans s0
          have s1W := (hW.cell (World.block_lt_of_cell? _ _ s1)).trans s1
          have t0W := (hW.cell (World.block_lt_of_cell? _ _ t0)).trans t0
          have t1W := (hW.cell (World.block_lt_of_cell? _ _ t1)).trans t1
          go_wp2
          exact ⟨rfl, Aft.refl W⟩
        refine flowObs_cons (fun W hW => flowOb_nil ?_) ?_
        · go_wp2
          exact ⟨rfl, Aft.refl W⟩
        refine flowObs_cons (fun W hW => flowOb_cons fun v0 h0 => flowOb_nil ?_) ?_
        · obtain rfl := h0
          have x2W := (hW.cell (World.block_lt_of_cell? _ _ x2)).trans x2
          have p2W := (hW.cell (World.block_lt_of_cell? _ _ p2)).trans p2
          have p3W := (hW.cell (World.block_lt_of_cell? _ _ p3)).trans p3
          have s0W := (hW.cell (World.block_lt_of_cell? _ _ s0)).trans s0
          have s1W := (hW.cell (World.block_lt_of_cell? _ _ s1)).trans s1
          have t0W := (hW.cell (World.block_lt_of_cell? _ _ t0)).trans t0
          have t1W := (hW.cell (World.block_lt_of_cell? _ _ t1)).trans t1
          go_wp2
          exact ⟨rfl, Aft.refl W⟩
        refine flowObs_cons (fun W hW => flowOb_cons fun v0 h0 => flowOb_cons fun v1 h1 => flowOb_nil ?_) ?_
        · obtain rfl := h0
          obtain rfl := h1
          go_wp2
          exact ⟨rfl, Aft.refl W⟩
        refine flowObs_cons (fun W hW => flowOb_cons fun v0 h0 => flowOb_nil ?_) ?_
        · obtain rfl := h0
          have x2W := (hW.cell (World.block_lt_of_cell? _ _ x2)).trans x2
          have p2W := (hW.cell (World.block_lt_of_cell? _ _ p2)).trans p2
          have p3W := (hW.cell (World.block_lt_of_cell? _ _ p3)).trans p3
          have s0W := (hW.cell (World.block_lt_of_cell? _ _ s0)).trans s0
          have s1W := (hW.cell (World.block_lt_of_cell? _ _ s1)).trans s1
          have t0W := (hW.cell (World.block_lt_of_cell? _ _ t0)).trans t0
          have t1W := (hW.cell (World.block_lt_of_cell? _ _ t1)).trans t1
          go_wp2
          exact ⟨rfl, Aft.refl W⟩
        refine flowObs_cons (fun W hW => flowOb_cons fun v0 h0 => flowOb_cons fun v1 h1 => flowOb_cons fun v2 h2 => flowOb_nil ?_) ?_
        · obtain rfl := h0
          obtain rfl := h1
          obtain rfl := h2
          go_wp2_with fail
          refine (longer_any ka kb _ _ pa pb W ⟨_, _, rfl, HPa.out.aft hW⟩ ⟨_, _, rfl, HPb.out.aft hW⟩ la lb ga.out.2.1 gb.out.2.1).mono ?_
          rintro e W' ⟨rfl, hw'⟩
          go_wp2
          exact rfl
        refine flowObs_cons (fun W hW => flowOb_cons fun v0 h0 => flowOb_nil ?_) ?_
        · obtain rfl := h0
          go_wp2
          exact ⟨rfl, Aft.refl W⟩
        refine flowObs_cons (fun W hW => flowOb_nil ?_) flowObs_nil
        · go_wp2
          exact ⟨rfl, Aft.refl W⟩
      intro U hU
      iterate 16 refine flowEnd_cons fun _ h => ?_; obtain rfl := h
      refine flowEnd_nil ?_
      go_wp2
      go_ret2
      exact ⟨by rw [HD.out]; rfl, hw03.trans hU⟩
end Go.Proofs.Ytokdclbfjlnnjaa
