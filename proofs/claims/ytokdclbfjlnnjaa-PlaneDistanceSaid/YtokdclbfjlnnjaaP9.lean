/- The program's Inside: a loop over segments within a loop over segments. -/
import Derived.Test.YtokdclbfjlnnjaaS3
import Derived.Test.YtokdclbfjlnnjaaP7
namespace Go.Proofs.Ytokdclbfjlnnjaa
open Go.RowKit Go.BigFrame
attribute [local go_sem] Oper.semAt_some

section
variable {X : Nat → Prop} {w₀ w : World} {Bs : Nat} {k : Int} {vp : Value} {l : List Pt}
/-- A loop over the segments of a shape, within a round of the loop y₀. -/
theorem wpIn_segs {y₀ : Nat} {r₀ : Loop} {g : Operand} {p : Tmp} {assign body : Code} {Q : Exit → Act → World → Prop} {a : Act}
    (hl₀ : w.heap[y₀]? = some (.loop r₀))
    (hP : Prs w₀ vp l) (hw : w₀.heap.size ≤ w.heap.size) (hsm : l.length ≤ 1000) (hB : ShBox w Bs k vp l) (hX : ∀ j, X j → w₀.heap.size ≤ j ∧ j < w.heap.size ∧ j ≠ Bs)
    (hg : a.eval g = .func (.func 116) #[] #[.pointer (some ⟨Bs, 0, none⟩)])
    (C : List Nat → World → Prop) (Cx : Code → List Nat → World → Prop) (hC : OnX X C) (hCx : ∀ c, OnX X (Cx c)) (h0 : C [] w) (mk : Nat → Int → Int → Int → Int → Act)
    (hassign : ∀ (y : Nat) (ax ay bx by_ : Int) (W : World) (K : Act → World → Prop), (∀ Bx W', Aft W W' → W.heap.size ≤ Bx → B4 W' Bx ax ay bx by_ → K (mk Bx ax ay bx by_) W') →
      assign.wpIn (Fence.wide.inRound y) 5 Try.prog (Exit.then K (fun _ _ _ => False)) { tmps := a.tmps.setIfInBounds p (.agg #[.int .i64 ax, .int .i64 ay, .int .i64 bx, .int .i64 by_]), defers := [] } W)
    (hbody : ∀ (y : Nat) (pre : List Nat) (i Bx : Nat) (ax ay bx by_ : Int) (W : World), Hid (sgZ l i = ((ax, ay), (bx, by_))) → w.heap.size ≤ y → (∃ r, W.heap[y]? = some (.loop r)) → Kn w.heap.size X w W → C pre W → w.heap.size ≤ Bx → B4 W Bx ax ay bx by_ → pre.length < nSeg k l →
      body.wpIn (Fence.wide.inRound y) 5 Try.prog (segPost X C Cx (pre ++ [i]) W) (mk Bx ax ay bx by_) W)
    (hdone : ∀ (W : World), Kn w.heap.size X w W → C (List.range (nSeg k l)) W → Q .normal a W)
    (hstop : ∀ (c : Code) (m : Nat) (W : World), m ≤ nSeg k l → Kn w.heap.size X w W → Cx c (List.range m) W → c.wpIn (Fence.wide.inRound y₀) 7 Try.prog Q a W) :
    (Code.rangeFunc g #[p] assign body).wpIn (Fence.wide.inRound y₀) 7 Try.prog Q a w := by
  have hXn : ∀ j, X j → j < w.heap.size := fun j h => (hX j h).2.1
  have hBs := World.block_lt_of_cell? _ _ hB.kind
  refine wpIn_rangeFunc_ownN (F := Fence.wide.inRound y₀) (n := 7) (l₀ := y₀) (r₀ := r₀) rfl hl₀ (by omega) (gf := 116) (lb := #[.pointer (some ⟨Bs, 0, none⟩)]) hg trivial (Go.Proofs.enters_of Try.func116 (by kernel_rfl) rfl)
    ((segs1_any 6 (by omega) k l vp Bs (Kn w.heap.size X) w hB hsm (kn_box hP hw hX hBs)).inRound y₀) (fun h k => h.trans k) kn_b (Below.refl _ _) (fun _ => rfl)
    (fun s W => Kn w.heap.size X w W ∧ C s W) (fun c s W => Kn w.heap.size X w W ∧ Cx c s W) (own_kn hXn hC) (fun c => own_kn hXn (hCx c)) ⟨Kn.refl _ _ _, h0⟩ (SegAt mk w l) (segAt_own mk) ?_ ?_ ?_ ?_
  · intro y pre i W K hI hK
    have e : (#[p].zip #[segV (sgZ l i)]).foldl (fun t (x : Tmp × Value) => t.setIfInBounds x.1 x.2) a.tmps = a.tmps.setIfInBounds p (segV (sgZ l i)) := by simp
    refine (show _ from e ▸ hassign y _ _ _ _ W K fun Bx W' h1 h2 h3 => ?_)
    have hkx : Kx X W W' := aft_kx h1
    refine hK _ _ (hkx.keeps hXn) (hkx.kn hI.1.size) ⟨hI.1.trans (hkx.kn hI.1.size), hC _ _ _ hI.2 fun j hx => h1.block j (by have := hI.1.size; have := hXn j hx; omega)⟩ ⟨Bx, by have := hI.1.size; omega, h3, rfl⟩
  · rintro y pre i a' W hy hr ⟨hI, hC'⟩ ⟨Bx, hBx, h4, rfl⟩ hlen
    exact wpIn_mono (hbody y pre i Bx _ _ _ _ W rfl hy hr hI hC' hBx h4 hlen) (segPost_own hXn hI)
  · rintro xs W rfl ⟨hI, hC'⟩
    exact hdone W hI hC'
  · rintro c pre W ⟨m, hm, rfl⟩ ⟨hI, hC'⟩
    exact hstop c m W hm hI hC'
end
set_option maxHeartbeats 400000 in
theorem pindex_any (v : Value) (l : List (Int × Int)) (F : Nat) (caps : Array Value) (g : Int × Int → Bool) (w : World) (hl : Prs w v l)
    (hF : ∀ args w, (callFunc F args).run Try.prog w = .ok (.enter F args) w) (hg : Asks Try.prog F caps l pr g w) :
    Calls Try.prog 117 #[v, .func (.func F) #[] caps] w fun e w' => e = .returned (.int .i64 (idxI (l.findIdx? g))) ∧ Aft w w' := by
  obtain ⟨a, c, rfl, hl⟩ := hl
  have hn := hl.le
  have Hg := hid hg; clear hg
  go_enter Try.func117, Try.ntmps117
  go_wp2
  go_loopw [8, 5] (fun i _ wr => ∃ k : Nat, k ≤ l.length ∧ i = .int .i64 k ∧ Hid (∀ j, j < k → ∀ x, l[j]? = some x → g x = false) ∧ Aft w wr) (fun i _ _ => l.length - (intOf i).toNat)
  case atStart => exact ⟨0, by omega, rfl, fun j hj => by omega, Aft.refl _⟩
  case round =>
    obtain ⟨k, hk, rfl, ht, hw⟩ := hrel
    by_cases hlt : k < l.length
    · obtain ⟨b, off, x, y, rfl, hc1, hc2, hb, hx, _, _, _, _⟩ := (hl.aft hw).rd.pair hl.ok hlt
      go_wp2_with fail
      refine (Hg.out (x, y) (List.mem_of_getElem? hx.out) wr hw).mono ?_
      rintro e w' ⟨rfl, hw'⟩
      have hwf := hw.trans hw'
      cases hgx : g (x, y)
      all_goals go_wp2_with fail
      · go_roundw
        case rel =>
          refine ⟨k + 1, by omega, by go_num, hid fun j hj z hz => ?_, hwf⟩
          rcases Nat.lt_or_ge j k with h | h
          · exact ht.out j h z hz
          · obtain rfl : j = k := by omega
            rw [hx.out] at hz
            cases hz
            exact hgx
        case measure => simp [intOf] <;> omega
      · go_ret
        refine ⟨ret_int ?_, hwf⟩
        rw [findIdx_hit hx.out hgx ht.out]
        rfl
    · go_wp2
      go_ret
      refine ⟨ret_int ?_, hw⟩
      rw [findIdx_miss (fun j hj z hz => ht.out j (by omega) z hz)]
      rfl

/-- ContainsFunc over points. -/
theorem pcontains_any (v : Value) (l : List (Int × Int)) (F : Nat) (caps : Array Value) (g : Int × Int → Bool) (w : World) (hl : Prs w v l)
    (hF : ∀ args w, (callFunc F args).run Try.prog w = .ok (.enter F args) w) (hg : Asks Try.prog F caps l pr g w) :
    Calls Try.prog 87 #[v, .func (.func F) #[] caps] w fun e w' => e = .returned (.bool (l.any g)) ∧ Aft w w' := by
  have hb := idx_ge (l.findIdx? g)
  have he : decide ((0 : Int) ≤ idxI (l.findIdx? g)) = l.any g := idx_any l g
  go_enter Try.func87, Try.ntmps87
  go_wp2_with fail
  refine (pindex_any v l F caps g w hl hF hg).mono ?_
  rintro e w' ⟨rfl, hw⟩
  go_wp2_with fail
  go_ret
  exact ⟨rfl, hw⟩


set_option maxRecDepth 100000 in
set_option maxHeartbeats 2000000 in
theorem insideFn_asks (nb : Nat) (kb : Int) (vb : Value) (la lb : List Pt) (w : World) (hb0 : w.cell? ⟨nb, 0, none⟩ = some (.int .i64 kb)) (hb1 : w.cell? ⟨nb, 1, none⟩ = some vb) (hl : Prs w vb lb) (hsm : lb.length ≤ 1000) (hscb : ScL lb) (hsca : ScL la) :
    Asks Try.prog 88 #[.pointer (some ⟨nb, 0, none⟩)] la pr (fun p => !withinZ p kb lb) w := by
  rintro ⟨px, py⟩ hp w' hw
  obtain ⟨hpx, hpy⟩ := hsca _ hp
  simp only at hpx hpy
  unfold pr
  have c0 : w'.cell? ⟨nb, 0, none⟩ = some (.int .i64 kb) := (hw.cell (World.block_lt_of_cell? _ _ hb0)).trans hb0
  have c1 : w'.cell? ⟨nb, 1, none⟩ = some vb := (hw.cell (World.block_lt_of_cell? _ _ hb1)).trans hb1
  have hlt := World.block_lt_of_cell? _ _ c0
  have hl' := hl.aft hw
  obtain ⟨ab, cb, rfl, _⟩ := id hl
  obtain ⟨W0, eW0, hw0, hlt0, hbox⟩ := one_box w' #[.int .i64 px, .int .i64 py] 57
  go_enter Try.func88, Try.ntmps88
  go_upto_region 1 with fail
  clear eW0
  have p1 := hbox.out W0 (Aft.refl _) 0 (.int .i64 px) rfl
  have p2 := hbox.out W0 (Aft.refl _) 1 (.int .i64 py) rfl
  have c0' : W0.cell? ⟨nb, 0, none⟩ = some (.int .i64 kb) := (hw0.cell hlt).trans c0
  have c1' : W0.cell? ⟨nb, 1, none⟩ = some (.slice ab lb.length cb) := (hw0.cell hlt).trans c1
  clear hbox c0 c1 hb0 hb1
  go_wp2_with fail
  refine (within_any px py kb _ lb W0 (hl'.aft hw0) hsm hscb hpx hpy).mono ?_
  rintro e w2 ⟨rfl, hw2⟩
  have hwf := hw0.trans hw2
  go_wp2
  go_ret
  exact ⟨rfl, hwf⟩

def insideZ (ka : Int) (la : List Pt) (kb : Int) (lb : List Pt) : Bool :=
  decide (kb = 2) && (!la.isEmpty && (!(la.any fun p => !withinZ p kb lb) && !((List.range (nSeg ka la)).any fun i => (List.range (nSeg kb lb)).any fun j => meetZ (sgZ la i) (sgZ lb j))))

set_option maxRecDepth 100000 in
set_option maxHeartbeats 4000000 in
theorem inside_any (ka kb : Int) (va vb : Value) (la lb : List Pt) (w : World) (hla : Prs w va la) (hlb : Prs w vb lb) (hsa : la.length ≤ 1000) (hsb : lb.length ≤ 1000) (hsca : ScL la) (hscb : ScL lb) :
    Calls Try.prog 40 #[.agg #[.int .i64 ka, va], .agg #[.int .i64 kb, vb]] w fun e w' => e = .returned (.bool (insideZ ka la kb lb)) ∧ Aft w w' := by
  have hPa := hla
  have hPb := hlb
  obtain ⟨aa, ca, rfl, hla⟩ := hla
  obtain ⟨ab, cb, rfl, hlb⟩ := hlb
  obtain ⟨W0, eW0, hw0, hlt, hbox⟩ := two_boxes w #[.int .i64 ka, .slice aa la.length ca] #[.int .i64 kb, .slice ab lb.length cb] 51 51
  refine calls_of_wp_segs Try.func40 rfl ?_
  simp only [Try.ntmps40, List.size_toArray, List.length_cons, List.length_nil, Nat.reduceAdd, Nat.reduceSub, Array.replicate_succ, Array.replicate_zero, List.push_toArray, List.append_toArray, List.nil_append, List.cons_append]
  go_upto_region 1 with fail
  clear eW0
  have hF : Hid (∀ W, Aft W0 W → (W.cell? ⟨w.heap.size, 0, none⟩ = some (.int .i64 ka) ∧ W.cell? ⟨w.heap.size, 1, none⟩ = some (.slice aa la.length ca)) ∧ W.cell? ⟨w.heap.size + 1, 0, none⟩ = some (.int .i64 kb) ∧ W.cell? ⟨w.heap.size + 1, 1, none⟩ = some (.slice ab lb.length cb)) := hid fun W hW =>
    ⟨⟨(hbox.out W hW).1 0 _ rfl, (hbox.out W hW).1 1 _ rfl⟩, (hbox.out W hW).2 0 _ rfl, (hbox.out W hW).2 1 _ rfl⟩
  clear hbox
  have hc0 : (W0.alloc (.cells #[.bool false] 4)).cell? ⟨W0.heap.size, 0, none⟩ = some (.bool false) := cell_new W0 #[.bool false] 4 0 _ rfl
  have hf0 := frozen_new W0 #[.bool false] 4 0
  have hs1 := size_new W0 (.cells #[.bool false] 4)
  have hw1 := (Aft.refl W0).alloc (.cells #[.bool false] 4)
  generalize hW1 : W0.alloc (.cells #[.bool false] 4) = W1 at *
  clear hW1
  have hz0 := hw0.size
  have hz1 := hw1.size
  have hw01 := hw0.trans hw1
  obtain ⟨⟨p1, p2⟩, p3, p4⟩ := hF.out W1 hw1
  generalize hn2 : w.heap.size = n2 at *
  generalize hn4 : W0.heap.size = n4 at *
  have endF : ∀ W, Aft W1 W → Aft w (W.setCell ⟨n4, 0, none⟩ (.bool false)) := fun W hW => (hw01.trans hW).setCell (p := ⟨n4, 0, none⟩) (by simp; omega) _
  have EF := hid endF; clear endF
  have hgc := World.cell?_setCell_same' W1 ⟨n4, 0, none⟩ (.bool false) (by rw [hc0]; rfl)
  by_cases hk : kb = 2
  · subst hk
    by_cases hla0 : la = []
    · have hR : insideZ ka la 2 lb = false := by unfold insideZ; simp [hla0]
      have HR := hid hR; clear hR
      have HE := hid (EF.out W1 (Aft.refl _))
      go_wp2
      exact ⟨.bool false, results_cell1 rfl _ _ n4 _ rfl hgc, by rw [HR.out], HE.out⟩
    · have hlb0 : ((la.length : Int) == 0) = false := by simp; exact hla0
      have hR : insideZ ka la 2 lb = (!(la.any fun p => !withinZ p 2 lb) && !((List.range (nSeg ka la)).any fun i => (List.range (nSeg 2 lb)).any fun j => meetZ (sgZ la i) (sgZ lb j))) := by
        unfold insideZ
        cases la with
        | nil => exact absurd rfl hla0
        | cons p0 la' => simp
      have HR := hid hR; clear hR
      go_wp2_with fail
      refine (pcontains_any _ la 88 _ (fun p => !withinZ p 2 lb) W1 (hPa.aft hw01) (Go.Proofs.enters_of Try.func88 (by kernel_rfl) rfl) (insideFn_asks (n2 + 1) 2 _ la lb W1 p3 p4 (hPb.aft hw01) hsb hscb hsca)).mono ?_
      rintro e W2 ⟨rfl, hw2⟩
      obtain ⟨o, ho⟩ : ∃ o, (la.any fun p => !withinZ p 2 lb) = o := ⟨_, rfl⟩
      rw [ho]
      have HO := hid ho; clear ho
      have hc2 : W2.cell? ⟨n4, 0, none⟩ = some (.bool false) := (hw2.cell hs1).trans hc0
      have hf2 : W2.frozen? ⟨n4, 0, none⟩ = false := (hw2.frozen hs1).trans hf0
      have hz2 := hw2.size
      clear hgc p1 p2 p3 p4
      obtain ⟨⟨p1, p2⟩, p3, p4⟩ := hF.out W2 (hw1.trans hw2)
      cases o
      case true =>
        have hgc := World.cell?_setCell_same' W2 ⟨n4, 0, none⟩ (.bool false) (by rw [hc2]; rfl)
        have HE := hid (EF.out W2 hw2)
        go_wp2
        exact ⟨.bool false, results_cell1 rfl _ _ n4 _ rfl hgc, by rw [HR.out, HO.out]; rfl, HE.out⟩
      case false =>
        go_wp2_with fail
        refine (segments_fn ka _ W2).mono ?_
        rintro e W3 ⟨rfl, hW3⟩
        have hw02 := hw01.trans hw2
        have hB : ShBox W3 W2.heap.size ka (.slice aa la.length ca) la := by
          rw [← hW3]
          exact ⟨cell_new _ _ _ _ _ rfl, cell_new _ _ _ _ _ rfl, (hPa.aft hw02).aft ((Aft.refl _).alloc _)⟩
        have hw23 : Aft W2 W3 := hW3 ▸ (Aft.refl W2).alloc _
        have hs3 : W2.heap.size < W3.heap.size := hW3 ▸ size_new _ _
        clear hW3
        have hc3 : W3.cell? ⟨n4, 0, none⟩ = some (.bool false) := (hw23.cell (by omega)).trans hc2
        have hf3 : W3.frozen? ⟨n4, 0, none⟩ = false := (hw23.frozen (by omega)).trans hf2
        have p3' : W3.cell? ⟨n2 + 1, 0, none⟩ = some (.int .i64 2) := (hw23.cell (World.block_lt_of_cell? _ _ p3)).trans p3
        have p4' : W3.cell? ⟨n2 + 1, 1, none⟩ = some (.slice ab lb.length cb) := (hw23.cell (World.block_lt_of_cell? _ _ p4)).trans p4
        have hw03 := hw02.trans hw23
        go_wp2
        refine wp_segs (w₀ := w) (X := fun j => j = n4) hPa (by omega) hsa hB (fun j hj => by subst hj; omega) rfl
          (fun pre W => (W.cell? ⟨n4, 0, none⟩ = some (.bool false) ∧ W.frozen? ⟨n4, 0, none⟩ = false) ∧ ∀ i ∈ pre, ∀ j, j < nSeg 2 lb → meetZ (sgZ la i) (sgZ lb j) = false)
          (fun cd pre W => cd = .ret ∧ W.cell? ⟨n4, 0, none⟩ = some (.bool false) ∧ ∃ i ∈ pre, ∃ j, j < nSeg 2 lb ∧ meetZ (sgZ la i) (sgZ lb j) = true)
          (fun s A B h hx => ⟨⟨(World.cell?_of_block (a := ⟨n4, 0, none⟩) (hx n4 rfl)).trans h.1.1, (World.frozen?_of_block (a := ⟨n4, 0, none⟩) (hx n4 rfl)).trans h.1.2⟩, h.2⟩)
          (fun cd s A B h hx => ⟨h.1, (World.cell?_of_block (a := ⟨n4, 0, none⟩) (hx n4 rfl)).trans h.2.1, h.2.2⟩)
          ⟨⟨hc3, hf3⟩, by simp⟩ (fun Bx ax ay bx by_ => { tmps := #[.agg #[.int .i64 ka, .slice aa la.length ca], .agg #[.int .i64 2, .slice ab lb.length cb], .pointer (some ⟨n2, 0, none⟩), .pointer (some ⟨n2 + 1, 0, none⟩), .pointer (some ⟨n4, 0, none⟩), .pointer (some ⟨Bx, 0, none⟩), undef, .pointer (some ⟨n2 + 1, 0, none⟩), .int .i64 2, .bool false, .bool false, .pointer (some ⟨n2, 1, none⟩), .slice aa la.length ca, .int .i64 la.length, .bool false, .bool false, .pointer (some ⟨n2, 1, none⟩), .slice aa la.length ca, .func (.func 88) #[] #[.pointer (some ⟨n2 + 1, 0, none⟩)], .bool false, .agg #[.int .i64 ka, .slice aa la.length ca], .func (.func 116) #[] #[.pointer (some ⟨W2.heap.size, 0, none⟩)], .agg #[.int .i64 ax, .int .i64 ay, .int .i64 bx, .int .i64 by_], undef, undef, undef, undef, undef, undef], defers := [] }) ?assign ?body ?done ?stop
        case assign =>
          intro y ax ay bx by_ W K hK
          gi_wp2
          exact hK _ _ ((Aft.refl W).alloc _) (Nat.le_refl _) ⟨⟨cell_new _ _ _ _ _ rfl, cell_new _ _ _ _ _ rfl⟩, cell_new _ _ _ _ _ rfl, cell_new _ _ _ _ _ rfl⟩
        case body =>
          rintro y pre i Bx ax ay bx by_ W hs hy ⟨r, hr⟩ hKn ⟨⟨hcr, hfr⟩, hno⟩ hBx h4 hlen
          have hsc4 := sgZ_sc hsca i
          rw [hs.out] at hsc4
          obtain ⟨s1, s2, s3, s4⟩ := hsc4
          have x3 : W.cell? ⟨n2 + 1, 0, none⟩ = some (.int .i64 2) := (hKn.cell (by omega) (by omega)).trans p3'
          have x4 : W.cell? ⟨n2 + 1, 1, none⟩ = some (.slice ab lb.length cb) := (hKn.cell (by omega) (by omega)).trans p4'
          have hPbW : Prs W (.slice ab lb.length cb) lb := Prs.same hPb (hPb.aft hw03) (fun j hj => hKn.block j (by omega) (by omega))
          have hBxW := World.block_lt_of_cell? _ _ h4.1.1
          have hyW := (Array.getElem?_eq_some_iff.1 hr).1
          have hszW := hKn.size
          have HN := hid hno; clear hno
          have h4 := hid h4
          gi_wp2_with fail
          refine ⟨trivial, CallsIn.mono (CallsIn.inRound y (callsIn_wide.2 (segments_fn 2 _ W))) ?_⟩
          rintro e W4 ⟨rfl, hW4⟩
          have hB4 : ShBox W4 W.heap.size 2 (.slice ab lb.length cb) lb := by
            rw [← hW4]
            exact ⟨cell_new _ _ _ _ _ rfl, cell_new _ _ _ _ _ rfl, hPbW.aft ((Aft.refl _).alloc _)⟩
          have hw4 : Aft W W4 := hW4 ▸ (Aft.refl W).alloc _
          have hs4 : W.heap.size < W4.heap.size := hW4 ▸ size_new _ _
          clear hW4
          have hcr4 : W4.cell? ⟨n4, 0, none⟩ = some (.bool false) := (hw4.cell (by omega)).trans hcr
          have hfr4 : W4.frozen? ⟨n4, 0, none⟩ = false := (hw4.frozen (by omega)).trans hfr
          have hr4 : W4.heap[y]? = some (.loop r) := (hw4.block y hyW).trans hr
          gi_wp2
          refine wpIn_segs (w₀ := w) (X := fun j => j = n4) hr4 hPb (by omega) hsb hB4 (fun j hj => by subst hj; omega) rfl
            (fun pre W => (W.cell? ⟨n4, 0, none⟩ = some (.bool false) ∧ W.frozen? ⟨n4, 0, none⟩ = false) ∧ ∀ j ∈ pre, meetZ (sgZ la i) (sgZ lb j) = false)
            (fun cd pre W => cd = .ret ∧ W.cell? ⟨n4, 0, none⟩ = some (.bool false) ∧ ∃ j ∈ pre, meetZ (sgZ la i) (sgZ lb j) = true)
            (fun s A B h hx => ⟨⟨(World.cell?_of_block (a := ⟨n4, 0, none⟩) (hx n4 rfl)).trans h.1.1, (World.frozen?_of_block (a := ⟨n4, 0, none⟩) (hx n4 rfl)).trans h.1.2⟩, h.2⟩)
            (fun cd s A B h hx => ⟨h.1, (World.cell?_of_block (a := ⟨n4, 0, none⟩) (hx n4 rfl)).trans h.2.1, h.2.2⟩)
            ⟨⟨hcr4, hfr4⟩, by simp⟩ (fun Bx' cx cy dx dy => { tmps := #[.agg #[.int .i64 ka, .slice aa la.length ca], .agg #[.int .i64 2, .slice ab lb.length cb], .pointer (some ⟨n2, 0, none⟩), .pointer (some ⟨n2 + 1, 0, none⟩), .pointer (some ⟨n4, 0, none⟩), .pointer (some ⟨Bx, 0, none⟩), (.pointer (some ⟨Bx', 0, none⟩)), .pointer (some ⟨n2 + 1, 0, none⟩), .int .i64 2, .bool false, .bool false, .pointer (some ⟨n2, 1, none⟩), .slice aa la.length ca, .int .i64 la.length, .bool false, .bool false, .pointer (some ⟨n2, 1, none⟩), .slice aa la.length ca, .func (.func 88) #[] #[.pointer (some ⟨n2 + 1, 0, none⟩)], .bool false, .agg #[.int .i64 ka, .slice aa la.length ca], .func (.func 116) #[] #[.pointer (some ⟨W2.heap.size, 0, none⟩)], .agg #[.int .i64 ax, .int .i64 ay, .int .i64 bx, .int .i64 by_], .agg #[.int .i64 2, .slice ab lb.length cb], .func (.func 116) #[] #[.pointer (some ⟨W.heap.size, 0, none⟩)], .agg #[.int .i64 cx, .int .i64 cy, .int .i64 dx, .int .i64 dy], undef, undef, undef], defers := [] }) ?assign2 ?body2 ?done2 ?stop2
          case assign2 =>
            intro y' cx cy dx dy W5 K hK
            gi_wp2
            exact hK _ _ ((Aft.refl W5).alloc _) (Nat.le_refl _) ⟨⟨cell_new _ _ _ _ _ rfl, cell_new _ _ _ _ _ rfl⟩, cell_new _ _ _ _ _ rfl, cell_new _ _ _ _ _ rfl⟩
          case body2 =>
            rintro y' pre' j Bx' cx cy dx dy W5 hs' hy' _ hKn5 ⟨⟨hcr5, hfr5⟩, hno5⟩ hBx' ⟨⟨d1, d2⟩, d3, d4⟩ hlen'
            have hsc5 := sgZ_sc hscb j
            rw [hs'.out] at hsc5
            obtain ⟨t1, t2, t3, t4⟩ := hsc5
            obtain ⟨⟨q1, q2⟩, q3, q4⟩ := h4.out
            have tr : ∀ {o : Nat} {v : Value}, W.cell? ⟨Bx, o, none⟩ = some v → W5.cell? ⟨Bx, o, none⟩ = some v := fun h => (hKn5.cell (by omega) (by omega)).trans ((hw4.cell hBxW).trans h)
            have e1 := tr q1
            have e2 := tr q2
            have e3 := tr q3
            have e4 := tr q4
            clear q1 q2 q3 q4 tr
            have HN5 := hid hno5; clear hno5
            gi_wp2_with fail
            refine ⟨trivial, CallsIn.mono (CallsIn.inRound y' (callsIn_wide.2 (meet_any _ s1 s2 s3 s4 t1 t2 t3 t4))) ?_⟩
            rintro e W6 ⟨rfl, hw6⟩
            obtain ⟨o, ho⟩ : ∃ o, meetZ ((ax, ay), (bx, by_)) ((cx, cy), (dx, dy)) = o := ⟨_, rfl⟩
            rw [ho]
            have HM := hid ho; clear ho
            have hk6 : Kx (fun j => j = n4) W5 W6 := aft_kx hw6
            have hcr6 : W6.cell? ⟨n4, 0, none⟩ = some (.bool false) := (hw6.cell (World.block_lt_of_cell? _ _ hcr5)).trans hcr5
            have hfr6 : W6.frozen? ⟨n4, 0, none⟩ = false := (hw6.frozen (World.block_lt_of_cell? _ _ hcr5)).trans hfr5
            cases o
            case true =>
              gi_wp2
              exact ⟨hk6.trans (Kx.setCell _ rfl), rfl, World.cell?_setCell_same' _ _ _ (by rw [hcr6]; rfl), j, by simp, by rw [hs.out, hs'.out]; exact HM.out⟩
            case false =>
              gi_wp2
              refine ⟨hk6, ⟨hcr6, hfr6⟩, fun z hz => ?_⟩
              rcases List.mem_append.1 hz with h | h
              · exact HN5.out z h
              · obtain rfl : z = j := by simpa using h
                rw [hs.out, hs'.out]; exact HM.out
          case done2 =>
            rintro W5 hKn5 ⟨hn5, hno5⟩
            have hkx : Kx (fun j => j = n4) W W5 := (aft_kx hw4).trans hKn5
            have HN5 := hid hno5; clear hno5
            gi_wp2
            refine ⟨hkx, hn5, fun z hz u hu => ?_⟩
            rcases List.mem_append.1 hz with h | h
            · exact HN.out z h u hu
            · obtain rfl : z = i := by simpa using h
              exact HN5.out u (List.mem_range.2 hu)
          case stop2 =>
            rintro cd m W5 hm hKn5 ⟨rfl, hcr5, j, hj, hmt⟩
            have hkx : Kx (fun j => j = n4) W W5 := (aft_kx hw4).trans hKn5
            have hj' := List.mem_range.1 hj
            gi_wp2
            exact ⟨hkx, rfl, hcr5, i, by simp, j, by omega, hmt⟩
        case done =>
          rintro D W hD hKn ⟨⟨hcr, hfr⟩, hno⟩ hd
          have hres : insideZ ka la 2 lb = true := by
            rw [HR.out, HO.out, List.any_eq_false.2 (fun x hx => by
              rw [Bool.not_eq_true]
              exact List.any_eq_false.2 (fun z hz => by rw [hno x hx z (List.mem_range.1 hz)]; simp))]
            rfl
          have HS := hid hres; clear hres hno
          have hkf := hKn.trans ((Kx.setCell (A := W) (p := ⟨n4, 0, none⟩) (X := fun j => j = n4) (.bool true) rfl).kn hKn.size)
          have HF := hid (kn_end (o := .deferred none) hw03 (fun j hj => by subst hj; omega) hkf hD)
          go_wp2
          have hd' : (W.setCell ⟨n4, 0, none⟩ (.bool true)).heap[D]? = some (.deferred (some [])) := (Below.heap_setCell W ⟨n4, 0, none⟩ _ D (by simp; omega)).trans hd
          refine ⟨by simp, .inl ⟨_, _, rfl, run_takeDeferred hd', ?_⟩⟩
          exact ⟨.bool true, results_cell1 rfl _ _ n4 _ rfl (end_cell (World.cell?_setCell_same' _ _ _ (by rw [hcr]; rfl)) hd'), by rw [HS.out], HF.out⟩
        case stop =>
          rintro D cd m W hD hm hKn ⟨rfl, hcr, i, hi, j, hj, hmt⟩ hd
          have hres : insideZ ka la 2 lb = false := by
            rw [HR.out, HO.out, List.any_eq_true.2 ⟨i, List.mem_range.2 (by have := List.mem_range.1 hi; omega), List.any_eq_true.2 ⟨j, List.mem_range.2 hj, hmt⟩⟩]
            rfl
          have HS := hid hres; clear hres
          have HF := hid (kn_end (o := .deferred none) hw03 (fun j hj => by subst hj; omega) hKn hD)
          go_wp2
          refine ⟨by simp, .inl ⟨_, _, rfl, run_takeDeferred hd, ?_⟩⟩
          exact ⟨.bool false, results_cell1 rfl _ _ n4 _ rfl (end_cell hcr hd), by rw [HS.out], HF.out⟩
  · have hbk : (kb != 2) = true := by simpa using hk
    have hR : insideZ ka la kb lb = false := by unfold insideZ; simp [hk]
    have HR := hid hR; clear hR hk
    have HE := hid (EF.out W1 (Aft.refl _))
    go_wp2
    exact ⟨.bool false, results_cell1 rfl _ _ n4 _ rfl hgc, by rw [HR.out], HE.out⟩
end Go.Proofs.Ytokdclbfjlnnjaa
